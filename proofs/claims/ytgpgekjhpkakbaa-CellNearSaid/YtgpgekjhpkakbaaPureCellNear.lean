/- Vectors whose distance is at most eps lie in one cell or in neighbours where the width fits (the law CellNear). -/
import Derived.Test.YtgpgekjhpkakbaaPCellNearx3
namespace Go.Proofs.Ytgpgekjhpkakbaa.Pure
open Go.RowKit Go.Proofs.Ytgpgekjhpkakbaa.PCellNear Go.Proofs.YtgpgekjhpkakbaaW.PrintWords Go.Proofs.YtgpgekjhpkakbaaW.PrintLast
set_option linter.unusedVariables false
set_option linter.unusedSimpArgs false

/-! ### distances -/
theorem w64 (n : Int) (h : -9223372036854775808 ≤ n ∧ n ≤ 9223372036854775807) : wrap64 n = n := by unfold wrap64; omega
theorem rd_nat (l : List Int) (i : Nat) : rd l (i : Int) = l.getD i 0 := by unfold rd; rw [Int.toNat_natCast]
/-- A vector that may be. -/
def Fit (l : List Int) : Prop := 0 < l.length ∧ l.length ≤ 4096 ∧ ∀ i, i < l.length → -16777215 ≤ rd l (i : Int) ∧ rd l (i : Int) ≤ 16777215
theorem far_iff (x : Int) : dist_Right.isfar x = false ↔ -16777215 ≤ x ∧ x ≤ 16777215 := by
  unfold dist_Right.isfar
  rw [Bool.or_eq_false_iff, decide_eq_false_iff_not, decide_eq_false_iff_not]
  omega
def rgt (l : List Int) : Bool := (dist_Right.f l).getD false
theorem right_iff (l : List Int) : rgt l = true ↔ Fit l := by
  unfold rgt dist_Right.f Fit
  simp only [Option.getD_some, Bool.and_eq_true, decide_eq_true_eq, Bool.not_eq_true', List.any_eq_false]
  constructor
  · rintro ⟨⟨h1, h2⟩, h3⟩
    refine ⟨h1, h2, fun i hi => ?_⟩
    rw [rd_nat, List.getD_eq_getElem?_getD, List.getElem?_eq_getElem hi]
    exact (far_iff _).1 (by simpa using h3 _ (List.getElem_mem hi))
  · rintro ⟨h1, h2, h3⟩
    refine ⟨⟨h1, h2⟩, fun x hx => ?_⟩
    obtain ⟨i, hi, rfl⟩ := List.getElem_of_mem hx
    have := h3 i hi
    rw [rd_nat, List.getD_eq_getElem?_getD, List.getElem?_eq_getElem hi] at this
    simpa using (far_iff _).2 this
theorem ref_right_l (l : List Int) (h : l.length ≤ 4096) : ∀ (d k i : Nat), i + d = l.length → chainmanref11_Right.l0 (2 * d + k + 2) l (i : Int) = some (decide (0 < l.length) && !((l.drop i).any dist_Right.isfar)) := by
  intro d
  induction d with
  | zero =>
    intro k i hi
    rw [show 2 * 0 + k + 2 = (k + 1) + 1 by omega, chainmanref11_Right.l0, if_neg (by omega), chainmanref11_Right.j1, if_neg (by decide), List.drop_of_length_le (by omega)]
    by_cases h0 : 0 < l.length
    · rw [if_pos (by omega), decide_eq_true (by omega), decide_eq_true h0]; rfl
    · rw [if_neg (by omega), decide_eq_false h0]; rfl
  | succ d ih =>
    intro k i hi
    have hl : i < l.length := by omega
    rw [show 2 * (d + 1) + k + 2 = (2 * d + k + 2 + 1) + 1 by omega, chainmanref11_Right.l0, if_pos (by omega), decide_eq_true (by omega), chainmanref11_Right.j1, if_pos rfl, if_pos (by omega), if_pos (by omega)]
    have ew : wrap64 ((i : Int) + 1) = ((i + 1 : Nat) : Int) := by rw [w64 _ (by omega)]; omega
    have er : rd l (i : Int) = l[i] := by rw [rd_nat, List.getD_eq_getElem?_getD, List.getElem?_eq_getElem hl]; rfl
    rw [ew, ih k (i + 1) (by omega), er, List.drop_eq_getElem_cons hl, List.any_cons, decide_eq_true (show 0 < l.length by omega)]
    have hz : dist_Right.isfar l[i] = (decide (l[i] ≤ -16777216) || decide (l[i] ≥ 16777216)) := by
      unfold dist_Right.isfar
      rw [show decide (l[i] < -16777215) = decide (l[i] ≤ -16777216) from decide_eq_decide.mpr (by omega), show decide (16777215 < l[i]) = decide (l[i] ≥ 16777216) from decide_eq_decide.mpr (by omega)]
    rw [hz]
    by_cases c1 : l[i] ≤ -16777216
    · rw [if_pos c1, decide_eq_true c1]; rfl
    · rw [if_neg c1, decide_eq_false c1]
      by_cases c2 : l[i] ≥ 16777216
      · rw [if_pos c2, decide_eq_true c2]; rfl
      · rw [if_neg c2, decide_eq_false c2]; rfl
theorem ref_right (l : List Int) (h : l.length ≤ 4096) (K : Nat) (hK : 2 * l.length + 2 ≤ K) : chainmanref11_Right.f K l = some (rgt l) := by
  unfold chainmanref11_Right.f rgt dist_Right.f
  have := ref_right_l l h l.length (K - (2 * l.length + 2)) 0 (by omega)
  rw [show 2 * l.length + (K - (2 * l.length + 2)) + 2 = K by omega] at this
  rw [show ((0 : Nat) : Int) = 0 from rfl] at this
  rw [this, List.drop_zero, Option.getD_some, decide_eq_true h, Bool.and_true]
/-- The sum of the first k squares. -/
def sq (la lb : List Int) : Nat → Int
  | 0 => 0
  | k + 1 => sq la lb k + (rd la (k : Int) - rd lb (k : Int)) * (rd la (k : Int) - rd lb (k : Int))
theorem sq_step {x y : Int} (hx : -16777215 ≤ x ∧ x ≤ 16777215) (hy : -16777215 ≤ y ∧ y ≤ 16777215) : 0 ≤ (x - y) * (x - y) ∧ (x - y) * (x - y) ≤ 1125899906842624 := by
  have h0 : ((x - y).natAbs : Int) * ((x - y).natAbs : Int) = (x - y) * (x - y) := Int.natAbs_mul_self
  have h1 : (x - y).natAbs * (x - y).natAbs ≤ 33554432 * 33554432 := Nat.mul_le_mul (by omega) (by omega)
  generalize (x - y) * (x - y) = q at *
  rw [← Int.natCast_mul] at h0
  generalize (x - y).natAbs * (x - y).natAbs = p at *
  omega
theorem right_f (l : List Int) : dist_Right.f l = some (rgt l) := rfl
theorem ref_right_ev (l : List Int) (h : l.length ≤ 30) : Ev (fun k => chainmanref11_Right.f k l) (rgt l) := ⟨2 * l.length + 2, fun K hK => ref_right l (by omega) K hK⟩
theorem sq_all {la lb : List Int} (ha : Fit la) (hb : Fit lb) (hl : la.length = lb.length) : ∀ k, k ≤ la.length → 0 ≤ sq la lb k ∧ sq la lb k ≤ (k : Int) * 1125899906842624 ∧ ∀ i, i < k → (rd la (i : Int) - rd lb (i : Int)) * (rd la (i : Int) - rd lb (i : Int)) ≤ sq la lb k := by
  intro k
  induction k with
  | zero => intro _; exact ⟨Int.le_refl _, by simp [sq], fun i hi => absurd hi (Nat.not_lt_zero _)⟩
  | succ k ih =>
    intro hk
    obtain ⟨h0, h1, h2⟩ := ih (by omega)
    have st := sq_step (ha.2.2 k (by omega)) (hb.2.2 k (by omega))
    have e : sq la lb (k + 1) = sq la lb k + (rd la (k : Int) - rd lb (k : Int)) * (rd la (k : Int) - rd lb (k : Int)) := rfl
    refine ⟨by rw [e]; omega, ?_, fun i hi => ?_⟩
    · rw [e]
      generalize (rd la (k : Int) - rd lb (k : Int)) * (rd la (k : Int) - rd lb (k : Int)) = g at *
      generalize sq la lb k = s at *
      omega
    · by_cases c : i = k
      · subst c; rw [e]; omega
      · have := h2 i (by omega)
        rw [e]; omega
theorem sq_loop {la lb : List Int} (ha : Fit la) (hb : Fit lb) (hl : la.length = lb.length) : ∀ (d i : Nat), i + d = la.length → Ev (fun k => chainmanref11_Square.l0 k la lb (sq la lb i) (i : Int)) (sq la lb la.length, (0 : Int)) := by
  intro d
  induction d with
  | zero =>
    intro i hi
    obtain rfl : i = la.length := by omega
    refine Ev.step (f := fun _ => some (sq la lb la.length, (0 : Int))) (fun k => ?_) (Ev.now _)
    rw [chainmanref11_Square.l0, if_neg (by omega)]
  | succ d ih =>
    intro i hi
    refine Ev.step (fun k => ?_) (ih (i + 1) (by omega))
    have hm := ha.2.1
    have xa := ha.2.2 i (by omega)
    have xb := hb.2.2 i (by omega)
    have st := sq_step xa xb
    obtain ⟨h0, h1, _⟩ := sq_all ha hb hl i (by omega)
    have ew : wrap64 ((i : Int) + 1) = ((i + 1 : Nat) : Int) := by rw [w64 _ (by omega)]; omega
    have e1 : wrap64 (rd la (i : Int) - rd lb (i : Int)) = rd la (i : Int) - rd lb (i : Int) := w64 _ (by clear ew; omega)
    have e : sq la lb (i + 1) = sq la lb i + (rd la (i : Int) - rd lb (i : Int)) * (rd la (i : Int) - rd lb (i : Int)) := rfl
    rw [chainmanref11_Square.l0, if_pos (by clear ew e1; omega), if_pos (by omega), if_pos (by clear ew e1; omega), ew, e1, e]
    generalize (rd la (i : Int) - rd lb (i : Int)) * (rd la (i : Int) - rd lb (i : Int)) = g at *
    generalize sq la lb i = s at *
    have hi2 : (i : Int) ≤ 4096 := by clear ew e1; omega
    rw [w64 g (by clear ew e1 e; omega), w64 (s + g) (by clear ew e1 e; omega)]
theorem square_ev {la lb : List Int} (h30 : la.length ≤ 30) (ha : Fit la) (hb : Fit lb) (hl : la.length = lb.length) : Ev (fun k => chainmanref11_Square.f k la lb) (sq la lb la.length, (0 : Int)) := by
  unfold chainmanref11_Square.f
  refine Ev.bind (ref_right_ev la h30) ?_
  simp only [(right_iff la).2 ha, if_true]
  refine Ev.bind (ref_right_ev lb (by omega)) ?_
  simp only [(right_iff lb).2 hb, if_true]
  have e : ((la.length : Int) != (lb.length : Int)) = false := bne_eq_false_iff_eq.mpr (by omega)
  simp only [e]
  refine Ev.step (fun k => ?_) (sq_loop ha hb hl la.length 0 (by omega))
  rw [chainmanref11_Square.j0, if_neg (by decide)]
  rfl
theorem floor_ok (a b : Int) (ha : -16777215 ≤ a ∧ a ≤ 16777215) (hb : 1 ≤ b ∧ b ≤ 2147483648) :
    ∃ f r, num_Floor.f a b = some f ∧ 0 ≤ r ∧ r < b ∧ f * b + r = a ∧ -16777216 ≤ f ∧ f ≤ 16777216 := by
  have e := Int.tdiv_mul_add_tmod a b
  have hr : -b < Int.tmod a b ∧ Int.tmod a b < b := ⟨by have := Int.lt_tmod_of_pos a (show 0 < b by omega); omega, Int.tmod_lt_of_pos a (by omega)⟩
  have hq : -16777215 ≤ Int.tdiv a b ∧ Int.tdiv a b ≤ 16777215 := by
    have h1 : (Int.tdiv a b).natAbs ≤ a.natAbs := by rw [Int.natAbs_tdiv]; exact Nat.div_le_self _ _
    omega
  have hs : (0 ≤ a → 0 ≤ Int.tmod a b) := fun h => Int.tmod_nonneg b h
  generalize hQ : Int.tdiv a b = q at e hq
  generalize hR : Int.tmod a b = r at e hr hs
  have eq1 : wrap64 q = q := w64 q (by omega)
  have hqb : (q - 1) * b = q * b - b := by rw [Int.sub_mul]; omega
  generalize hP : q * b = P at e hqb
  have hn1 : ¬ b < 1 := by omega
  have hn0 : ¬ b = 0 := by omega
  have eP : wrap64 P = P := w64 P (by omega)
  have hF : num_Floor.f a b = if P > a then some (wrap64 (q - 1)) else some q := by
    unfold num_Floor.f
    rw [if_neg hn1, if_neg hn0, hQ, eq1, hP, eP]
  clear hQ hR
  by_cases hn : r < 0
  · rw [if_pos (by omega), w64 _ (by omega)] at hF
    exact ⟨q - 1, r + b, hF, by omega, by omega, by omega, by omega, by omega⟩
  · rw [if_neg (by omega)] at hF
    exact ⟨q, r, hF, by omega, by omega, by omega, by omega, by omega⟩
theorem close_ {x y w : Int} (hw : 1 ≤ w) (h : (x - y) * (x - y) ≤ w * w) : x - y ≤ w ∧ y - x ≤ w := by
  have h0 : ((x - y).natAbs : Int) * ((x - y).natAbs : Int) = (x - y) * (x - y) := Int.natAbs_mul_self
  obtain ⟨n, rfl⟩ := Int.eq_ofNat_of_zero_le (show 0 ≤ w by omega)
  by_cases c : (x - y).natAbs ≤ n
  · omega
  · have h1 : n * n < (x - y).natAbs * (x - y).natAbs := Nat.mul_self_lt_mul_self (by omega)
    exfalso
    rw [← h0, ← Int.natCast_mul, ← Int.natCast_mul] at h
    omega
theorem near_ {a b w f g r s : Int} (hw : 1 ≤ w) (h : a - b ≤ w) (hr : 0 ≤ r ∧ r < w) (hs : 0 ≤ s ∧ s < w) (e1 : f * w + r = a) (e2 : g * w + s = b) : f ≤ g + 1 := by
  by_cases c : f ≤ g + 1
  · exact c
  · exfalso
    have h1 : (g + 2) * w ≤ f * w := Int.mul_le_mul_of_nonneg_right (by omega) (by omega)
    rw [Int.add_mul] at h1
    omega
theorem apart_ok (a b : Int) (h : -16777216 ≤ a ∧ a ≤ 16777216) (g : -16777216 ≤ b ∧ b ≤ 16777216) (h1 : a ≤ b + 1) (h2 : b ≤ a + 1) : cell_apart.f a b = some true := by
  unfold cell_apart.f
  by_cases c : mn a b = mx a b
  · rw [if_pos c]
  · rw [if_neg c]
    have hx : -16777216 ≤ mx a b ∧ mx a b ≤ 16777216 := by unfold mx; split <;> omega
    rw [w64 _ (by omega)]
    have : mn a b = mx a b - 1 := by
      unfold mn mx at *
      split at c <;> split at c <;> omega
    rw [this]
    simp
theorem of_ok (l : List Int) (w : Int) (hf : Fit l) (hw : 1 ≤ w ∧ w ≤ 2147483648) : ∃ x y, cell_Of.f l w = some (x, y, true) ∧ (-16777216 ≤ x ∧ x ≤ 16777216) ∧ (-16777216 ≤ y ∧ y ≤ 16777216) ∧
    (∃ r, 0 ≤ r ∧ r < w ∧ x * w + r = rd l ((0 : Nat) : Int)) ∧ (if 2 ≤ l.length then ∃ r, 0 ≤ r ∧ r < w ∧ y * w + r = rd l ((1 : Nat) : Int) else y = 0) := by
  have h0 := hf.1
  obtain ⟨x, r, ex, r0, r1, rx, bx⟩ := floor_ok (rd l ((0 : Nat) : Int)) w (hf.2.2 0 h0) hw
  have ew : cell_wide.f w = some true := by unfold cell_wide.f; rw [if_pos (by omega), decide_eq_true (by omega)]
  have g0 : l.getD 0 0 = rd l ((0 : Nat) : Int) := (rd_nat l 0).symm
  have g1 : l.getD 1 0 = rd l ((1 : Nat) : Int) := (rd_nat l 1).symm
  by_cases c : 2 ≤ l.length
  · obtain ⟨y, s, ey, s0, s1, sy, by_⟩ := floor_ok (rd l ((1 : Nat) : Int)) w (hf.2.2 1 (by omega)) hw
    refine ⟨x, y, ?_, bx, by_, ⟨r, r0, r1, rx⟩, ?_⟩
    · unfold cell_Of.f
      rw [ew, Option.bind_some, if_pos rfl, right_f, Option.bind_some, if_pos ((right_iff l).2 hf), g0, ex, Option.bind_some, if_pos c, g1, ey, Option.bind_some]
    · rw [if_pos c]; exact ⟨s, s0, s1, sy⟩
  · refine ⟨x, 0, ?_, bx, by omega, ⟨r, r0, r1, rx⟩, ?_⟩
    · unfold cell_Of.f
      rw [ew, Option.bind_some, if_pos rfl, right_f, Option.bind_some, if_pos ((right_iff l).2 hf), g0, ex, Option.bind_some, if_neg c, Option.bind_some]
    · rw [if_neg c]
theorem CellNear : chainmanlaw23_CellNear.Pure := by
  intro l0 l1 w _ _ _ _ _ _ ww
  suffices H : Ev (fun k => chainmanlaw23_CellNear.f k l0 l1 w) true from (by obtain ⟨K, hK⟩ := H; exact ⟨K, hK K (Nat.le_refl K)⟩)
  have z : Ev (fun k => chainmanlaw23_CellNear.j0 k l0 l1 w true) true := Ev.step (f := fun _ => some true) (fun k => by rw [chainmanlaw23_CellNear.j0, if_pos rfl]; rfl) (Ev.now _)
  unfold chainmanlaw23_CellNear.f
  by_cases c1 : (l0.length : Int) > 30
  · simp only [if_pos c1]; exact z
  simp only [if_neg c1]
  by_cases c2 : (l0.length : Int) = (l1.length : Int)
  case neg => simp only [if_neg c2]; exact z
  simp only [if_pos c2]
  have hl : l0.length = l1.length := by omega
  refine Ev.bind (ref_right_ev l0 (by omega)) ?_
  by_cases c3 : rgt l0 = true
  case neg => simp only [if_neg c3]; exact z
  simp only [if_pos c3]
  refine Ev.bind (ref_right_ev l1 (by omega)) ?_
  by_cases c4 : rgt l1 = true
  case neg => simp only [if_neg c4]; exact z
  simp only [if_pos c4]
  by_cases c5 : w < 1
  · simp only [if_pos c5]; exact z
  simp only [if_neg c5]
  by_cases c6 : w > 2147483648
  · simp only [decide_eq_true c6]; exact z
  simp only [decide_eq_false c6]
  have ha := (right_iff l0).1 c3
  have hb := (right_iff l1).1 c4
  have hw : 1 ≤ w ∧ w ≤ 2147483648 := by omega
  refine Ev.step (fun k => by rw [chainmanlaw23_CellNear.j0, if_neg (by decide)]) ?_
  refine Ev.bind (square_ev (by omega) ha hb hl) ?_
  obtain ⟨n0, n1, n2⟩ := sq_all ha hb hl l0.length (Nat.le_refl _)
  have hww : 1 ≤ w * w ∧ w * w ≤ 4611686018427387904 := by
    obtain ⟨n, rfl⟩ := Int.eq_ofNat_of_zero_le (show 0 ≤ w by omega)
    have h1 : n * n ≤ 2147483648 * 2147483648 := Nat.mul_le_mul (by omega) (by omega)
    have h2 : 1 * 1 ≤ n * n := Nat.mul_le_mul (by omega) (by omega)
    rw [← Int.natCast_mul]
    omega
  have eww : wrap64 (w * w) = w * w := w64 _ (by omega)
  have hn : sq l0 l1 l0.length ≤ 4611686018427387904 := by
    have hl30 : (l0.length : Int) ≤ 30 := by omega
    clear eww
    generalize sq l0 l1 l0.length = s at *
    omega
  have ew : cell_wide.f w = some true := by unfold cell_wide.f; rw [if_pos (by omega), decide_eq_true (by omega)]
  have ef : cell_Fits.f (sq l0 l1 l0.length) w = some (decide (w * w ≥ sq l0 l1 l0.length)) := by
    unfold cell_Fits.f
    rw [ew, Option.bind_some, if_pos rfl, if_pos n0, if_pos hn, eww]
  simp only [ef, Option.bind_some]
  by_cases c7 : w * w ≥ sq l0 l1 l0.length
  · simp only [decide_eq_true c7, if_true]
    obtain ⟨x0, y0, e0, bx0, by0, ⟨r0, r01, r02, r03⟩, t0⟩ := of_ok l0 w ha hw
    obtain ⟨x1, y1, e1, bx1, by1, ⟨r1, r11, r12, r13⟩, t1⟩ := of_ok l1 w hb hw
    simp only [e0, e1, Option.bind_some, if_true]
    have k0 := n2 0 ha.1
    obtain ⟨d0, d1⟩ := close_ hw.1 (Int.le_trans k0 c7)
    have q1 := near_ hw.1 d0 ⟨r01, r02⟩ ⟨r11, r12⟩ r03 r13
    have q2 := near_ hw.1 d1 ⟨r11, r12⟩ ⟨r01, r02⟩ r13 r03
    have q34 : y0 ≤ y1 + 1 ∧ y1 ≤ y0 + 1 := by
      by_cases c8 : 2 ≤ l0.length
      · rw [if_pos c8] at t0
        rw [if_pos (by omega)] at t1
        obtain ⟨s0, s01, s02, s03⟩ := t0
        obtain ⟨s1, s11, s12, s13⟩ := t1
        obtain ⟨d2, d3⟩ := close_ hw.1 (Int.le_trans (n2 1 (by omega)) c7)
        exact ⟨near_ hw.1 d2 ⟨s01, s02⟩ ⟨s11, s12⟩ s03 s13, near_ hw.1 d3 ⟨s11, s12⟩ ⟨s01, s02⟩ s13 s03⟩
      · rw [if_neg c8] at t0
        rw [if_neg (by omega)] at t1
        omega
    have f0 := apart_ok x0 x1 bx0 bx1 q1 q2
    have f1 := apart_ok y0 y1 by0 by1 q34.1 q34.2
    by_cases c9 : (x0 == x1 && y0 == y1) = true
    · simp only [if_pos c9]; exact Ev.now _
    · simp only [if_neg c9]
      have eb : cell_Beside.f x0 y0 x1 y1 = some true := by
        unfold cell_Beside.f
        rw [if_pos, f0, Option.bind_some, if_pos rfl, f1]
        · rfl
        · cases hx : (x0 == x1) <;> cases hy : (y0 == y1) <;> simp [hx, hy] at c9 ⊢
      simp only [eb, Option.bind_some, if_true]
      exact Ev.now _
  · simp only [decide_eq_false c7, Bool.false_eq_true, if_false, eww]
    simp only [if_pos (show w * w < sq l0 l1 l0.length by omega)]
    exact Ev.now _

end Go.Proofs.Ytgpgekjhpkakbaa.Pure
