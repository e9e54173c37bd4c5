/- Of fit vectors the distances are what the law DistGoes says: from oneself 0, the same both ways, unmoved by a common shift, at most twice two others' sum. -/
import Derived.Test.YtpdgjegnbcillaaPDistGoesx2
namespace Go.Proofs.Ytpdgjegnbcillaa.Pure
open Go.RowKit Go.Proofs.Ytpdgjegnbcillaa.PDistGoes Go.Proofs.YtpdgjegnbcillaaW.PrintWords Go.Proofs.YtpdgjegnbcillaaW.PrintLast
set_option linter.unusedVariables false
set_option linter.unusedSimpArgs false
/-! ### distances -/
theorem w64 (n : Int) (h : -9223372036854775808 ≤ n ∧ n ≤ 9223372036854775807) : wrap64 n = n := by unfold wrap64; omega
theorem rd_nat (l : List Int) (i : Nat) : rd l (i : Int) = l.getD i 0 := by unfold rd; rw [Int.toNat_natCast]
/-- A vector that may be. -/
def Fit (l : List Int) : Prop := 0 < l.length ∧ l.length ≤ 4096 ∧ ∀ i, i < l.length → -16777215 ≤ rd l (i : Int) ∧ rd l (i : Int) ≤ 16777215
theorem far_iff (x : Int) : dist_Right.isfar x = false ↔ -16777215 ≤ x ∧ x ≤ 16777215 := by
  unfold dist_Right.isfar
  rw [Bool.or_eq_false_iff, decide_eq_false_iff_not, decide_eq_false_iff_not]
  omega
theorem right_iff (l : List Int) : dist_Square.right l = true ↔ Fit l := by
  unfold dist_Square.right dist_Right.f Fit
  simp only [Option.getD_some, Bool.and_eq_true, decide_eq_true_eq, Bool.not_eq_true', List.any_eq_false]
  constructor
  · rintro ⟨⟨h1, h2⟩, h3⟩
    refine ⟨h1, h2, fun i hi => ?_⟩
    rw [rd_nat, List.getD_eq_getElem?_getD, List.getElem?_eq_getElem hi]
    exact (far_iff _).1 (by simpa using h3 _ (List.getElem_mem hi))
  · rintro ⟨h1, h2, h3⟩
    refine ⟨⟨h1, h2⟩, fun x hx => ?_⟩
    obtain ⟨i, hi, rfl⟩ := List.getElem_of_mem hx
    have := h3 i hi
    rw [rd_nat, List.getD_eq_getElem?_getD, List.getElem?_eq_getElem hi] at this
    simpa using (far_iff _).2 this
theorem right_f (l : List Int) : dist_Right.f l = some (dist_Square.right l) := rfl
theorem ref_right_l (l : List Int) (h : l.length ≤ 4096) : ∀ (d k i : Nat), i + d = l.length → chainmanref11_Right.l0 (2 * d + k + 2) l (i : Int) = some (decide (0 < l.length) && !((l.drop i).any dist_Right.isfar)) := by
  intro d
  induction d with
  | zero =>
    intro k i hi
    rw [show 2 * 0 + k + 2 = (k + 1) + 1 by omega, chainmanref11_Right.l0, if_neg (by omega), chainmanref11_Right.j1, if_neg (by decide), List.drop_of_length_le (by omega)]
    by_cases h0 : 0 < l.length
    · rw [if_pos (by omega), decide_eq_true (by omega), decide_eq_true h0]; rfl
    · rw [if_neg (by omega), decide_eq_false h0]; rfl
  | succ d ih =>
    intro k i hi
    have hl : i < l.length := by omega
    rw [show 2 * (d + 1) + k + 2 = (2 * d + k + 2 + 1) + 1 by omega, chainmanref11_Right.l0, if_pos (by omega), decide_eq_true (by omega), chainmanref11_Right.j1, if_pos rfl, if_pos (by omega), if_pos (by omega)]
    have ew : wrap64 ((i : Int) + 1) = ((i + 1 : Nat) : Int) := by rw [w64 _ (by omega)]; omega
    have er : rd l (i : Int) = l[i] := by rw [rd_nat, List.getD_eq_getElem?_getD, List.getElem?_eq_getElem hl]; rfl
    rw [ew, ih k (i + 1) (by omega), er, List.drop_eq_getElem_cons hl, List.any_cons, decide_eq_true (show 0 < l.length by omega)]
    have hz : dist_Right.isfar l[i] = (decide (l[i] ≤ -16777216) || decide (l[i] ≥ 16777216)) := by
      unfold dist_Right.isfar
      rw [show decide (l[i] < -16777215) = decide (l[i] ≤ -16777216) from decide_eq_decide.mpr (by omega), show decide (16777215 < l[i]) = decide (l[i] ≥ 16777216) from decide_eq_decide.mpr (by omega)]
    rw [hz]
    by_cases c1 : l[i] ≤ -16777216
    · rw [if_pos c1, decide_eq_true c1]; rfl
    · rw [if_neg c1, decide_eq_false c1]
      by_cases c2 : l[i] ≥ 16777216
      · rw [if_pos c2, decide_eq_true c2]; rfl
      · rw [if_neg c2, decide_eq_false c2]; rfl
theorem ref_right (l : List Int) (h : l.length ≤ 4096) (K : Nat) (hK : 2 * l.length + 2 ≤ K) : chainmanref11_Right.f K l = some (dist_Square.right l) := by
  unfold chainmanref11_Right.f dist_Square.right dist_Right.f
  have := ref_right_l l h l.length (K - (2 * l.length + 2)) 0 (by omega)
  rw [show 2 * l.length + (K - (2 * l.length + 2)) + 2 = K by omega] at this
  rw [show ((0 : Nat) : Int) = 0 from rfl] at this
  rw [this, List.drop_zero, Option.getD_some, decide_eq_true h, Bool.and_true]
/-- The sum of the first k squares. -/
def sq (la lb : List Int) : Nat → Int
  | 0 => 0
  | k + 1 => sq la lb k + (rd la (k : Int) - rd lb (k : Int)) * (rd la (k : Int) - rd lb (k : Int))
theorem sq_step {x y : Int} (hx : -16777215 ≤ x ∧ x ≤ 16777215) (hy : -16777215 ≤ y ∧ y ≤ 16777215) : 0 ≤ (x - y) * (x - y) ∧ (x - y) * (x - y) ≤ 1125899906842624 := by
  have h0 : ((x - y).natAbs : Int) * ((x - y).natAbs : Int) = (x - y) * (x - y) := Int.natAbs_mul_self
  have h1 : (x - y).natAbs * (x - y).natAbs ≤ 33554432 * 33554432 := Nat.mul_le_mul (by omega) (by omega)
  generalize (x - y) * (x - y) = q at *
  rw [← Int.natCast_mul] at h0
  generalize (x - y).natAbs * (x - y).natAbs = p at *
  omega
theorem sum_sq {la lb : List Int} (ha : Fit la) (hb : Fit lb) (hl : lb.length = la.length) : ∀ k, k ≤ la.length → dist_Square.sum la lb k = sq la lb k ∧ 0 ≤ sq la lb k ∧ sq la lb k ≤ (k : Int) * 1125899906842624 := by
  intro k
  induction k with
  | zero => intro _; exact ⟨rfl, Int.le_refl _, by simp [sq]⟩
  | succ k ih =>
    intro hk
    obtain ⟨e, h0, h1⟩ := ih (by omega)
    have xa := ha.2.2 k (by omega)
    have xb := hb.2.2 k (by omega)
    have hm : (k : Int) ≤ 4095 := by have := ha.2.1; omega
    have st := sq_step xa xb
    show dist_Square.step la lb k (dist_Square.sum la lb k) = _ ∧ 0 ≤ sq la lb k + _ ∧ sq la lb k + _ ≤ _
    unfold dist_Square.step
    rw [e]
    show wrap64 (sq la lb k + _) = sq la lb k + _ ∧ _
    have e1 : wrap64 (rd la (k : Int) - rd lb (k : Int)) = rd la (k : Int) - rd lb (k : Int) := w64 _ (by omega)
    rw [e1]
    generalize (rd la (k : Int) - rd lb (k : Int)) * (rd la (k : Int) - rd lb (k : Int)) = g at *
    have e2 : wrap64 g = g := w64 _ (by omega)
    rw [e2, w64 _ (by omega)]
    refine ⟨rfl, by omega, by omega⟩
theorem sq_mono {la lb : List Int} (ha : Fit la) (hb : Fit lb) (hl : lb.length = la.length) {j k : Nat} (hj : j ≤ k) (hk : k ≤ la.length) : sq la lb j ≤ sq la lb k := by
  induction k with
  | zero => obtain rfl : j = 0 := by omega
            exact Int.le_refl _
  | succ k ih =>
    by_cases e : j = k + 1
    · subst e; exact Int.le_refl _
    · have := ih (by omega) (by omega)
      have st := sq_step (ha.2.2 k (by omega)) (hb.2.2 k (by omega))
      show sq la lb j ≤ sq la lb k + _
      omega
theorem square_fit {la lb : List Int} (ha : Fit la) (hb : Fit lb) (hl : lb.length = la.length) : dist_Square.f la lb = some (sq la lb la.length, 0) := by
  unfold dist_Square.f
  rw [if_pos hl.symm, if_pos ((right_iff la).2 ha), if_pos ((right_iff lb).2 hb), (sum_sq ha hb hl la.length (Nat.le_refl _)).1]
theorem within_fit {la lb : List Int} (ha : Fit la) (hb : Fit lb) (hl : lb.length = la.length) (eps : Int) : dist_Within.f la lb eps = some (decide (sq la lb la.length ≤ eps)) := by
  unfold dist_Within.f
  rw [if_pos hl.symm, if_pos ((right_iff la).2 ha), if_pos ((right_iff lb).2 hb)]
  congr 1
  by_cases h : sq la lb la.length ≤ eps
  · rw [decide_eq_true h, Bool.not_eq_true', List.any_eq_false]
    intro y hy
    unfold dist_Square.upto at hy
    obtain ⟨j, hj, rfl⟩ := List.mem_map.1 hy
    have hj' := List.mem_range.1 hj
    rw [(sum_sq ha hb hl (j + 1) (by omega)).1]
    have := sq_mono ha hb hl (show j + 1 ≤ la.length by omega) (Nat.le_refl _)
    simp only [decide_eq_true_eq]
    omega
  · rw [decide_eq_false h, Bool.not_eq_false', List.any_eq_true]
    have h0 := ha.1
    refine ⟨dist_Square.sum la lb (la.length - 1 + 1), ?_, ?_⟩
    · unfold dist_Square.upto
      exact List.mem_map.2 ⟨la.length - 1, List.mem_range.2 (by omega), rfl⟩
    · rw [show la.length - 1 + 1 = la.length by omega, (sum_sq ha hb hl la.length (Nat.le_refl _)).1]
      exact decide_eq_true (by omega)

/-! ### the law DistGoes -/
theorem awake_k : chainmanlaw11_awake.f = some true := by decide +kernel
theorem self_nonneg (u : Int) : 0 ≤ u * u := by
  rw [← Int.natAbs_mul_self (a := u)]; exact Int.natCast_nonneg _
theorem self_zero {u : Int} (h : u * u = 0) : u = 0 := by
  rcases Int.mul_eq_zero.1 h with h | h <;> exact h
theorem sq_self (l : List Int) : ∀ k, sq l l k = 0 := by
  intro k
  induction k with
  | zero => rfl
  | succ k ih => show sq l l k + _ = 0; rw [ih, Int.sub_self]; rfl
theorem sq_symm (a b : List Int) : ∀ k, sq a b k = sq b a k := by
  intro k
  induction k with
  | zero => rfl
  | succ k ih =>
    show sq a b k + _ = sq b a k + _
    rw [ih, ← Int.neg_sub (rd b (k : Int)) (rd a (k : Int)), Int.neg_mul_neg]
theorem twice (u v : Int) : (u + v) * (u + v) ≤ 2 * (u * u + v * v) := by
  have h := self_nonneg (u - v)
  rw [Int.sub_mul, Int.mul_sub, Int.mul_sub] at h
  rw [Int.add_mul, Int.mul_add, Int.mul_add]
  have := Int.mul_comm u v
  omega
theorem sq_tri (a b c : List Int) : ∀ k, sq a b k ≤ 2 * (sq a c k + sq c b k) := by
  intro k
  induction k with
  | zero => show (0 : Int) ≤ 2 * (0 + 0); decide
  | succ k ih =>
    show sq a b k + _ ≤ 2 * ((sq a c k + _) + (sq c b k + _))
    have h := twice (rd a (k : Int) - rd c (k : Int)) (rd c (k : Int) - rd b (k : Int))
    rw [show rd a (k : Int) - rd c (k : Int) + (rd c (k : Int) - rd b (k : Int)) = rd a (k : Int) - rd b (k : Int) by omega] at h
    omega
/-- Are the first k alike? -/
def same (a b : List Int) : Nat → Bool
  | 0 => true
  | k + 1 => if same a b k = true then (rd a (k : Int) == rd b (k : Int)) else false
theorem sq_pos (a b : List Int) : ∀ k, 0 ≤ sq a b k := by
  intro k
  induction k with
  | zero => exact Int.le_refl _
  | succ k ih => have := self_nonneg (rd a (k : Int) - rd b (k : Int)); show 0 ≤ sq a b k + _; omega
theorem same_iff (a b : List Int) : ∀ k, same a b k = (sq a b k == 0) := by
  intro k
  induction k with
  | zero => rfl
  | succ k ih =>
    have h0 := sq_pos a b k
    have h1 := self_nonneg (rd a (k : Int) - rd b (k : Int))
    show (if same a b k = true then (rd a (k : Int) == rd b (k : Int)) else false) = (sq a b k + _ == 0)
    by_cases c1 : sq a b k = 0
    · rw [ih, c1, if_pos (by rfl), Int.zero_add]
      by_cases c2 : rd a (k : Int) = rd b (k : Int)
      · rw [c2, Int.sub_self, beq_self_eq_true]; rfl
      · rw [beq_false_of_ne c2, eq_comm, beq_eq_false_iff_ne]
        intro h
        exact c2 (by have := self_zero h; omega)
    · rw [ih, beq_false_of_ne c1, if_neg (by decide), eq_comm, beq_eq_false_iff_ne]
      omega
/-- The first k, each moved by c. -/
def sh (l : List Int) (c : Int) (k : Nat) : List Int := (List.range k).map (fun j : Nat => wrap64 (rd l (j : Int) + c))
theorem sh_succ (l : List Int) (c : Int) (k : Nat) : sh l c (k + 1) = sh l c k ++ [wrap64 (rd l (k : Int) + c)] := by simp [sh, List.range_succ]
theorem sh_length (l : List Int) (c : Int) (k : Nat) : (sh l c k).length = k := by simp [sh]
theorem sh_rd {l : List Int} (hl : Fit l) {c : Int} (hc : -1048576 ≤ c ∧ c ≤ 1048576) {j : Nat} (hj : j < l.length) : rd (sh l c l.length) (j : Int) = rd l (j : Int) + c := by
  have hb := hl.2.2 j hj
  rw [rd_nat (sh l c l.length), List.getD_eq_getElem?_getD]
  unfold sh
  rw [List.getElem?_map, List.getElem?_range hj]
  exact w64 _ (by omega)
theorem sq_sh {a b : List Int} (ha : Fit a) (hb : Fit b) (hl : b.length = a.length) {c : Int} (hc : -1048576 ≤ c ∧ c ≤ 1048576) : ∀ k, k ≤ a.length → sq (sh a c a.length) (sh b c b.length) k = sq a b k := by
  intro k
  induction k with
  | zero => intro _; rfl
  | succ k ih =>
    intro hk
    show sq _ _ k + _ = sq a b k + _
    rw [ih (by omega), sh_rd ha hc (by omega), sh_rd hb hc (by omega), show rd a (k : Int) + c - (rd b (k : Int) + c) = rd a (k : Int) - rd b (k : Int) by omega]
theorem loop (a b : List Int) (by_ ab : Int) (hl : b.length = a.length) (hm : a.length ≤ 30) : ∀ (d k i : Nat), i + d = a.length →
    chainmanlaw11_DistGoes.l0 (d + k + 1) a b by_ ab (same a b i) (sh a (Int.tmod (wrap64 by_) 1048576) i) (sh b (Int.tmod (wrap64 by_) 1048576) i) (i : Int) =
    chainmanlaw11_DistGoes.l0 (k + 1) a b by_ ab (same a b a.length) (sh a (Int.tmod (wrap64 by_) 1048576) a.length) (sh b (Int.tmod (wrap64 by_) 1048576) a.length) (a.length : Int) := by
  intro d
  induction d with
  | zero =>
    intro k i hi
    obtain rfl : i = a.length := by omega
    rw [Nat.zero_add]
  | succ d ih =>
    intro k i hi
    have ew : wrap64 ((i : Int) + 1) = ((i + 1 : Nat) : Int) := by rw [w64 _ (by omega)]; omega
    have la : (sh a (Int.tmod (wrap64 by_) 1048576) i).length < 17592186044416 := by rw [sh_length]; omega
    have lb : (sh b (Int.tmod (wrap64 by_) 1048576) i).length < 17592186044416 := by rw [sh_length]; omega
    rw [← ih k (i + 1) (by omega), show d + 1 + k + 1 = (d + k + 1) + 1 by omega, chainmanlaw11_DistGoes.l0, if_pos (by omega), sh_succ, sh_succ, ew]
    by_cases c : same a b i = true
    · rw [if_pos c, if_pos (by omega), if_pos (by omega), if_pos la, if_pos lb]
      congr 1
      show _ = (if same a b i = true then (rd a (i : Int) == rd b (i : Int)) else false)
      rw [if_pos c]
    · rw [if_neg c, if_pos (by omega), if_pos la, if_pos (by omega), if_pos lb]
      congr 1
      show _ = (if same a b i = true then (rd a (i : Int) == rd b (i : Int)) else false)
      rw [if_neg c]
theorem DistGoes : chainmanlaw11_DistGoes.Pure := by
  intro a b c by_ _ _ _ _ _ _ _ _ _ _
  refine ⟨204, ?_⟩
  unfold chainmanlaw11_DistGoes.f
  have hj : chainmanlaw11_DistGoes.j0 204 a b c by_ true = some true := by
    rw [chainmanlaw11_DistGoes.j0, if_pos rfl, awake_k, Option.bind_some]
  by_cases c1 : (a.length : Int) > 30
  · rw [if_pos c1, hj]
  rw [if_neg c1]
  by_cases c2 : (b.length : Int) = (a.length : Int)
  case neg => rw [if_neg c2, hj]
  rw [if_pos c2]
  by_cases c3 : (c.length : Int) = (a.length : Int)
  case neg => rw [if_neg c3, hj]
  rw [if_pos c3, ref_right a (by omega) 204 (by omega), Option.bind_some]
  by_cases d1 : dist_Square.right a = true
  case neg => rw [if_neg d1, hj]
  rw [if_pos d1, ref_right b (by omega) 204 (by omega), Option.bind_some]
  by_cases d2 : dist_Square.right b = true
  case neg => rw [if_neg d2, hj]
  rw [if_pos d2, ref_right c (by omega) 204 (by omega), Option.bind_some]
  by_cases d3 : dist_Square.right c = true
  case neg => rw [Bool.eq_false_iff.mpr d3]; exact hj
  rw [d3]
  have ha := (right_iff a).1 d1
  have hb := (right_iff b).1 d2
  have hc := (right_iff c).1 d3
  have l1 : b.length = a.length := by omega
  have l2 : c.length = a.length := by omega
  have bn : ∀ {x y : List Int}, Fit x → Fit y → y.length = x.length → x.length = a.length → 0 ≤ sq x y a.length ∧ sq x y a.length ≤ 33776997205278720 := by
    intro x y hx hy h e
    have h1 := (sum_sq hx hy h x.length (Nat.le_refl _)).2
    rw [e] at h1
    omega
  have b1 := bn ha hb l1 rfl
  have b2 := bn ha hc l2 rfl
  have b3 := bn hc hb (by omega) l2
  have tri := sq_tri a b c a.length
  rw [chainmanlaw11_DistGoes.j0, if_neg (by decide), square_fit ha hb l1, Option.bind_some, square_fit hb ha l1.symm, Option.bind_some, square_fit ha hc l2, Option.bind_some, square_fit hc hb (by omega), Option.bind_some, square_fit ha ha rfl, Option.bind_some]
  simp only [l1, l2, sq_self, sq_symm b a, if_true]
  have hn : ∀ z : Int, 0 ≤ z → ¬ z < 0 := fun z h => by omega
  rw [if_neg (hn _ b1.1), if_neg (hn _ b2.1), if_neg (hn _ b3.1), w64 (sq a c a.length + sq c b a.length) (by omega), w64 (2 * (sq a c a.length + sq c b a.length)) (by omega), decide_eq_false (by omega)]
  have hw : dist_Within.f a b (sq a b a.length) = some true := by
    rw [within_fit ha hb l1, decide_eq_true (Int.le_refl _)]
  have hw2 : dist_Within.f a b (wrap64 (sq a b a.length - 1)) = some false := by
    rw [within_fit ha hb l1, w64 _ (by omega), decide_eq_false (by omega)]
  have hend : ∀ k, chainmanlaw11_DistGoes.j4 (k + 1) a b (sq a b a.length) false = some true := fun k => by
    rw [chainmanlaw11_DistGoes.j4, if_neg (by decide), hw, Option.bind_some, if_pos rfl, hw2, Option.bind_some, if_neg (by decide), awake_k, Option.bind_some]
  rw [chainmanlaw11_DistGoes.j1, if_neg (by decide)]
  have hlo := loop a b by_ (sq a b a.length) l1 (by omega) a.length (201 - a.length) 0 (by omega)
  rw [show a.length + (201 - a.length) + 1 = 202 by omega] at hlo
  rw [show chainmanlaw11_DistGoes.l0 202 a b by_ (sq a b a.length) true [] [] 0 = _ from hlo, chainmanlaw11_DistGoes.l0, if_neg (by omega), same_iff, if_neg (by simp)]
  have hcb : -1048576 ≤ Int.tmod (wrap64 by_) 1048576 ∧ Int.tmod (wrap64 by_) 1048576 ≤ 1048576 := by
    have := Int.lt_tmod_of_pos (wrap64 by_) (show (0 : Int) < 1048576 by decide)
    have := Int.tmod_lt_of_pos (wrap64 by_) (show (0 : Int) < 1048576 by decide)
    omega
  generalize Int.tmod (wrap64 by_) 1048576 = m at *
  have e1 : (sh a m a.length).length = a.length := sh_length _ _ _
  have e2 : (sh b m a.length).length = a.length := sh_length _ _ _
  have hK : 2 * a.length + 2 ≤ 201 - a.length := by omega
  obtain ⟨K, hKe⟩ : ∃ K, 201 - a.length = K + 3 := ⟨201 - a.length - 3, by omega⟩
  rw [hKe] at hK ⊢
  rw [ref_right _ (by omega) _ (by omega), Option.bind_some]
  have hfin : chainmanlaw11_DistGoes.j3 (K + 3) a b (sq a b a.length) (sh a m a.length) (sh b m a.length) false = some true := by
    rw [chainmanlaw11_DistGoes.j3, if_neg (by decide), hw, Option.bind_some, if_pos rfl, hw2, Option.bind_some, if_neg (by decide), awake_k, Option.bind_some]
  by_cases f1 : dist_Square.right (sh a m a.length) = true
  case neg => rw [if_neg f1, hfin]
  rw [if_pos f1, ref_right _ (by omega) _ (by omega), Option.bind_some]
  by_cases f2 : dist_Square.right (sh b m a.length) = true
  case neg => rw [Bool.eq_false_iff.mpr f2, hfin]
  rw [f2, chainmanlaw11_DistGoes.j3, if_pos rfl, square_fit ((right_iff _).1 f1) ((right_iff _).1 f2) (by omega), Option.bind_some, if_pos rfl, e1]
  have hs := sq_sh ha hb l1 hcb a.length (Nat.le_refl _)
  rw [l1] at hs
  show chainmanlaw11_DistGoes.j4 (K + 2) a b _ (sq (sh a m a.length) (sh b m a.length) a.length != _) = _
  rw [hs, show (sq a b a.length != sq a b a.length) = false from bne_eq_false_iff_eq.mpr rfl, hend]

end Go.Proofs.Ytpdgjegnbcillaa.Pure
