/- Distances, of fit vectors and of others, are the document's (the law DistTells). -/
import Derived.Test.YtpdgjegnbcillaaPDistTellsx2
namespace Go.Proofs.Ytpdgjegnbcillaa.Pure
open Go.RowKit Go.Proofs.Ytpdgjegnbcillaa.PDistTells Go.Proofs.YtpdgjegnbcillaaW.PrintWords Go.Proofs.YtpdgjegnbcillaaW.PrintLast
set_option linter.unusedVariables false
set_option linter.unusedSimpArgs false
/-! ### distances -/
theorem w64 (n : Int) (h : -9223372036854775808 ≤ n ∧ n ≤ 9223372036854775807) : wrap64 n = n := by unfold wrap64; omega
theorem rd_nat (l : List Int) (i : Nat) : rd l (i : Int) = l.getD i 0 := by unfold rd; rw [Int.toNat_natCast]
/-- A vector that may be. -/
def Fit (l : List Int) : Prop := 0 < l.length ∧ l.length ≤ 4096 ∧ ∀ i, i < l.length → -16777215 ≤ rd l (i : Int) ∧ rd l (i : Int) ≤ 16777215
theorem far_iff (x : Int) : dist_Right.isfar x = false ↔ -16777215 ≤ x ∧ x ≤ 16777215 := by
  unfold dist_Right.isfar
  rw [Bool.or_eq_false_iff, decide_eq_false_iff_not, decide_eq_false_iff_not]
  omega
theorem right_iff (l : List Int) : dist_Square.right l = true ↔ Fit l := by
  unfold dist_Square.right dist_Right.f Fit
  simp only [Option.getD_some, Bool.and_eq_true, decide_eq_true_eq, Bool.not_eq_true', List.any_eq_false]
  constructor
  · rintro ⟨⟨h1, h2⟩, h3⟩
    refine ⟨h1, h2, fun i hi => ?_⟩
    rw [rd_nat, List.getD_eq_getElem?_getD, List.getElem?_eq_getElem hi]
    exact (far_iff _).1 (by simpa using h3 _ (List.getElem_mem hi))
  · rintro ⟨h1, h2, h3⟩
    refine ⟨⟨h1, h2⟩, fun x hx => ?_⟩
    obtain ⟨i, hi, rfl⟩ := List.getElem_of_mem hx
    have := h3 i hi
    rw [rd_nat, List.getD_eq_getElem?_getD, List.getElem?_eq_getElem hi] at this
    simpa using (far_iff _).2 this
theorem right_f (l : List Int) : dist_Right.f l = some (dist_Square.right l) := rfl
theorem ref_right_l (l : List Int) (h : l.length ≤ 4096) : ∀ (d k i : Nat), i + d = l.length → chainmanref11_Right.l0 (2 * d + k + 2) l (i : Int) = some (decide (0 < l.length) && !((l.drop i).any dist_Right.isfar)) := by
  intro d
  induction d with
  | zero =>
    intro k i hi
    rw [show 2 * 0 + k + 2 = (k + 1) + 1 by omega, chainmanref11_Right.l0, if_neg (by omega), chainmanref11_Right.j1, if_neg (by decide), List.drop_of_length_le (by omega)]
    by_cases h0 : 0 < l.length
    · rw [if_pos (by omega), decide_eq_true (by omega), decide_eq_true h0]; rfl
    · rw [if_neg (by omega), decide_eq_false h0]; rfl
  | succ d ih =>
    intro k i hi
    have hl : i < l.length := by omega
    rw [show 2 * (d + 1) + k + 2 = (2 * d + k + 2 + 1) + 1 by omega, chainmanref11_Right.l0, if_pos (by omega), decide_eq_true (by omega), chainmanref11_Right.j1, if_pos rfl, if_pos (by omega), if_pos (by omega)]
    have ew : wrap64 ((i : Int) + 1) = ((i + 1 : Nat) : Int) := by rw [w64 _ (by omega)]; omega
    have er : rd l (i : Int) = l[i] := by rw [rd_nat, List.getD_eq_getElem?_getD, List.getElem?_eq_getElem hl]; rfl
    rw [ew, ih k (i + 1) (by omega), er, List.drop_eq_getElem_cons hl, List.any_cons, decide_eq_true (show 0 < l.length by omega)]
    have hz : dist_Right.isfar l[i] = (decide (l[i] ≤ -16777216) || decide (l[i] ≥ 16777216)) := by
      unfold dist_Right.isfar
      rw [show decide (l[i] < -16777215) = decide (l[i] ≤ -16777216) from decide_eq_decide.mpr (by omega), show decide (16777215 < l[i]) = decide (l[i] ≥ 16777216) from decide_eq_decide.mpr (by omega)]
    rw [hz]
    by_cases c1 : l[i] ≤ -16777216
    · rw [if_pos c1, decide_eq_true c1]; rfl
    · rw [if_neg c1, decide_eq_false c1]
      by_cases c2 : l[i] ≥ 16777216
      · rw [if_pos c2, decide_eq_true c2]; rfl
      · rw [if_neg c2, decide_eq_false c2]; rfl
theorem ref_right (l : List Int) (h : l.length ≤ 4096) (K : Nat) (hK : 2 * l.length + 2 ≤ K) : chainmanref11_Right.f K l = some (dist_Square.right l) := by
  unfold chainmanref11_Right.f dist_Square.right dist_Right.f
  have := ref_right_l l h l.length (K - (2 * l.length + 2)) 0 (by omega)
  rw [show 2 * l.length + (K - (2 * l.length + 2)) + 2 = K by omega] at this
  rw [show ((0 : Nat) : Int) = 0 from rfl] at this
  rw [this, List.drop_zero, Option.getD_some, decide_eq_true h, Bool.and_true]
/-- The sum of the first k squares. -/
def sq (la lb : List Int) : Nat → Int
  | 0 => 0
  | k + 1 => sq la lb k + (rd la (k : Int) - rd lb (k : Int)) * (rd la (k : Int) - rd lb (k : Int))
theorem sq_step {x y : Int} (hx : -16777215 ≤ x ∧ x ≤ 16777215) (hy : -16777215 ≤ y ∧ y ≤ 16777215) : 0 ≤ (x - y) * (x - y) ∧ (x - y) * (x - y) ≤ 1125899906842624 := by
  have h0 : ((x - y).natAbs : Int) * ((x - y).natAbs : Int) = (x - y) * (x - y) := Int.natAbs_mul_self
  have h1 : (x - y).natAbs * (x - y).natAbs ≤ 33554432 * 33554432 := Nat.mul_le_mul (by omega) (by omega)
  generalize (x - y) * (x - y) = q at *
  rw [← Int.natCast_mul] at h0
  generalize (x - y).natAbs * (x - y).natAbs = p at *
  omega
theorem sum_sq {la lb : List Int} (ha : Fit la) (hb : Fit lb) (hl : lb.length = la.length) : ∀ k, k ≤ la.length → dist_Square.sum la lb k = sq la lb k ∧ 0 ≤ sq la lb k ∧ sq la lb k ≤ (k : Int) * 1125899906842624 := by
  intro k
  induction k with
  | zero => intro _; exact ⟨rfl, Int.le_refl _, by simp [sq]⟩
  | succ k ih =>
    intro hk
    obtain ⟨e, h0, h1⟩ := ih (by omega)
    have xa := ha.2.2 k (by omega)
    have xb := hb.2.2 k (by omega)
    have hm : (k : Int) ≤ 4095 := by have := ha.2.1; omega
    have st := sq_step xa xb
    show dist_Square.step la lb k (dist_Square.sum la lb k) = _ ∧ 0 ≤ sq la lb k + _ ∧ sq la lb k + _ ≤ _
    unfold dist_Square.step
    rw [e]
    show wrap64 (sq la lb k + _) = sq la lb k + _ ∧ _
    have e1 : wrap64 (rd la (k : Int) - rd lb (k : Int)) = rd la (k : Int) - rd lb (k : Int) := w64 _ (by omega)
    rw [e1]
    generalize (rd la (k : Int) - rd lb (k : Int)) * (rd la (k : Int) - rd lb (k : Int)) = g at *
    have e2 : wrap64 g = g := w64 _ (by omega)
    rw [e2, w64 _ (by omega)]
    refine ⟨rfl, by omega, by omega⟩
theorem sq_mono {la lb : List Int} (ha : Fit la) (hb : Fit lb) (hl : lb.length = la.length) {j k : Nat} (hj : j ≤ k) (hk : k ≤ la.length) : sq la lb j ≤ sq la lb k := by
  induction k with
  | zero => obtain rfl : j = 0 := by omega
            exact Int.le_refl _
  | succ k ih =>
    by_cases e : j = k + 1
    · subst e; exact Int.le_refl _
    · have := ih (by omega) (by omega)
      have st := sq_step (ha.2.2 k (by omega)) (hb.2.2 k (by omega))
      show sq la lb j ≤ sq la lb k + _
      omega
theorem square_fit {la lb : List Int} (ha : Fit la) (hb : Fit lb) (hl : lb.length = la.length) : dist_Square.f la lb = some (sq la lb la.length, 0) := by
  unfold dist_Square.f
  rw [if_pos hl.symm, if_pos ((right_iff la).2 ha), if_pos ((right_iff lb).2 hb), (sum_sq ha hb hl la.length (Nat.le_refl _)).1]
theorem within_fit {la lb : List Int} (ha : Fit la) (hb : Fit lb) (hl : lb.length = la.length) (eps : Int) : dist_Within.f la lb eps = some (decide (sq la lb la.length ≤ eps)) := by
  unfold dist_Within.f
  rw [if_pos hl.symm, if_pos ((right_iff la).2 ha), if_pos ((right_iff lb).2 hb)]
  congr 1
  by_cases h : sq la lb la.length ≤ eps
  · rw [decide_eq_true h, Bool.not_eq_true', List.any_eq_false]
    intro y hy
    unfold dist_Square.upto at hy
    obtain ⟨j, hj, rfl⟩ := List.mem_map.1 hy
    have hj' := List.mem_range.1 hj
    rw [(sum_sq ha hb hl (j + 1) (by omega)).1]
    have := sq_mono ha hb hl (show j + 1 ≤ la.length by omega) (Nat.le_refl _)
    simp only [decide_eq_true_eq]
    omega
  · rw [decide_eq_false h, Bool.not_eq_false', List.any_eq_true]
    have h0 := ha.1
    refine ⟨dist_Square.sum la lb (la.length - 1 + 1), ?_, ?_⟩
    · unfold dist_Square.upto
      exact List.mem_map.2 ⟨la.length - 1, List.mem_range.2 (by omega), rfl⟩
    · rw [show la.length - 1 + 1 = la.length by omega, (sum_sq ha hb hl la.length (Nat.le_refl _)).1]
      exact decide_eq_true (by omega)

/-! ### the law DistTells -/
theorem ref_sq_l (la lb : List Int) (hl : lb.length = la.length) (hm : la.length ≤ 4096) : ∀ (d k i : Nat), i + d = la.length → chainmanref11_Square.l0 (d + k + 1) la lb (dist_Square.sum la lb i) (i : Int) = some (dist_Square.sum la lb la.length, 0) := by
  intro d
  induction d with
  | zero =>
    intro k i hi
    obtain rfl : i = la.length := by omega
    rw [chainmanref11_Square.l0, if_neg (by omega)]
  | succ d ih =>
    intro k i hi
    have ew : wrap64 ((i : Int) + 1) = ((i + 1 : Nat) : Int) := by rw [w64 _ (by omega)]; omega
    rw [show d + 1 + k + 1 = (d + k + 1) + 1 by omega, chainmanref11_Square.l0, if_pos (by omega), if_pos (by omega), if_pos (by omega), ew]
    exact ih k (i + 1) (by omega)
theorem ref_square (la lb : List Int) (ha : la.length ≤ 30) (hb : lb.length ≤ 30) (K : Nat) (hK : 100 ≤ K) : chainmanref11_Square.f K la lb = dist_Square.f la lb := by
  unfold chainmanref11_Square.f dist_Square.f
  have hj : ∀ b : Bool, chainmanref11_Square.j0 K la lb true = some (0, 1) := fun _ => by
    rw [show K = (K - 1) + 1 by omega, chainmanref11_Square.j0, if_pos rfl]
  rw [ref_right la (by omega) K (by omega), Option.bind_some]
  by_cases c1 : dist_Square.right la = true
  · rw [if_pos c1, ref_right lb (by omega) K (by omega), Option.bind_some]
    by_cases c2 : dist_Square.right lb = true
    · rw [if_pos c2, if_pos c1, if_pos c2]
      by_cases c3 : la.length = lb.length
      · rw [if_pos c3, show ((la.length : Int) != (lb.length : Int)) = false from bne_eq_false_iff_eq.mpr (by omega), show K = (K - 1) + 1 by omega, chainmanref11_Square.j0, if_neg (by decide)]
        have := ref_sq_l la lb c3.symm (by omega) la.length (K - 1 - la.length - 1) 0 (by omega)
        rw [show la.length + (K - 1 - la.length - 1) + 1 = K - 1 by omega] at this
        exact this
      · rw [if_neg c3, show ((la.length : Int) != (lb.length : Int)) = true from bne_iff_ne.mpr (by omega), hj true]
    · rw [if_neg c2, hj true, if_pos c1, if_neg c2]
      split <;> rfl
  · rw [if_neg c1, hj true, if_neg c1]
    split <;> rfl
theorem ref_within (la lb : List Int) (eps : Int) (ha : la.length ≤ 30) (hb : lb.length ≤ 30) (K : Nat) (hK : 100 ≤ K) : chainmanref11_Within.f K la lb eps = dist_Within.f la lb eps := by
  unfold chainmanref11_Within.f
  rw [ref_square la lb ha hb K hK]
  by_cases c1 : la.length = lb.length
  · by_cases c2 : dist_Square.right la = true
    · by_cases c3 : dist_Square.right lb = true
      · rw [within_fit ((right_iff la).1 c2) ((right_iff lb).1 c3) c1.symm, square_fit ((right_iff la).1 c2) ((right_iff lb).1 c3) c1.symm, Option.bind_some]
        exact if_pos rfl
      · unfold dist_Square.f dist_Within.f
        rw [if_pos c1, if_pos c2, if_neg c3, if_pos c1, if_pos c2, if_neg c3]; rfl
    · unfold dist_Square.f dist_Within.f
      rw [if_pos c1, if_neg c2, if_pos c1, if_neg c2]; rfl
  · unfold dist_Square.f dist_Within.f
    rw [if_neg c1, if_neg c1]; rfl
theorem awake_k : chainmanlaw11_awake.f = some true := by decide +kernel
theorem square_some (la lb : List Int) : ∃ p, dist_Square.f la lb = some p := by
  unfold dist_Square.f
  split
  · split
    · split
      · exact ⟨_, rfl⟩
      · exact ⟨_, rfl⟩
    · exact ⟨_, rfl⟩
  · exact ⟨_, rfl⟩
theorem within_some (la lb : List Int) (eps : Int) : ∃ p, dist_Within.f la lb eps = some p := by
  unfold dist_Within.f
  split
  · split
    · split
      · exact ⟨_, rfl⟩
      · exact ⟨_, rfl⟩
    · exact ⟨_, rfl⟩
  · exact ⟨_, rfl⟩
theorem DistTells : chainmanlaw11_DistTells.Pure := by
  intro a b eps _ _ _ _ _ _ _
  refine ⟨101, ?_⟩
  unfold chainmanlaw11_DistTells.f
  have hj : chainmanlaw11_DistTells.j0 101 a b eps true = some true := by
    rw [chainmanlaw11_DistTells.j0, if_pos rfl, awake_k, Option.bind_some]
  by_cases c1 : (a.length : Int) > 30
  · rw [if_pos c1, hj]
  rw [if_neg c1]
  by_cases c2 : (b.length : Int) > 30
  · rw [decide_eq_true c2, hj]
  rw [decide_eq_false c2, chainmanlaw11_DistTells.j0, if_neg (by decide)]
  obtain ⟨p, hp⟩ := square_some a b
  obtain ⟨q, hq⟩ := within_some a b eps
  rw [ref_square a b (by omega) (by omega) 100 (by omega), hp, Option.bind_some, Option.bind_some, right_f, Option.bind_some, ref_right a (by omega) 100 (by omega), Option.bind_some]
  rw [if_pos (by simp), if_pos rfl, if_pos rfl, ref_within a b eps (by omega) (by omega) 100 (by omega), hq, Option.bind_some, Option.bind_some, if_pos (by simp), awake_k, Option.bind_some]

end Go.Proofs.Ytpdgjegnbcillaa.Pure
