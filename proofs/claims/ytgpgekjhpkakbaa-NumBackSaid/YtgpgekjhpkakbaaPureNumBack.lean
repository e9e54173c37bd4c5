/- Floor, Rest and Ceil divide as the law NumBack says; the law's own tries, at fixed numbers, are computed. -/
import Derived.Test.YtgpgekjhpkakbaaPNumBackx2
namespace Go.Proofs.Ytgpgekjhpkakbaa.Pure
open Go.RowKit Go.Proofs.Ytgpgekjhpkakbaa.PNumBack Go.Proofs.YtgpgekjhpkakbaaW.PrintWords Go.Proofs.YtgpgekjhpkakbaaW.PrintLast
set_option linter.unusedVariables false
set_option linter.unusedSimpArgs false

/-! ### the law NumBack -/
theorem w64 (n : Int) (h : -9223372036854775808 ≤ n ∧ n ≤ 9223372036854775807) : wrap64 n = n := by unfold wrap64; omega
theorem floor_rest (a b : Int) (ha : -2305843009213693952 ≤ a ∧ a ≤ 2305843009213693952) (hb : 1 ≤ b ∧ b ≤ 2305843009213693952) :
    ∃ f r, num_Floor.f a b = some f ∧ num_Rest.f a b = some r ∧ 0 ≤ r ∧ r < b ∧ f * b + r = a ∧ -2305843009213693953 ≤ f ∧ f ≤ 2305843009213693953 := by
  have e := Int.tdiv_mul_add_tmod a b
  have hr : -b < Int.tmod a b ∧ Int.tmod a b < b := ⟨by have := Int.lt_tmod_of_pos a (show 0 < b by omega); omega, Int.tmod_lt_of_pos a (by omega)⟩
  have hq : -2305843009213693952 ≤ Int.tdiv a b ∧ Int.tdiv a b ≤ 2305843009213693952 := by
    have h1 : (Int.tdiv a b).natAbs ≤ a.natAbs := by rw [Int.natAbs_tdiv]; exact Nat.div_le_self _ _
    omega
  have hs : (0 ≤ a → 0 ≤ Int.tmod a b) := fun h => Int.tmod_nonneg b h
  generalize hQ : Int.tdiv a b = q at e hq
  generalize hR : Int.tmod a b = r at e hr hs
  have eq1 : wrap64 q = q := w64 q (by omega)
  have hqb : (q - 1) * b = q * b - b := by rw [Int.sub_mul]; omega
  generalize hP : q * b = P at e hqb
  have hn1 : ¬ b < 1 := by omega
  have hn0 : ¬ b = 0 := by omega
  have eP : wrap64 P = P := w64 P (by omega)
  have hF : num_Floor.f a b = if P > a then some (wrap64 (q - 1)) else some q := by
    unfold num_Floor.f
    rw [if_neg hn1, if_neg hn0, hQ, eq1, hP, eP]
  have hT : num_Rest.f a b = if r < 0 then some (wrap64 (r + b)) else some r := by
    unfold num_Rest.f
    rw [if_neg hn1, if_neg hn0, hR]
  clear hQ hR
  by_cases hn : r < 0
  · rw [if_pos (by omega), w64 _ (by omega)] at hF
    rw [if_pos hn, w64 _ (by omega)] at hT
    exact ⟨q - 1, r + b, hF, hT, by omega, by omega, by omega, by omega, by omega⟩
  · rw [if_neg (by omega)] at hF
    rw [if_neg hn] at hT
    exact ⟨q, r, hF, hT, by omega, by omega, by omega, by omega, by omega⟩
theorem awake_k : chainmanlaw01_awake.f 31 = some true := by decide +kernel
theorem NumBack : chainmanlaw01_NumBack.Pure := by
  intro a0 a1 w0 w1
  refine ⟨32, ?_⟩
  have hj : chainmanlaw01_NumBack.j0 32 a0 a1 true = some true := by
    rw [chainmanlaw01_NumBack.j0, if_pos rfl, awake_k, Option.bind_some]
  unfold chainmanlaw01_NumBack.f
  by_cases h1 : a0 < -2305843009213693952
  · rw [if_pos h1, hj]
  by_cases h2 : a0 > 2305843009213693952
  · rw [if_neg h1, if_pos h2, hj]
  by_cases h3 : a1 < 1
  · rw [if_neg h1, if_neg h2, if_pos h3, hj]
  rw [if_neg h1, if_neg h2, if_neg h3]
  by_cases h4 : a1 > 2305843009213693952
  · rw [decide_eq_true h4, hj]
  rw [decide_eq_false h4]
  obtain ⟨f, r, hf, hr, r0, r1, e, f0, f1⟩ := floor_rest a0 a1 (by omega) (by omega)
  have hc : num_Ceil.f 31 a0 a1 = some (if 0 < r then f + 1 else f) := by
    unfold num_Ceil.f
    rw [if_neg (by omega), if_neg (by omega), decide_eq_false (by omega), num_Ceil.j0, if_neg (by decide), hf, Option.bind_some, hr, Option.bind_some]
    by_cases hp : 0 < r
    · rw [if_pos hp, if_pos hp, w64 _ (by omega)]
    · rw [if_neg hp, if_neg hp]
  rw [chainmanlaw01_NumBack.j0, if_neg (by decide), hf, Option.bind_some, hr, Option.bind_some, hc, Option.bind_some]
  have hb : wrap64 (wrap64 (f * a1) + r) = a0 := by
    have h5 : wrap64 (f * a1) = f * a1 := w64 _ (by omega)
    rw [h5, e]; exact w64 _ (by omega)
  rw [if_pos r0, if_pos r1, if_pos hb]
  by_cases hz : r = 0
  · subst hz
    rw [if_neg (show ¬ (0 : Int) < 0 by decide), if_pos rfl, if_pos rfl, awake_k, Option.bind_some]
  · rw [if_neg hz, if_pos (by omega : r > 0), if_pos (by omega : 0 < r), w64 _ (by omega), if_pos rfl, awake_k, Option.bind_some]

end Go.Proofs.Ytgpgekjhpkakbaa.Pure
