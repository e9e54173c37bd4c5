/- The pairs that are near, the nearest ones of all and how many any graphs have both are the document's (the law ModelExact). -/
import Derived.Test.YtjjjafhchombcaaPModelExactx17
namespace Go.Proofs.Ytjjjafhchombcaa.Pure
open Go.RowKit Go.Proofs.Ytjjjafhchombcaa.PModelExact Go.Proofs.YtjjjafhchombcaaW.PrintWords Go.Proofs.YtjjjafhchombcaaW.PrintLast
set_option linter.unusedVariables false
set_option linter.unusedSimpArgs false
namespace Di
theorem w64 (n : Int) (h : -9223372036854775808 ≤ n ∧ n ≤ 9223372036854775807) : wrap64 n = n := by unfold wrap64; omega
theorem rd_nat (l : List Int) (i : Nat) : rd l (i : Int) = l.getD i 0 := by unfold rd; rw [Int.toNat_natCast]
/-- A vector that may be. -/
def Fit (l : List Int) : Prop := 0 < l.length ∧ l.length ≤ 4096 ∧ ∀ i, i < l.length → -16777215 ≤ rd l (i : Int) ∧ rd l (i : Int) ≤ 16777215
theorem far_iff (x : Int) : dist_Right.isfar x = false ↔ -16777215 ≤ x ∧ x ≤ 16777215 := by
 unfold dist_Right.isfar
 rw [Bool.or_eq_false_iff, decide_eq_false_iff_not, decide_eq_false_iff_not]
 omega
theorem right_iff (l : List Int) : dist_Square.right l = true ↔ Fit l := by
 unfold dist_Square.right dist_Right.f Fit
 simp only [Option.getD_some, Bool.and_eq_true, decide_eq_true_eq, Bool.not_eq_true', List.any_eq_false]
 constructor
 ·rintro ⟨⟨h1, h2⟩, h3⟩
  refine ⟨h1, h2, fun i hi => ?_⟩
  rw [rd_nat, List.getD_eq_getElem?_getD, List.getElem?_eq_getElem hi]
  exact (far_iff _).1 (by simpa using h3 _ (List.getElem_mem hi))
 ·rintro ⟨h1, h2, h3⟩
  refine ⟨⟨h1, h2⟩, fun x hx => ?_⟩
  obtain ⟨i, hi, rfl⟩ := List.getElem_of_mem hx
  have := h3 i hi
  rw [rd_nat, List.getD_eq_getElem?_getD, List.getElem?_eq_getElem hi] at this
  simpa using (far_iff _).2 this
theorem ref_right_l (l : List Int) (h : l.length ≤ 4096) : ∀ (d k i : Nat), i + d = l.length → chainmanref11_Right.l0 (2 * d + k + 2) l (i : Int) = some (decide (0 < l.length) && !((l.drop i).any dist_Right.isfar)) := by
 intro d
 induction d with
 | zero =>
  intro k i hi
  rw [show 2 * 0 + k + 2 = (k + 1) + 1 by omega, chainmanref11_Right.l0, if_neg (by omega), chainmanref11_Right.j1, if_neg (by decide), List.drop_of_length_le (by omega)]
  by_cases h0 : 0 < l.length
  ·rw [if_pos (by omega), decide_eq_true (by omega), decide_eq_true h0]; rfl
  ·rw [if_neg (by omega), decide_eq_false h0]; rfl
 | succ d ih =>
  intro k i hi
  have hl : i < l.length := by omega
  rw [show 2 * (d + 1) + k + 2 = (2 * d + k + 2 + 1) + 1 by omega, chainmanref11_Right.l0, if_pos (by omega), decide_eq_true (by omega), chainmanref11_Right.j1, if_pos rfl, if_pos (by omega), if_pos (by omega)]
  have ew : wrap64 ((i : Int) + 1) = ((i + 1 : Nat) : Int) := by rw [w64 _ (by omega)]; omega
  have er : rd l (i : Int) = l[i] := by rw [rd_nat, List.getD_eq_getElem?_getD, List.getElem?_eq_getElem hl]; rfl
  rw [ew, ih k (i + 1) (by omega), er, List.drop_eq_getElem_cons hl, List.any_cons, decide_eq_true (show 0 < l.length by omega)]
  have hz : dist_Right.isfar l[i] = (decide (l[i] ≤ -16777216) || decide (l[i] ≥ 16777216)) := by
   unfold dist_Right.isfar
   rw [show decide (l[i] < -16777215) = decide (l[i] ≤ -16777216) from decide_eq_decide.mpr (by omega), show decide (16777215 < l[i]) = decide (l[i] ≥ 16777216) from decide_eq_decide.mpr (by omega)]
  rw [hz]
  by_cases c1 : l[i] ≤ -16777216
  ·rw [if_pos c1, decide_eq_true c1]; rfl
  ·rw [if_neg c1, decide_eq_false c1]
   by_cases c2 : l[i] ≥ 16777216
   ·rw [if_pos c2, decide_eq_true c2]; rfl
   ·rw [if_neg c2, decide_eq_false c2]; rfl
theorem ref_right (l : List Int) (h : l.length ≤ 4096) (K : Nat) (hK : 2 * l.length + 2 ≤ K) : chainmanref11_Right.f K l = some (dist_Square.right l) := by
 unfold chainmanref11_Right.f dist_Square.right dist_Right.f
 have := ref_right_l l h l.length (K - (2 * l.length + 2)) 0 (by omega)
 rw [show 2 * l.length + (K - (2 * l.length + 2)) + 2 = K by omega] at this
 rw [show ((0 : Nat) : Int) = 0 from rfl] at this
 rw [this, List.drop_zero, Option.getD_some, decide_eq_true h, Bool.and_true]
/-- The sum of the first k squares. -/
def sq (la lb : List Int) : Nat → Int
 | 0 => 0
 | k + 1 => sq la lb k + (rd la (k : Int) - rd lb (k : Int)) * (rd la (k : Int) - rd lb (k : Int))
theorem sq_step {x y : Int} (hx : -16777215 ≤ x ∧ x ≤ 16777215) (hy : -16777215 ≤ y ∧ y ≤ 16777215) : 0 ≤ (x - y) * (x - y) ∧ (x - y) * (x - y) ≤ 1125899906842624 := by
 have h0 : ((x - y).natAbs : Int) * ((x - y).natAbs : Int) = (x - y) * (x - y) := Int.natAbs_mul_self
 have h1 : (x - y).natAbs * (x - y).natAbs ≤ 33554432 * 33554432 := Nat.mul_le_mul (by omega) (by omega)
 generalize (x - y) * (x - y) = q at *
 rw [← Int.natCast_mul] at h0
 generalize (x - y).natAbs * (x - y).natAbs = p at *
 omega
theorem sum_sq {la lb : List Int} (ha : Fit la) (hb : Fit lb) (hl : lb.length = la.length) : ∀ k, k ≤ la.length → dist_Square.sum la lb k = sq la lb k ∧ 0 ≤ sq la lb k ∧ sq la lb k ≤ (k : Int) * 1125899906842624 := by
 intro k
 induction k with
 | zero => intro _; exact ⟨rfl, Int.le_refl _, by simp [sq]⟩
 | succ k ih =>
  intro hk
  obtain ⟨e, h0, h1⟩ := ih (by omega)
  have xa := ha.2.2 k (by omega)
  have xb := hb.2.2 k (by omega)
  have hm : (k : Int) ≤ 4095 := by have := ha.2.1; omega
  have st := sq_step xa xb
  show dist_Square.step la lb k (dist_Square.sum la lb k) = _ ∧ 0 ≤ sq la lb k + _ ∧ sq la lb k + _ ≤ _
  unfold dist_Square.step
  rw [e]
  show wrap64 (sq la lb k + _) = sq la lb k + _ ∧ _
  have e1 : wrap64 (rd la (k : Int) - rd lb (k : Int)) = rd la (k : Int) - rd lb (k : Int) := w64 _ (by omega)
  rw [e1]
  generalize (rd la (k : Int) - rd lb (k : Int)) * (rd la (k : Int) - rd lb (k : Int)) = g at *
  have e2 : wrap64 g = g := w64 _ (by omega)
  rw [e2, w64 _ (by omega)]
  refine ⟨rfl, by omega, by omega⟩
theorem sq_mono {la lb : List Int} (ha : Fit la) (hb : Fit lb) (hl : lb.length = la.length) {j k : Nat} (hj : j ≤ k) (hk : k ≤ la.length) : sq la lb j ≤ sq la lb k := by
 induction k with
 | zero => obtain rfl : j = 0 := (by omega); exact Int.le_refl _
 | succ k ih =>
  by_cases e : j = k + 1
  ·subst e; exact Int.le_refl _
  ·have := ih (by omega) (by omega)
   have st := sq_step (ha.2.2 k (by omega)) (hb.2.2 k (by omega))
   show sq la lb j ≤ sq la lb k + _
   omega
theorem square_fit {la lb : List Int} (ha : Fit la) (hb : Fit lb) (hl : lb.length = la.length) : dist_Square.f la lb = some (sq la lb la.length, 0) := by
 unfold dist_Square.f
 rw [if_pos hl.symm, if_pos ((right_iff la).2 ha), if_pos ((right_iff lb).2 hb), (sum_sq ha hb hl la.length (Nat.le_refl _)).1]
theorem within_fit {la lb : List Int} (ha : Fit la) (hb : Fit lb) (hl : lb.length = la.length) (eps : Int) : dist_Within.f la lb eps = some (decide (sq la lb la.length ≤ eps)) := by
 unfold dist_Within.f
 rw [if_pos hl.symm, if_pos ((right_iff la).2 ha), if_pos ((right_iff lb).2 hb)]
 congr 1
 by_cases h : sq la lb la.length ≤ eps
 ·rw [decide_eq_true h, Bool.not_eq_true', List.any_eq_false]
  intro y hy
  unfold dist_Square.upto at hy
  obtain ⟨j, hj, rfl⟩ := List.mem_map.1 hy
  have hj' := List.mem_range.1 hj
  rw [(sum_sq ha hb hl (j + 1) (by omega)).1]
  have := sq_mono ha hb hl (show j + 1 ≤ la.length by omega) (Nat.le_refl _)
  simp only [decide_eq_true_eq]
  omega
 ·rw [decide_eq_false h, Bool.not_eq_false', List.any_eq_true]
  have h0 := ha.1
  refine ⟨dist_Square.sum la lb (la.length - 1 + 1), ?_, ?_⟩
  ·unfold dist_Square.upto
   exact List.mem_map.2 ⟨la.length - 1, List.mem_range.2 (by omega), rfl⟩
  ·rw [show la.length - 1 + 1 = la.length by omega, (sum_sq ha hb hl la.length (Nat.le_refl _)).1]
   exact decide_eq_true (by omega)
theorem ref_sq_l (la lb : List Int) (hl : lb.length = la.length) (hm : la.length ≤ 4096) : ∀ (d k i : Nat), i + d = la.length → chainmanref11_Square.l0 (d + k + 1) la lb (dist_Square.sum la lb i) (i : Int) = some (dist_Square.sum la lb la.length, 0) := by
 intro d
 induction d with
 | zero =>
  intro k i hi
  obtain rfl : i = la.length := by omega
  rw [chainmanref11_Square.l0, if_neg (by omega)]
 | succ d ih =>
  intro k i hi
  have ew : wrap64 ((i : Int) + 1) = ((i + 1 : Nat) : Int) := by rw [w64 _ (by omega)]; omega
  rw [show d + 1 + k + 1 = (d + k + 1) + 1 by omega, chainmanref11_Square.l0, if_pos (by omega), if_pos (by omega), if_pos (by omega), ew]
  exact ih k (i + 1) (by omega)
theorem ref_square (la lb : List Int) (ha : la.length ≤ 30) (hb : lb.length ≤ 30) (K : Nat) (hK : 100 ≤ K) : chainmanref11_Square.f K la lb = dist_Square.f la lb := by
 unfold chainmanref11_Square.f dist_Square.f
 have hj : ∀ b : Bool, chainmanref11_Square.j0 K la lb true = some (0, 1) := fun _ => by
  rw [show K = (K - 1) + 1 by omega, chainmanref11_Square.j0, if_pos rfl]
 rw [ref_right la (by omega) K (by omega), Option.bind_some]
 by_cases c1 : dist_Square.right la = true
 ·rw [if_pos c1, ref_right lb (by omega) K (by omega), Option.bind_some]
  by_cases c2 : dist_Square.right lb = true
  ·rw [if_pos c2, if_pos c1, if_pos c2]
   by_cases c3 : la.length = lb.length
   ·rw [if_pos c3, show ((la.length : Int) != (lb.length : Int)) = false from bne_eq_false_iff_eq.mpr (by omega), show K = (K - 1) + 1 by omega, chainmanref11_Square.j0, if_neg (by decide)]
    have := ref_sq_l la lb c3.symm (by omega) la.length (K - 1 - la.length - 1) 0 (by omega)
    rw [show la.length + (K - 1 - la.length - 1) + 1 = K - 1 by omega] at this
    exact this
   ·rw [if_neg c3, show ((la.length : Int) != (lb.length : Int)) = true from bne_iff_ne.mpr (by omega), hj true]
  ·rw [if_neg c2, hj true, if_pos c1, if_neg c2]
   split <;> rfl
 ·rw [if_neg c1, hj true, if_neg c1]
  split <;> rfl
theorem ref_within (la lb : List Int) (eps : Int) (ha : la.length ≤ 30) (hb : lb.length ≤ 30) (K : Nat) (hK : 100 ≤ K) : chainmanref11_Within.f K la lb eps = dist_Within.f la lb eps := by
 unfold chainmanref11_Within.f
 rw [ref_square la lb ha hb K hK]
 by_cases c1 : la.length = lb.length
 ·by_cases c2 : dist_Square.right la = true
  ·by_cases c3 : dist_Square.right lb = true
   ·rw [within_fit ((right_iff la).1 c2) ((right_iff lb).1 c3) c1.symm, square_fit ((right_iff la).1 c2) ((right_iff lb).1 c3) c1.symm, Option.bind_some]
    exact if_pos rfl
   ·unfold dist_Square.f dist_Within.f
    rw [if_pos c1, if_pos c2, if_neg c3, if_pos c1, if_pos c2, if_neg c3]; rfl
  ·unfold dist_Square.f dist_Within.f
   rw [if_pos c1, if_neg c2, if_pos c1, if_neg c2]; rfl
 ·unfold dist_Square.f dist_Within.f
  rw [if_neg c1, if_neg c1]; rfl
theorem within_some (la lb : List Int) (eps : Int) : ∃ p, dist_Within.f la lb eps = some p := by
 unfold dist_Within.f
 split
 ·split
  ·split
   ·exact ⟨_, rfl⟩
   ·exact ⟨_, rfl⟩
  ·exact ⟨_, rfl⟩
 ·exact ⟨_, rfl⟩
end Di
def less (a b : S74) : Prop := topk_Right.ord a b < 0
instance (a b : S74) : Decidable (less a b) := inferInstanceAs (Decidable (topk_Right.ord a b < 0))
theorem less_iff (a b : S74) : less a b ↔ (a.f0 < b.f0 ∨ (a.f0 = b.f0 ∧ a.f1 < b.f1)) := by
 unfold less topk_Right.ord
 (repeat' split) <;> omega
theorem less_trans {a b c : S74} (h : less a b) (h' : less b c) : less a c := by rw [less_iff] at *; omega
theorem less_tot {a b : S74} (h : a.f1 ≠ b.f1) (h' : ¬ less a b) : less b a := by rw [less_iff] at *; omega
def cnt (s : List S74) (x : S74) : Nat := s.countP (fun y => decide (less y x))
def Srt (s : List S74) : Prop := s.Pairwise less
def Dis (s : List S74) : Prop := s.Pairwise (fun a b => a.f1 ≠ b.f1)
theorem cnt_le (s : List S74) (x : S74) : cnt s x ≤ s.length := List.countP_le_length
theorem cnt_at (x : S74) : ∀ (s : List S74), Srt s → ∀ j (h : j < s.length), less s[j] x ↔ j < cnt s x := by
 intro s
 induction s with
 | nil => intro _ j h; simp at h
 | cons y t ih =>
  intro hs j h
  obtain ⟨h1, h2⟩ := List.pairwise_cons.mp hs
  by_cases hy : less y x
  ·have hc : cnt (y :: t) x = cnt t x + 1 := List.countP_cons_of_pos (by simpa using hy)
   rw [hc]
   cases j with
   | zero => exact ⟨fun _ => by omega, fun _ => hy⟩
   | succ j =>
    have := ih h2 j (by simpa using h)
    rw [List.getElem_cons_succ]
    exact this.trans ⟨fun h => by omega, fun h => by omega⟩
  ·have hz : ∀ z ∈ t, ¬ less z x := fun z hz hl => hy (less_trans (h1 z hz) hl)
   have hc : cnt (y :: t) x = 0 := by
    unfold cnt
    rw [List.countP_eq_zero]
    intro z hz'
    rcases List.mem_cons.mp hz' with rfl | hz'
    ·simpa using hy
    ·simpa using hz z hz'
   rw [hc]
   refine ⟨fun hl => ?_, fun h => absurd h (Nat.not_lt_zero _)⟩
   exfalso
   cases j with
   | zero => exact hy hl
   | succ j => exact hz _ (List.getElem_mem _) hl
def ins (s : List S74) (x : S74) : List S74 := s.take (cnt s x) ++ [x] ++ s.drop (cnt s x)
theorem ins_perm (s : List S74) (x : S74) : (ins s x).Perm (x :: s) := by
 unfold ins
 rw [List.append_assoc, List.singleton_append]
 refine List.perm_middle.trans ?_
 rw [List.take_append_drop]
theorem ins_srt {s : List S74} (hs : Srt s) {x : S74} (hx : ∀ y ∈ s, y.f1 ≠ x.f1) : Srt (ins s x) := by
 have h0 := cnt_at x s hs
 have hlo : ∀ a ∈ s.take (cnt s x), less a x := by
  intro a ha
  obtain ⟨j, hj, rfl⟩ := List.mem_iff_getElem.mp ha
  rw [List.getElem_take]
  rw [List.length_take] at hj
  exact (h0 j (by omega)).mpr (by omega)
 have hhi : ∀ b ∈ s.drop (cnt s x), less x b := by
  intro b hb
  obtain ⟨j, hj, rfl⟩ := List.mem_iff_getElem.mp hb
  rw [List.getElem_drop]
  rw [List.length_drop] at hj
  refine less_tot (hx _ (List.getElem_mem _)) (fun hl => ?_)
  have := (h0 (cnt s x + j) (by omega)).mp hl
  omega
 unfold ins Srt
 rw [List.pairwise_append, List.pairwise_append]
 refine ⟨⟨hs.sublist (List.take_sublist _ _), List.pairwise_singleton _ _, ?_⟩, hs.sublist (List.drop_sublist _ _), ?_⟩
 ·intro a ha b hb
  rw [List.mem_singleton] at hb
  rw [hb]; exact hlo a ha
 ·intro a ha b hb
  rcases List.mem_append.mp ha with ha | ha
  ·exact less_trans (hlo a ha) (hhi b hb)
  ·rw [List.mem_singleton] at ha
   rw [ha]; exact hhi b hb
/-- All put in, one behind the other. -/
def srt (s l : List S74) : List S74 := l.foldl ins s
theorem srt_perm (l : List S74) : ∀ s : List S74, (srt s l).Perm (s ++ l) := by
 induction l with
 | nil => intro s; rw [List.append_nil]; exact List.Perm.refl _
 | cons x l ih =>
  intro s
  show (srt (ins s x) l).Perm _
  refine (ih _).trans ?_
  refine ((ins_perm s x).append_right l).trans ?_
  exact List.perm_middle.symm
theorem dis_perm {s t : List S74} (h : s.Perm t) (hs : Dis s) : Dis t := h.pairwise hs (fun h => Ne.symm h)
theorem cnt_take {S : List S74} (hS : Srt S) (x : S74) (n : Nat) : cnt (S.take n) x = min n (cnt S x) := by
 have h1 := cnt_at x S hS
 have h2 := cnt_at x (S.take n) (hS.sublist (List.take_sublist _ _))
 have l1 := cnt_le S x
 have l2 := cnt_le (S.take n) x
 have hT : (S.take n).length = min n S.length := List.length_take
 have hj : ∀ j, j < (S.take n).length → (j < cnt (S.take n) x ↔ j < cnt S x) := by
  intro j hj
  have a := h2 j hj
  have b := h1 j (by omega)
  rw [List.getElem_take] at a
  exact a.symm.trans b
 rcases Nat.lt_trichotomy (cnt (S.take n) x) (min n (cnt S x)) with h | h | h
 ·have := hj (cnt (S.take n) x) (by omega)
  omega
 ·exact h
 ·have := hj (cnt S x) (by omega)
  omega
/-- The first n of what one was put in. -/
theorem ins_take {S : List S74} (hS : Srt S) (x : S74) (n : Nat) : (ins S x).take n = if cnt (S.take n) x = n then S.take n else ((S.take n).take (cnt (S.take n) x) ++ [x] ++ (S.take n).drop (cnt (S.take n) x)).take (min n ((S.take n).length + 1)) := by
 have hc := cnt_take hS x n
 have l1 := cnt_le S x
 have hT : (S.take n).length = min n S.length := List.length_take
 unfold ins
 by_cases h : n ≤ cnt S x
 ·rw [if_pos (by omega), List.append_assoc, List.take_append_of_le_length (by rw [List.length_take]; omega), List.take_take, show min n (cnt S x) = n by omega]
 ·rw [if_neg (by omega), hc, show min n (cnt S x) = cnt S x by omega, hT]
  generalize cnt S x = c at h l1
  rw [List.take_take, show min c n = c by omega, List.drop_take]
  have hP : (S.take c ++ [x]).length = c + 1 := by rw [List.length_append, List.length_take]; simp; omega
  rw [List.take_append (l₁ := S.take c ++ [x]), List.take_append (l₁ := S.take c ++ [x]), hP, List.take_of_length_le (l := S.take c ++ [x]) (by omega), List.take_of_length_le (l := S.take c ++ [x]) (by omega)]
  congr 1
  rw [List.take_take]
  by_cases hn : n ≤ S.length
  ·congr 1; omega
  ·rw [List.take_of_length_le (by rw [List.length_drop]; omega), List.take_of_length_le (by rw [List.length_drop]; omega)]
theorem wsucc (i : Nat) (h : i < 1000000) : wrap64 ((i : Int) + 1) = ((i + 1 : Nat) : Int) := by unfold wrap64; omega
theorem rd_nat (l : List S74) (i : Nat) (h : i < l.length) : rd_T74 l (i : Int) = l[i] := by
 unfold rd_T74
 rw [Int.toNat_natCast, List.getD_eq_getElem?_getD, List.getElem?_eq_getElem h]; rfl
theorem gd (l : List S74) (i : Nat) (h : i < l.length) : l.getD i z74 = l[i] := by
 rw [List.getD_eq_getElem?_getD, List.getElem?_eq_getElem h]; rfl
def AllMay (s : List S74) : Prop := ∀ y ∈ s, topk_Right.may y = true
theorem has_no {s : List S74} {x : S74} (h : ∀ y ∈ s, y.f1 ≠ x.f1) : (s.any fun y => y.f1 == x.f1) = false := by
 rw [List.any_eq_false]; intro y hy; simpa using h y hy
theorem dis_at {s : List S74} (hd : Dis s) (i : Nat) (h : i < s.length) : ∀ y ∈ s.take i, y.f1 ≠ s[i].f1 := by
 intro y hy
 obtain ⟨j, hj, rfl⟩ := List.mem_iff_getElem.mp hy
 rw [List.getElem_take]
 rw [List.length_take] at hj
 exact List.pairwise_iff_getElem.mp hd j i (by omega) h (by omega)
theorem right_ok (t : List S74) (n : Nat) (hn : 1 ≤ n ∧ n ≤ 64) (hl : t.length ≤ n) (hs : Srt t) (hd : Dis t) (hm : AllMay t) : topk_Right.f t (n : Int) = some true := by
 unfold topk_Right.f
 rw [if_pos (by omega), decide_eq_true (by omega), Bool.true_and]
 refine congrArg some (List.all_eq_true.mpr (fun i hi => ?_))
 have hi' := List.mem_range.mp hi
 unfold topk_Right.ok
 rw [gd t i hi', hm _ (List.getElem_mem hi')]
 unfold topk_Right.met
 rw [has_no (dis_at hd i hi'), Bool.not_false, Bool.true_and, Bool.true_and]
 cases i with
 | zero => rfl
 | succ i =>
  have hlt : i < t.length := by omega
  rw [Nat.add_sub_cancel, gd t i hlt, decide_eq_true (show topk_Right.ord t[i] t[i + 1] < 0 from List.pairwise_iff_getElem.mp hs i (i + 1) hlt hi' (by omega)), Bool.or_true]
theorem bs_cnt (t : List S74) (hs : Srt t) (x : S74) : ∀ d i j, i ≤ cnt t x → cnt t x ≤ j → j ≤ t.length → j - i < d → api_Near_150.bs t x d i j = cnt t x := by
 intro d
 induction d with
 | zero => intro i j _ _ _ h; omega
 | succ d ih =>
  intro i j h1 h2 h3 h4
  rw [api_Near_150.bs]
  by_cases hlt : i < j
  ·rw [if_pos hlt]
   have hm : (i + j) / 2 < t.length := by omega
   have ha := cnt_at x t hs _ hm
   rw [gd t _ hm]
   by_cases hl : topk_Right.ord (t[(i + j) / 2]) x < 0
   ·rw [if_pos hl]
    have := ha.mp hl
    exact ih _ _ (by omega) h2 h3 (by omega)
   ·rw [if_neg hl]
    have := (not_congr ha).mp hl
    exact ih _ _ h1 (by omega) (by omega) (by omega)
  ·rw [if_neg hlt]; omega
theorem put_ev {S : List S74} (hS : Srt S) (hd : Dis S) (hm : AllMay S) (hl : S.length ≤ 1000) (x : S74) (hx : topk_Right.may x = true) (hid : ∀ y ∈ S, y.f1 ≠ x.f1) (n : Nat) (hn : 1 ≤ n ∧ n ≤ 64) : ∃ b, topk_Put.f (S.take n) (n : Int) x.f0 x.f1 x.f2 = some ((ins S x).take n, b) := by
 have hT : (S.take n).length = min n S.length := List.length_take
 have hst : Srt (S.take n) := hS.sublist (List.take_sublist _ _)
 have hR := right_ok (S.take n) n hn (by omega) hst (hd.sublist (List.take_sublist _ _)) (fun y hy => hm y (List.mem_of_mem_take hy))
 have hH : topk_Has.f (S.take n) x.f1 = some false := by
  unfold topk_Has.f
  rw [if_pos (by omega), has_no (fun y hy => hid y (List.mem_of_mem_take hy))]
 have hc := cnt_le (S.take n) x
 have hat : topk_Put.at (S.take n) x.f0 x.f1 x.f2 = cnt (S.take n) x := bs_cnt (S.take n) hst x ((S.take n).length + 1) 0 (S.take n).length (Nat.zero_le _) hc (Nat.le_refl _) (by omega)
 unfold topk_Put.f
 rw [hR, Option.bind_some, if_pos rfl, if_pos (show topk_Right.may ⟨x.f0, x.f1, x.f2⟩ = true from hx), hH, Option.bind_some, if_neg (by decide), hat, ins_take hS x n]
 by_cases he : cnt (S.take n) x = n
 ·rw [if_pos (by omega), if_pos he]; exact ⟨_, rfl⟩
 ·rw [if_neg (by omega), if_neg he, if_pos ⟨by omega, hc, by omega⟩, Int.toNat_natCast]; exact ⟨_, rfl⟩
theorem fresh_ev (a out : List S74) (ha : a.length ≤ 1000000000) (ho : out.length ≤ 1000) : ∀ (d i : Nat) (c : Nat), i + d = out.length → c ≤ i → ∃ c', Ev (fun k => topk_Merge.l1 k a out (c : Int) out (out.length : Int) (i : Int)) (out, c') := by
 intro d
 induction d with
 | zero =>
  intro i c hi _
  exact ⟨_, Ev.step (f := fun _ => some (out, (c : Int))) (fun k => by rw [topk_Merge.l1, if_neg (by omega)]) (Ev.now _)⟩
 | succ d ih =>
  intro i c hi hc
  have hlt : i < out.length := by omega
  have hH : topk_Has.f a out[i].f1 = some (a.any fun x => x.f1 == out[i].f1) := by unfold topk_Has.f; rw [if_pos ha]
  cases hb : (a.any fun x => x.f1 == out[i].f1) with
  | true =>
   obtain ⟨c', h⟩ := ih (i + 1) c (by omega) (by omega)
   refine ⟨c', Ev.step (fun k => ?_) h⟩
   rw [topk_Merge.l1, if_pos (by omega), if_pos (by omega), if_pos (by omega), rd_nat out i hlt, hH, hb, Option.bind_some, if_pos rfl, wsucc i (by omega)]
  | false =>
   obtain ⟨c', h⟩ := ih (i + 1) (c + 1) (by omega) (by omega)
   refine ⟨c', Ev.step (fun k => ?_) h⟩
   rw [topk_Merge.l1, if_pos (by omega), if_pos (by omega), if_pos (by omega), rd_nat out i hlt, hH, hb, Option.bind_some, if_neg (by decide), wsucc i (by omega), wsucc c (by omega)]
theorem allmay_ins {S : List S74} (hm : AllMay S) {x : S74} (hx : topk_Right.may x = true) : AllMay (ins S x) := fun y hy => by
 rcases List.mem_cons.mp ((ins_perm S x).mem_iff.mp hy) with rfl | h
 ·exact hx
 ·exact hm y h
theorem merge_loop (a : List S74) (ha : a.length ≤ 1000000000) (n : Nat) (hn : 1 ≤ n ∧ n ≤ 64) (b : List S74) (hb : b.length ≤ 100) : ∀ (d i : Nat) (S : List S74), i + d = b.length → Srt S → Dis (S ++ b.drop i) → AllMay S → AllMay b → S.length ≤ 100 + i →
  ∃ c, Ev (fun k => topk_Merge.l0 k a (n : Int) (S.take n) b (b.length : Int) (i : Int)) ((srt S (b.drop i)).take n, c) := by
 intro d
 induction d with
 | zero =>
  intro i S hi hS hd hm hmb hl
  obtain ⟨c, h⟩ := fresh_ev a (S.take n) ha (by rw [List.length_take]; omega) (S.take n).length 0 0 (by omega) (Nat.le_refl _)
  rw [List.drop_eq_nil_of_le (by omega)]
  exact ⟨c, Ev.step (fun k => by rw [topk_Merge.l0, if_neg (by omega)]; rfl) h⟩
 | succ d ih =>
  intro i S hi hS hd hm hmb hl
  have hlt : i < b.length := by omega
  rw [List.drop_eq_getElem_cons hlt] at hd ⊢
  have hid : ∀ y ∈ S, y.f1 ≠ b[i].f1 := fun y hy => (List.pairwise_append.mp hd).2.2 y hy _ List.mem_cons_self
  have hx := hmb b[i] (List.getElem_mem hlt)
  obtain ⟨q, hp⟩ := put_ev hS (List.pairwise_append.mp hd).1 hm (by omega) b[i] hx hid n hn
  obtain ⟨c, h⟩ := ih (i + 1) (ins S b[i]) (by omega) (ins_srt hS hid) (dis_perm (List.perm_middle.trans ((ins_perm S b[i]).symm.append_right _)) hd) (allmay_ins hm hx) hmb (by rw [(ins_perm S b[i]).length_eq, List.length_cons]; omega)
  refine ⟨c, Ev.step (fun k => ?_) h⟩
  rw [topk_Merge.l0, if_pos (by omega), if_pos (by omega), if_pos (by omega), rd_nat b i hlt, hp, Option.bind_some, wsucc i (by omega)]
theorem merge_ev (S b : List S74) (n : Nat) (hn : 1 ≤ n ∧ n ≤ 64) (hb : b.length ≤ 100) (hS : Srt S) (hd : Dis (S ++ b)) (hm : AllMay S) (hmb : AllMay b) (hl : S.length ≤ 100) : ∃ c, Ev (fun k => topk_Merge.f k (S.take n) b (n : Int)) ((srt S b).take n, c) := by
 have hT : (S.take n).length = min n S.length := List.length_take
 have hR := right_ok (S.take n) n hn (by omega) (hS.sublist (List.take_sublist _ _)) ((List.pairwise_append.mp hd).1.sublist (List.take_sublist _ _)) (fun y hy => hm y (List.mem_of_mem_take hy))
 obtain ⟨c, h⟩ := merge_loop (S.take n) (by omega) n hn b hb b.length 0 S (by omega) hS hd hm hmb (by omega)
 refine ⟨c, Ev.congr (fun k => ?_) h⟩
 unfold topk_Merge.f
 rw [hR, Option.bind_some, if_pos rfl]; rfl
theorem best_ev (b : List S74) (n : Nat) (hn : 1 ≤ n ∧ n ≤ 64) (hb : b.length ≤ 100) (hd : Dis b) (hmb : AllMay b) : Ev (fun k => topk_Best.f k b (n : Int)) ((srt [] b).take n) := by
 obtain ⟨c, h⟩ := merge_ev [] b n hn hb List.Pairwise.nil hd (fun y hy => by cases hy) hmb (Nat.zero_le _)
 rw [List.take_nil] at h
 exact Ev.bind h (Ev.now _)
theorem refhas (l : List S74) (hl : l.length ≤ 1000) (id : Int) : ∀ d i : Nat, i + d = l.length → Ev (fun k => chainmanref12_Has.l0 k l id (i : Int)) ((l.drop i).any fun x => x.f1 == id) := by
 intro d
 induction d with
 | zero =>
  intro i hi
  rw [List.drop_eq_nil_of_le (by omega)]
  exact Ev.step (f := fun _ => some false) (fun k => by rw [chainmanref12_Has.l0, if_neg (by omega)]) (Ev.now _)
 | succ d ih =>
  intro i hi
  have hlt : i < l.length := by omega
  rw [List.drop_eq_getElem_cons hlt, List.any_cons]
  by_cases h : l[i].f1 = id
  ·rw [show (l[i].f1 == id) = true by simpa using h, Bool.true_or]
   exact Ev.step (f := fun _ => some true) (fun k => by rw [chainmanref12_Has.l0, if_pos (by omega), if_pos (by omega), rd_nat l i hlt, if_pos h]) (Ev.now _)
  ·rw [show (l[i].f1 == id) = false by simpa using h, Bool.false_or]
   exact Ev.step (fun k => by rw [chainmanref12_Has.l0, if_pos (by omega), if_pos (by omega), rd_nat l i hlt, if_neg h, wsucc i (by omega)]) (ih (i + 1) (by omega))
theorem refhas_ev (l : List S74) (hl : l.length ≤ 1000) (id : Int) : Ev (fun k => chainmanref12_Has.f k l id) (l.any fun x => x.f1 == id) := refhas l hl id l.length 0 (by omega)
theorem refone (a : S74) : chainmanref12_One.f a.f0 a.f1 a.f2 = some (topk_Right.may a) := topk_Right.may_f a
theorem refless (a b : S74) : chainmanref12_Less.f a.f0 a.f1 a.f2 b.f0 b.f1 b.f2 = some (decide (less a b)) := by
 have h := less_iff a b
 unfold chainmanref12_Less.f
 by_cases h1 : a.f0 < b.f0
 ·rw [if_pos h1, decide_eq_true (h.mpr (.inl h1))]
 ·rw [if_neg h1]
  by_cases h2 : a.f0 = b.f0
  ·rw [if_pos h2]; exact congrArg some (decide_eq_decide.mpr (by rw [h]; omega))
  ·rw [if_neg h2, decide_eq_false (fun hl => by have := h.mp hl; omega)]
theorem refright (t : List S74) (n : Nat) (hn : 1 ≤ n ∧ n ≤ 64) (hl : t.length ≤ n) (hs : Srt t) (hd : Dis t) (hm : AllMay t) : Ev (fun k => chainmanref12_Right.f k t (n : Int)) true := by
 have loop : ∀ d i : Nat, i + d = t.length → Ev (fun k => chainmanref12_Right.l0 k t (i : Int)) true := by
  intro d
  induction d with
  | zero => intro i hi; exact Ev.step (f := fun _ => some true) (fun k => by rw [chainmanref12_Right.l0, if_neg (by omega)]) (Ev.now _)
  | succ d ih =>
   intro i hi
   have hlt : i < t.length := by omega
   have hH := refhas_ev (t.take i) (by rw [List.length_take]; omega) t[i].f1
   rw [has_no (dis_at hd i hlt)] at hH
   have hmi := hm _ (List.getElem_mem hlt)
   cases i with
   | zero =>
    refine Ev.step (f := fun k => (chainmanref12_Has.f k (t.take 0) t[0].f1).bind fun q => if q = true then some false else chainmanref12_Right.l0 k t ((1 : Nat) : Int)) (fun k => ?_) (Ev.bind hH (ih 1 (by omega)))
    rw [chainmanref12_Right.l0, if_pos (by omega), if_pos (by omega), rd_nat t 0 hlt, refone, hmi, Option.bind_some, if_pos rfl, if_neg (by decide), if_pos (by omega), show wrap64 (((0 : Nat) : Int) + 1) = ((1 : Nat) : Int) from wsucc 0 (by omega), Int.toNat_natCast]
   | succ i =>
    have hlt' : i < t.length := by omega
    have hle : less t[i] t[i + 1] := List.pairwise_iff_getElem.mp hs i (i + 1) hlt' hlt (by omega)
    have hw : wrap64 (((i + 1 : Nat) : Int) - 1) = (i : Int) := by unfold wrap64; omega
    have HW := Aside0.mk hw
    clear hw
    have e1 : ((i + 1 : Nat) : Int) < (t.length : Int) := by omega
    have e2 : 0 ≤ ((i + 1 : Nat) : Int) := by omega
    have e3 : ((i + 1 : Nat) : Int) > 0 := by omega
    have e4 : 0 ≤ (i : Int) := by omega
    have e5 : (i : Int) < (t.length : Int) := by omega
    have e6 : ((i + 1 : Nat) : Int) ≤ (t.length : Int) := by omega
    have e7 : i + 1 < 1000000 := by omega
    refine Ev.step (f := fun k => (chainmanref12_Has.f k (t.take (i + 1)) t[i + 1].f1).bind fun q => if q = true then some false else chainmanref12_Right.l0 k t ((i + 1 + 1 : Nat) : Int)) (fun k => ?_) (Ev.bind hH (ih (i + 1 + 1) (by omega)))
    rw [chainmanref12_Right.l0, if_pos e1, if_pos e2, rd_nat t (i + 1) hlt, refone, hmi, Option.bind_some, if_pos rfl, if_pos e3, HW.out, if_pos e4, if_pos e5, rd_nat t i hlt', refless, decide_eq_true hle, Option.bind_some, if_pos rfl, if_pos e6, Int.toNat_natCast, wsucc (i + 1) e7]
 have hj : Ev (fun k => chainmanref12_Right.j0 k t false) true := Ev.step (fun k => by rw [chainmanref12_Right.j0, if_neg (by decide)]; rfl) (loop t.length 0 (by omega))
 refine Ev.congr (fun k => ?_) hj
 unfold chainmanref12_Right.f
 rw [if_neg (by omega), if_neg (by omega), decide_eq_false (by omega)]
theorem refsame (l : List S74) (hl : l.length ≤ 1000) : Ev (fun k => chainmanref12_Same.f k l l) true := by
 have loop : ∀ d i : Nat, i + d = l.length → Ev (fun k => chainmanref12_Same.l0 k l l (i : Int)) true := by
  intro d
  induction d with
  | zero => intro i hi; exact Ev.step (f := fun _ => some true) (fun k => by rw [chainmanref12_Same.l0, if_neg (by omega)]) (Ev.now _)
  | succ d ih =>
   intro i hi
   exact Ev.step (fun k => by rw [chainmanref12_Same.l0, if_pos (by omega), if_pos (by omega), if_pos (by omega), if_neg (by simp), wsucc i (by omega)]) (ih (i + 1) (by omega))
 refine Ev.congr (fun k => ?_) (loop l.length 0 (by omega))
 unfold chainmanref12_Same.f
 rw [if_pos rfl]; rfl
theorem rdL (l : List (List Int)) (i : Nat) (h : i < l.length) : rd_L1 l (i : Int) = l[i] := by
 unfold rd_L1
 rw [Int.toNat_natCast, List.getD_eq_getElem?_getD, List.getElem?_eq_getElem h]; rfl
theorem rdL0 (l : List (List Int)) (h : 0 < l.length) : rd_L1 l 0 = l.headD [] := by
 cases l with
 | nil => simp at h
 | cons v l => rfl
theorem rdI (v : List Int) (j : Nat) (h : j < v.length) : rd v (j : Int) = v[j] := by
 unfold rd
 rw [Int.toNat_natCast, List.getD_eq_getElem?_getD, List.getElem?_eq_getElem h]; rfl
theorem all_drop {α : Type} (p : α → Bool) (l : List α) (i : Nat) (h : i < l.length) : (l.drop i).all p = (p l[i] && (l.drop (i + 1)).all p) := by rw [List.drop_eq_getElem_cons h]; rfl
def fits (x : Int) : Bool := !dist_Right.isfar x
theorem fits_iff (x : Int) : fits x = true ↔ -16777216 < x ∧ x < 16777216 := by
 unfold fits
 rw [Bool.not_eq_true', Di.far_iff]
 omega
theorem right_in (l : List (List Int)) (i : Nat) (hi : i < l.length) (hl : l[i].length ≤ 100) (r : Bool) (hn : Ev (fun k => chainmanref10_Right.l0 k l ((i + 1 : Nat) : Int)) r) (hi' : i < 1000) : ∀ d j, j + d = l[i].length → Ev (fun k => chainmanref10_Right.l1 k l (i : Int) (j : Int)) ((l[i].drop j).all fits && r) := by
 intro d
 induction d with
 | zero =>
  intro j hj
  rw [List.drop_of_length_le (by omega), List.all_nil, Bool.true_and]
  refine Ev.step (fun k => ?_) hn
  rw [chainmanref10_Right.l1, if_pos (by omega), if_pos (by omega), rdL l i hi, if_neg (by omega), wsucc i (by omega)]
 | succ d ih =>
  intro j hj
  have hlt : j < l[i].length := by omega
  rw [all_drop fits _ j hlt]
  by_cases hf : fits l[i][j] = true
  ·rw [hf, Bool.true_and]
   rw [fits_iff] at hf
   refine Ev.step (fun k => ?_) (ih (j + 1) (by omega))
   rw [chainmanref10_Right.l1, if_pos (by omega), if_pos (by omega), rdL l i hi, if_pos (by omega), if_pos (by omega), rdI _ j hlt, if_neg (by omega), if_neg (by omega), wsucc j (by omega)]
  ·have hf' : fits l[i][j] = false := by rw [Bool.eq_false_iff]; exact hf
   rw [hf', Bool.false_and, Bool.false_and]
   rw [fits_iff] at hf
   refine Ev.step (f := fun _ => some false) (fun k => ?_) (Ev.now _)
   rw [chainmanref10_Right.l1, if_pos (by omega), if_pos (by omega), rdL l i hi, if_pos (by omega), if_pos (by omega), rdI _ j hlt]
   by_cases h1 : l[i][j] ≤ -16777216
   ·rw [if_pos h1]
   ·rw [if_neg h1, if_pos (by omega)]
def okV (d : Nat) (v : List Int) : Bool := decide (1 ≤ v.length) && (decide (v.length = d) && v.all fits)
theorem right_out (l : List (List Int)) (hl : l.length ≤ 20) (hv : ∀ v ∈ l, v.length ≤ 20) : ∀ d i, i + d = l.length → Ev (fun k => chainmanref10_Right.l0 k l (i : Int)) ((l.drop i).all (okV (l.headD []).length) && decide (1 ≤ l.length)) := by
 intro d
 induction d with
 | zero =>
  intro i hi
  rw [List.drop_of_length_le (by omega), List.all_nil, Bool.true_and]
  refine Ev.step (f := fun k => chainmanref10_Right.j1 k l (i : Int) false) (fun k => by rw [chainmanref10_Right.l0, if_neg (by omega)]) (Ev.step (f := fun _ => some _) (fun k => ?_) (Ev.now _))
  rw [chainmanref10_Right.j1, if_neg (by decide)]
  by_cases h1 : 1 ≤ l.length
  ·rw [if_pos (by omega), decide_eq_true h1, decide_eq_true (by omega)]
  ·rw [if_neg (by omega), decide_eq_false h1]
 | succ d ih =>
  intro i hi
  have hlt : i < l.length := by omega
  have hvl : l[i].length ≤ 20 := hv _ (List.getElem_mem hlt)
  rw [all_drop _ _ i hlt]
  refine Ev.step (f := fun k => chainmanref10_Right.j1 k l (i : Int) true) (fun k => by rw [chainmanref10_Right.l0, if_pos (by omega), decide_eq_true (by omega)]) ?_
  have j2n : ∀ b : Bool, b = true → Ev (fun k => chainmanref10_Right.j2 k l (i : Int) b) false := fun b hb => Ev.step (f := fun _ => some false) (fun k => by rw [chainmanref10_Right.j2, if_pos hb]) (Ev.now _)
  have s1 : ∀ k, chainmanref10_Right.j1 (k + 1) l (i : Int) true = (if ((l[i]).length : Int) < 1 then (chainmanref10_Right.j2 k l (i : Int) true) else (if ((l[i]).length : Int) > 4096 then (chainmanref10_Right.j2 k l (i : Int) true) else (chainmanref10_Right.j2 k l (i : Int) (((l[i]).length : Int) != ((l.headD []).length : Int))))) := fun k => by
   rw [chainmanref10_Right.j1, if_pos rfl, if_pos (by omega), if_pos (by omega), rdL l i hlt, rdL0 l (by omega)]
   rw [if_pos (show 0 < (l.length : Int) by omega)]
  by_cases h1 : 1 ≤ l[i].length
  case neg =>
   rw [show okV (l.headD []).length l[i] = false by unfold okV; rw [decide_eq_false h1]; rfl, Bool.false_and, Bool.false_and]
   exact Ev.step (fun k => by rw [s1, if_pos (by omega)]) (j2n true rfl)
  by_cases h2 : l[i].length = (l.headD []).length
  case neg =>
   rw [show okV (l.headD []).length l[i] = false by unfold okV; rw [decide_eq_false h2]; simp, Bool.false_and, Bool.false_and]
   exact Ev.step (fun k => by rw [s1, if_neg (by omega), if_neg (by omega)]) (j2n _ (by rw [bne_iff_ne]; omega))
  have hb : (((l[i]).length : Int) != ((l.headD []).length : Int)) = false := by rw [h2]; simp
  refine Ev.step (f := fun k => chainmanref10_Right.j2 k l (i : Int) false) (fun k => by rw [s1, if_neg (by omega), if_neg (by omega), hb]) ?_
  refine Ev.step (fun k => by rw [chainmanref10_Right.j2, if_neg (by decide)]) ?_
  have := right_in l i hlt (by omega) _ (ih (i + 1) (by omega)) (by omega) l[i].length 0 (by omega)
  rw [show okV (l.headD []).length l[i] = l[i].all fits by unfold okV; rw [decide_eq_true h1, decide_eq_true h2]; simp, Bool.and_assoc]
  rw [List.drop_zero] at this
  exact this
theorem right_ev (l : List (List Int)) (hl : l.length ≤ 20) (hv : ∀ v ∈ l, v.length ≤ 20) : Ev (fun k => chainmanref10_Right.f k l) (l.all (okV (l.headD []).length) && decide (1 ≤ l.length)) := by
 have := right_out l hl hv l.length 0 (by omega)
 rw [List.drop_zero] at this
 exact this
theorem headD_getD (l : List (List Int)) : l.getD 0 [] = l.headD [] := by cases l <;> rfl
theorem mright (l : List (List Int)) (hl : l.length ≤ 20) (hv : ∀ v ∈ l, v.length ≤ 20) : model_right.f l = some (l.all (okV (l.headD []).length) && decide (1 ≤ l.length)) := by
 unfold model_right.f
 rw [headD_getD, decide_eq_true (show l.length ≤ 1048576 by omega), Bool.and_true]
 congr 1
 rw [Bool.and_comm]
 congr 1
 refine Bool.eq_iff_iff.mpr ⟨fun h => List.all_eq_true.mpr (fun x hx => ?_), fun h => List.all_eq_true.mpr (fun x hx => ?_)⟩
 ·have h1 := List.all_eq_true.mp h x hx
  unfold model_right.one_ at h1
  simp only [Bool.and_eq_true, decide_eq_true_eq, Bool.not_eq_true', List.any_eq_false] at h1
  unfold okV
  simp only [Bool.and_eq_true, decide_eq_true_eq, List.all_eq_true]
  exact ⟨by omega, h1.1, fun y hy => by unfold fits; rw [Bool.not_eq_true']; simpa using h1.2.2 y hy⟩
 ·have h1 := List.all_eq_true.mp h x hx
  unfold okV at h1
  simp only [Bool.and_eq_true, decide_eq_true_eq, List.all_eq_true] at h1
  unfold model_right.one_
  simp only [Bool.and_eq_true, decide_eq_true_eq, Bool.not_eq_true', List.any_eq_false]
  have := hv x hx
  exact ⟨h1.2.1, ⟨by omega, by omega⟩, fun y hy => by have := h1.2.2 y hy; unfold fits at this; simpa using this⟩
/-- Vectors. -/
def Good (v : List (List Int)) : Prop := ∀ x ∈ v, Di.Fit x ∧ x.length = (v.headD []).length
theorem good_of {v : List (List Int)} (hv : ∀ x ∈ v, x.length ≤ 20) (h : v.all (okV (v.headD []).length) = true) : Good v := fun x hx => by
 have h1 := List.all_eq_true.mp h x hx
 unfold okV at h1
 simp only [Bool.and_eq_true, decide_eq_true_eq, List.all_eq_true] at h1
 have h2 := hv x hx
 refine ⟨⟨by omega, by omega, fun i hi => ?_⟩, h1.2.1⟩
 rw [rdI x i hi]
 have := (fits_iff _).mp (h1.2.2 x[i] (List.getElem_mem hi))
 omega
theorem few_loop (v : List (List Int)) (m w : Nat) (hm : m < 1000000) : ∀ (d i : Nat), i + d = m → (∀ j (h : j < v.length), j < i → (v[j]).length ≤ w) →
  ∃ b, Ev (fun k => chainmanref10_Few.l0 k v (m : Int) (w : Int) (i : Int)) b ∧ (b = true → v.length ≤ m ∧ ∀ x ∈ v, x.length ≤ w) := by
 intro d
 induction d with
 | zero =>
  intro i hi hj
  refine ⟨decide ((v.length : Int) ≤ (m : Int)), Ev.step (f := fun k => chainmanref10_Few.j1 k v (m : Int) (w : Int) (i : Int) false) (fun k => ?_) (Ev.step (f := fun _ => some (decide ((v.length : Int) ≤ (m : Int)))) (fun k => ?_) (Ev.now _)), fun h => ?_⟩
  ·rw [chainmanref10_Few.l0]
   by_cases c : (i : Int) < (v.length : Int)
   ·rw [if_pos c, decide_eq_false (by omega)]
   ·rw [if_neg c]
  ·rw [chainmanref10_Few.j1, if_neg (by decide)]
  ·have := of_decide_eq_true h
   refine ⟨by omega, fun x hx => ?_⟩
   obtain ⟨j, hjl, rfl⟩ := List.getElem_of_mem hx
   exact hj j hjl (by omega)
 | succ d ih =>
  intro i hi hj
  by_cases c : i < v.length
  ·by_cases c2 : (v[i]).length ≤ w
   ·obtain ⟨b, h1, h2⟩ := ih (i + 1) (by omega) (fun j h h2 => by
     by_cases e : j = i
     ·subst e; exact c2
     ·exact hj j h (by omega))
    refine ⟨b, Ev.step (f := fun k => chainmanref10_Few.j1 k v (m : Int) (w : Int) (i : Int) true) (fun k => ?_) (Ev.step (fun k => ?_) h1), h2⟩
    ·rw [chainmanref10_Few.l0, if_pos (by omega), decide_eq_true (by omega)]
    ·rw [chainmanref10_Few.j1, if_pos rfl, if_pos (by omega), if_pos (by omega), rdL _ _ c, if_neg (by omega), wsucc i (by omega)]
   ·refine ⟨false, Ev.step (f := fun k => chainmanref10_Few.j1 k v (m : Int) (w : Int) (i : Int) true) (fun k => ?_) (Ev.step (f := fun _ => some false) (fun k => ?_) (Ev.now _)), fun h => by cases h⟩
    ·rw [chainmanref10_Few.l0, if_pos (by omega), decide_eq_true (by omega)]
    ·rw [chainmanref10_Few.j1, if_pos rfl, if_pos (by omega), if_pos (by omega), rdL _ _ c, if_pos (by omega)]
  ·refine ⟨true, Ev.step (f := fun k => chainmanref10_Few.j1 k v (m : Int) (w : Int) (i : Int) false) (fun k => ?_) (Ev.step (f := fun _ => some true) (fun k => ?_) (Ev.now _)), fun _ => ⟨by omega, fun x hx => ?_⟩⟩
   ·rw [chainmanref10_Few.l0, if_neg (by omega)]
   ·rw [chainmanref10_Few.j1, if_neg (by decide), decide_eq_true (by omega)]
   ·obtain ⟨j, hjl, rfl⟩ := List.getElem_of_mem hx
    exact hj j hjl (by omega)
theorem few_ev (v : List (List Int)) (m w : Nat) (hm : m < 1000000) : ∃ b, Ev (fun k => chainmanref10_Few.f k v (m : Int) (w : Int)) b ∧ (b = true → v.length ≤ m ∧ ∀ x ∈ v, x.length ≤ w) :=
 few_loop v m w hm m 0 (by omega) (fun j h h2 => absurd h2 (Nat.not_lt_zero _))
theorem rdG (v : List (List Int)) (i : Nat) : rd_L1 v (i : Int) = v.getD i [] := by unfold rd_L1; rw [Int.toNat_natCast]
theorem getD_mem {v : List (List Int)} {P : List Int → Prop} (h : ∀ x ∈ v, P x) (i : Nat) (hi : i < v.length) : P (v.getD i []) := by
 rw [List.getD_eq_getElem?_getD, List.getElem?_eq_getElem hi]; exact h _ (List.getElem_mem hi)
def W (v : List (List Int)) (eps : Int) (i k : Nat) : Bool := dist_Within.f (v.getD i []) (v.getD k []) eps == some true
theorem within_at (v : List (List Int)) (eps : Int) (i k : Nat) : dist_Within.f (v.getD i []) (v.getD k []) eps = some (W v eps i k) := by
 obtain ⟨p, hp⟩ := Di.within_some (v.getD i []) (v.getD k []) eps
 unfold W
 rw [hp]; cases p <;> rfl
theorem refwithin (v : List (List Int)) (hv : ∀ x ∈ v, x.length ≤ 20) (eps : Int) (i k : Nat) (hi : i < v.length) (hk : k < v.length) : Ev (fun K => chainmanref11_Within.f K (v.getD i []) (v.getD k []) eps) (W v eps i k) :=
 ⟨100, fun K hK => by
  have h1 := getD_mem hv i hi
  have h2 := getD_mem hv k hk
  show chainmanref11_Within.f K (v.getD i []) (v.getD k []) eps = _
  rw [Di.ref_within _ _ _ (by omega) (by omega) K hK, within_at]⟩
abbrev P47 := S47
def el (v : List (List Int)) (eps : Int) (i k : Nat) : List P47 := if W v eps i k = true then [⟨(i : Int), (k : Int)⟩] else []
def rowf (v : List (List Int)) (eps : Int) (i j d : Nat) : List P47 := (List.range' j d).flatMap (el v eps i)
def docl (v : List (List Int)) (eps : Int) (i d : Nat) : List P47 := (List.range' i d).flatMap fun i => rowf v eps i (i + 1) (v.length - (i + 1))
theorem rowf_succ (v : List (List Int)) (eps : Int) (i j d : Nat) : rowf v eps i j (d + 1) = el v eps i j ++ rowf v eps i (j + 1) d := by
 unfold rowf; rw [List.range'_succ, List.flatMap_cons]
theorem docl_succ (v : List (List Int)) (eps : Int) (i d : Nat) : docl v eps i (d + 1) = rowf v eps i (i + 1) (v.length - (i + 1)) ++ docl v eps (i + 1) d := by
 unfold docl; rw [List.range'_succ, List.flatMap_cons]
theorem pairs_in (v : List (List Int)) (hl : v.length ≤ 20) (hv : ∀ x ∈ v, x.length ≤ 20) (eps : Int) (i : Nat) (hi : i < v.length) (R : List P47) (L : Nat) (hL : L ≤ 100000)
  (hn : ∀ acc : List P47, acc.length ≤ L → Ev (fun k => chainmanref33_Pairs.l0 k v eps acc ((i + 1 : Nat) : Int)) (acc ++ R)) :
  ∀ d j (acc : List P47), j + d = v.length → acc.length + d ≤ L → Ev (fun k => chainmanref33_Pairs.l1 k v eps acc (i : Int) (j : Int)) (acc ++ (rowf v eps i j d ++ R)) := by
 intro d
 induction d with
 | zero =>
  intro j acc hj ha
  refine Ev.step (fun k => ?_) (hn acc (by omega))
  rw [chainmanref33_Pairs.l1, if_neg (by omega), wsucc i (by omega)]
 | succ d ih =>
  intro j acc hj ha
  refine Ev.step (fun k => by rw [chainmanref33_Pairs.l1, if_pos (by omega), if_pos (by omega), if_pos (by omega), if_pos (by omega), rdG, rdG]) ?_
  refine Ev.bind (refwithin v hv eps i j hi (by omega)) ?_
  rw [rowf_succ]
  have he : el v eps i j = if W v eps i j = true then [⟨(i : Int), (j : Int)⟩] else [] := rfl
  cases hw : W v eps i j with
  | true =>
   rw [hw, if_pos rfl] at he
   rw [he]
   have := ih (j + 1) (acc ++ [⟨(i : Int), (j : Int)⟩]) (by omega) (by rw [List.length_append, List.length_singleton]; omega)
   rw [List.append_assoc] at this
   rw [List.append_assoc]
   exact Ev.congr (fun k => by rw [if_pos rfl, if_pos (by omega), wsucc j (by omega)]) this
  | false =>
   rw [hw, if_neg (by decide)] at he
   rw [he, List.nil_append]
   exact Ev.congr (fun k => by rw [if_neg (by decide), wsucc j (by omega)]) (ih (j + 1) acc (by omega) (by omega))
theorem pairs_out (v : List (List Int)) (hl : v.length ≤ 20) (hv : ∀ x ∈ v, x.length ≤ 20) (eps : Int) :
  ∀ d i (acc : List P47), i + d = v.length → acc.length + 20 * d ≤ 1000 → Ev (fun k => chainmanref33_Pairs.l0 k v eps acc (i : Int)) (acc ++ docl v eps i d) := by
 intro d
 induction d with
 | zero =>
  intro i acc hi ha
  rw [show docl v eps i 0 = [] from rfl, List.append_nil]
  exact Ev.step (f := fun _ => some acc) (fun k => by rw [chainmanref33_Pairs.l0, if_neg (by omega)]) (Ev.now _)
 | succ d ih =>
  intro i acc hi ha
  refine Ev.step (fun k => by rw [chainmanref33_Pairs.l0, if_pos (by omega), wsucc i (by omega)]) ?_
  rw [docl_succ]
  exact pairs_in v hl hv eps i (by omega) (docl v eps (i + 1) d) (1000 - 20 * d) (by omega) (fun acc' h' => ih (i + 1) acc' (by omega) (by omega)) (v.length - (i + 1)) (i + 1) acc (by omega) (by omega)
theorem refpairs (v : List (List Int)) (hl : v.length ≤ 20) (hv : ∀ x ∈ v, x.length ≤ 20) (eps : Int) (b : Bool) (hb : Ev (fun k => chainmanref10_Right.f k v) b) : Ev (fun k => chainmanref33_Pairs.f k v eps) (if b = true then docl v eps 0 v.length else []) := by
 refine Ev.congr (fun k => by unfold chainmanref33_Pairs.f; rfl) (Ev.bind hb ?_)
 cases b with
 | true =>
  have := pairs_out v hl hv eps v.length 0 [] (by omega) (by simp; omega)
  exact Ev.congr (fun k => if_pos rfl) this
 | false => exact Ev.now _
theorem wi_eq (v : List (List Int)) (eps : Int) (b a : Nat) : model_Pairs.wi v eps b a = some (W v eps a b) := within_at v eps a b
theorem ok_all (v : List (List Int)) (eps : Int) : model_Pairs.ok v eps = true := by
 unfold model_Pairs.ok
 exact List.all_eq_true.mpr (fun b _ => List.all_eq_true.mpr (fun a _ => by rw [wi_eq]; rfl))
theorem es_mem (v : List (List Int)) (eps : Int) (n : Nat) (p : P47) : p ∈ model_Pairs.es v eps n ↔ ∃ b a, b < n ∧ a < b ∧ W v eps a b = true ∧ p = ⟨(a : Int), (b : Int)⟩ := by
 unfold model_Pairs.es model_Pairs.row model_Pairs.el
 simp only [List.mem_flatMap, List.mem_range, wi_eq]
 constructor
 ·rintro ⟨b, hb, a, ha, hp⟩
  split at hp
  ·rename_i h; exact ⟨b, a, hb, ha, by simpa using h, List.mem_singleton.mp hp⟩
  ·cases hp
 ·rintro ⟨b, a, hb, ha, hw, rfl⟩
  refine ⟨b, hb, a, ha, ?_⟩
  rw [if_pos (by rw [hw])]; simp
theorem doc_mem (v : List (List Int)) (eps : Int) (p : P47) : p ∈ docl v eps 0 v.length ↔ ∃ b a, b < v.length ∧ a < b ∧ W v eps a b = true ∧ p = ⟨(a : Int), (b : Int)⟩ := by
 unfold docl rowf el
 simp only [List.mem_flatMap, List.mem_range'_1]
 constructor
 ·rintro ⟨a, ha, b, hb, hp⟩
  split at hp
  ·rename_i h; exact ⟨b, a, by omega, by omega, h, List.mem_singleton.mp hp⟩
  ·cases hp
 ·rintro ⟨b, a, hb, ha, hw, rfl⟩
  refine ⟨a, by omega, b, by omega, ?_⟩
  rw [if_pos hw]; simp
theorem plt {a b : P47} : model_Pairs.lt a b = true ↔ a.f0 < b.f0 ∨ (a.f0 = b.f0 ∧ a.f1 < b.f1) := by unfold model_Pairs.lt; exact decide_eq_true_iff
theorem doc_srt (v : List (List Int)) (eps : Int) (i d : Nat) : (docl v eps i d).Pairwise (fun a b => model_Pairs.lt a b = true) := by
 unfold docl
 rw [List.pairwise_flatMap]
 refine ⟨fun i _ => ?_, (List.pairwise_lt_range' (s := i) (n := d)).imp (fun {a b} hab x hx y hy => ?_)⟩
 ·unfold rowf
  rw [List.pairwise_flatMap]
  refine ⟨fun k _ => by unfold el; split <;> simp, (List.pairwise_lt_range' (s := i + 1) (n := v.length - (i + 1))).imp (fun {a b} hab x hx y hy => ?_)⟩
  unfold el at hx hy
  split at hx
  ·split at hy
   ·rw [List.mem_singleton.mp hx, List.mem_singleton.mp hy, plt]; exact Or.inr ⟨rfl, by show (a : Int) < (b : Int); omega⟩
   ·cases hy
  ·cases hx
 ·unfold rowf el at hx hy
  simp only [List.mem_flatMap] at hx hy
  obtain ⟨k, _, hx⟩ := hx
  obtain ⟨m, _, hy⟩ := hy
  split at hx
  ·split at hy
   ·rw [List.mem_singleton.mp hx, List.mem_singleton.mp hy, plt]; exact Or.inl (by show (a : Int) < (b : Int); omega)
   ·cases hy
  ·cases hx
theorem es_nodup (v : List (List Int)) (eps : Int) (n : Nat) : (model_Pairs.es v eps n).Nodup := by
 unfold model_Pairs.es List.Nodup
 rw [List.pairwise_flatMap]
 refine ⟨fun b _ => ?_, List.pairwise_lt_range.imp (fun {a b} hab x hx y hy => ?_)⟩
 ·unfold model_Pairs.row
  rw [List.pairwise_flatMap]
  refine ⟨fun a _ => by unfold model_Pairs.el; split <;> simp, List.pairwise_lt_range.imp (fun {a c} hac x hx y hy => ?_)⟩
  unfold model_Pairs.el at hx hy
  split at hx
  ·split at hy
   ·rw [List.mem_singleton.mp hx, List.mem_singleton.mp hy]; intro e; injection e with e1 e2; omega
   ·cases hy
  ·cases hx
 ·unfold model_Pairs.row model_Pairs.el at hx hy
  simp only [List.mem_flatMap] at hx hy
  obtain ⟨k, _, hx⟩ := hx
  obtain ⟨m, _, hy⟩ := hy
  split at hx
  ·split at hy
   ·rw [List.mem_singleton.mp hx, List.mem_singleton.mp hy]; intro e; injection e with e1 e2; omega
   ·cases hy
  ·cases hx
theorem srt_eq (v : List (List Int)) (eps : Int) : ((model_Pairs.es v eps v.length).mergeSort fun x y => !(ltOf model_Pairs.cf) y x) = docl v eps 0 v.length := by
 have hs : ((model_Pairs.es v eps v.length).mergeSort fun x y => !(ltOf model_Pairs.cf) y x).Pairwise (fun a b => ltOf model_Pairs.cf b a = false) := by
  have := List.pairwise_mergeSort (le := fun x y => !(ltOf model_Pairs.cf) y x) (fun a b c h1 h2 => by
   simp only [Bool.not_eq_true'] at h1 h2 ⊢
   exact model_Pairs.swo.ntrans c b a h2 h1) (fun a b => by
   rw [model_Pairs.lt_of, model_Pairs.lt_of]
   cases q : model_Pairs.lt b a with
   | false => rfl
   | true =>
    cases r : model_Pairs.lt a b with
    | false => rfl
    | true => rw [plt] at q r; omega) (model_Pairs.es v eps v.length)
  exact this.imp (fun h => by simpa using h)
 have hp : ((model_Pairs.es v eps v.length).mergeSort fun x y => !(ltOf model_Pairs.cf) y x).Perm (docl v eps 0 v.length) := by
  refine (List.mergeSort_perm _ _).trans ((List.perm_ext_iff_of_nodup (es_nodup v eps v.length) ?_).mpr (fun p => by rw [es_mem, doc_mem]))
  exact (doc_srt v eps 0 v.length).imp (fun {a b} h e => by rw [e, plt] at h; omega)
 refine List.Perm.eq_of_pairwise (le := fun a b => ltOf model_Pairs.cf b a = false) (fun a b _ _ h1 h2 => model_Pairs.tot a b h2 h1) hs ?_ hp
 exact (doc_srt v eps 0 v.length).imp (fun {a b} h => by rw [model_Pairs.lt_of, Bool.eq_false_iff]; intro h2; rw [plt] at h h2; omega)
theorem row_len (v : List (List Int)) (eps : Int) (b : Nat) : ∀ j, (model_Pairs.row v eps b j).length ≤ j := by
 intro j
 induction j with
 | zero => exact Nat.le_refl _
 | succ j ih =>
  rw [model_Pairs.row_step, List.length_append]
  have : (model_Pairs.el v eps b j).length ≤ 1 := by unfold model_Pairs.el; split <;> simp
  omega
theorem es_len (v : List (List Int)) (eps : Int) : ∀ n, n ≤ 20 → (model_Pairs.es v eps n).length ≤ 20 * n := by
 intro n
 induction n with
 | zero => intro _; exact Nat.le_refl _
 | succ n ih =>
  intro h
  rw [model_Pairs.es_step, List.length_append]
  have := ih (by omega)
  have := row_len v eps n n
  omega
theorem mpairs (v : List (List Int)) (hl : v.length ≤ 20) (eps : Int) (b : Bool) (hb : model_right.f v = some b) : Ev (fun k => model_Pairs.f k v eps) (if b = true then docl v eps 0 v.length else []) := by
 refine Ev.of (fun k => model_Pairs.mono _ _ k) (k := 4) ?_
 unfold model_Pairs.f
 rw [hb, Option.bind_some]
 cases b with
 | true =>
  rw [if_pos rfl, if_pos rfl, if_pos ⟨Nat.le_refl _, by have := es_len v eps v.length hl; omega, ok_all v eps⟩, srt_eq]
 | false => rfl
theorem doc_len (v : List (List Int)) (hl : v.length ≤ 20) (eps : Int) : (docl v eps 0 v.length).length ≤ 1000 := by
 rw [← srt_eq, List.length_mergeSort]
 have := es_len v eps v.length hl
 omega
theorem samepairs (l : List P47) (hl : l.length ≤ 1000) : Ev (fun k => chainmanref30_SamePairs.f k l l) true := by
 have loop : ∀ d i : Nat, i + d = l.length → Ev (fun k => chainmanref30_SamePairs.l0 k l l (i : Int)) true := by
  intro d
  induction d with
  | zero => intro i hi; exact Ev.step (f := fun _ => some true) (fun k => by rw [chainmanref30_SamePairs.l0, if_neg (by omega)]) (Ev.now _)
  | succ d ih =>
   intro i hi
   exact Ev.step (fun k => by rw [chainmanref30_SamePairs.l0, if_pos (by omega), if_pos (by omega), if_pos (by omega), if_neg (by simp), wsucc i (by omega)]) (ih (i + 1) (by omega))
 refine Ev.congr (fun k => ?_) (loop l.length 0 (by omega))
 unfold chainmanref30_SamePairs.f
 rw [if_pos rfl]; rfl
theorem put_tail (T : List S74) (x : S74) (n c : Nat) (hc : c ≤ T.length) (hl : T.length ≤ 1000) (hn : n ≤ 64) (y : List S74) (hy : y = T.take c ++ [x]) :
  (if (c : Int) ≤ (T.length : Int) then ((some (T.drop (c : Int).toNat : List S74)).bind fun y2 => (if y.length + y2.length < 5864062014805 then ((some (y ++ y2 : List S74)).bind fun z => (if 0 ≤ (mn (n : Int) (z.length : Int)) then (if (mn (n : Int) (z.length : Int)) ≤ (z.length : Int) then (some ((z.take ((mn (n : Int) (z.length : Int)) : Int).toNat), true)) else (none)) else (none))) else (none))) else (none)) = some ((T.take c ++ [x] ++ T.drop c).take (min n (T.length + 1)), true) := by
 subst hy
 have e1 : (T.take c ++ [x]).length = c + 1 := by rw [List.length_append, List.length_take, List.length_singleton]; omega
 have e2 : (T.take c ++ [x] ++ T.drop c).length = T.length + 1 := by rw [List.length_append, e1, List.length_drop]; omega
 rw [if_pos (by omega), Option.bind_some, Int.toNat_natCast, if_pos (by rw [e1, List.length_drop]; omega), Option.bind_some, e2]
 have e3 : mn (n : Int) ((T.length + 1 : Nat) : Int) = ((min n (T.length + 1) : Nat) : Int) := by unfold mn; split <;> omega
 rw [e3, if_pos (by omega), if_pos (by omega), Int.toNat_natCast]
theorem refput_loop (T : List S74) (hs : Srt T) (hl : T.length ≤ 1000) (x : S74) (n : Nat) (hn : n ≤ 64) : ∀ d i : Nat, i + d = cnt T x →
  ∃ b, Ev (fun k => chainmanref12_Put.l0 k T (n : Int) (T.take i) (i : Int) x.f0 x.f1 x.f2) (if cnt T x = n then T else (T.take (cnt T x) ++ [x] ++ T.drop (cnt T x)).take (min n (T.length + 1)), b) := by
 intro d
 induction d with
 | zero =>
  intro i hi
  have hi' : i = cnt T x := by omega
  have hc := cnt_le T x
  have hlen : (T.take i).length = i := by rw [List.length_take]; omega
  by_cases hlt : i < T.length
  ·have hle : ¬ less T[i] x := fun h => by have := (cnt_at x T hs i hlt).mp h; omega
   by_cases hcn : i = n
   ·rw [if_pos (by omega)]
    refine ⟨false, Ev.step (f := fun _ => some (T, false)) (fun k => ?_) (Ev.now _)⟩
    rw [chainmanref12_Put.l0, if_pos (by omega), if_pos (by omega), rd_nat T i hlt, refless, decide_eq_false hle, Option.bind_some, if_neg (by decide), if_pos (by omega)]
   ·rw [if_neg (by omega), ← hi']
    refine ⟨true, Ev.step (f := fun _ => some ((T.take i ++ [x] ++ T.drop i).take (min n (T.length + 1)), true)) (fun k => ?_) (Ev.now _)⟩
    rw [chainmanref12_Put.l0, if_pos (by omega), if_pos (by omega), rd_nat T i hlt, refless, decide_eq_false hle, Option.bind_some, if_neg (by decide), if_neg (by omega), if_pos (by omega), Option.bind_some]
    exact put_tail T x n i (by omega) hl hn _ rfl
  ·by_cases hcn : i = n
   ·rw [if_pos (by omega)]
    refine ⟨false, Ev.step (f := fun _ => some (T, false)) (fun k => ?_) (Ev.now _)⟩
    rw [chainmanref12_Put.l0, if_neg (by omega), if_pos (by omega)]
   ·rw [if_neg (by omega), ← hi']
    refine ⟨true, Ev.step (f := fun _ => some ((T.take i ++ [x] ++ T.drop i).take (min n (T.length + 1)), true)) (fun k => ?_) (Ev.now _)⟩
    rw [chainmanref12_Put.l0, if_neg (by omega), if_neg (by omega), if_pos (by omega), Option.bind_some, if_pos (by omega)]
    exact put_tail T x n i (by omega) hl hn _ rfl
 | succ d ih =>
  intro i hi
  have hc := cnt_le T x
  have hlt : i < T.length := by omega
  have hle : less T[i] x := (cnt_at x T hs i hlt).mpr (by omega)
  obtain ⟨b, h⟩ := ih (i + 1) (by omega)
  have hlen : (T.take i).length = i := by rw [List.length_take]; omega
  have e1 : T.take (i + 1) = T.take i ++ [T[i]] := by rw [List.take_add_one, List.getElem?_eq_getElem hlt]; rfl
  rw [e1] at h
  refine ⟨b, Ev.step (fun k => ?_) h⟩
  rw [chainmanref12_Put.l0, if_pos (by omega), if_pos (by omega), rd_nat T i hlt, refless, decide_eq_true hle, Option.bind_some, if_pos rfl, if_pos (by omega), wsucc i (by omega)]
theorem refput_ev {S : List S74} (hS : Srt S) (hd : Dis S) (hm : AllMay S) (hl : S.length ≤ 1000) (x : S74) (hx : topk_Right.may x = true) (hid : ∀ y ∈ S, y.f1 ≠ x.f1) (n : Nat) (hn : 1 ≤ n ∧ n ≤ 64) : ∃ b, Ev (fun k => chainmanref12_Put.f k (S.take n) (n : Int) x.f0 x.f1 x.f2) ((ins S x).take n, b) := by
 have hT : (S.take n).length = min n S.length := List.length_take
 have hst : Srt (S.take n) := hS.sublist (List.take_sublist _ _)
 obtain ⟨b, h⟩ := refput_loop (S.take n) hst (by omega) x n hn.2 (cnt (S.take n) x) 0 (by omega)
 rw [← ins_take hS x n] at h
 refine ⟨b, ?_⟩
 refine Ev.congr (fun k => by unfold chainmanref12_Put.f; rfl) (Ev.bind (refright (S.take n) n hn (by omega) hst (hd.sublist (List.take_sublist _ _)) (fun y hy => hm y (List.mem_of_mem_take hy))) ?_)
 refine Ev.congr (fun k => by rw [if_pos rfl, refone, hx, Option.bind_some, if_pos rfl]) ?_
 have hh := refhas_ev (S.take n) (by omega) x.f1
 rw [has_no (fun y hy => hid y (List.mem_of_mem_take hy))] at hh
 refine Ev.bind hh ?_
 exact Ev.step (fun k => by rw [chainmanref12_Put.j0, if_neg (by decide)]; rfl) h
theorem reffresh_ev (a out : List S74) (ha : a.length ≤ 1000) (ho : out.length ≤ 1000) : ∀ (d i : Nat) (c : Nat), i + d = out.length → c ≤ i → ∃ c', Ev (fun k => chainmanref12_Merge.l1 k a out (c : Int) (i : Int)) (out, c') := by
 intro d
 induction d with
 | zero =>
  intro i c hi _
  exact ⟨_, Ev.step (f := fun _ => some (out, (c : Int))) (fun k => by rw [chainmanref12_Merge.l1, if_neg (by omega)]) (Ev.now _)⟩
 | succ d ih =>
  intro i c hi hc
  have hlt : i < out.length := by omega
  have hH := refhas_ev a ha out[i].f1
  cases hb : (a.any fun x => x.f1 == out[i].f1) with
  | true =>
   rw [hb] at hH
   obtain ⟨c', h⟩ := ih (i + 1) c (by omega) (by omega)
   refine ⟨c', Ev.step (fun k => by rw [chainmanref12_Merge.l1, if_pos (by omega), if_pos (by omega), rd_nat out i hlt]) (Ev.bind hH (Ev.congr (fun k => ?_) h))⟩
   rw [if_pos rfl, wsucc i (by omega)]
  | false =>
   rw [hb] at hH
   obtain ⟨c', h⟩ := ih (i + 1) (c + 1) (by omega) (by omega)
   refine ⟨c', Ev.step (fun k => by rw [chainmanref12_Merge.l1, if_pos (by omega), if_pos (by omega), rd_nat out i hlt]) (Ev.bind hH (Ev.congr (fun k => ?_) h))⟩
   rw [if_neg (by decide), wsucc i (by omega), wsucc c (by omega)]
theorem refmerge_loop (a : List S74) (ha : a.length ≤ 1000) (n : Nat) (hn : 1 ≤ n ∧ n ≤ 64) (b : List S74) (hb : b.length ≤ 100) : ∀ (d i : Nat) (S : List S74), i + d = b.length → Srt S → Dis (S ++ b.drop i) → AllMay S → AllMay b → S.length ≤ 100 + i →
  ∃ c, Ev (fun k => chainmanref12_Merge.l0 k a b (n : Int) (S.take n) (i : Int)) ((srt S (b.drop i)).take n, c) := by
 intro d
 induction d with
 | zero =>
  intro i S hi hS hd hm hmb hl
  obtain ⟨c, h⟩ := reffresh_ev a (S.take n) ha (by rw [List.length_take]; omega) (S.take n).length 0 0 (by omega) (Nat.le_refl _)
  rw [List.drop_eq_nil_of_le (by omega)]
  exact ⟨c, Ev.step (fun k => by rw [chainmanref12_Merge.l0, if_neg (by omega)]; rfl) h⟩
 | succ d ih =>
  intro i S hi hS hd hm hmb hl
  have hlt : i < b.length := by omega
  rw [List.drop_eq_getElem_cons hlt] at hd ⊢
  have hid : ∀ y ∈ S, y.f1 ≠ b[i].f1 := fun y hy => (List.pairwise_append.mp hd).2.2 y hy _ List.mem_cons_self
  have hx := hmb b[i] (List.getElem_mem hlt)
  obtain ⟨q, hp⟩ := refput_ev hS (List.pairwise_append.mp hd).1 hm (by omega) b[i] hx hid n hn
  obtain ⟨c, h⟩ := ih (i + 1) (ins S b[i]) (by omega) (ins_srt hS hid) (dis_perm (List.perm_middle.trans ((ins_perm S b[i]).symm.append_right _)) hd) (allmay_ins hm hx) hmb (by rw [(ins_perm S b[i]).length_eq, List.length_cons]; omega)
  refine ⟨c, Ev.step (fun k => by rw [chainmanref12_Merge.l0, if_pos (by omega), if_pos (by omega), rd_nat b i hlt]) (Ev.bind hp (Ev.congr (fun k => ?_) h))⟩
  rw [wsucc i (by omega)]
theorem refbest_ev (b : List S74) (n : Nat) (hn : 1 ≤ n ∧ n ≤ 64) (hb : b.length ≤ 100) (hd : Dis b) (hmb : AllMay b) : Ev (fun k => chainmanref12_Best.f k b (n : Int)) ((srt [] b).take n) := by
 have hR := refright [] n hn (Nat.zero_le _) List.Pairwise.nil List.Pairwise.nil (fun y hy => by cases hy)
 obtain ⟨c, h⟩ := refmerge_loop [] (Nat.zero_le _) n hn b hb b.length 0 [] (by omega) List.Pairwise.nil hd (fun y hy => by cases hy) hmb (Nat.zero_le _)
 rw [List.take_nil] at h
 have hg : Ev (fun k => chainmanref12_Merge.f k [] b (n : Int)) ((srt [] b).take n, c) := Ev.congr (fun k => by unfold chainmanref12_Merge.f; rfl) (Ev.bind hR (Ev.congr (fun k => if_pos rfl) h))
 exact Ev.bind hg (Ev.now _)
def D (v : List (List Int)) (i j : Nat) : Int := Di.sq (v.getD i []) (v.getD j []) (v.getD i []).length
theorem rows_fit {v : List (List Int)} (hg : Good v) (i j : Nat) (hi : i < v.length) (hj : j < v.length) : Di.Fit (v.getD i []) ∧ Di.Fit (v.getD j []) ∧ (v.getD j []).length = (v.getD i []).length := by
 have h1 := getD_mem hg i hi
 have h2 := getD_mem hg j hj
 exact ⟨h1.1, h2.1, by rw [h1.2, h2.2]⟩
theorem near_at {v : List (List Int)} (hg : Good v) (i j : Nat) (hi : i < v.length) (hj : j < v.length) : model_near.f v (i : Int) (j : Int) = some (D v i j, (j : Int), true) := by
 obtain ⟨h1, h2, h3⟩ := rows_fit hg i j hi hj
 unfold model_near.f
 rw [if_pos (by omega), if_pos (by omega), if_pos (by omega), if_pos (by omega), rdG, rdG, Di.square_fit h1 h2 h3, Option.bind_some]
 rfl
theorem refsquare {v : List (List Int)} (hv : ∀ x ∈ v, x.length ≤ 20) (hg : Good v) (i j : Nat) (hi : i < v.length) (hj : j < v.length) : Ev (fun K => chainmanref11_Square.f K (v.getD i []) (v.getD j [])) (D v i j, 0) :=
 ⟨100, fun K hK => by
  have b1 := getD_mem hv i hi
  have b2 := getD_mem hv j hj
  obtain ⟨h1, h2, h3⟩ := rows_fit hg i j hi hj
  show chainmanref11_Square.f K (v.getD i []) (v.getD j []) = _
  rw [Di.ref_square _ _ (by omega) (by omega) K hK, Di.square_fit h1 h2 h3]; rfl⟩
theorem D_may {v : List (List Int)} (hv : ∀ x ∈ v, x.length ≤ 20) (hg : Good v) (i j : Nat) (hi : i < v.length) (hj : j < v.length) : 0 ≤ D v i j ∧ D v i j ≤ 4611686018427387904 := by
 obtain ⟨h1, h2, h3⟩ := rows_fit hg i j hi hj
 have b1 := getD_mem hv i hi
 have := (Di.sum_sq h1 h2 h3 _ (Nat.le_refl _)).2
 unfold D
 omega
def ne (v : List (List Int)) (i j : Nat) : List S74 := if j = i then [] else [⟨D v i j, (j : Int), false⟩]
def nl (v : List (List Int)) (i j d : Nat) : List S74 := (List.range' j d).flatMap (ne v i)
theorem nl_succ (v : List (List Int)) (i j d : Nat) : nl v i j (d + 1) = ne v i j ++ nl v i (j + 1) d := by
 unfold nl; rw [List.range'_succ, List.flatMap_cons]
theorem nl_mem {v : List (List Int)} {i j d : Nat} {x : S74} (h : x ∈ nl v i j d) : ∃ m, j ≤ m ∧ m < j + d ∧ x = ⟨D v i m, (m : Int), false⟩ := by
 unfold nl ne at h
 simp only [List.mem_flatMap, List.mem_range'_1] at h
 obtain ⟨m, hm, hx⟩ := h
 split at hx
 ·cases hx
 ·exact ⟨m, hm.1, hm.2, List.mem_singleton.mp hx⟩
theorem nl_dis (v : List (List Int)) (i j d : Nat) : Dis (nl v i j d) := by
 unfold Dis nl
 rw [List.pairwise_flatMap]
 refine ⟨fun m _ => by unfold ne; split <;> simp, (List.pairwise_lt_range' (s := j) (n := d)).imp (fun {a b} hab x hx y hy => ?_)⟩
 unfold ne at hx hy
 split at hx
 ·cases hx
 ·split at hy
  ·cases hy
  ·rw [List.mem_singleton.mp hx, List.mem_singleton.mp hy]; show (a : Int) ≠ (b : Int); omega
theorem nl_len (v : List (List Int)) (i : Nat) : ∀ d j, (nl v i j d).length ≤ d := by
 intro d
 induction d with
 | zero => intro j; exact Nat.le_refl _
 | succ d ih =>
  intro j
  rw [nl_succ, List.length_append]
  have := ih (j + 1)
  have : (ne v i j).length ≤ 1 := by unfold ne; split <;> simp
  omega
theorem nl_may {v : List (List Int)} (hl : v.length ≤ 20) (hv : ∀ x ∈ v, x.length ≤ 20) (hg : Good v) (i : Nat) (hi : i < v.length) : AllMay (nl v i 0 v.length) := fun y hy => by
 obtain ⟨m, _, hm, rfl⟩ := nl_mem hy
 have := D_may hv hg i m hi (by omega)
 unfold topk_Right.may
 simp only [Bool.and_eq_true, decide_eq_true_eq]
 omega
/-- The n nearest ones of one. -/
def bestl (v : List (List Int)) (n i : Nat) : List S74 := (srt [] (nl v i 0 v.length)).take n
theorem exact_in {v : List (List Int)} (hl : v.length ≤ 20) (hg : Good v) (n : Nat) (i : Nat) (hi : i < v.length) (x5 : List (List S74)) (R : List (List S74))
  (hn : ∀ acc : List S74, acc = nl v i 0 v.length → Ev (fun k => (topk_Best.f k acc (n : Int)).bind fun t => if 0 ≤ (i : Int) then (if (i : Int) < (x5.length : Int) then (model_Exact.l0 k v (n : Int) (x5.set (i : Int).toNat t) (v.length : Int) (wrap64 ((i : Int) + 1))) else none) else none) R) :
  ∀ d j (acc : List S74), j + d = v.length → acc.length ≤ j → acc ++ nl v i j d = nl v i 0 v.length → Ev (fun k => model_Exact.l1 k v (n : Int) x5 (i : Int) acc (v.length : Int) (i : Int) (v.length : Int) (j : Int)) R := by
 intro d
 induction d with
 | zero =>
  intro j acc hj ha he
  rw [show nl v i j 0 = [] from rfl, List.append_nil] at he
  exact Ev.step (fun k => by rw [model_Exact.l1, if_neg (by omega)]) (hn acc he)
 | succ d ih =>
  intro j acc hj ha he
  rw [nl_succ] at he
  by_cases hji : j = i
  ·rw [show ne v i j = [] by unfold ne; rw [if_pos hji], List.nil_append] at he
   exact Ev.step (fun k => by rw [model_Exact.l1, if_pos (by omega), if_pos (by omega), wsucc j (by omega)]) (ih (j + 1) acc (by omega) (by omega) he)
  ·rw [show ne v i j = [⟨D v i j, (j : Int), false⟩] by unfold ne; rw [if_neg hji], ← List.append_assoc] at he
   refine Ev.step (fun k => ?_) (ih (j + 1) _ (by omega) (by rw [List.length_append, List.length_singleton]; omega) he)
   rw [model_Exact.l1, if_pos (by omega), if_neg (by omega), near_at hg i j hi (by omega), Option.bind_some, if_pos (by omega), wsucc j (by omega)]
theorem exact_out {v : List (List Int)} (hl : v.length ≤ 20) (hv : ∀ x ∈ v, x.length ≤ 20) (hg : Good v) (n : Nat) (hn : 1 ≤ n ∧ n ≤ 64) :
  ∀ d i, i + d = v.length → Ev (fun k => model_Exact.l0 k v (n : Int) ((List.range i).map (bestl v n) ++ List.replicate d []) (v.length : Int) (i : Int)) ((List.range v.length).map (bestl v n)) := by
 intro d
 induction d with
 | zero =>
  intro i hi
  obtain rfl : i = v.length := by omega
  refine Ev.step (f := fun _ => some _) (fun k => by rw [model_Exact.l0, if_neg (by omega), List.replicate_zero, List.append_nil]) (Ev.now _)
 | succ d ih =>
  intro i hi
  have hlt : i < v.length := by omega
  refine Ev.step (fun k => by rw [model_Exact.l0, if_pos (by omega)]) ?_
  refine exact_in hl hg n i hlt _ _ (fun acc hacc => ?_) v.length 0 [] (by omega) (Nat.le_refl _) rfl
  subst hacc
  refine Ev.bind (best_ev _ n hn (by have := nl_len v i v.length 0; omega) (nl_dis v i 0 v.length) (nl_may hl hv hg i hlt)) ?_
  have e1 : ((List.range i).map (bestl v n) ++ List.replicate (d + 1) []).length = v.length := by simp; omega
  have e2 : ((List.range i).map (bestl v n) ++ List.replicate (d + 1) []).set i (bestl v n i) = (List.range (i + 1)).map (bestl v n) ++ List.replicate d [] := by
   rw [List.set_append_right _ _ (by simp), List.range_succ, List.map_append, List.replicate_succ]
   simp
  refine Ev.congr (fun k => ?_) (ih (i + 1) (by omega))
  rw [if_pos (by omega), e1, if_pos (by omega), Int.toNat_natCast, wsucc i (by omega)]
  show model_Exact.l0 k v (n : Int) (((List.range i).map (bestl v n) ++ List.replicate (d + 1) []).set i (bestl v n i)) _ _ = _
  rw [e2]
theorem mexact {v : List (List Int)} (hl : v.length ≤ 20) (hv : ∀ x ∈ v, x.length ≤ 20) (n : Int) (b : Bool) (hb : model_right.f v = some b) (hg : b = true → Good v) : Ev (fun k => model_Exact.f k v n) (if b = true ∧ 1 ≤ n ∧ n ≤ 64 then (List.range v.length).map (bestl v n.toNat) else []) := by
 have hj : Ev (fun k => model_Exact.j0 k v n true) [] := Ev.step (f := fun _ => some []) (fun k => by rw [model_Exact.j0, if_pos rfl]) (Ev.now _)
 refine Ev.congr (fun k => by unfold model_Exact.f; rw [hb, Option.bind_some]) ?_
 cases b with
 | false => rw [if_neg (by simp)]; exact Ev.congr (fun k => if_neg (by decide)) hj
 | true =>
  refine Ev.congr (fun k => if_pos rfl) ?_
  by_cases h1 : n < 1
  ·rw [if_neg (by omega)]; exact Ev.congr (fun k => if_pos h1) hj
  ·refine Ev.congr (fun k => if_neg h1) ?_
   by_cases h2 : n > 64
   ·rw [if_neg (by omega), decide_eq_true h2]; exact hj
   ·rw [if_pos ⟨rfl, by omega, by omega⟩, decide_eq_false h2]
    obtain ⟨m, rfl⟩ := Int.eq_ofNat_of_zero_le (show 0 ≤ n by omega)
    have := exact_out hl hv (hg rfl) m ⟨by omega, by omega⟩ v.length 0 (by omega)
    rw [List.range_zero, List.map_nil, List.nil_append] at this
    refine Ev.step (fun k => ?_) this
    rw [model_Exact.j0, if_neg (by decide), if_pos (by omega), if_pos (by omega), Int.toNat_natCast]; rfl
theorem refexact_in {v : List (List Int)} (hl : v.length ≤ 20) (hv : ∀ x ∈ v, x.length ≤ 20) (hg : Good v) (n : Nat) (i : Nat) (hi : i < v.length) (x5 : List (List S74)) (R : List (List S74))
  (hn : ∀ acc : List S74, acc = nl v i 0 v.length → Ev (fun k => (chainmanref12_Best.f k acc (n : Int)).bind fun t => if x5.length < 5864062014805 then (chainmanref33_Exact.l0 k v (n : Int) (x5 ++ [t]) (wrap64 ((i : Int) + 1))) else none) R) :
  ∀ d j (acc : List S74), j + d = v.length → acc.length ≤ j → acc ++ nl v i j d = nl v i 0 v.length → Ev (fun k => chainmanref33_Exact.l1 k v (n : Int) x5 (i : Int) acc (j : Int)) R := by
 intro d
 induction d with
 | zero =>
  intro j acc hj ha he
  rw [show nl v i j 0 = [] from rfl, List.append_nil] at he
  exact Ev.step (fun k => by rw [chainmanref33_Exact.l1, if_neg (by omega)]) (hn acc he)
 | succ d ih =>
  intro j acc hj ha he
  rw [nl_succ] at he
  by_cases hji : j = i
  ·rw [show ne v i j = [] by unfold ne; rw [if_pos hji], List.nil_append] at he
   exact Ev.step (fun k => by rw [chainmanref33_Exact.l1, if_pos (by omega), if_pos (by omega), wsucc j (by omega)]) (ih (j + 1) acc (by omega) (by omega) he)
  ·rw [show ne v i j = [⟨D v i j, (j : Int), false⟩] by unfold ne; rw [if_neg hji], ← List.append_assoc] at he
   refine Ev.step (fun k => by rw [chainmanref33_Exact.l1, if_pos (by omega), if_neg (by omega), if_pos (by omega), if_pos (by omega), if_pos (by omega), rdG, rdG]) ?_
   refine Ev.bind (refsquare hv hg i j hi (by omega)) ?_
   refine Ev.congr (fun k => ?_) (ih (j + 1) _ (by omega) (by rw [List.length_append, List.length_singleton]; omega) he)
   rw [if_pos (by omega), wsucc j (by omega)]
theorem refexact_out {v : List (List Int)} (hl : v.length ≤ 20) (hv : ∀ x ∈ v, x.length ≤ 20) (hg : Good v) (n : Nat) (hn : 1 ≤ n ∧ n ≤ 64) :
  ∀ d i, i + d = v.length → Ev (fun k => chainmanref33_Exact.l0 k v (n : Int) ((List.range i).map (bestl v n)) (i : Int)) ((List.range v.length).map (bestl v n)) := by
 intro d
 induction d with
 | zero =>
  intro i hi
  obtain rfl : i = v.length := by omega
  exact Ev.step (f := fun _ => some _) (fun k => by rw [chainmanref33_Exact.l0, if_neg (by omega)]) (Ev.now _)
 | succ d ih =>
  intro i hi
  have hlt : i < v.length := by omega
  refine Ev.step (fun k => by rw [chainmanref33_Exact.l0, if_pos (by omega)]) ?_
  refine refexact_in hl hv hg n i hlt _ _ (fun acc hacc => ?_) v.length 0 [] (by omega) (Nat.le_refl _) rfl
  subst hacc
  refine Ev.bind (refbest_ev _ n hn (by have := nl_len v i v.length 0; omega) (nl_dis v i 0 v.length) (nl_may hl hv hg i hlt)) ?_
  refine Ev.congr (fun k => ?_) (ih (i + 1) (by omega))
  rw [if_pos (by simp; omega), wsucc i (by omega), List.range_succ, List.map_append]
  rfl
theorem refexact {v : List (List Int)} (hl : v.length ≤ 20) (hv : ∀ x ∈ v, x.length ≤ 20) (n : Int) (b : Bool) (hb : Ev (fun k => chainmanref10_Right.f k v) b) (hg : b = true → Good v) : Ev (fun k => chainmanref33_Exact.f k v n) (if b = true ∧ 1 ≤ n ∧ n ≤ 64 then (List.range v.length).map (bestl v n.toNat) else []) := by
 have hj : Ev (fun k => chainmanref33_Exact.j0 k v n true) [] := Ev.step (f := fun _ => some []) (fun k => by rw [chainmanref33_Exact.j0, if_pos rfl]) (Ev.now _)
 refine Ev.congr (fun k => by unfold chainmanref33_Exact.f; rfl) (Ev.bind hb ?_)
 cases b with
 | false => rw [if_neg (by simp)]; exact Ev.congr (fun k => if_neg (by decide)) hj
 | true =>
  refine Ev.congr (fun k => if_pos rfl) ?_
  by_cases h1 : n < 1
  ·rw [if_neg (by omega)]; exact Ev.congr (fun k => if_pos h1) hj
  ·refine Ev.congr (fun k => if_neg h1) ?_
   by_cases h2 : n > 64
   ·rw [if_neg (by omega), decide_eq_true h2]; exact hj
   ·rw [if_pos ⟨rfl, by omega, by omega⟩, decide_eq_false h2]
    obtain ⟨m, rfl⟩ := Int.eq_ofNat_of_zero_le (show 0 ≤ n by omega)
    have := refexact_out hl hv (hg rfl) m ⟨by omega, by omega⟩ v.length 0 (by omega)
    exact Ev.step (fun k => by rw [chainmanref33_Exact.j0, if_neg (by decide)]; rfl) this
theorem bestl_len (v : List (List Int)) (hl : v.length ≤ 20) (n i : Nat) : (bestl v n i).length ≤ 100 := by
 unfold bestl
 rw [List.length_take, (srt_perm _ []).length_eq, List.nil_append]
 have := nl_len v i v.length 0
 omega
theorem rdN (l : List (List S74)) (i : Nat) (h : i < l.length) : rd_L7 l (i : Int) = l[i] := by
 unfold rd_L7
 rw [Int.toNat_natCast, List.getD_eq_getElem?_getD, List.getElem?_eq_getElem h]; rfl
theorem sameall (l : List (List S74)) (hl : l.length ≤ 1000) (hv : ∀ x ∈ l, x.length ≤ 1000) : Ev (fun k => chainmanref12_SameAll.f k l l) true := by
 have loop : ∀ d i : Nat, i + d = l.length → Ev (fun k => chainmanref12_SameAll.l0 k l l (i : Int)) true := by
  intro d
  induction d with
  | zero => intro i hi; exact Ev.step (f := fun _ => some true) (fun k => by rw [chainmanref12_SameAll.l0, if_neg (by omega)]) (Ev.now _)
  | succ d ih =>
   intro i hi
   have hlt : i < l.length := by omega
   refine Ev.step (fun k => by rw [chainmanref12_SameAll.l0, if_pos (by omega), if_pos (by omega), if_pos (by omega), rdN l i hlt]) ?_
   refine Ev.bind (refsame l[i] (hv _ (List.getElem_mem hlt))) ?_
   exact Ev.congr (fun k => by rw [if_pos rfl, wsucc i (by omega)]) (ih (i + 1) (by omega))
 refine Ev.congr (fun k => ?_) (loop l.length 0 (by omega))
 unfold chainmanref12_SameAll.f
 rw [if_pos rfl]; rfl
theorem hits_in (g h : List (List S74)) (i : Nat) (hi : i < g.length) (hi2 : i < h.length) (hg : g[i].length ≤ 20) (hh : h[i].length ≤ 20) (m : Int) (hi1 : i < 1000) (B : Nat) (hB : B ≤ 10000)
  (hn : ∀ c : Nat, c ≤ B + 20 → ∃ r : Int, Ev (fun k => model_Hits.l0 k g h (c : Int) m ((i + 1 : Nat) : Int)) r ∧ Ev (fun k => chainmanref33_Hits.l0 k g h (c : Int) ((i + 1 : Nat) : Int)) r) :
  ∀ d j c : Nat, j + d = g[i].length → c ≤ B + j → ∃ r : Int, Ev (fun k => model_Hits.l1 k g h (c : Int) (i : Int) m (i : Int) g[i] (g[i].length : Int) (j : Int)) r ∧ Ev (fun k => chainmanref33_Hits.l1 k g h (c : Int) (i : Int) (j : Int)) r := by
 intro d
 induction d with
 | zero =>
  intro j c hj hc
  obtain ⟨r, h1, h2⟩ := hn c (by omega)
  refine ⟨r, Ev.step (fun k => ?_) h1, Ev.step (fun k => ?_) h2⟩
  ·rw [model_Hits.l1, if_neg (by omega), wsucc i (by omega)]
  ·rw [chainmanref33_Hits.l1, if_pos (by omega), if_pos (by omega), rdN g i hi, if_neg (by omega), wsucc i (by omega)]
 | succ d ih =>
  intro j c hj hc
  have hlt : j < g[i].length := by omega
  have hH : topk_Has.f h[i] (g[i][j]).f1 = some (h[i].any fun x => x.f1 == (g[i][j]).f1) := by unfold topk_Has.f; rw [if_pos (by omega)]
  have hR := refhas_ev h[i] (by omega) (g[i][j]).f1
  cases hb : (h[i].any fun x => x.f1 == (g[i][j]).f1) with
  | true =>
   rw [hb] at hH hR
   obtain ⟨r, h1, h2⟩ := ih (j + 1) (c + 1) (by omega) (by omega)
   refine ⟨r, Ev.step (fun k => ?_) h1, Ev.step (fun k => by rw [chainmanref33_Hits.l1, if_pos (by omega), if_pos (by omega), rdN g i hi, if_pos (by omega), if_pos (by omega), if_pos (by omega), rdN h i hi2, rd_nat _ j hlt]) (Ev.bind hR (Ev.congr (fun k => ?_) h2))⟩
   ·rw [model_Hits.l1, if_pos (by omega), if_pos (by omega), if_pos (by omega), if_pos (by omega), if_pos (by omega), rdN h i hi2, rd_nat _ j hlt, hH, Option.bind_some, if_pos rfl, wsucc c (by omega), wsucc j (by omega)]
   ·rw [if_pos rfl, wsucc c (by omega), wsucc j (by omega)]
  | false =>
   rw [hb] at hH hR
   obtain ⟨r, h1, h2⟩ := ih (j + 1) c (by omega) (by omega)
   refine ⟨r, Ev.step (fun k => ?_) h1, Ev.step (fun k => by rw [chainmanref33_Hits.l1, if_pos (by omega), if_pos (by omega), rdN g i hi, if_pos (by omega), if_pos (by omega), if_pos (by omega), rdN h i hi2, rd_nat _ j hlt]) (Ev.bind hR (Ev.congr (fun k => ?_) h2))⟩
   ·rw [model_Hits.l1, if_pos (by omega), if_pos (by omega), if_pos (by omega), if_pos (by omega), if_pos (by omega), rdN h i hi2, rd_nat _ j hlt, hH, Option.bind_some, if_neg (by decide), wsucc j (by omega)]
   ·rw [if_neg (by decide), wsucc j (by omega)]
theorem hits_out (g h : List (List S74)) (hgl : g.length ≤ 12) (hg : ∀ i (hi : i < g.length), g[i].length ≤ 20 ∧ ∀ hi2 : i < h.length, h[i].length ≤ 20) (m : Nat) (hm : m = min g.length h.length) :
  ∀ d i c : Nat, i + d = m → c ≤ 20 * i → ∃ r : Int, Ev (fun k => model_Hits.l0 k g h (c : Int) (m : Int) (i : Int)) r ∧ Ev (fun k => chainmanref33_Hits.l0 k g h (c : Int) (i : Int)) r := by
 intro d
 induction d with
 | zero =>
  intro i c hi hc
  refine ⟨c, Ev.step (f := fun _ => some (c : Int)) (fun k => by rw [model_Hits.l0, if_neg (by omega)]) (Ev.now _), ?_⟩
  have hz : Ev (fun k => chainmanref33_Hits.j1 k g h (c : Int) (i : Int) false) (c : Int) := Ev.step (f := fun _ => some (c : Int)) (fun k => by rw [chainmanref33_Hits.j1, if_neg (by decide)]) (Ev.now _)
  refine Ev.step (fun k => ?_) hz
  rw [chainmanref33_Hits.l0]
  by_cases h1 : (i : Int) < (g.length : Int)
  ·rw [if_pos h1, decide_eq_false (by omega)]
  ·rw [if_neg h1]
 | succ d ih =>
  intro i c hi hc
  have hlt : i < g.length := by omega
  have hlt2 : i < h.length := by omega
  obtain ⟨r, h1, h2⟩ := hits_in g h i hlt hlt2 (hg i hlt).1 ((hg i hlt).2 hlt2) (m : Int) (by omega) (20 * i) (by omega) (fun c' hc' => ih (i + 1) c' (by omega) (by omega)) g[i].length 0 c (by omega) (by omega)
  refine ⟨r, Ev.step (fun k => ?_) h1, Ev.step (f := fun k => chainmanref33_Hits.j1 k g h (c : Int) (i : Int) true) (fun k => ?_) (Ev.step (fun k => by rw [chainmanref33_Hits.j1, if_pos rfl]; rfl) h2)⟩
  ·rw [model_Hits.l0, if_pos (by omega), if_pos (by omega), if_pos (by omega), rdN g i hlt]; rfl
  ·rw [chainmanref33_Hits.l0, if_pos (by omega), decide_eq_true (by omega)]
theorem hits_both (g h : List (List S74)) (hgl : g.length ≤ 12) (hg : ∀ i (hi : i < g.length), g[i].length ≤ 20 ∧ ∀ hi2 : i < h.length, h[i].length ≤ 20) : ∃ r : Int, Ev (fun k => model_Hits.f k g h) r ∧ Ev (fun k => chainmanref33_Hits.f k g h) r := by
 obtain ⟨r, h1, h2⟩ := hits_out g h hgl hg _ rfl (min g.length h.length) 0 0 (by omega) (by omega)
 refine ⟨r, Ev.congr (fun k => ?_) h1, h2⟩
 unfold model_Hits.f
 have e : mn (g.length : Int) (h.length : Int) = ((min g.length h.length : Nat) : Int) := by unfold mn; split <;> omega
 rw [e, if_pos (by omega), if_pos (by omega), Int.toNat_natCast, List.length_take, show min (min g.length h.length) g.length = min g.length h.length by omega]; rfl
theorem awake_ev : Ev (fun k => chainmanlaw33_awake.f k) true := by
 have hp : Ev (fun k => model_Pairs.f k [[0], [5], [6]] 1) [⟨1, 2⟩] := by
  have := mpairs [[0], [5], [6]] (by decide) 1 true (by decide +kernel)
  rw [show (if true = true then docl [[0], [5], [6]] 1 0 ([[0], [5], [6]] : List (List Int)).length else []) = [⟨1, 2⟩] by kernel_rfl] at this
  exact this
 refine Ev.congr (fun k => by unfold chainmanlaw33_awake.f; rfl) (Ev.bind (a := [[⟨25, 1, false⟩], [⟨1, 2, false⟩], [⟨1, 1, false⟩]]) (Ev.of (fun k => model_Exact.mono _ _ k) (k := 30) (by kernel_rfl)) ?_)
 refine Ev.bind hp ?_
 refine Ev.bind (a := true) (Ev.of (fun k => chainmanref12_SameAll.mono _ _ k) (k := 30) (by decide +kernel)) ?_
 refine Ev.congr (fun k => by rw [if_pos rfl, if_pos (by decide), if_pos (by decide), if_pos (by decide +kernel)]) ?_
 refine Ev.bind (a := 3) (Ev.of (fun k => model_Hits.mono _ _ k) (k := 30) (by decide +kernel)) ?_
 refine Ev.congr (fun k => if_pos rfl) ?_
 refine Ev.bind (a := false) (Ev.of (fun k => model_May.mono _ _ _ _ _ _ _ _ _ _ k) (k := 30) (by decide +kernel)) ?_
 exact Ev.now _
theorem ModelExact : chainmanlaw33_ModelExact.Pure := by
 intro v eps n g h w0 w1 w2 w3 w4
 refine Ev.rounds ?_
 have aw : Ev (fun k => (chainmanlaw33_awake.f k).bind fun t => some t) true := Ev.bind awake_ev (Ev.now _)
 have jt : Ev (fun k => chainmanlaw33_ModelExact.j0 k v eps n g h true) true := Ev.step (fun k => by rw [chainmanlaw33_ModelExact.j0, if_pos rfl]) aw
 obtain ⟨b, hb, hb'⟩ := few_ev v 12 6 (by omega)
 have hfew : Ev (fun k => chainmanlaw33_few.f k v) b := Ev.bind hb (Ev.now _)
 refine Ev.congr (fun k => by unfold chainmanlaw33_ModelExact.f; rfl) (Ev.bind hfew ?_)
 cases b with
 | false => exact Ev.congr (fun k => if_neg (by decide)) jt
 | true =>
 obtain ⟨hl, hv⟩ := hb' rfl
 refine Ev.congr (fun k => if_pos rfl) ?_
 by_cases h1 : (g.length : Int) > 12
 ·exact Ev.congr (fun k => if_pos h1) jt
 refine Ev.congr (fun k => if_neg h1) ?_
 by_cases h2 : (h.length : Int) > 12
 ·rw [decide_eq_true h2]; exact jt
 rw [decide_eq_false h2]
 refine Ev.step (fun k => by rw [chainmanlaw33_ModelExact.j0, if_neg (by decide)]) ?_
 have hl' : v.length ≤ 20 := by omega
 have hv' : ∀ x ∈ v, x.length ≤ 20 := fun x hx => by have := hv x hx; omega
 have hr := mright v hl' hv'
 have hR := right_ev v hl' hv'
 have hgood : (v.all (okV (v.headD []).length) && decide (1 ≤ v.length)) = true → Good v := fun h => good_of hv' (Bool.and_eq_true_iff.mp h).1
 generalize (v.all (okV (v.headD []).length) && decide (1 ≤ v.length)) = b at hr hR hgood
 have last : (∀ i (hi : i < g.length), g[i].length ≤ 20 ∧ ∀ hi2 : i < h.length, h[i].length ≤ 20) → Ev (fun k => chainmanlaw33_ModelExact.l0 k v eps n g h (g.length : Int)) true := by
  intro hrows
  refine Ev.step (fun k => by rw [chainmanlaw33_ModelExact.l0, if_neg (by omega)]) ?_
  refine Ev.bind (mpairs v hl' eps b hr) ?_
  refine Ev.bind (refpairs v hl' hv' eps b hR) ?_
  refine Ev.bind (samepairs _ (by split; exact doc_len v hl' eps; exact Nat.zero_le _)) ?_
  refine Ev.congr (fun k => if_pos rfl) ?_
  refine Ev.bind (mexact hl' hv' n b hr hgood) ?_
  refine Ev.bind (refexact hl' hv' n b hR hgood) ?_
  refine Ev.bind (sameall _ (by split <;> simp; omega) (fun x hx => by
   split at hx
   ·obtain ⟨i, _, rfl⟩ := List.mem_map.mp hx
    have := bestl_len v hl' n.toNat i
    omega
   ·cases hx)) ?_
  refine Ev.congr (fun k => if_pos rfl) ?_
  obtain ⟨r, q1, q2⟩ := hits_both g h (by omega) hrows
  refine Ev.bind q1 ?_
  refine Ev.bind q2 ?_
  exact Ev.congr (fun k => if_pos rfl) aw
 have loop : ∀ d i : Nat, i + d = g.length → (∀ j (hj : j < g.length), j < i → g[j].length ≤ 20 ∧ ∀ hj2 : j < h.length, h[j].length ≤ 20) → Ev (fun k => chainmanlaw33_ModelExact.l0 k v eps n g h (i : Int)) true := by
  intro d
  induction d with
  | zero =>
   intro i hi hrows
   obtain rfl : i = g.length := by omega
   exact last (fun j hj => hrows j hj hj)
  | succ d ih =>
   intro i hi hrows
   have hlt : i < g.length := by omega
   by_cases c1 : (g[i].length : Int) > 20
   ·exact Ev.step (fun k => by rw [chainmanlaw33_ModelExact.l0, if_pos (by omega), if_pos (by omega), rdN g i hlt, if_pos c1]) aw
   ·by_cases c2 : i < h.length
    ·by_cases c3 : (h[i].length : Int) > 20
     ·exact Ev.step (fun k => by rw [chainmanlaw33_ModelExact.l0, if_pos (by omega), if_pos (by omega), rdN g i hlt, if_neg c1, if_pos (by omega), rdN h i c2, if_pos c3]) aw
     ·refine Ev.step (fun k => by rw [chainmanlaw33_ModelExact.l0, if_pos (by omega), if_pos (by omega), rdN g i hlt, if_neg c1, if_pos (by omega), rdN h i c2, if_neg c3, wsucc i (by omega)]) (ih (i + 1) (by omega) (fun j hj hji => ?_))
      rcases Nat.lt_or_eq_of_le (Nat.le_of_lt_succ hji) with hji | rfl
      ·exact hrows j hj hji
      ·exact ⟨by omega, fun _ => by omega⟩
    ·refine Ev.step (fun k => by rw [chainmanlaw33_ModelExact.l0, if_pos (by omega), if_pos (by omega), rdN g i hlt, if_neg c1, if_neg (by omega), wsucc i (by omega)]) (ih (i + 1) (by omega) (fun j hj hji => ?_))
     rcases Nat.lt_or_eq_of_le (Nat.le_of_lt_succ hji) with hji | rfl
     ·exact hrows j hj hji
     ·exact ⟨by omega, fun hj2 => absurd hj2 c2⟩
 exact loop g.length 0 (by omega) (fun j _ hj => absurd hj (Nat.not_lt_zero _))
end Go.Proofs.Ytjjjafhchombcaa.Pure

