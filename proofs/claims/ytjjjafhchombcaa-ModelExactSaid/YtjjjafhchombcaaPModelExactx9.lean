/- The Go functions that the law reaches, and walks to them; printed by wip/tool/mkprint.py. -/
import Derived.Test.YtjjjafhchombcaaPModelExactx0
import Derived.Test.YtjjjafhchombcaaPModelExactx6
import Derived.Test.YtjjjafhchombcaaPModelExactx7
import Derived.Test.YtjjjafhchombcaaPModelExactx8
namespace Go.Proofs.Ytjjjafhchombcaa.PModelExact
open Go.RowKit Go.Proofs.YtjjjafhchombcaaW.PrintWords Go.Proofs.YtjjjafhchombcaaW.PrintLast Go.Proofs.YtjjjafhchombcaaW.PrintMore
attribute [local go_sem] max2_int min2_int max_two min_two max_three min_three max_four min_four   -- for this text's walks alone
set_option linter.unusedVariables false
set_option linter.unusedSimpArgs false

/-! ### topk_Put: function 116 -/
def topk_Put.at (l0 : List S74) (a2_0 : Int) (a2_1 : Int) (a2_2 : Bool) : Nat := api_Near_150.at l0 ⟨a2_0, a2_1, a2_2⟩
def topk_Put.f (l0 : List S74) (a1 : Int) (a2_0 : Int) (a2_1 : Int) (a2_2 : Bool) : Option (List S74 × Bool) :=
 (topk_Right.f l0 a1).bind fun ok => if ok = true then (if topk_Right.may ⟨a2_0, a2_1, a2_2⟩ = true then (topk_Has.f l0 a2_1).bind fun has => if has = true then some (l0, false) else
   (if (topk_Put.at l0 a2_0 a2_1 a2_2 : Int) = a1 then some (l0, false) else if l0.length ≤ 100000 ∧ topk_Put.at l0 a2_0 a2_1 a2_2 ≤ l0.length ∧ 0 ≤ a1 then some ((l0.take (topk_Put.at l0 a2_0 a2_1 a2_2) ++ [(⟨a2_0, a2_1, a2_2⟩ : S74)] ++ l0.drop (topk_Put.at l0 a2_0 a2_1 a2_2)).take (min a1.toNat (l0.length + 1)), true) else none)
  else some (l0, false)) else some (l0, false)
set_option maxHeartbeats 4000000 in
set_option maxRecDepth 100000 in
theorem topk_Put.calls (P0_ : Nat → Prop) (A0 : Option Addr) (c0 : Nat) (l0 : List S74) (a1 : Int) (a2_0 : Int) (a2_1 : Int) (a2_2 : Bool) (r1 : List S74) (r2 : Bool) (w : World) (hs0 : Kd.V k74 74 w w.heap.size (fun k_ => P0_ k_) (.slice A0 l0.length c0) l0) (h : topk_Put.f l0 a1 a2_0 a2_1 a2_2 = some (r1, r2)) :
  Calls Try.prog 116 #[.slice A0 l0.length c0, .int .i64 a1, .agg #[.int .i64 a2_0, .int .i64 a2_1, .bool a2_2]] w fun e w' => ∃ v0_ : Value, e = .returned (.tuple #[v0_, .bool r2]) ∧ Kd.V k74 74 w' w.heap.size (fun k_ => P0_ k_ ∨ w.heap.size ≤ k_) v0_ r1 ∧ Below w.heap.size w w' := by
 obtain ⟨x, hx0⟩ : ∃ x : S74, x = ⟨a2_0, a2_1, a2_2⟩ := ⟨_, rfl⟩
 obtain ⟨rfl, rfl, rfl⟩ : a2_0 = x.f0 ∧ a2_1 = x.f1 ∧ a2_2 = x.f2 := by rw [hx0]; exact ⟨rfl, rfl, rfl⟩
 clear hx0
 obtain ⟨_, hc0, hC⟩ := Kd.V_reads' hs0
 have hu26 := Try.underlying74
 obtain ⟨W1, hW1⟩ : ∃ W1, w.alloc (.cells #[.int .i64 x.f0, .int .i64 x.f1, .bool x.f2] 74) = W1 := ⟨_, rfl⟩
 have HX1 := Aside0.mk (show Below w.heap.size w W1 by rw [← hW1]; exact below_alloc (Below.refl _ _) _)
 have kz : W1.heap[w.heap.size]? = some (.cells #[.int .i64 x.f0, .int .i64 x.f1, .bool x.f2] 74) := by rw [← hW1]; exact blk_new _ _
 unfold topk_Put.f at h
 obtain ⟨okR, hR, h1⟩ := Option.bind_eq_some_iff.mp h
 clear h
 have hRt := fun (W : World) (hW : Below w.heap.size w W) => topk_Right.calls A0 c0 l0 a1 okR W (Kd.C_below hC hW) hc0 hR
 clear hR
 cases okR with
 | false =>
  rw [if_neg (by decide)] at h1
  obtain ⟨q1, q2⟩ := Prod.mk.inj (Option.some.inj h1)
  subst q2
  have HE := Aside0.mk (And.intro q1 True.intro)
  clear h1 q1
  go_enter Try.func116, Try.ntmps116
  go_wp2_with (first | (go_at_call 136; refine (hRt _ HX1.out).mono ?_; rintro e wR ⟨rfl, hbR⟩; have kz' := blk_below kz hbR; have e0 : wR.cell? ⟨w.heap.size, 0, none⟩ = some (.int .i64 x.f0) := (blk_cell kz' 0).trans rfl; have e1 : wR.cell? ⟨w.heap.size, 1, none⟩ = some (.int .i64 x.f1) := (blk_cell kz' 1).trans rfl; have e2 : wR.cell? ⟨w.heap.size, 2, none⟩ = some (.bool x.f2) := (blk_cell kz' 2).trans rfl; have HXR := Aside0.mk (below_step HX1.out hbR); clear hbR))
  go_ret2
  refine ⟨_, rfl, ?_, HXR.out⟩
  rw [← HE.out.1]
  exact Kd.V_mono (Kd.V_below hs0 HXR.out) (fun _ h => .inl h)
 | true =>
  rw [if_pos rfl] at h1
  have hmay : topk_may.f x.f0 x.f1 x.f2 = some (topk_Right.may x) := topk_Right.may_f x
  cases hm : topk_Right.may x with
  | false =>
   rw [hm] at hmay
   have hMay := fun W => topk_may.calls x.f0 x.f1 x.f2 false W hmay
   rw [if_neg (by rw [show topk_Right.may ⟨x.f0, x.f1, x.f2⟩ = topk_Right.may x from rfl, hm]; decide)] at h1
   obtain ⟨q1, q2⟩ := Prod.mk.inj (Option.some.inj h1)
   subst q2
   have HE := Aside0.mk (And.intro q1 True.intro)
   clear h1 q1 hmay hm
   go_enter Try.func116, Try.ntmps116
   go_wp2_with (first | (go_at_call 136; refine (hRt _ HX1.out).mono ?_; rintro e wR ⟨rfl, hbR⟩; have kz' := blk_below kz hbR; have e0 : wR.cell? ⟨w.heap.size, 0, none⟩ = some (.int .i64 x.f0) := (blk_cell kz' 0).trans rfl; have e1 : wR.cell? ⟨w.heap.size, 1, none⟩ = some (.int .i64 x.f1) := (blk_cell kz' 1).trans rfl; have e2 : wR.cell? ⟨w.heap.size, 2, none⟩ = some (.bool x.f2) := (blk_cell kz' 2).trans rfl; have HXR := Aside0.mk (below_step HX1.out hbR); clear hbR) | (go_at_call 149; refine (hMay _).mono ?_; rintro e wM ⟨rfl, hbM⟩; clear e0 e1 e2; have kz'' := blk_below kz' hbM; have e0 : wM.cell? ⟨w.heap.size, 0, none⟩ = some (.int .i64 x.f0) := (blk_cell kz'' 0).trans rfl; have e1 : wM.cell? ⟨w.heap.size, 1, none⟩ = some (.int .i64 x.f1) := (blk_cell kz'' 1).trans rfl; have e2 : wM.cell? ⟨w.heap.size, 2, none⟩ = some (.bool x.f2) := (blk_cell kz'' 2).trans rfl; have HXM := Aside0.mk (below_step HXR.out hbM); clear hbM))
   go_ret2
   refine ⟨_, rfl, ?_, HXM.out⟩
   rw [← HE.out.1]
   exact Kd.V_mono (Kd.V_below hs0 HXM.out) (fun _ h => .inl h)
  | true =>
   rw [hm] at hmay
   have hMay := fun W => topk_may.calls x.f0 x.f1 x.f2 true W hmay
   rw [if_pos (by rw [show topk_Right.may ⟨x.f0, x.f1, x.f2⟩ = topk_Right.may x from rfl, hm])] at h1
   obtain ⟨has, hH, h2⟩ := Option.bind_eq_some_iff.mp h1
   have hHas := fun (W : World) (hW : Below w.heap.size w W) => topk_Has.calls A0 c0 l0 x.f1 has W (Kd.C_below hC hW) hc0 hH
   have hlen : l0.length ≤ 1000000000 := by
    unfold topk_Has.f at hH
    split at hH
    ·assumption
    ·cases hH
   clear h1 hmay hm hH
   cases has with
   | true =>
    rw [if_pos rfl] at h2
    obtain ⟨q1, q2⟩ := Prod.mk.inj (Option.some.inj h2)
    subst q2
    have HE := Aside0.mk (And.intro q1 True.intro)
    clear h2 q1
    go_enter Try.func116, Try.ntmps116
    go_wp2_with (first | (go_at_call 136; refine (hRt _ HX1.out).mono ?_; rintro e wR ⟨rfl, hbR⟩; have kz' := blk_below kz hbR; have e0 : wR.cell? ⟨w.heap.size, 0, none⟩ = some (.int .i64 x.f0) := (blk_cell kz' 0).trans rfl; have e1 : wR.cell? ⟨w.heap.size, 1, none⟩ = some (.int .i64 x.f1) := (blk_cell kz' 1).trans rfl; have e2 : wR.cell? ⟨w.heap.size, 2, none⟩ = some (.bool x.f2) := (blk_cell kz' 2).trans rfl; have HXR := Aside0.mk (below_step HX1.out hbR); clear hbR) | (go_at_call 149; refine (hMay _).mono ?_; rintro e wM ⟨rfl, hbM⟩; clear e0 e1 e2; have kz'' := blk_below kz' hbM; have e0 : wM.cell? ⟨w.heap.size, 0, none⟩ = some (.int .i64 x.f0) := (blk_cell kz'' 0).trans rfl; have e1 : wM.cell? ⟨w.heap.size, 1, none⟩ = some (.int .i64 x.f1) := (blk_cell kz'' 1).trans rfl; have e2 : wM.cell? ⟨w.heap.size, 2, none⟩ = some (.bool x.f2) := (blk_cell kz'' 2).trans rfl; have HXM := Aside0.mk (below_step HXR.out hbM); clear hbM) | (go_at_call 62; refine (hHas _ HXM.out).mono ?_; rintro e wH ⟨rfl, hbH⟩; clear e0 e1 e2; have kz''' := blk_below kz'' hbH; have e0 : wH.cell? ⟨w.heap.size, 0, none⟩ = some (.int .i64 x.f0) := (blk_cell kz''' 0).trans rfl; have e1 : wH.cell? ⟨w.heap.size, 1, none⟩ = some (.int .i64 x.f1) := (blk_cell kz''' 1).trans rfl; have e2 : wH.cell? ⟨w.heap.size, 2, none⟩ = some (.bool x.f2) := (blk_cell kz''' 2).trans rfl; have HXH := Aside0.mk (below_step HXM.out hbH); clear hbH))
    go_ret2
    refine ⟨_, rfl, ?_, HXH.out⟩
    rw [← HE.out.1]
    exact Kd.V_mono (Kd.V_below hs0 HXH.out) (fun _ h => .inl h)
   | false =>
    rw [if_neg (by decide)] at h2
    unfold topk_Put.at at h2
    have hbsf : ∀ i, api_Near_150.at l0 x = i → l0.length ≤ 1000000000 → api_Near_150.f l0 x.f0 x.f1 x.f2 () = some ((i : Int), decide (i < l0.length) && decide (topk_Right.ord (l0.getD i z74) x = 0)) := fun i hi hl => by
     unfold api_Near_150.f
     rw [if_pos hl, show api_Near_150.at l0 ⟨x.f0, x.f1, x.f2⟩ = i from hi]
    rw [show api_Near_150.at l0 ⟨x.f0, x.f1, x.f2⟩ = api_Near_150.at l0 x from rfl] at h2
    generalize hi : api_Near_150.at l0 x = i at h2 hbsf
    have hBs := fun (W : World) (hW : Below w.heap.size w W) => api_Near_150.calls A0 c0 l0 x.f0 x.f1 x.f2 () (i : Int) _ W (Kd.C_below hC hW) hc0 (hbsf i rfl hlen)
    clear hbsf hi
    generalize (decide (i < l0.length) && decide (topk_Right.ord (l0.getD i z74) x = 0)) = bq at hBs
    by_cases hk : (i : Int) = a1
    ·rw [if_pos hk] at h2
     obtain ⟨q1, q2⟩ := Prod.mk.inj (Option.some.inj h2)
     subst q2
     have HE := Aside0.mk (And.intro q1 True.intro)
     have b1 : ((i : Int) == a1) = true := by simpa using hk
     clear h2 q1 hk
     go_enter Try.func116, Try.ntmps116
     go_wp2_with (first | (go_at_call 136; refine (hRt _ HX1.out).mono ?_; rintro e wR ⟨rfl, hbR⟩; have kz' := blk_below kz hbR; have e0 : wR.cell? ⟨w.heap.size, 0, none⟩ = some (.int .i64 x.f0) := (blk_cell kz' 0).trans rfl; have e1 : wR.cell? ⟨w.heap.size, 1, none⟩ = some (.int .i64 x.f1) := (blk_cell kz' 1).trans rfl; have e2 : wR.cell? ⟨w.heap.size, 2, none⟩ = some (.bool x.f2) := (blk_cell kz' 2).trans rfl; have HXR := Aside0.mk (below_step HX1.out hbR); clear hbR) | (go_at_call 149; refine (hMay _).mono ?_; rintro e wM ⟨rfl, hbM⟩; clear e0 e1 e2; have kz'' := blk_below kz' hbM; have e0 : wM.cell? ⟨w.heap.size, 0, none⟩ = some (.int .i64 x.f0) := (blk_cell kz'' 0).trans rfl; have e1 : wM.cell? ⟨w.heap.size, 1, none⟩ = some (.int .i64 x.f1) := (blk_cell kz'' 1).trans rfl; have e2 : wM.cell? ⟨w.heap.size, 2, none⟩ = some (.bool x.f2) := (blk_cell kz'' 2).trans rfl; have HXM := Aside0.mk (below_step HXR.out hbM); clear hbM) | (go_at_call 62; refine (hHas _ HXM.out).mono ?_; rintro e wH ⟨rfl, hbH⟩; clear e0 e1 e2; have kz''' := blk_below kz'' hbH; have e0 : wH.cell? ⟨w.heap.size, 0, none⟩ = some (.int .i64 x.f0) := (blk_cell kz''' 0).trans rfl; have e1 : wH.cell? ⟨w.heap.size, 1, none⟩ = some (.int .i64 x.f1) := (blk_cell kz''' 1).trans rfl; have e2 : wH.cell? ⟨w.heap.size, 2, none⟩ = some (.bool x.f2) := (blk_cell kz''' 2).trans rfl; have HXH := Aside0.mk (below_step HXM.out hbH); clear hbH) | (go_at_call 150; refine (hBs _ HXH.out).mono ?_; rintro e wB ⟨rfl, hbB⟩; clear e0 e1 e2; have kz'''' := blk_below kz''' hbB; have e0 : wB.cell? ⟨w.heap.size, 0, none⟩ = some (.int .i64 x.f0) := (blk_cell kz'''' 0).trans rfl; have e1 : wB.cell? ⟨w.heap.size, 1, none⟩ = some (.int .i64 x.f1) := (blk_cell kz'''' 1).trans rfl; have e2 : wB.cell? ⟨w.heap.size, 2, none⟩ = some (.bool x.f2) := (blk_cell kz'''' 2).trans rfl; have HXB := Aside0.mk (below_step HXH.out hbB); clear hbB))
     go_ret2
     refine ⟨_, rfl, ?_, HXB.out⟩
     rw [← HE.out.1]
     exact Kd.V_mono (Kd.V_below hs0 HXB.out) (fun _ h => .inl h)
    ·rw [if_neg hk] at h2
     split at h2
     case isFalse => cases h2
     case isTrue hcc =>
     obtain ⟨hl5, hil, ha1⟩ := hcc
     obtain ⟨q1, q2⟩ := Prod.mk.inj (Option.some.inj h2)
     subst q2
     have HE := Aside0.mk (And.intro q1 True.intro)
     have b1 : ((i : Int) == a1) = false := by simpa using hk
     clear h2 q1 hk
     go_enter Try.func116, Try.ntmps116
     go_upto_region 6 with (first | (go_at_call 136; refine (hRt _ HX1.out).mono ?_; rintro e wR ⟨rfl, hbR⟩; have kz' := blk_below kz hbR; have e0 : wR.cell? ⟨w.heap.size, 0, none⟩ = some (.int .i64 x.f0) := (blk_cell kz' 0).trans rfl; have e1 : wR.cell? ⟨w.heap.size, 1, none⟩ = some (.int .i64 x.f1) := (blk_cell kz' 1).trans rfl; have e2 : wR.cell? ⟨w.heap.size, 2, none⟩ = some (.bool x.f2) := (blk_cell kz' 2).trans rfl; have HXR := Aside0.mk (below_step HX1.out hbR); clear hbR) | (go_at_call 149; refine (hMay _).mono ?_; rintro e wM ⟨rfl, hbM⟩; clear e0 e1 e2; have kz'' := blk_below kz' hbM; have e0 : wM.cell? ⟨w.heap.size, 0, none⟩ = some (.int .i64 x.f0) := (blk_cell kz'' 0).trans rfl; have e1 : wM.cell? ⟨w.heap.size, 1, none⟩ = some (.int .i64 x.f1) := (blk_cell kz'' 1).trans rfl; have e2 : wM.cell? ⟨w.heap.size, 2, none⟩ = some (.bool x.f2) := (blk_cell kz'' 2).trans rfl; have HXM := Aside0.mk (below_step HXR.out hbM); clear hbM) | (go_at_call 62; refine (hHas _ HXM.out).mono ?_; rintro e wH ⟨rfl, hbH⟩; clear e0 e1 e2; have kz''' := blk_below kz'' hbH; have e0 : wH.cell? ⟨w.heap.size, 0, none⟩ = some (.int .i64 x.f0) := (blk_cell kz''' 0).trans rfl; have e1 : wH.cell? ⟨w.heap.size, 1, none⟩ = some (.int .i64 x.f1) := (blk_cell kz''' 1).trans rfl; have e2 : wH.cell? ⟨w.heap.size, 2, none⟩ = some (.bool x.f2) := (blk_cell kz''' 2).trans rfl; have HXH := Aside0.mk (below_step HXM.out hbH); clear hbH) | (go_at_call 150; refine (hBs _ HXH.out).mono ?_; rintro e wB ⟨rfl, hbB⟩; clear e0 e1 e2; have kz'''' := blk_below kz''' hbB; have e0 : wB.cell? ⟨w.heap.size, 0, none⟩ = some (.int .i64 x.f0) := (blk_cell kz'''' 0).trans rfl; have e1 : wB.cell? ⟨w.heap.size, 1, none⟩ = some (.int .i64 x.f1) := (blk_cell kz'''' 1).trans rfl; have e2 : wB.cell? ⟨w.heap.size, 2, none⟩ = some (.bool x.f2) := (blk_cell kz'''' 2).trans rfl; have HXB := Aside0.mk (below_step HXH.out hbB); clear hbB))
     have d1 : ((0 : Int) ≤ (i : Int)) = True := eq_true (by omega)
     have d2 : ((i : Int) ≤ (c0 : Int)) = True := eq_true (by omega)
     have d3 : ((i : Int) ≤ (l0.length : Int)) = True := eq_true (by omega)
     refine start_ (ds := []) (n := 11) (S := fun W => Below wB.heap.size wB W) #[false, false, false, false, false, false, false, false, false, false, false] (by kernel_rfl) rfl (by rfl) (below_drew (Below.refl _ _)) (fun hHeld => ?_)
     refine pure_ (i := 0) (N := (some 37)) (v := ?_) (a' := ?_) #[true, false, false, false, false, false, false, false, false, false, false] rfl rfl (by kernel_rfl) (fun _ _ _ h => h) (Or.inl ⟨by rfl, ?_⟩) ?_ ?_
     rotate_left
     ·intro w'
      go_simp
      first | with_reducible rfl | rfl
     rotate_left
     ·simp only [Act.put, List.setIfInBounds_toArray, List.set_cons_zero, List.set_cons_succ, i64_w, i32_w]
      rfl
     refine pure_ (i := 1) (N := (some 38)) (v := ?_) (a' := ?_) #[true, true, false, false, false, false, false, false, false, false, false] rfl rfl (by kernel_rfl) (fun _ _ _ h => h) (Or.inl ⟨by rfl, ?_⟩) ?_ ?_
     rotate_left
     ·intro w'
      go_simp
      first | with_reducible rfl | rfl
     rotate_left
     ·simp only [Act.put, List.setIfInBounds_toArray, List.set_cons_zero, List.set_cons_succ, i64_w, i32_w]
      rfl
     refine pure_ (i := 2) (N := (some 39)) (v := ?_) (a' := ?_) #[true, true, true, false, false, false, false, false, false, false, false] rfl rfl (by kernel_rfl) (fun _ _ _ h => h) (Or.inl ⟨by rfl, ?_⟩) ?_ ?_
     rotate_left
     ·intro w'
      go_simp
      first | with_reducible rfl | rfl
     rotate_left
     ·simp only [Act.put, List.setIfInBounds_toArray, List.set_cons_zero, List.set_cons_succ, i64_w, i32_w]
      rfl
     refine pure_ (i := 5) (N := (some 42)) (v := ?_) (a' := ?_) #[true, true, true, false, false, true, false, false, false, false, false] rfl rfl (by kernel_rfl) (fun _ _ _ h => h) (Or.inl ⟨by rfl, ?_⟩) ?_ ?_
     rotate_left
     ·intro w'
      go_simp
      first | with_reducible rfl | rfl
     rotate_left
     ·simp only [Act.put, List.setIfInBounds_toArray, List.set_cons_zero, List.set_cons_succ, i64_w, i32_w]
      rfl
     refine pure_ (i := 6) (N := (some 43)) (v := ?_) (a' := ?_) #[true, true, true, false, false, true, true, false, false, false, false] rfl rfl (by kernel_rfl) (fun _ _ _ h => h) (Or.inl ⟨by rfl, ?_⟩) ?_ ?_
     rotate_left
     ·intro w'
      go_simp
      first | with_reducible rfl | rfl
     rotate_left
     ·simp only [Act.put, List.setIfInBounds_toArray, List.set_cons_zero, List.set_cons_succ, i64_w, i32_w]
      rfl
     refine pure_ (i := 7) (N := (some 44)) (v := ?_) (a' := ?_) #[true, true, true, false, false, true, true, true, false, false, false] rfl rfl (by kernel_rfl) (fun _ _ _ h => h) (Or.inl ⟨by rfl, ?_⟩) ?_ ?_
     rotate_left
     ·intro w'
      go_simp
      first | with_reducible rfl | rfl
     rotate_left
     ·simp only [Act.put, List.setIfInBounds_toArray, List.set_cons_zero, List.set_cons_succ, i64_w, i32_w]
      rfl
     refine take_ (i := 3) (N := (some 40)) (v := ?_) (a' := ?_) #[true, true, true, true, false, true, true, true, false, false, false] rfl rfl (by kernel_rfl) (fun _ _ _ h => h) (Or.inl ⟨by rfl, ?_⟩) hHeld ?_ ?_
     rotate_left
     ·intro w' hw'
      have k0 := blk_below kz'''' hw'
      have e0 : w'.cell? ⟨w.heap.size, 0, none⟩ = some (.int .i64 x.f0) := (blk_cell k0 0).trans rfl
      have e1 : w'.cell? ⟨w.heap.size, 1, none⟩ = some (.int .i64 x.f1) := (blk_cell k0 1).trans rfl
      have e2 : w'.cell? ⟨w.heap.size, 2, none⟩ = some (.bool x.f2) := (blk_cell k0 2).trans rfl
      go_simp
      first | done | with_reducible rfl | rfl
     rotate_left
     ·simp only [Act.put, List.setIfInBounds_toArray, List.set_cons_zero, List.set_cons_succ, i64_w, i32_w]
      rfl
     refine one_ (i := 4) (N := (some 41)) #[true, true, true, true, true, true, true, true, false, false, false] rfl rfl (by kernel_rfl) (by decide) (fun K hK => ?_)
     rw [if_pos (by rfl)]
     go_simp
     refine hK.out _ _ (below_alloc hHeld _) (fun hHeld => ?_)
     clear hK K
     obtain ⟨W4, hW4⟩ : ∃ W4, (wB.alloc (.cells #[.int .i64 x.f0, .int .i64 x.f1, .bool x.f2] 74)).drew = W4 := ⟨_, rfl⟩
     have hb4 : Below wB.heap.size wB W4 := by rw [← hW4]; exact below_drew (below_alloc (Below.refl _ _) _)
     have k4 : W4.heap[wB.heap.size]? = some (.cells #[.int .i64 x.f0, .int .i64 x.f1, .bool x.f2] 74) := by rw [← hW4]; exact blk_below (blk_new wB _) (below_drew (Below.refl _ _))
     replace hHeld := hb4
     rw [hW4]
     clear hW4
     refine one_ (i := 8) (N := (some 45)) #[true, true, true, true, true, true, true, true, true, false, false] rfl rfl (by kernel_rfl) (by decide) (fun K hK => ?_)
     rw [if_pos (by rfl)]
     go_simp
     refine hK.out _ _ (below_alloc hHeld _) (fun hHeld => ?_)
     clear hK K
     obtain ⟨W5, hW5⟩ : ∃ W5, W4.alloc (.cells #[.slice A0 i c0, .slice (some ⟨wB.heap.size, 0, none⟩) 1 1, .slice (if c0 = i then A0 else Option.map (fun x => x.add (i * 3)) A0) (l0.length - i) (c0 - i)] 26) = W5 := ⟨_, rfl⟩
     have hb5 : Below wB.heap.size wB W5 := by rw [← hW5]; exact below_alloc hb4 _
     have k5 : W5.heap[W4.heap.size]? = some (.cells #[.slice A0 i c0, .slice (some ⟨wB.heap.size, 0, none⟩) 1 1, .slice (if c0 = i then A0 else Option.map (fun x => x.add (i * 3)) A0) (l0.length - i) (c0 - i)] 26) := by rw [← hW5]; exact blk_new W4 _
     have k45 := show W5.heap[wB.heap.size]? = some (.cells #[.int .i64 x.f0, .int .i64 x.f1, .bool x.f2] 74) by rw [← hW5]; exact blk_alloc k4 _
     have hC5 := Kd.C_below hC (below_step HXB.out hb5)
     have hCx : Kd.C k74 W5 (some ⟨wB.heap.size, 0, none⟩) 1 [x] := by
      have ho : W5.ownsRow 0 74 3 (.slice (some ⟨wB.heap.size, 0, none⟩) 1 1) [x].length (api_Near_152.cs [x]) := ⟨rfl, .inr ⟨wB.heap.size, 1, _, rfl, Nat.zero_le _, k45, Nat.le_refl _, by unfold maxLen; omega, rfl, rfl⟩⟩
      exact (Kd.R_reads' (api_Near_152.R_own ho)).2.2
     have hCc := api_Near_152.runs ⟨W4.heap.size, 0, none⟩ 3 [l0.take i, [x], l0.drop i] [.slice A0 i c0, .slice (some ⟨wB.heap.size, 0, none⟩) 1 1, .slice (if c0 = i then A0 else Option.map (fun x => x.add (i * 3)) A0) (l0.length - i) (c0 - i)] W5 (blk_lt k5)
      (by
       intro q u hu
       have hq : q < 3 := (List.getElem?_eq_some_iff.1 hu).1
       have := blk_cell k5 q
       rw [show Addr.add ⟨W4.heap.size, 0, none⟩ q = ⟨W4.heap.size, q, none⟩ by simp [Addr.add]; rintro rfl; rfl]
       rw [this]
       have hq3 : q = 0 ∨ q = 1 ∨ q = 2 := by omega
       rcases hq3 with rfl | rfl | rfl <;> exact hu)
      (by
       intro q hq
       have hq3 : q = 0 ∨ q = 1 ∨ q = 2 := by simp at hq; omega
       rcases hq3 with rfl | rfl | rfl
       ·refine ⟨A0, c0, ?_, Kd.C_take hC5 hil⟩
        simp [Nat.min_eq_left hil]
       ·exact ⟨_, 1, rfl, hCx⟩
       ·refine ⟨_, c0 - i, ?_, Kd.C_drop (k := k74) (c := c0) hC5 hil hc0⟩
        simp [List.length_drop]
        rfl)
      (by simp; omega) (by simp)
     rw [show [l0.take i, [x], l0.drop i].flatten = l0.take i ++ [x] ++ l0.drop i by simp] at hCc
     change Calls Try.prog 152 #[.slice (some ⟨W4.heap.size, 0, none⟩) 3 3] W5 _ at hCc
     replace hHeld := hb5
     rw [hW5]
     clear hW5
     refine one_ (i := 9) (N := (some 46)) #[true, true, true, true, true, true, true, true, true, true, false] rfl rfl (by kernel_rfl) (by decide) (fun K hK => ?_)
     refine goes_ Try.func152 (by kernel_rfl) rfl #[.slice (some ⟨W4.heap.size, 0, none⟩) 3 3] (by rfl) rfl rfl (by (try simp only [List.map_toArray, List.map_cons, List.map_nil]); first | done | rfl) ?_
     with_reducible refine hCc.mono ?_
     rintro e wC ⟨vC, rfl, hRC, hbC⟩
     refine ⟨_, rfl, ?_⟩
     refine hK.out _ _ (below_step hHeld hbC) (fun hHeld => ?_)
     clear hK K
     refine norm_ (a' := ?_) ?_ ?_
     rotate_left
     ·show Act.put _ (some 46) _ = _
      simp only [Act.put, List.setIfInBounds_toArray, List.set_cons_zero, List.set_cons_succ, i64_w, i32_w]
      rfl
     refine pure_ (i := 10) (N := (some 10)) (v := ?_) (a' := ?_) #[true, true, true, true, true, true, true, true, true, true, true] rfl rfl (by kernel_rfl) (fun _ _ _ h => h) (Or.inl ⟨by rfl, ?_⟩) ?_ ?_
     rotate_left
     ·intro w'
      go_simp
      first | with_reducible rfl | rfl
     rotate_left
     ·simp only [Act.put, List.setIfInBounds_toArray, List.set_cons_zero, List.set_cons_succ, i64_w, i32_w]
      rfl
     refine done_ (by kernel_rfl) ?_
     obtain ⟨AC, cC, eC, hcC, hCC⟩ := Kd.R_reads hRC
     subst eC
     have HRC := Aside0.mk hRC
     have HXC := Aside0.mk (below_step HXB.out hHeld)
     have HsC := Aside0.mk (show w.heap.size ≤ W5.heap.size from Nat.le_trans HXB.out.size hb5.size)
     obtain ⟨n, hn⟩ : ∃ n, (l0.take i ++ [x] ++ l0.drop i).length = n := ⟨_, rfl⟩
     have hn2 : n = l0.length + 1 := by rw [← hn]; simp; omega
     have HN := Aside0.mk (And.intro hn hn2)
     rw [hn] at hcC
     obtain ⟨m, hm⟩ : ∃ m, min a1.toNat (l0.length + 1) = m := ⟨_, rfl⟩
     have hmi : (if a1 ≤ (n : Int) then a1 else (n : Int)) = (m : Int) := by split <;> omega
     have hmi2 : (if (n : Int) < a1 then (n : Int) else a1) = (m : Int) := by split <;> omega
     have d4 : ((0 : Int) ≤ (m : Int)) = True := eq_true (by omega)
     have d5 : ((m : Int) ≤ (cC : Int)) = True := eq_true (by omega)
     have d6 : m ≤ n := by omega
     have HM := Aside0.mk (And.intro hm d6)
     rw [hn]
     clear hRC hCC hHeld hbC hn hm hCc hCx hC5 k45 k5 k4 hb4 d1 d2 d3 hn2
     have hlm : ((l0.take i ++ [x] ++ l0.drop i).take m).length = m := by rw [List.length_take, HN.out.1]; omega
     have HLM := Aside0.mk hlm
     clear hlm
     go_wp2
     all_goals
      go_ret2
      refine ⟨_, rfl, ?_, HXC.out⟩
      rw [← HE.out.1, HM.out.1]
      have hR2 := Kd.R_mono (Kd.R_bound HRC.out) (fun k hk => (Or.inr (Nat.le_trans HsC.out hk.2.1) : P0_ k ∨ w.heap.size ≤ k))
      have hF2 := Kd.F_take (m := m) (Kd.V_F (Kd.R_V (base' := w.heap.size) hR2)) (by rw [HN.out.1]; exact HM.out.2)
      have hV2 := Kd.V_mk (e := 74) (base := w.heap.size) (c := cC) (by rw [HLM.out]; exact Nat.le_trans HM.out.2 hcC) hF2
      rw [HLM.out] at hV2
      exact hV2


/-! ### topk_Merge: function 100 -/
mutual
def topk_Merge.l0 : Nat → List (S74) → Int → List (S74) → List (S74) → Int → Int → Option ((List (S74)) × Int)
 | 0, _, _, _, _, _, _ => none
 | k + 1, x0, x2, x8, x20, x21, x22 => if x22 < x21 then (if 0 ≤ x22 then (if x22 < (x20.length : Int) then ((topk_Put.f x8 x2 ((rd_T74 x20 x22).f0) ((rd_T74 x20 x22).f1) ((rd_T74 x20 x22).f2)).bind fun bt128 => (topk_Merge.l0 k x0 x2 bt128.1 x20 x21 (wrap64 (x22 + 1)))) else (none)) else (none)) else (topk_Merge.l1 k x0 x8 0 x8 (x8.length : Int) 0)
def topk_Merge.l1 : Nat → List (S74) → List (S74) → Int → List (S74) → Int → Int → Option ((List (S74)) × Int)
 | 0, _, _, _, _, _, _ => none
 | k + 1, x0, x8, x11, x34, x35, x36 => if x36 < x35 then (if 0 ≤ x36 then (if x36 < (x34.length : Int) then ((topk_Has.f x0 ((rd_T74 x34 x36).f1)).bind fun t134 => (if t134 = true then (topk_Merge.l1 k x0 x8 x11 x34 x35 (wrap64 (x36 + 1))) else (topk_Merge.l1 k x0 x8 (wrap64 (x11 + 1)) x34 x35 (wrap64 (x36 + 1))))) else (none)) else (none)) else (some (x8, x11))
end
def topk_Merge.f (k : Nat) (l0 : List (S74)) (l1 : List (S74)) (a2 : Int) : Option ((List (S74)) × Int) := (topk_Right.f l0 a2).bind fun t125 => (if t125 = true then (topk_Merge.l0 k l0 a2 l0 l1 (l1.length : Int) 0) else (some (l0, 0)))
theorem topk_Merge.mono_l : ∀ k, (∀ y0 y1 y2 y3 y4 y5, LeO (topk_Merge.l0 k y0 y1 y2 y3 y4 y5) (topk_Merge.l0 (k + 1) y0 y1 y2 y3 y4 y5)) ∧ (∀ y0 y1 y2 y3 y4 y5, LeO (topk_Merge.l1 k y0 y1 y2 y3 y4 y5) (topk_Merge.l1 (k + 1) y0 y1 y2 y3 y4 y5))
 | 0 => ⟨fun _ _ _ _ _ _ r h => by simp [topk_Merge.l0] at h, fun _ _ _ _ _ _ r h => by simp [topk_Merge.l1] at h⟩
 | k + 1 => by
  obtain ⟨ih0, ih1⟩ := topk_Merge.mono_l k
  refine ⟨?_, ?_⟩
  ·intro y0 y1 y2 y3 y4 y5
   unfold topk_Merge.l0
   repeat' first
   | (with_reducible exact ih0 _ _ _ _ _ _)
   | (with_reducible exact ih1 _ _ _ _ _ _)
   | (with_reducible exact LeO.refl _)
   | (with_reducible exact LeO.none _)
   | (with_reducible refine LeO.ite ?_ ?_)
   | (with_reducible refine LeO.bind ?_ (fun _ => ?_))
   | exact ih0 _ _ _ _ _ _
   | exact ih1 _ _ _ _ _ _
   | exact LeO.none _
   | refine LeO.ite ?_ ?_
   | refine LeO.bind ?_ (fun _ => ?_)
  ·intro y0 y1 y2 y3 y4 y5
   unfold topk_Merge.l1
   repeat' first
   | (with_reducible exact ih0 _ _ _ _ _ _)
   | (with_reducible exact ih1 _ _ _ _ _ _)
   | (with_reducible exact LeO.refl _)
   | (with_reducible exact LeO.none _)
   | (with_reducible refine LeO.ite ?_ ?_)
   | (with_reducible refine LeO.bind ?_ (fun _ => ?_))
   | exact ih0 _ _ _ _ _ _
   | exact ih1 _ _ _ _ _ _
   | exact LeO.none _
   | refine LeO.ite ?_ ?_
   | refine LeO.bind ?_ (fun _ => ?_)
theorem topk_Merge.mono : ∀ a0 a1 a2 k, LeO (topk_Merge.f k a0 a1 a2) (topk_Merge.f (k + 1) a0 a1 a2) := by
 intro a0 a1 a2 k
 obtain ⟨ih0, ih1⟩ := topk_Merge.mono_l k
 unfold topk_Merge.f
 repeat' first
   | (with_reducible exact ih0 _ _ _ _ _ _)
   | (with_reducible exact ih1 _ _ _ _ _ _)
   | (with_reducible exact LeO.refl _)
   | (with_reducible exact LeO.none _)
   | (with_reducible refine LeO.ite ?_ ?_)
   | (with_reducible refine LeO.bind ?_ (fun _ => ?_))
   | exact ih0 _ _ _ _ _ _
   | exact ih1 _ _ _ _ _ _
   | exact LeO.none _
   | refine LeO.ite ?_ ?_
   | refine LeO.bind ?_ (fun _ => ?_)
set_option maxHeartbeats 8000000 in
set_option maxRecDepth 100000 in
theorem topk_Merge.calls (k : Nat) (P0_ : Nat → Prop) (A0 : Option Addr) (c0 : Nat) (l0 : List (S74)) (A1 : Option Addr) (c1 : Nat) (l1 : List (S74)) (a2 : Int) (r1 : List (S74)) (r2 : Int) (w : World) (hs0 : Kd.V k74 74 w w.heap.size (fun k_ => P0_ k_) (.slice A0 l0.length c0) l0) (hr1 : Kd.C k74 w A1 l1.length l1) (hc1 : l1.length ≤ c1) (h : topk_Merge.f k l0 l1 a2 = some (r1, r2)) :
  Calls Try.prog 100 #[.slice A0 l0.length c0, .slice A1 l1.length c1, .int .i64 a2] w fun e w' => ∃ v0_ : Value, e = .returned (.tuple #[v0_, .int .i64 r2]) ∧ Kd.V k74 74 w' w.heap.size (fun k_ => (P0_ k_ ∨ w.heap.size ≤ k_)) v0_ r1 ∧ Below w.heap.size w w' := by
 have hu74 := Try.underlying74
 have HO0 := Aside0.mk (show Kd.V k74 74 w w.heap.size (fun k_ => (P0_ k_ ∨ w.heap.size ≤ k_)) (.slice A0 l0.length c0) l0 from Kd.V_mono hs0 (fun k_ hk => .inl hk))
 have HR1 := Aside0.mk hr1
 have HC1 := Aside0.mk hc1
 clear hr1 hc1
 have HB := Aside0.mk (Below.refl w.heap.size w)
 have H : ((topk_Right.f l0 a2).bind fun t125 => (if t125 = true then (topk_Merge.l0 k l0 a2 l0 l1 (l1.length : Int) 0) else (some (l0, 0)))) = some (r1, r2) := h
 clear h
 replace H := Option.bind_eq_some_iff.mp H
 obtain ⟨t125, A40, H⟩ := H
 replace H : (if t125 = true then (topk_Merge.l0 k l0 a2 l0 l1 (l1.length : Int) 0) else (some (l0, 0))) = some (r1, r2) := H
 have A4 := Aside0.mk A40
 clear A40
 by_cases c5 : t125 = true
 ·subst c5
  have H1 : (topk_Merge.l0 k l0 a2 l0 l1 (l1.length : Int) 0) = some (r1, r2) := by rw [if_pos rfl] at H; exact H
  clear H
  have H := H1
  clear H1
  have H' := Aside0.mk H
  clear H
  go_enter Try.func100, Try.ntmps100
  go_wp2_with (first | ((with_reducible refine gate_callee (f := 136) rfl ?_); refine goesL_ (some 16) rfl rfl Try.func136 (by kernel_rfl) rfl #[.slice A0 l0.length c0, .int .i64 a2] rfl (by (try simp only [List.map_toArray, List.map_cons, List.map_nil]); first | done | rfl) ?_; (with_reducible refine (topk_Right.calls _ _ l0 a2 true _ ?side1 ?side2 A4.out).mono ?_); (case side1 => repeat (first | exact (Kd.V_reads' HO0.out).2.2 | (with_reducible first | refine Kd.C_alloc ?_ _ | refine Kd.C_drewN ?_ _ | refine Kd.C_drew ?_))); (case side2 => exact (Kd.V_reads' HO0.out).2.1); rintro e w6 ⟨rfl, hb⟩; refine ⟨_, rfl, ?_⟩; have n0_ := Aside0.mk (Kd.V_below (by (with_reducible repeat (first | apply Kd.V_alloc | apply Kd.V_drewN | apply Kd.V_drew)); exact HO0.out) hb); have n1_ := Aside0.mk (below_step (by repeat (first | exact HB.out | apply below_alloc | apply pw_below_drewN | apply below_drew1)) hb); clear HO0; clear HB; have HO0 := n0_; have HB := n1_; clear n0_ n1_; (try clear hb); (try clear hb2); (try clear hk); (try clear hi)))
  go_loopg [8, 22] k (fun kq v8 v22 w' => ∃ (x8_1 : List (S74)) (x22_1 : Int), v22 = .int .i64 x22_1 ∧ Aside0 (topk_Merge.l0 kq l0 a2 x8_1 l1 (l1.length : Int) x22_1 = some (r1, r2)) ∧ Aside0 (kq ≤ k) ∧ Aside0 (Kd.V k74 74 w' w.heap.size (fun k_ => (P0_ k_ ∨ w.heap.size ≤ k_)) (.slice A0 l0.length c0) l0) ∧ Aside0 (Kd.V k74 74 w' w.heap.size (fun k_ => (P0_ k_ ∨ w.heap.size ≤ k_)) v8 x8_1) ∧ Aside0 (Below w.heap.size w w'))
  case atStart => exact ⟨(l0), (0), (by first | rfl | (simp; done) | (simp [*]; done)), H', ⟨Nat.le_refl _⟩, ⟨by (with_reducible repeat (first | apply Kd.V_alloc | apply Kd.V_drewN | apply Kd.V_drew)); exact HO0.out⟩, ⟨by (with_reducible repeat (first | apply Kd.V_alloc | apply Kd.V_drewN | apply Kd.V_drew)); exact HO0.out⟩, ⟨by repeat (first | exact HB.out | apply below_alloc | apply pw_below_drewN | apply below_drew1)⟩⟩
  case round =>
   clear H'
   try clear c1
   try clear p2
   try clear c5
   obtain ⟨x8_1, x22_1, rfl, HA, HK1, HO_0, HO_8, HB⟩ := hrel
   cases gk with
   | zero => exact absurd HA.out (by simp [topk_Merge.l0])
   | succ k1 =>
    have H := HA.out
    clear HA
    simp only [topk_Merge.l0] at H
    by_cases c7 : x22_1 < (l1.length : Int)
    ·rw [if_pos c7] at H
     have c7b0 : decide (x22_1 < (l1.length : Int)) = true := decide_eq_true c7
     clear c7
     by_cases c8 : 0 ≤ x22_1
     ·rw [if_pos c8] at H
      have c8b0 : decide (0 ≤ x22_1) = true := decide_eq_true c8
      clear c8
      by_cases c9 : x22_1 < (l1.length : Int)
      ·rw [if_pos c9] at H
       have c9b0 : decide (x22_1 < (l1.length : Int)) = true := decide_eq_true c9
       clear c9
       replace H := Option.bind_eq_some_iff.mp H
       obtain ⟨⟨t128, t131⟩, A100, H⟩ := H
       replace H : (topk_Merge.l0 k1 l0 a2 t128 l1 (l1.length : Int) (wrap64 (x22_1 + 1))) = some (r1, r2) := H
       have A10 := Aside0.mk A100
       clear A100
       have H' := Aside0.mk H
       clear H
       have p126 : 0 ≤ (x22_1 : Int) := of_decide_eq_true (by assumption)
       have q126 : x22_1 < (l1.length : Int) := of_decide_eq_true (by assumption)
       obtain ⟨ad126, e126, hx126_0, hx126_1, hx126_2⟩ := at_T74 HR1.out x22_1 p126 q126
       cases e126
       replace hx126_0 := (HB.out.cell (World.block_lt_of_cell? w _ hx126_0)).trans hx126_0
       replace hx126_1 := (HB.out.cell (World.block_lt_of_cell? w _ hx126_1)).trans hx126_1
       replace hx126_2 := (HB.out.cell (World.block_lt_of_cell? w _ hx126_2)).trans hx126_2
       replace p126 := eq_true p126
       replace q126 := eq_true q126
       go_wp2_with (first | ((with_reducible refine gate_dst (N := 10) rfl ?_); refine box_event ?hg (N := 10) ?hd (cs := #[.int .i64 0, .int .i64 0, .bool false]) (t := 74) ?hr ?_; (case hd => rfl); (case hg => rfl); (case hr => first | (go_simp; done) | (go_simp; rfl)); intro gb127 hg w11 hbox hb; have n0_ := Aside0.mk (Kd.V_below (Kd.V_elderB (by (with_reducible repeat (first | apply Kd.V_alloc | apply Kd.V_drewN | apply Kd.V_drew)); exact HO_0.out) gb127 (Nat.le_of_eq hg.symm)) hb); have n1_ := Aside0.mk (Kd.V_below (Kd.V_elderB (by (with_reducible repeat (first | apply Kd.V_alloc | apply Kd.V_drewN | apply Kd.V_drew)); exact HO_8.out) gb127 (Nat.le_of_eq hg.symm)) hb); have n2_ := Aside0.mk (below_step (by repeat (first | exact HB.out | apply below_alloc | apply pw_below_drewN | apply below_drew1)) hb); have n3_ := Aside0.mk (hbox); have n4_ := Aside0.mk ((by rw [hg]; exact (below_size (by repeat (first | exact HB.out | apply below_alloc | apply pw_below_drewN | apply below_drew1))) : w.heap.size ≤ gb127)); have n5_ := Aside0.mk ((by rw [hg]; exact (below_size (by repeat (first | exact HB.out | apply below_alloc | apply pw_below_drewN | apply below_drew1))) : w.heap.size ≤ gb127)); clear HO_0; clear HO_8; clear HB; have HO_0 := n0_; have HO_8 := n1_; have HB := n2_; have BK127 := n3_; have GW127 := n4_; have GE127 := n5_; clear n0_ n1_ n2_ n3_ n4_ n5_; clear hb hbox hg; have hcz12_0 : w11.cell? ⟨gb127, 0, none⟩ = some (.int .i64 0) := (blk_cell BK127.out 0).trans rfl; have hcz12_1 : w11.cell? ⟨gb127, 1, none⟩ = some (.int .i64 0) := (blk_cell BK127.out 1).trans rfl; have hcz12_2 : w11.cell? ⟨gb127, 2, none⟩ = some (.bool false) := (blk_cell BK127.out 2).trans rfl; have hfz12_0 := blk_frozen BK127.out 0; have hfz12_1 := blk_frozen BK127.out 1; have hfz12_2 := blk_frozen BK127.out 2) | ((with_reducible refine gate_store (t := 74) (p := 10) rfl ?_); refine store_event (t := 74) (p := 10) (v := ?vo_w13) (w1 := (((w11.setCell ⟨gb127, 0, none⟩ (.int .i64 ((rd_T74 l1 x22_1).f0))).setCell ⟨gb127, 1, none⟩ (.int .i64 ((rd_T74 l1 x22_1).f1))).setCell ⟨gb127, 2, none⟩ (.bool ((rd_T74 l1 x22_1).f2)))) ?hg ?ho ?hn ?hr ?_; (case ho => rfl); (case hg => rfl); (case hn => rfl); (case hr => first | (go_simp; done) | (go_simp; rfl)); intro w13 hw; have n0_ : Aside0 (Kd.V k74 74 w13 w.heap.size (fun k_ => (P0_ k_ ∨ w.heap.size ≤ k_) ∧ k_ ≠ gb127) (.slice A0 l0.length c0) l0) := ⟨(by rw [hw]; exact (by (with_reducible repeat (first | apply Kd.V_alloc | apply Kd.V_drewN | apply Kd.V_drew)); exact Kd.V_mono (Kd.V_far (p := ⟨gb127, 2, none⟩) (Kd.V_far (p := ⟨gb127, 1, none⟩) (Kd.V_far (p := ⟨gb127, 0, none⟩) (Kd.V_mono HO_0.out (fun k_ hk => (⟨hk, hk.2⟩ : _ ∧ k_ ≠ gb127))) (fun _ hk => hk.2) (.int .i64 ((rd_T74 l1 x22_1).f0))) (fun _ hk => hk.2) (.int .i64 ((rd_T74 l1 x22_1).f1))) (fun _ hk => hk.2) (.bool ((rd_T74 l1 x22_1).f2))) (fun _ hk => ⟨hk.1.1, hk.1.2⟩)))⟩; have n1_ : Aside0 (Kd.V k74 74 w13 w.heap.size (fun k_ => (P0_ k_ ∨ w.heap.size ≤ k_) ∧ k_ ≠ gb127) u8 x8_1) := ⟨(by rw [hw]; exact (by (with_reducible repeat (first | apply Kd.V_alloc | apply Kd.V_drewN | apply Kd.V_drew)); exact Kd.V_mono (Kd.V_far (p := ⟨gb127, 2, none⟩) (Kd.V_far (p := ⟨gb127, 1, none⟩) (Kd.V_far (p := ⟨gb127, 0, none⟩) (Kd.V_mono HO_8.out (fun k_ hk => (⟨hk, hk.2⟩ : _ ∧ k_ ≠ gb127))) (fun _ hk => hk.2) (.int .i64 ((rd_T74 l1 x22_1).f0))) (fun _ hk => hk.2) (.int .i64 ((rd_T74 l1 x22_1).f1))) (fun _ hk => hk.2) (.bool ((rd_T74 l1 x22_1).f2))) (fun _ hk => ⟨hk.1.1, hk.1.2⟩)))⟩; have n2_ : Aside0 (w13.heap[gb127]? = some (.cells #[.int .i64 ((rd_T74 l1 x22_1).f0), .int .i64 ((rd_T74 l1 x22_1).f1), .bool ((rd_T74 l1 x22_1).f2)] 74 (0, 0))) := ⟨(by rw [hw]; exact (by (with_reducible repeat (first | refine blk_drewN ?_ _ | refine blk_drew ?_ | refine blk_alloc ?_ _)); refine blk_put (cs := #[.int .i64 ((rd_T74 l1 x22_1).f0), .int .i64 ((rd_T74 l1 x22_1).f1), .bool false]) ?_ 2 _ rfl; (with_reducible repeat (first | refine blk_drewN ?_ _ | refine blk_drew ?_ | refine blk_alloc ?_ _)); refine blk_put (cs := #[.int .i64 ((rd_T74 l1 x22_1).f0), .int .i64 0, .bool false]) ?_ 1 _ rfl; (with_reducible repeat (first | refine blk_drewN ?_ _ | refine blk_drew ?_ | refine blk_alloc ?_ _)); refine blk_put (cs := #[.int .i64 0, .int .i64 0, .bool false]) ?_ 0 _ rfl; (with_reducible repeat (first | refine blk_drewN ?_ _ | refine blk_drew ?_ | refine blk_alloc ?_ _)); exact BK127.out))⟩; have n3_ : Aside0 (Below w.heap.size w w13) := ⟨(by rw [hw]; exact (by repeat (first | exact HB.out | apply below_alloc | apply pw_below_drewN | apply below_drew1 | refine below_set ?_ GE127.out)))⟩; clear hw; clear HO_0; clear HO_8; clear BK127; clear HB; have HO_0 := n0_; have HO_8 := n1_; have BK127 := n2_; have HB := n3_; clear n0_ n1_ n2_ n3_; have hcz14_0 : w13.cell? ⟨gb127, 0, none⟩ = some (.int .i64 ((rd_T74 l1 x22_1).f0)) := (blk_cell BK127.out 0).trans rfl; have hcz14_1 : w13.cell? ⟨gb127, 1, none⟩ = some (.int .i64 ((rd_T74 l1 x22_1).f1)) := (blk_cell BK127.out 1).trans rfl; have hcz14_2 : w13.cell? ⟨gb127, 2, none⟩ = some (.bool ((rd_T74 l1 x22_1).f2)) := (blk_cell BK127.out 2).trans rfl; have hfz14_0 := blk_frozen BK127.out 0; have hfz14_1 := blk_frozen BK127.out 1; have hfz14_2 := blk_frozen BK127.out 2; obtain ⟨Ao15, co15, eo15⟩ := Kd.V_slice HO_8.out; subst eo15) | ((with_reducible refine gate_callee (f := 116) rfl ?_); refine goesL_ (some 30) rfl rfl Try.func116 (by kernel_rfl) rfl #[.slice Ao15 x8_1.length co15, .int .i64 a2, .agg #[.int .i64 ((rd_T74 l1 x22_1).f0), .int .i64 ((rd_T74 l1 x22_1).f1), .bool ((rd_T74 l1 x22_1).f2)]] rfl (by (try simp only [List.map_toArray, List.map_cons, List.map_nil]); first | done | rfl) ?_; (with_reducible refine (topk_Put.calls (fun k_ => ((P0_ k_ ∨ w.heap.size ≤ k_) ∧ k_ ≠ gb127)) _ _ x8_1 a2 ((rd_T74 l1 x22_1).f0) ((rd_T74 l1 x22_1).f1) ((rd_T74 l1 x22_1).f2) t128 t131 _ ?side1 A10.out).mono ?_); (case side1 => exact (by (with_reducible repeat (first | apply Kd.V_alloc | apply Kd.V_drewN | apply Kd.V_drew)); exact HO_8.out)); rintro e w16 ⟨v129, rfl, ho0, hb⟩; refine ⟨_, rfl, ?_⟩; have n0_ := Aside0.mk (Kd.V_below (by (with_reducible repeat (first | apply Kd.V_alloc | apply Kd.V_drewN | apply Kd.V_drew)); exact HO_0.out) hb); have n1_ := Aside0.mk (Kd.V_below (by (with_reducible repeat (first | apply Kd.V_alloc | apply Kd.V_drewN | apply Kd.V_drew)); exact HO_8.out) hb); have n2_ := Aside0.mk (Kd.V_lower (Kd.V_mono (ok' := fun k_ => (P0_ k_ ∨ w.heap.size ≤ k_) ∧ k_ ≠ gb127) ho0 (fun k_ hk_ => ⟨Or.elim hk_ (fun hs_ => hs_.1) (fun hn_ => (.inr (Nat.le_trans (below_size (by repeat (first | exact HB.out | apply below_alloc | apply pw_below_drewN | apply below_drew1 | refine below_set ?_ GE127.out))) hn_))), Or.elim hk_ (fun hs_ => hs_.2) (fun hn_ => (Kd.freshB (g := gb127) (o := .cells #[.int .i64 ((rd_T74 l1 x22_1).f0), .int .i64 ((rd_T74 l1 x22_1).f1), .bool ((rd_T74 l1 x22_1).f2)] 74 (0, 0)) (by (with_reducible repeat (first | refine blk_drewN ?_ _ | refine blk_drew ?_ | refine blk_alloc ?_ _)); exact BK127.out) k_ hn_))⟩)) (below_size (by repeat (first | exact HB.out | apply below_alloc | apply pw_below_drewN | apply below_drew1 | refine below_set ?_ GE127.out)))); have n3_ := Aside0.mk (blk_below (g := gb127) (o := .cells #[.int .i64 ((rd_T74 l1 x22_1).f0), .int .i64 ((rd_T74 l1 x22_1).f1), .bool ((rd_T74 l1 x22_1).f2)] 74 (0, 0)) (by (with_reducible repeat (first | refine blk_drewN ?_ _ | refine blk_drew ?_ | refine blk_alloc ?_ _)); exact BK127.out) hb); have n4_ := Aside0.mk (below_step (by repeat (first | exact HB.out | apply below_alloc | apply pw_below_drewN | apply below_drew1 | refine below_set ?_ GE127.out)) hb); clear HO_0; clear HO_8; clear BK127; clear HB; have HO_0 := n0_; have HO_8 := n1_; have HO130 := n2_; have BK127 := n3_; have HB := n4_; clear n0_ n1_ n2_ n3_ n4_; (try clear hb); (try clear hb2); (try clear hk); (try clear hi); (try clear ho0)))
       go_roundg k1
       case measure => have := HK1.out; omega
       case rel => exact ⟨(t128), (wrap64 (x22_1 + 1)), (by first | rfl | (simp; done) | (simp [*]; done)), H', ⟨by have := HK1.out; omega⟩, ⟨by (with_reducible repeat (first | apply Kd.V_alloc | apply Kd.V_drewN | apply Kd.V_drew)); exact Kd.V_mono HO_0.out (fun _ hk => hk.1)⟩, ⟨by (with_reducible repeat (first | apply Kd.V_alloc | apply Kd.V_drewN | apply Kd.V_drew)); exact Kd.V_mono HO130.out (fun _ hk => hk.1)⟩, ⟨by repeat (first | exact HB.out | apply below_alloc | apply pw_below_drewN | apply below_drew1 | refine below_set ?_ GE127.out)⟩⟩
      ·rw [if_neg c9] at H
       exact absurd H (by simp)
     ·rw [if_neg c8] at H
      exact absurd H (by simp)
    ·rw [if_neg c7] at H
     have c7b0 : decide (x22_1 < (l1.length : Int)) = false := decide_eq_false c7
     clear c7
     have H' := Aside0.mk H
     clear H
     obtain ⟨Ao17, co17, eo17⟩ := Kd.V_slice HO_8.out
     subst eo17
     go_wp2
     go_loopg [11, 36] k1 (fun kq v11 v36 w' => ∃ (x11_2 : Int) (x36_2 : Int), v11 = .int .i64 x11_2 ∧ v36 = .int .i64 x36_2 ∧ Aside0 (topk_Merge.l1 kq l0 x8_1 x11_2 x8_1 (x8_1.length : Int) x36_2 = some (r1, r2)) ∧ Aside0 (kq ≤ k1) ∧ Aside0 (Kd.V k74 74 w' w.heap.size (fun k_ => (P0_ k_ ∨ w.heap.size ≤ k_)) (.slice A0 l0.length c0) l0) ∧ Aside0 (Kd.V k74 74 w' w.heap.size (fun k_ => (P0_ k_ ∨ w.heap.size ≤ k_)) (.slice Ao17 x8_1.length co17) x8_1) ∧ Aside0 (Kd.V k74 74 w' w.heap.size (fun k_ => (P0_ k_ ∨ w.heap.size ≤ k_)) (.slice Ao17 x8_1.length co17) x8_1) ∧ Aside0 (Below w.heap.size w w'))
     case atStart => exact ⟨(0), (0), (by first | rfl | (simp; done) | (simp [*]; done)), (by first | rfl | (simp; done) | (simp [*]; done)), H', ⟨Nat.le_refl _⟩, ⟨by (with_reducible repeat (first | apply Kd.V_alloc | apply Kd.V_drewN | apply Kd.V_drew)); exact HO_0.out⟩, ⟨by (with_reducible repeat (first | apply Kd.V_alloc | apply Kd.V_drewN | apply Kd.V_drew)); exact HO_8.out⟩, ⟨by (with_reducible repeat (first | apply Kd.V_alloc | apply Kd.V_drewN | apply Kd.V_drew)); exact HO_8.out⟩, ⟨by repeat (first | exact HB.out | apply below_alloc | apply pw_below_drewN | apply below_drew1)⟩⟩
     case round =>
      clear H'
      try clear c1
      try clear p1
      try clear q1
      try clear hx1
      try clear p2
      try clear c5
      try clear p6
      try clear c7
      try clear c7b0
      try clear c8
      try clear c8b0
      try clear c9
      try clear c9b0
      try clear c10
      try clear c11
      try clear p12
      try clear q12
      try clear hx12
      try clear c13
      try clear hcz12_0
      try clear hcz12_1
      try clear hcz12_2
      try clear hcz14_0
      try clear hcz14_1
      try clear hcz14_2
      try clear hfz12_0
      try clear hfz12_1
      try clear hfz12_2
      try clear hfz14_0
      try clear hfz14_1
      try clear hfz14_2
      try clear hx126_0
      try clear hx126_1
      try clear hx126_2
      try clear p126
      try clear p2
      try clear q126
      obtain ⟨x11_2, x36_2, rfl, rfl, HA, HK2, HO_0, HO_8, HO_34, HB⟩ := hrel
      cases gk with
      | zero => exact absurd HA.out (by simp [topk_Merge.l1])
      | succ k2 =>
       have H := HA.out
       clear HA
       simp only [topk_Merge.l1] at H
       by_cases c18 : x36_2 < (x8_1.length : Int)
       ·rw [if_pos c18] at H
        have c18b0 : decide (x36_2 < (x8_1.length : Int)) = true := decide_eq_true c18
        clear c18
        by_cases c19 : 0 ≤ x36_2
        ·rw [if_pos c19] at H
         have c19b0 : decide (0 ≤ x36_2) = true := decide_eq_true c19
         clear c19
         by_cases c20 : x36_2 < (x8_1.length : Int)
         ·rw [if_pos c20] at H
          have c20b0 : decide (x36_2 < (x8_1.length : Int)) = true := decide_eq_true c20
          clear c20
          replace H := Option.bind_eq_some_iff.mp H
          obtain ⟨t134, A210, H⟩ := H
          replace H : (if t134 = true then (topk_Merge.l1 k2 l0 x8_1 x11_2 x8_1 (x8_1.length : Int) (wrap64 (x36_2 + 1))) else (topk_Merge.l1 k2 l0 x8_1 (wrap64 (x11_2 + 1)) x8_1 (x8_1.length : Int) (wrap64 (x36_2 + 1)))) = some (r1, r2) := H
          have A21 := Aside0.mk A210
          clear A210
          by_cases c22 : t134 = true
          ·subst c22
           have H1 : (topk_Merge.l1 k2 l0 x8_1 x11_2 x8_1 (x8_1.length : Int) (wrap64 (x36_2 + 1))) = some (r1, r2) := by rw [if_pos rfl] at H; exact H
           clear H
           have H := H1
           clear H1
           have H' := Aside0.mk H
           clear H
           have p132 : 0 ≤ (x36_2 : Int) := of_decide_eq_true (by assumption)
           have q132 : x36_2 < (x8_1.length : Int) := of_decide_eq_true (by assumption)
           obtain ⟨ad132, e132, hx132_0, hx132_1, hx132_2⟩ := at_T74 (Kd.V_reads' HO_34.out).2.2 x36_2 p132 q132
           cases e132
           replace p132 := eq_true p132
           replace q132 := eq_true q132
           go_wp2_with (first | ((with_reducible refine gate_dst (N := 13) rfl ?_); refine box_event ?hg (N := 13) ?hd (cs := #[.int .i64 0, .int .i64 0, .bool false]) (t := 74) ?hr ?_; (case hd => rfl); (case hg => rfl); (case hr => first | (go_simp; done) | (go_simp; rfl)); intro gb133 hg w23 hbox hb; have n0_ := Aside0.mk (Kd.V_below (Kd.V_elderB (by (with_reducible repeat (first | apply Kd.V_alloc | apply Kd.V_drewN | apply Kd.V_drew)); exact HO_0.out) gb133 (Nat.le_of_eq hg.symm)) hb); have n1_ := Aside0.mk (Kd.V_below (Kd.V_elderB (by (with_reducible repeat (first | apply Kd.V_alloc | apply Kd.V_drewN | apply Kd.V_drew)); exact HO_8.out) gb133 (Nat.le_of_eq hg.symm)) hb); have n2_ := Aside0.mk (Kd.V_below (Kd.V_elderB (by (with_reducible repeat (first | apply Kd.V_alloc | apply Kd.V_drewN | apply Kd.V_drew)); exact HO_34.out) gb133 (Nat.le_of_eq hg.symm)) hb); have n3_ := Aside0.mk (below_step (by repeat (first | exact HB.out | apply below_alloc | apply pw_below_drewN | apply below_drew1)) hb); have n4_ := Aside0.mk (hbox); have n5_ := Aside0.mk ((by rw [hg]; exact (below_size (by repeat (first | exact HB.out | apply below_alloc | apply pw_below_drewN | apply below_drew1))) : w.heap.size ≤ gb133)); have n6_ := Aside0.mk ((by rw [hg]; exact (below_size (by repeat (first | exact HB.out | apply below_alloc | apply pw_below_drewN | apply below_drew1))) : w.heap.size ≤ gb133)); clear HO_0; clear HO_8; clear HO_34; clear HB; have HO_0 := n0_; have HO_8 := n1_; have HO_34 := n2_; have HB := n3_; have BK133 := n4_; have GW133 := n5_; have GE133 := n6_; clear n0_ n1_ n2_ n3_ n4_ n5_ n6_; clear hb hbox hg; have hcz24_0 : w23.cell? ⟨gb133, 0, none⟩ = some (.int .i64 0) := (blk_cell BK133.out 0).trans rfl; have hcz24_1 : w23.cell? ⟨gb133, 1, none⟩ = some (.int .i64 0) := (blk_cell BK133.out 1).trans rfl; have hcz24_2 : w23.cell? ⟨gb133, 2, none⟩ = some (.bool false) := (blk_cell BK133.out 2).trans rfl; have hfz24_0 := blk_frozen BK133.out 0; have hfz24_1 := blk_frozen BK133.out 1; have hfz24_2 := blk_frozen BK133.out 2) | ((with_reducible refine gate_callee (f := 62) rfl ?_); refine goesL_ (some 43) rfl rfl Try.func62 (by kernel_rfl) rfl #[.slice A0 l0.length c0, .int .i64 ((rd_T74 x8_1 x36_2).f1)] rfl (by (try simp only [List.map_toArray, List.map_cons, List.map_nil]); first | done | rfl) ?_; (with_reducible refine (topk_Has.calls _ _ l0 ((rd_T74 x8_1 x36_2).f1) true _ ?side1 ?side2 A21.out).mono ?_); (case side1 => refine (Kd.V_reads' (e := 74) (base := w.heap.size) (ok := fun _ => True) (n := l0.length) (c := c0) ?_).2.2; exact Kd.V_mono (by (with_reducible repeat (first | apply Kd.V_alloc | apply Kd.V_drewN | apply Kd.V_drew)); exact (Kd.V_mono (Kd.V_far (p := ⟨gb133, 2, none⟩) (Kd.V_far (p := ⟨gb133, 1, none⟩) (Kd.V_far (p := ⟨gb133, 0, none⟩) (Kd.V_mono HO_0.out (fun k_ hk => (⟨hk, hk.2⟩ : _ ∧ k_ ≠ gb133))) (fun _ hk => hk.2) (.int .i64 ((rd_T74 x8_1 x36_2).f0))) (fun _ hk => hk.2) (.int .i64 ((rd_T74 x8_1 x36_2).f1))) (fun _ hk => hk.2) (.bool ((rd_T74 x8_1 x36_2).f2))) (fun _ h_ => h_.1))) (fun _ _ => trivial)); (case side2 => exact (Kd.V_reads' HO_0.out).2.1); rintro e w25 ⟨rfl, hb⟩; refine ⟨_, rfl, ?_⟩; have n0_ := Aside0.mk (Kd.V_below (by (with_reducible repeat (first | apply Kd.V_alloc | apply Kd.V_drewN | apply Kd.V_drew)); exact (Kd.V_mono (Kd.V_far (p := ⟨gb133, 2, none⟩) (Kd.V_far (p := ⟨gb133, 1, none⟩) (Kd.V_far (p := ⟨gb133, 0, none⟩) (Kd.V_mono HO_0.out (fun k_ hk => (⟨hk, hk.2⟩ : _ ∧ k_ ≠ gb133))) (fun _ hk => hk.2) (.int .i64 ((rd_T74 x8_1 x36_2).f0))) (fun _ hk => hk.2) (.int .i64 ((rd_T74 x8_1 x36_2).f1))) (fun _ hk => hk.2) (.bool ((rd_T74 x8_1 x36_2).f2))) (fun _ h_ => h_.1))) hb); have n1_ := Aside0.mk (Kd.V_below (by (with_reducible repeat (first | apply Kd.V_alloc | apply Kd.V_drewN | apply Kd.V_drew)); exact (Kd.V_mono (Kd.V_far (p := ⟨gb133, 2, none⟩) (Kd.V_far (p := ⟨gb133, 1, none⟩) (Kd.V_far (p := ⟨gb133, 0, none⟩) (Kd.V_mono HO_8.out (fun k_ hk => (⟨hk, hk.2⟩ : _ ∧ k_ ≠ gb133))) (fun _ hk => hk.2) (.int .i64 ((rd_T74 x8_1 x36_2).f0))) (fun _ hk => hk.2) (.int .i64 ((rd_T74 x8_1 x36_2).f1))) (fun _ hk => hk.2) (.bool ((rd_T74 x8_1 x36_2).f2))) (fun _ h_ => h_.1))) hb); have n2_ := Aside0.mk (Kd.V_below (by (with_reducible repeat (first | apply Kd.V_alloc | apply Kd.V_drewN | apply Kd.V_drew)); exact (Kd.V_mono (Kd.V_far (p := ⟨gb133, 2, none⟩) (Kd.V_far (p := ⟨gb133, 1, none⟩) (Kd.V_far (p := ⟨gb133, 0, none⟩) (Kd.V_mono HO_34.out (fun k_ hk => (⟨hk, hk.2⟩ : _ ∧ k_ ≠ gb133))) (fun _ hk => hk.2) (.int .i64 ((rd_T74 x8_1 x36_2).f0))) (fun _ hk => hk.2) (.int .i64 ((rd_T74 x8_1 x36_2).f1))) (fun _ hk => hk.2) (.bool ((rd_T74 x8_1 x36_2).f2))) (fun _ h_ => h_.1))) hb); have n3_ := Aside0.mk (blk_below (g := gb133) (o := .cells #[.int .i64 ((rd_T74 x8_1 x36_2).f0), .int .i64 ((rd_T74 x8_1 x36_2).f1), .bool ((rd_T74 x8_1 x36_2).f2)] 74 (0, 0)) (by (with_reducible repeat (first | refine blk_drewN ?_ _ | refine blk_drew ?_ | refine blk_alloc ?_ _)); refine blk_put (cs := #[.int .i64 ((rd_T74 x8_1 x36_2).f0), .int .i64 ((rd_T74 x8_1 x36_2).f1), .bool false]) ?_ 2 _ rfl; (with_reducible repeat (first | refine blk_drewN ?_ _ | refine blk_drew ?_ | refine blk_alloc ?_ _)); refine blk_put (cs := #[.int .i64 ((rd_T74 x8_1 x36_2).f0), .int .i64 0, .bool false]) ?_ 1 _ rfl; (with_reducible repeat (first | refine blk_drewN ?_ _ | refine blk_drew ?_ | refine blk_alloc ?_ _)); refine blk_put (cs := #[.int .i64 0, .int .i64 0, .bool false]) ?_ 0 _ rfl; (with_reducible repeat (first | refine blk_drewN ?_ _ | refine blk_drew ?_ | refine blk_alloc ?_ _)); exact BK133.out) hb); have n4_ := Aside0.mk (below_step (by repeat (first | exact HB.out | apply below_alloc | apply pw_below_drewN | apply below_drew1 | refine below_set ?_ GE133.out)) hb); clear HO_0; clear HO_8; clear HO_34; clear BK133; clear HB; have HO_0 := n0_; have HO_8 := n1_; have HO_34 := n2_; have BK133 := n3_; have HB := n4_; clear n0_ n1_ n2_ n3_ n4_; (try clear hb); (try clear hb2); (try clear hk); (try clear hi)))
           go_roundg k2
           case measure => have := HK1.out; have := HK2.out; omega
           case rel => exact ⟨(x11_2), (wrap64 (x36_2 + 1)), (by first | rfl | (simp; done) | (simp [*]; done)), (by first | rfl | (simp; done) | (simp [*]; done)), H', ⟨by have := HK1.out; have := HK2.out; omega⟩, ⟨by (with_reducible repeat (first | apply Kd.V_alloc | apply Kd.V_drewN | apply Kd.V_drew)); exact Kd.V_mono HO_0.out (fun _ hk => hk.1)⟩, ⟨by (with_reducible repeat (first | apply Kd.V_alloc | apply Kd.V_drewN | apply Kd.V_drew)); exact Kd.V_mono HO_8.out (fun _ hk => hk.1)⟩, ⟨by (with_reducible repeat (first | apply Kd.V_alloc | apply Kd.V_drewN | apply Kd.V_drew)); exact Kd.V_mono HO_34.out (fun _ hk => hk.1)⟩, ⟨by repeat (first | exact HB.out | apply below_alloc | apply pw_below_drewN | apply below_drew1 | refine below_set ?_ GE133.out)⟩⟩
          ·replace c22 := Bool.eq_false_iff.mpr c22
           subst c22
           have H1 : (topk_Merge.l1 k2 l0 x8_1 (wrap64 (x11_2 + 1)) x8_1 (x8_1.length : Int) (wrap64 (x36_2 + 1))) = some (r1, r2) := by rw [if_neg (show ¬ (false = true) by decide)] at H; exact H
           clear H
           have H := H1
           clear H1
           have H' := Aside0.mk H
           clear H
           have p132 : 0 ≤ (x36_2 : Int) := of_decide_eq_true (by assumption)
           have q132 : x36_2 < (x8_1.length : Int) := of_decide_eq_true (by assumption)
           obtain ⟨ad132, e132, hx132_0, hx132_1, hx132_2⟩ := at_T74 (Kd.V_reads' HO_34.out).2.2 x36_2 p132 q132
           cases e132
           replace p132 := eq_true p132
           replace q132 := eq_true q132
           go_wp2_with (first | ((with_reducible refine gate_dst (N := 13) rfl ?_); refine box_event ?hg (N := 13) ?hd (cs := #[.int .i64 0, .int .i64 0, .bool false]) (t := 74) ?hr ?_; (case hd => rfl); (case hg => rfl); (case hr => first | (go_simp; done) | (go_simp; rfl)); intro gb133 hg w26 hbox hb; have n0_ := Aside0.mk (Kd.V_below (Kd.V_elderB (by (with_reducible repeat (first | apply Kd.V_alloc | apply Kd.V_drewN | apply Kd.V_drew)); exact HO_0.out) gb133 (Nat.le_of_eq hg.symm)) hb); have n1_ := Aside0.mk (Kd.V_below (Kd.V_elderB (by (with_reducible repeat (first | apply Kd.V_alloc | apply Kd.V_drewN | apply Kd.V_drew)); exact HO_8.out) gb133 (Nat.le_of_eq hg.symm)) hb); have n2_ := Aside0.mk (Kd.V_below (Kd.V_elderB (by (with_reducible repeat (first | apply Kd.V_alloc | apply Kd.V_drewN | apply Kd.V_drew)); exact HO_34.out) gb133 (Nat.le_of_eq hg.symm)) hb); have n3_ := Aside0.mk (below_step (by repeat (first | exact HB.out | apply below_alloc | apply pw_below_drewN | apply below_drew1)) hb); have n4_ := Aside0.mk (hbox); have n5_ := Aside0.mk ((by rw [hg]; exact (below_size (by repeat (first | exact HB.out | apply below_alloc | apply pw_below_drewN | apply below_drew1))) : w.heap.size ≤ gb133)); have n6_ := Aside0.mk ((by rw [hg]; exact (below_size (by repeat (first | exact HB.out | apply below_alloc | apply pw_below_drewN | apply below_drew1))) : w.heap.size ≤ gb133)); clear HO_0; clear HO_8; clear HO_34; clear HB; have HO_0 := n0_; have HO_8 := n1_; have HO_34 := n2_; have HB := n3_; have BK133 := n4_; have GW133 := n5_; have GE133 := n6_; clear n0_ n1_ n2_ n3_ n4_ n5_ n6_; clear hb hbox hg; have hcz27_0 : w26.cell? ⟨gb133, 0, none⟩ = some (.int .i64 0) := (blk_cell BK133.out 0).trans rfl; have hcz27_1 : w26.cell? ⟨gb133, 1, none⟩ = some (.int .i64 0) := (blk_cell BK133.out 1).trans rfl; have hcz27_2 : w26.cell? ⟨gb133, 2, none⟩ = some (.bool false) := (blk_cell BK133.out 2).trans rfl; have hfz27_0 := blk_frozen BK133.out 0; have hfz27_1 := blk_frozen BK133.out 1; have hfz27_2 := blk_frozen BK133.out 2) | ((with_reducible refine gate_callee (f := 62) rfl ?_); refine goesL_ (some 43) rfl rfl Try.func62 (by kernel_rfl) rfl #[.slice A0 l0.length c0, .int .i64 ((rd_T74 x8_1 x36_2).f1)] rfl (by (try simp only [List.map_toArray, List.map_cons, List.map_nil]); first | done | rfl) ?_; (with_reducible refine (topk_Has.calls _ _ l0 ((rd_T74 x8_1 x36_2).f1) false _ ?side1 ?side2 A21.out).mono ?_); (case side1 => refine (Kd.V_reads' (e := 74) (base := w.heap.size) (ok := fun _ => True) (n := l0.length) (c := c0) ?_).2.2; exact Kd.V_mono (by (with_reducible repeat (first | apply Kd.V_alloc | apply Kd.V_drewN | apply Kd.V_drew)); exact (Kd.V_mono (Kd.V_far (p := ⟨gb133, 2, none⟩) (Kd.V_far (p := ⟨gb133, 1, none⟩) (Kd.V_far (p := ⟨gb133, 0, none⟩) (Kd.V_mono HO_0.out (fun k_ hk => (⟨hk, hk.2⟩ : _ ∧ k_ ≠ gb133))) (fun _ hk => hk.2) (.int .i64 ((rd_T74 x8_1 x36_2).f0))) (fun _ hk => hk.2) (.int .i64 ((rd_T74 x8_1 x36_2).f1))) (fun _ hk => hk.2) (.bool ((rd_T74 x8_1 x36_2).f2))) (fun _ h_ => h_.1))) (fun _ _ => trivial)); (case side2 => exact (Kd.V_reads' HO_0.out).2.1); rintro e w28 ⟨rfl, hb⟩; refine ⟨_, rfl, ?_⟩; have n0_ := Aside0.mk (Kd.V_below (by (with_reducible repeat (first | apply Kd.V_alloc | apply Kd.V_drewN | apply Kd.V_drew)); exact (Kd.V_mono (Kd.V_far (p := ⟨gb133, 2, none⟩) (Kd.V_far (p := ⟨gb133, 1, none⟩) (Kd.V_far (p := ⟨gb133, 0, none⟩) (Kd.V_mono HO_0.out (fun k_ hk => (⟨hk, hk.2⟩ : _ ∧ k_ ≠ gb133))) (fun _ hk => hk.2) (.int .i64 ((rd_T74 x8_1 x36_2).f0))) (fun _ hk => hk.2) (.int .i64 ((rd_T74 x8_1 x36_2).f1))) (fun _ hk => hk.2) (.bool ((rd_T74 x8_1 x36_2).f2))) (fun _ h_ => h_.1))) hb); have n1_ := Aside0.mk (Kd.V_below (by (with_reducible repeat (first | apply Kd.V_alloc | apply Kd.V_drewN | apply Kd.V_drew)); exact (Kd.V_mono (Kd.V_far (p := ⟨gb133, 2, none⟩) (Kd.V_far (p := ⟨gb133, 1, none⟩) (Kd.V_far (p := ⟨gb133, 0, none⟩) (Kd.V_mono HO_8.out (fun k_ hk => (⟨hk, hk.2⟩ : _ ∧ k_ ≠ gb133))) (fun _ hk => hk.2) (.int .i64 ((rd_T74 x8_1 x36_2).f0))) (fun _ hk => hk.2) (.int .i64 ((rd_T74 x8_1 x36_2).f1))) (fun _ hk => hk.2) (.bool ((rd_T74 x8_1 x36_2).f2))) (fun _ h_ => h_.1))) hb); have n2_ := Aside0.mk (Kd.V_below (by (with_reducible repeat (first | apply Kd.V_alloc | apply Kd.V_drewN | apply Kd.V_drew)); exact (Kd.V_mono (Kd.V_far (p := ⟨gb133, 2, none⟩) (Kd.V_far (p := ⟨gb133, 1, none⟩) (Kd.V_far (p := ⟨gb133, 0, none⟩) (Kd.V_mono HO_34.out (fun k_ hk => (⟨hk, hk.2⟩ : _ ∧ k_ ≠ gb133))) (fun _ hk => hk.2) (.int .i64 ((rd_T74 x8_1 x36_2).f0))) (fun _ hk => hk.2) (.int .i64 ((rd_T74 x8_1 x36_2).f1))) (fun _ hk => hk.2) (.bool ((rd_T74 x8_1 x36_2).f2))) (fun _ h_ => h_.1))) hb); have n3_ := Aside0.mk (blk_below (g := gb133) (o := .cells #[.int .i64 ((rd_T74 x8_1 x36_2).f0), .int .i64 ((rd_T74 x8_1 x36_2).f1), .bool ((rd_T74 x8_1 x36_2).f2)] 74 (0, 0)) (by (with_reducible repeat (first | refine blk_drewN ?_ _ | refine blk_drew ?_ | refine blk_alloc ?_ _)); refine blk_put (cs := #[.int .i64 ((rd_T74 x8_1 x36_2).f0), .int .i64 ((rd_T74 x8_1 x36_2).f1), .bool false]) ?_ 2 _ rfl; (with_reducible repeat (first | refine blk_drewN ?_ _ | refine blk_drew ?_ | refine blk_alloc ?_ _)); refine blk_put (cs := #[.int .i64 ((rd_T74 x8_1 x36_2).f0), .int .i64 0, .bool false]) ?_ 1 _ rfl; (with_reducible repeat (first | refine blk_drewN ?_ _ | refine blk_drew ?_ | refine blk_alloc ?_ _)); refine blk_put (cs := #[.int .i64 0, .int .i64 0, .bool false]) ?_ 0 _ rfl; (with_reducible repeat (first | refine blk_drewN ?_ _ | refine blk_drew ?_ | refine blk_alloc ?_ _)); exact BK133.out) hb); have n4_ := Aside0.mk (below_step (by repeat (first | exact HB.out | apply below_alloc | apply pw_below_drewN | apply below_drew1 | refine below_set ?_ GE133.out)) hb); clear HO_0; clear HO_8; clear HO_34; clear BK133; clear HB; have HO_0 := n0_; have HO_8 := n1_; have HO_34 := n2_; have BK133 := n3_; have HB := n4_; clear n0_ n1_ n2_ n3_ n4_; (try clear hb); (try clear hb2); (try clear hk); (try clear hi)))
           go_roundg k2
           case measure => have := HK1.out; have := HK2.out; omega
           case rel => exact ⟨(wrap64 (x11_2 + 1)), (wrap64 (x36_2 + 1)), (by first | rfl | (simp; done) | (simp [*]; done)), (by first | rfl | (simp; done) | (simp [*]; done)), H', ⟨by have := HK1.out; have := HK2.out; omega⟩, ⟨by (with_reducible repeat (first | apply Kd.V_alloc | apply Kd.V_drewN | apply Kd.V_drew)); exact Kd.V_mono HO_0.out (fun _ hk => hk.1)⟩, ⟨by (with_reducible repeat (first | apply Kd.V_alloc | apply Kd.V_drewN | apply Kd.V_drew)); exact Kd.V_mono HO_8.out (fun _ hk => hk.1)⟩, ⟨by (with_reducible repeat (first | apply Kd.V_alloc | apply Kd.V_drewN | apply Kd.V_drew)); exact Kd.V_mono HO_34.out (fun _ hk => hk.1)⟩, ⟨by repeat (first | exact HB.out | apply below_alloc | apply pw_below_drewN | apply below_drew1 | refine below_set ?_ GE133.out)⟩⟩
         ·rw [if_neg c20] at H
          exact absurd H (by simp)
        ·rw [if_neg c19] at H
         exact absurd H (by simp)
       ·rw [if_neg c18] at H
        have c18b0 : decide (x36_2 < (x8_1.length : Int)) = false := decide_eq_false c18
        clear c18
        simp only [Option.some.injEq, Prod.mk.injEq] at H
        obtain ⟨rfl, rfl⟩ := H
        go_wp2
        go_ret2
        exact ⟨_, by first | rfl | (simp [errW_none, errW_some] <;> rfl) | (simp [*, errW_none, errW_some] <;> rfl), by (with_reducible repeat (first | apply Kd.V_alloc | apply Kd.V_drewN | apply Kd.V_drew)); exact HO_8.out, by repeat (first | exact HB.out | apply below_alloc | apply pw_below_drewN | apply below_drew1)⟩
 ·replace c5 := Bool.eq_false_iff.mpr c5
  subst c5
  have H1 : (some (l0, 0)) = some (r1, r2) := by rw [if_neg (show ¬ (false = true) by decide)] at H; exact H
  clear H
  have H := H1
  clear H1
  simp only [Option.some.injEq, Prod.mk.injEq] at H
  obtain ⟨rfl, rfl⟩ := H
  go_enter Try.func100, Try.ntmps100
  go_wp2_with (first | ((with_reducible refine gate_callee (f := 136) rfl ?_); refine goesL_ (some 16) rfl rfl Try.func136 (by kernel_rfl) rfl #[.slice A0 l0.length c0, .int .i64 a2] rfl (by (try simp only [List.map_toArray, List.map_cons, List.map_nil]); first | done | rfl) ?_; (with_reducible refine (topk_Right.calls _ _ l0 a2 false _ ?side1 ?side2 A4.out).mono ?_); (case side1 => repeat (first | exact (Kd.V_reads' HO0.out).2.2 | (with_reducible first | refine Kd.C_alloc ?_ _ | refine Kd.C_drewN ?_ _ | refine Kd.C_drew ?_))); (case side2 => exact (Kd.V_reads' HO0.out).2.1); rintro e w29 ⟨rfl, hb⟩; refine ⟨_, rfl, ?_⟩; have n0_ := Aside0.mk (Kd.V_below (by (with_reducible repeat (first | apply Kd.V_alloc | apply Kd.V_drewN | apply Kd.V_drew)); exact HO0.out) hb); have n1_ := Aside0.mk (below_step (by repeat (first | exact HB.out | apply below_alloc | apply pw_below_drewN | apply below_drew1)) hb); clear HO0; clear HB; have HO0 := n0_; have HB := n1_; clear n0_ n1_; (try clear hb); (try clear hb2); (try clear hk); (try clear hi)))
  go_ret2
  exact ⟨_, by first | rfl | (simp [errW_none, errW_some] <;> rfl) | (simp [*, errW_none, errW_some] <;> rfl), by (with_reducible repeat (first | apply Kd.V_alloc | apply Kd.V_drewN | apply Kd.V_drew)); exact HO0.out, by repeat (first | exact HB.out | apply below_alloc | apply pw_below_drewN | apply below_drew1)⟩

/-! ### topk_Best: function 60 -/
def topk_Best.f (k : Nat) (l0 : List (S74)) (a1 : Int) : Option ((List (S74))) := (topk_Merge.f k ([] : List (S74)) l0 a1).bind fun bt135 => (some bt135.1)
theorem topk_Best.mono : ∀ a0 a1 k, LeO (topk_Best.f k a0 a1) (topk_Best.f (k + 1) a0 a1) := by
 intro a0 a1 k
 unfold topk_Best.f
 repeat' first
   | (with_reducible exact topk_Merge.mono _ _ _ _)
   | (with_reducible exact LeO.refl _)
   | (with_reducible exact LeO.none _)
   | (with_reducible refine LeO.ite ?_ ?_)
   | (with_reducible refine LeO.bind ?_ (fun _ => ?_))
   | exact topk_Merge.mono _ _ _ _
   | exact LeO.none _
   | refine LeO.ite ?_ ?_
   | refine LeO.bind ?_ (fun _ => ?_)
set_option maxHeartbeats 8000000 in
set_option maxRecDepth 100000 in
theorem topk_Best.calls (k : Nat) (A0 : Option Addr) (c0 : Nat) (l0 : List (S74)) (a1 : Int) (r : List (S74)) (w : World) (hr0 : Kd.C k74 w A0 l0.length l0) (hc0 : l0.length ≤ c0) (h : topk_Best.f k l0 a1 = some r) :
  Calls Try.prog 60 #[.slice A0 l0.length c0, .int .i64 a1] w fun e w' => ∃ v0_ : Value, e = .returned (v0_) ∧ Kd.V k74 74 w' w.heap.size (fun k_ => (w.heap.size ≤ k_)) v0_ r ∧ Below w.heap.size w w' := by
 have HR0 := Aside0.mk hr0
 have HC0 := Aside0.mk hc0
 clear hr0 hc0
 have HB := Aside0.mk (Below.refl w.heap.size w)
 have H : ((topk_Merge.f k ([] : List (S74)) l0 a1).bind fun bt135 => (some bt135.1)) = some r := h
 clear h
 replace H := Option.bind_eq_some_iff.mp H
 obtain ⟨⟨t135, t138⟩, A30, H⟩ := H
 replace H : (some t135) = some r := H
 have A3 := Aside0.mk A30
 clear A30
 obtain rfl := Option.some.inj H
 go_enter Try.func60, Try.ntmps60
 go_wp2_with (first | ((with_reducible refine gate_callee (f := 100) rfl ?_); refine goesL_ (some 10) rfl rfl Try.func100 (by kernel_rfl) rfl #[.slice none 0 0, .slice A0 l0.length c0, .int .i64 a1] rfl (by (try simp only [List.map_toArray, List.map_cons, List.map_nil]); first | done | rfl) ?_; (refine (topk_Merge.calls k (fun k_ => False) _ _ ([] : List (S74)) _ _ l0 a1 t135 t138 _ ?side1 ?side2 ?side3 A3.out).mono ?_); (case side1 => exact Kd.V_nil _ _ _ _ _); (case side2 => repeat (first | exact HR0.out | (with_reducible first | refine Kd.C_alloc ?_ _ | refine Kd.C_drewN ?_ _ | refine Kd.C_drew ?_))); (case side3 => exact HC0.out); rintro e w4 ⟨v136, rfl, ho0, hb⟩; refine ⟨_, rfl, ?_⟩; have n0_ := Aside0.mk (Kd.V_lower (Kd.V_mono (ok' := fun k_ => (w.heap.size ≤ k_)) ho0 (fun k_ hk_ => Or.elim hk_ (fun hs_ => (hs_).elim) (fun hn_ => (Nat.le_trans (below_size (by repeat (first | exact HB.out | apply below_alloc | apply pw_below_drewN | apply below_drew1))) hn_)))) (below_size (by repeat (first | exact HB.out | apply below_alloc | apply pw_below_drewN | apply below_drew1)))); have n1_ := Aside0.mk (below_step (by repeat (first | exact HB.out | apply below_alloc | apply pw_below_drewN | apply below_drew1)) hb); clear HB; have HO137 := n0_; have HB := n1_; clear n0_ n1_; (try clear hb); (try clear hb2); (try clear hk); (try clear hi); (try clear ho0)))
 go_ret
 exact ⟨_, by first | rfl | (simp [errW_none, errW_some] <;> rfl) | (simp [*, errW_none, errW_some] <;> rfl), by (with_reducible repeat (first | apply Kd.V_alloc | apply Kd.V_drewN | apply Kd.V_drew)); exact HO137.out, by repeat (first | exact HB.out | apply below_alloc | apply pw_below_drewN | apply below_drew1)⟩

end Go.Proofs.Ytjjjafhchombcaa.PModelExact
