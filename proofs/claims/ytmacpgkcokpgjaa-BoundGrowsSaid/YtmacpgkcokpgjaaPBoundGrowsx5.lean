/- The Go functions that the law reaches, as plain Lean functions, and proofs that the calls of the machine come to them, or the row of the law over them, for every input that the row speaks of; written by a program of this session (wip/tool/mkprint.py) out of the translation and of hand-made templates. -/
import Derived.Test.YtmacpgkcokpgjaaPBoundGrowsx0
import Derived.Test.YtmacpgkcokpgjaaPBoundGrowsx2
import Derived.Test.YtmacpgkcokpgjaaPBoundGrowsx4
namespace Go.Proofs.Ytmacpgkcokpgjaa.PBoundGrows
open Go.RowKit Go.Proofs.YtmacpgkcokpgjaaW.PrintWords Go.Proofs.YtmacpgkcokpgjaaW.PrintLast Go.Proofs.YtmacpgkcokpgjaaW.PrintMore
attribute [local go_sem] max2_int min2_int max_two min_two max_three min_three max_four min_four   -- for this text's walks alone
set_option linter.unusedVariables false
set_option linter.unusedSimpArgs false

/-! ### chainmanlaw40_awake: function 29 -/
def chainmanlaw40_awake.f (k : Nat)  : Option (Bool) := (bound_Sort.f k 0 16).bind fun t293 => (if t293 = 48 then ((bound_Sort.f k (-1) 16).bind fun t294 => (if t294 = 0 then ((bound_Job.f k 0 0 0 0 0 0 0 0 0 0 0).bind fun t295 => (some (t295 == 0))) else (none))) else (none))
theorem chainmanlaw40_awake.mono : ∀ k, LeO (chainmanlaw40_awake.f k ) (chainmanlaw40_awake.f (k + 1) ) := by
  intro  k
  unfold chainmanlaw40_awake.f
  repeat' first
      | (with_reducible exact bound_Job.mono _ _ _ _ _ _ _ _ _ _ _ _)
      | (with_reducible exact bound_Sort.mono _ _ _)
      | (with_reducible exact LeO.refl _)
      | (with_reducible exact LeO.none _)
      | (with_reducible refine LeO.ite ?_ ?_)
      | (with_reducible refine LeO.bind ?_ (fun _ => ?_))
      | exact bound_Job.mono _ _ _ _ _ _ _ _ _ _ _ _
      | exact bound_Sort.mono _ _ _
      | exact LeO.none _
      | refine LeO.ite ?_ ?_
      | refine LeO.bind ?_ (fun _ => ?_)
set_option maxHeartbeats 8000000 in
set_option maxRecDepth 100000 in
theorem chainmanlaw40_awake.calls (k : Nat)  (r : Bool) (w : World) (h : chainmanlaw40_awake.f k  = some r) :
    Calls Try.prog 29 #[] w fun e w' => e = .returned (.bool r) ∧ Below w.heap.size w w' := by
  have hu35 := Try.underlying35
  have HB := Aside0.mk (Below.refl w.heap.size w)
  have H : ((bound_Sort.f k 0 16).bind fun t293 => (if t293 = 48 then ((bound_Sort.f k (-1) 16).bind fun t294 => (if t294 = 0 then ((bound_Job.f k 0 0 0 0 0 0 0 0 0 0 0).bind fun t295 => (some (t295 == 0))) else (none))) else (none))) = some r := h
  clear h
  replace H := Option.bind_eq_some_iff.mp H
  obtain ⟨t293, A10, H⟩ := H
  replace H : (if t293 = 48 then ((bound_Sort.f k (-1) 16).bind fun t294 => (if t294 = 0 then ((bound_Job.f k 0 0 0 0 0 0 0 0 0 0 0).bind fun t295 => (some (t295 == 0))) else (none))) else (none)) = some r := H
  have A1 := Aside0.mk A10
  clear A10
  by_cases c2 : t293 = 48
  · rw [if_pos c2] at H
    have c2b0 : (t293 == 48) = true := beq_iff_eq.mpr c2
    have c2b1 : (t293 != 48) = false := bne_eq_false_iff_eq.mpr c2
    clear c2
    replace H := Option.bind_eq_some_iff.mp H
    obtain ⟨t294, A30, H⟩ := H
    replace H : (if t294 = 0 then ((bound_Job.f k 0 0 0 0 0 0 0 0 0 0 0).bind fun t295 => (some (t295 == 0))) else (none)) = some r := H
    have A3 := Aside0.mk A30
    clear A30
    by_cases c4 : t294 = 0
    · rw [if_pos c4] at H
      have c4b0 : (t294 == 0) = true := beq_iff_eq.mpr c4
      have c4b1 : (t294 != 0) = false := bne_eq_false_iff_eq.mpr c4
      clear c4
      replace H := Option.bind_eq_some_iff.mp H
      obtain ⟨t295, A50, H⟩ := H
      replace H : (some (t295 == 0)) = some r := H
      have A5 := Aside0.mk A50
      clear A50
      obtain rfl := Option.some.inj H
      go_enter Try.func29, Try.ntmps29
      go_wp2_with (first | ((with_reducible refine gate_callee (f := 21) rfl ?_); refine goesL_ (some 1) rfl rfl Try.func21 (by kernel_rfl) rfl #[.int .i64 0, .int .i64 16] rfl (by (try simp only [List.map_toArray, List.map_cons, List.map_nil]); first | done | rfl | (simp only [List.length_drop, List.length_take]; rfl)) ?_; (with_reducible refine (bound_Sort.calls k 0 16 t293 _ A1.out).mono ?_); rintro e w6 ⟨rfl, hb⟩; refine ⟨_, rfl, ?_⟩; have n0_ := Aside0.mk (below_step (by repeat (first | (with_reducible first | exact HB.out | apply below_alloc | apply pw_below_drewN | apply below_drew1) | exact HB.out)) hb); clear HB; have HB := n0_; clear n0_; (try clear hb); (try clear hb2); (try clear hk); (try clear hi)) | (go_at_call 21; (with_reducible refine (bound_Sort.calls k (-1) 16 t294 _ A3.out).mono ?_); rintro e w7 ⟨rfl, hb⟩; have n0_ := Aside0.mk (below_step (by repeat (first | (with_reducible first | exact HB.out | apply below_alloc | apply pw_below_drewN | apply below_drew1) | exact HB.out)) hb); clear HB; have HB := n0_; clear n0_; (try clear hb); (try clear hb2); (try clear hk); (try clear hi)) | (go_at_call 27; (with_reducible refine (bound_Job.calls k 0 0 0 0 0 0 0 0 0 0 0 t295 _ A5.out).mono ?_); rintro e w8 ⟨rfl, hb⟩; have n0_ := Aside0.mk (below_step (by repeat (first | (with_reducible first | exact HB.out | apply below_alloc | apply pw_below_drewN | apply below_drew1) | exact HB.out)) hb); clear HB; have HB := n0_; clear n0_; (try clear hb); (try clear hb2); (try clear hk); (try clear hi)))
      go_ret
      exact ⟨by first | rfl | (simp [errW_none, errW_some] <;> rfl) | (simp [*, errW_none, errW_some] <;> rfl), by repeat (first | (with_reducible first | exact HB.out | apply below_alloc | apply pw_below_drewN | apply below_drew1) | exact HB.out)⟩
    · rw [if_neg c4] at H
      exact absurd H (by simp)
  · rw [if_neg c2] at H
    exact absurd H (by simp)

/-! ### chainmanlaw40_BoundGrows: function 5 -/
def chainmanlaw40_BoundGrows.f (k : Nat) (a0 : Int) (a1 : Int) (a2 : Int) (a3 : Int) : Option (Bool) := (bound_Sort.f k (wrap64 (Int.tmod a0 549755813888)) (wrap64 (16 + (wrap64 (Int.tmod a2 274877906944))))).bind fun t296 => ((bound_Sort.f k (wrap64 ((wrap64 (Int.tmod a0 549755813888)) + (wrap64 (Int.tmod a1 549755813888)))) (wrap64 (16 + (wrap64 (Int.tmod a2 274877906944))))).bind fun t297 => ((bound_Sort.f k (wrap64 ((wrap64 (Int.tmod a0 549755813888)) + (wrap64 (Int.tmod a1 549755813888)))) (wrap64 ((wrap64 (16 + (wrap64 (Int.tmod a2 274877906944)))) + (wrap64 (Int.tmod a3 274877906944))))).bind fun t298 => (if t296 ≥ 48 then (if t296 ≤ t297 then (if t298 ≤ t297 then (if t297 ≤ 4611686018427387904 then ((chainmanlaw40_awake.f k).bind fun t299 => (some t299)) else (none)) else (none)) else (none)) else (none))))
theorem chainmanlaw40_BoundGrows.mono : ∀ a0 a1 a2 a3 k, LeO (chainmanlaw40_BoundGrows.f k a0 a1 a2 a3) (chainmanlaw40_BoundGrows.f (k + 1) a0 a1 a2 a3) := by
  intro a0 a1 a2 a3 k
  unfold chainmanlaw40_BoundGrows.f
  repeat' first
      | (with_reducible exact bound_Sort.mono _ _ _)
      | (with_reducible exact chainmanlaw40_awake.mono _)
      | (with_reducible exact LeO.refl _)
      | (with_reducible exact LeO.none _)
      | (with_reducible refine LeO.ite ?_ ?_)
      | (with_reducible refine LeO.bind ?_ (fun _ => ?_))
      | exact bound_Sort.mono _ _ _
      | exact chainmanlaw40_awake.mono _
      | exact LeO.none _
      | refine LeO.ite ?_ ?_
      | refine LeO.bind ?_ (fun _ => ?_)
set_option maxHeartbeats 8000000 in
set_option maxRecDepth 100000 in
theorem chainmanlaw40_BoundGrows.calls (k : Nat) (a0 : Int) (a1 : Int) (a2 : Int) (a3 : Int) (r : Bool) (w : World) (h : chainmanlaw40_BoundGrows.f k a0 a1 a2 a3 = some r) :
    Calls Try.prog 5 #[.int .u64 a0, .int .u64 a1, .int .u64 a2, .int .u64 a3] w fun e w' => e = .returned (.bool r) ∧ Below w.heap.size w w' := by
  have HB := Aside0.mk (Below.refl w.heap.size w)
  have H : ((bound_Sort.f k (wrap64 (Int.tmod a0 549755813888)) (wrap64 (16 + (wrap64 (Int.tmod a2 274877906944))))).bind fun t296 => ((bound_Sort.f k (wrap64 ((wrap64 (Int.tmod a0 549755813888)) + (wrap64 (Int.tmod a1 549755813888)))) (wrap64 (16 + (wrap64 (Int.tmod a2 274877906944))))).bind fun t297 => ((bound_Sort.f k (wrap64 ((wrap64 (Int.tmod a0 549755813888)) + (wrap64 (Int.tmod a1 549755813888)))) (wrap64 ((wrap64 (16 + (wrap64 (Int.tmod a2 274877906944)))) + (wrap64 (Int.tmod a3 274877906944))))).bind fun t298 => (if t296 ≥ 48 then (if t296 ≤ t297 then (if t298 ≤ t297 then (if t297 ≤ 4611686018427387904 then ((chainmanlaw40_awake.f k).bind fun t299 => (some t299)) else (none)) else (none)) else (none)) else (none))))) = some r := h
  clear h
  replace H := Option.bind_eq_some_iff.mp H
  obtain ⟨t296, A50, H⟩ := H
  replace H : ((bound_Sort.f k (wrap64 ((wrap64 (Int.tmod a0 549755813888)) + (wrap64 (Int.tmod a1 549755813888)))) (wrap64 (16 + (wrap64 (Int.tmod a2 274877906944))))).bind fun t297 => ((bound_Sort.f k (wrap64 ((wrap64 (Int.tmod a0 549755813888)) + (wrap64 (Int.tmod a1 549755813888)))) (wrap64 ((wrap64 (16 + (wrap64 (Int.tmod a2 274877906944)))) + (wrap64 (Int.tmod a3 274877906944))))).bind fun t298 => (if t296 ≥ 48 then (if t296 ≤ t297 then (if t298 ≤ t297 then (if t297 ≤ 4611686018427387904 then ((chainmanlaw40_awake.f k).bind fun t299 => (some t299)) else (none)) else (none)) else (none)) else (none)))) = some r := H
  have A5 := Aside0.mk A50
  clear A50
  replace H := Option.bind_eq_some_iff.mp H
  obtain ⟨t297, A60, H⟩ := H
  replace H : ((bound_Sort.f k (wrap64 ((wrap64 (Int.tmod a0 549755813888)) + (wrap64 (Int.tmod a1 549755813888)))) (wrap64 ((wrap64 (16 + (wrap64 (Int.tmod a2 274877906944)))) + (wrap64 (Int.tmod a3 274877906944))))).bind fun t298 => (if t296 ≥ 48 then (if t296 ≤ t297 then (if t298 ≤ t297 then (if t297 ≤ 4611686018427387904 then ((chainmanlaw40_awake.f k).bind fun t299 => (some t299)) else (none)) else (none)) else (none)) else (none))) = some r := H
  have A6 := Aside0.mk A60
  clear A60
  replace H := Option.bind_eq_some_iff.mp H
  obtain ⟨t298, A70, H⟩ := H
  replace H : (if t296 ≥ 48 then (if t296 ≤ t297 then (if t298 ≤ t297 then (if t297 ≤ 4611686018427387904 then ((chainmanlaw40_awake.f k).bind fun t299 => (some t299)) else (none)) else (none)) else (none)) else (none)) = some r := H
  have A7 := Aside0.mk A70
  clear A70
  by_cases c8 : t296 ≥ 48
  · rw [if_pos c8] at H
    have c8b0 : decide (48 ≤ t296) = true := decide_eq_true c8
    clear c8
    by_cases c9 : t296 ≤ t297
    · rw [if_pos c9] at H
      have c9b0 : decide (t296 ≤ t297) = true := decide_eq_true c9
      clear c9
      by_cases c10 : t298 ≤ t297
      · rw [if_pos c10] at H
        have c10b0 : decide (t298 ≤ t297) = true := decide_eq_true c10
        clear c10
        by_cases c11 : t297 ≤ 4611686018427387904
        · rw [if_pos c11] at H
          have c11b0 : decide (t297 ≤ 4611686018427387904) = true := decide_eq_true c11
          clear c11
          replace H := Option.bind_eq_some_iff.mp H
          obtain ⟨t299, A120, H⟩ := H
          replace H : (some t299) = some r := H
          have A12 := Aside0.mk A120
          clear A120
          obtain rfl := Option.some.inj H
          go_enter Try.func5, Try.ntmps5
          go_wp2_with (first | ((with_reducible refine gate_callee (f := 21) rfl ?_); refine goesL_ (some 35) rfl rfl Try.func21 (by kernel_rfl) rfl #[.int .i64 (wrap64 (Int.tmod a0 549755813888)), .int .i64 (wrap64 (16 + (wrap64 (Int.tmod a2 274877906944))))] rfl (by (try simp only [List.map_toArray, List.map_cons, List.map_nil]); first | done | rfl | (simp only [List.length_drop, List.length_take]; rfl)) ?_; (with_reducible refine (bound_Sort.calls k (wrap64 (Int.tmod a0 549755813888)) (wrap64 (16 + (wrap64 (Int.tmod a2 274877906944)))) t296 _ A5.out).mono ?_); rintro e w13 ⟨rfl, hb⟩; refine ⟨_, rfl, ?_⟩; have n0_ := Aside0.mk (below_step (by repeat (first | (with_reducible first | exact HB.out | apply below_alloc | apply pw_below_drewN | apply below_drew1) | exact HB.out)) hb); clear HB; have HB := n0_; clear n0_; (try clear hb); (try clear hb2); (try clear hk); (try clear hi)) | ((with_reducible refine gate_callee (f := 21) rfl ?_); refine goesL_ (some 38) rfl rfl Try.func21 (by kernel_rfl) rfl #[.int .i64 (wrap64 ((wrap64 (Int.tmod a0 549755813888)) + (wrap64 (Int.tmod a1 549755813888)))), .int .i64 (wrap64 (16 + (wrap64 (Int.tmod a2 274877906944))))] rfl (by (try simp only [List.map_toArray, List.map_cons, List.map_nil]); first | done | rfl | (simp only [List.length_drop, List.length_take]; rfl)) ?_; (with_reducible refine (bound_Sort.calls k (wrap64 ((wrap64 (Int.tmod a0 549755813888)) + (wrap64 (Int.tmod a1 549755813888)))) (wrap64 (16 + (wrap64 (Int.tmod a2 274877906944)))) t297 _ A6.out).mono ?_); rintro e w14 ⟨rfl, hb⟩; refine ⟨_, rfl, ?_⟩; have n0_ := Aside0.mk (below_step (by repeat (first | (with_reducible first | exact HB.out | apply below_alloc | apply pw_below_drewN | apply below_drew1) | exact HB.out)) hb); clear HB; have HB := n0_; clear n0_; (try clear hb); (try clear hb2); (try clear hk); (try clear hi)) | ((with_reducible refine gate_callee (f := 21) rfl ?_); refine goesL_ (some 41) rfl rfl Try.func21 (by kernel_rfl) rfl #[.int .i64 (wrap64 ((wrap64 (Int.tmod a0 549755813888)) + (wrap64 (Int.tmod a1 549755813888)))), .int .i64 (wrap64 ((wrap64 (16 + (wrap64 (Int.tmod a2 274877906944)))) + (wrap64 (Int.tmod a3 274877906944))))] rfl (by (try simp only [List.map_toArray, List.map_cons, List.map_nil]); first | done | rfl | (simp only [List.length_drop, List.length_take]; rfl)) ?_; (with_reducible refine (bound_Sort.calls k (wrap64 ((wrap64 (Int.tmod a0 549755813888)) + (wrap64 (Int.tmod a1 549755813888)))) (wrap64 ((wrap64 (16 + (wrap64 (Int.tmod a2 274877906944)))) + (wrap64 (Int.tmod a3 274877906944)))) t298 _ A7.out).mono ?_); rintro e w15 ⟨rfl, hb⟩; refine ⟨_, rfl, ?_⟩; have n0_ := Aside0.mk (below_step (by repeat (first | (with_reducible first | exact HB.out | apply below_alloc | apply pw_below_drewN | apply below_drew1) | exact HB.out)) hb); clear HB; have HB := n0_; clear n0_; (try clear hb); (try clear hb2); (try clear hk); (try clear hi)) | (go_at_call 29; (with_reducible refine (chainmanlaw40_awake.calls k  t299 _ A12.out).mono ?_); rintro e w16 ⟨rfl, hb⟩; have n0_ := Aside0.mk (below_step (by repeat (first | (with_reducible first | exact HB.out | apply below_alloc | apply pw_below_drewN | apply below_drew1) | exact HB.out)) hb); clear HB; have HB := n0_; clear n0_; (try clear hb); (try clear hb2); (try clear hk); (try clear hi)))
          go_ret
          exact ⟨by first | rfl | (simp [errW_none, errW_some] <;> rfl) | (simp [*, errW_none, errW_some] <;> rfl), by repeat (first | (with_reducible first | exact HB.out | apply below_alloc | apply pw_below_drewN | apply below_drew1) | exact HB.out)⟩
        · rw [if_neg c11] at H
          exact absurd H (by simp)
      · rw [if_neg c10] at H
        exact absurd H (by simp)
    · rw [if_neg c9] at H
      exact absurd H (by simp)
  · rw [if_neg c8] at H
    exact absurd H (by simp)

/-- THE ONE PURE STATEMENT of chainmanlaw40_BoundGrows: yours. -/
def chainmanlaw40_BoundGrows.Pure : Prop := ∀ (a0 : Int) (a1 : Int) (a2 : Int) (a3 : Int), (Lit.int .u64 a0).wf = true → (Lit.int .u64 a1).wf = true → (Lit.int .u64 a2).wf = true → (Lit.int .u64 a3).wf = true → ∃ k, chainmanlaw40_BoundGrows.f k a0 a1 a2 a3 = some true
theorem chainmanlaw40_BoundGrows.walk (P : chainmanlaw40_BoundGrows.Pure) (a0 : Int) (a1 : Int) (a2 : Int) (a3 : Int) (w : World) (w0 : (Lit.int .u64 a0).wf = true) (w1 : (Lit.int .u64 a1).wf = true) (w2 : (Lit.int .u64 a2).wf = true) (w3 : (Lit.int .u64 a3).wf = true) :
    Calls Try.prog 5 #[.int .u64 a0, .int .u64 a1, .int .u64 a2, .int .u64 a3] w fun e w' => e = .returned (.bool true) ∧ Below w.heap.size w w' := by
  obtain ⟨k, h⟩ := P a0 a1 a2 a3 w0 w1 w2 w3
  refine (chainmanlaw40_BoundGrows.calls k a0 a1 a2 a3 true w h).mono ?_
  rintro e w' ⟨rfl, hd⟩
  exact ⟨rfl, hd⟩

end Go.Proofs.Ytmacpgkcokpgjaa.PBoundGrows
