/- The Go functions that the law reaches, as plain Lean functions, and proofs that the calls of the machine come to them, or the row of the law over them, for every input that the row speaks of; written by a program of this session (wip/tool/mkprint.py) out of the translation and of hand-made templates. -/
import Derived.Test.YtmacpgkcokpgjaaDoorPStageEndsx0
import Derived.Test.YtmacpgkcokpgjaaDoorPStageEndsx2
namespace Go.Proofs.YtmacpgkcokpgjaaDoor.PStageEnds
open Go.RowKit Go.Proofs.YtmacpgkcokpgjaaDoorW.PrintWords Go.Proofs.YtmacpgkcokpgjaaDoorW.PrintLast Go.Proofs.YtmacpgkcokpgjaaDoorW.PrintMore
attribute [local go_sem] max2_int min2_int max_two min_two max_three min_three max_four min_four   -- for this text's walks alone
set_option linter.unusedVariables false
set_option linter.unusedSimpArgs false

/-! ### manifest_Right: function 12 -/
/-- Whether a file may be told of. -/
def manifest_Right.mayB (x : S39) : Bool := (x.f0.data.toList.all fs_Right.ok && (decide (x.f0.size ≠ 0) && decide (x.f0.size ≤ 24))) && decide (1 ≤ x.f1 ∧ x.f1 ≤ 64 ∧ 0 ≤ x.f2 ∧ x.f2 ≤ 4611686018427387904)
theorem manifest_Right.may_f (x : S39) (h : x.f0.size ≤ 1000000000) : manifest_may.f x.f0 x.f1 x.f2 x.f3 = some (manifest_Right.mayB x) := by
  unfold manifest_may.f manifest_Right.mayB fs_Right.f
  rw [if_pos h, Option.bind_some]
  cases (x.f0.data.toList.all fs_Right.ok && (decide (x.f0.size ≠ 0) && decide (x.f0.size ≤ 24))) with
  | false => rw [if_neg (by decide)]; rfl
  | true =>
    rw [if_pos rfl, Bool.true_and]
    by_cases h1 : x.f1 ≥ 1
    · rw [if_pos h1]
      by_cases h2 : x.f1 ≤ 64
      · rw [if_pos h2]
        by_cases h3 : x.f2 ≥ 0
        · rw [if_pos h3]; exact congrArg some (decide_eq_decide.mpr (by omega))
        · rw [if_neg h3]; exact congrArg some (Eq.symm (decide_eq_false (by omega)))
      · rw [if_neg h2]; exact congrArg some (Eq.symm (decide_eq_false (by omega)))
    · rw [if_neg h1]; exact congrArg some (Eq.symm (decide_eq_false (by omega)))
def manifest_Right.met (l : List S39) (i : Nat) (s : ByteArray) : Bool := (l.take i).any fun y => y.f0.toList == s.toList
def manifest_Right.ok (l : List S39) (i : Nat) : Bool := manifest_Right.mayB (l.getD i z39) && !manifest_Right.met l i (l.getD i z39).f0
def manifest_Right.f (a0_0 : Int) (a0_1 : Int) (l0_2 : List S39) : Option Bool := if l0_2.length ≤ 1000000000 ∧ (l0_2.all fun x => decide (x.f0.size ≤ 1000000000)) = true then some (decide (1 ≤ a0_0 ∧ a0_0 ≤ 7 ∧ 0 ≤ a0_1 ∧ a0_1 ≤ 1000 ∧ (l0_2.length : Int) ≤ 16) && (List.range l0_2.length).all (manifest_Right.ok l0_2)) else none
theorem manifest_Right.at (l : List S39) (x : Nat) (h : x < l.length) : l.getD x z39 = l[x] := by
  rw [List.getD_eq_getElem?_getD, List.getElem?_eq_getElem h]; rfl
theorem manifest_Right.bad (l0_2 : List S39) (a0_0 a0_1 : Int) (x : Nat) (h : x < l0_2.length) (hx : manifest_Right.ok l0_2 x = false) : (decide (1 ≤ a0_0 ∧ a0_0 ≤ 7 ∧ 0 ≤ a0_1 ∧ a0_1 ≤ 1000 ∧ (l0_2.length : Int) ≤ 16) && (List.range l0_2.length).all (manifest_Right.ok l0_2)) = false := by
  rw [show (List.range l0_2.length).all (manifest_Right.ok l0_2) = false from List.all_eq_false.mpr ⟨x, List.mem_range.mpr h, by rw [hx]; decide⟩, Bool.and_false]
set_option maxHeartbeats 4000000 in
set_option maxRecDepth 100000 in
theorem manifest_Right.calls (a0_0 : Int) (a0_1 : Int) (A0_2 : Option Addr) (c0_2 : Nat) (l0_2 : List S39) (r : Bool) (w : World) (hr0_2 : Kd.C k39 w A0_2 l0_2.length l0_2) (hc0_2 : l0_2.length ≤ c0_2) (h : manifest_Right.f a0_0 a0_1 l0_2 = some r) :
    Calls Tryd.prog 12 #[.agg #[.int .i64 a0_0, .int .i64 a0_1, .slice A0_2 l0_2.length c0_2]] w fun e w' => e = .returned (.bool r) ∧ Below w.heap.size w w' := by
  unfold manifest_Right.f at h
  split at h
  case isFalse => cases h
  case isTrue hll =>
  obtain ⟨hl, hsz⟩ := hll
  have HSZ := Aside0.mk (fun x hx => of_decide_eq_true (List.all_eq_true.mp hsz x hx))
  clear hsz
  obtain rfl := Option.some.inj h
  clear h
  have hu82 := Tryd.underlying39
  have hu80 := Tryd.underlying34
  obtain ⟨W1, hW1⟩ : ∃ W1, w.alloc (.cells #[.int .i64 a0_0, .int .i64 a0_1, .slice A0_2 l0_2.length c0_2] 34) = W1 := ⟨_, rfl⟩
  have HX1 := Aside0.mk (show Below w.heap.size w W1 by rw [← hW1]; exact below_alloc (Below.refl _ _) _)
  have kb1 : W1.heap[w.heap.size]? = some (.cells #[.int .i64 a0_0, .int .i64 a0_1, .slice A0_2 l0_2.length c0_2] 34) := by rw [← hW1]; exact blk_new _ _
  have m0 : W1.cell? ⟨w.heap.size, 0, none⟩ = some (.int .i64 a0_0) := (blk_cell kb1 0).trans rfl
  have m1 : W1.cell? ⟨w.heap.size, 1, none⟩ = some (.int .i64 a0_1) := (blk_cell kb1 1).trans rfl
  have m2 : W1.cell? ⟨w.heap.size, 2, none⟩ = some (.slice A0_2 l0_2.length c0_2) := (blk_cell kb1 2).trans rfl
  have HR := Aside0.mk hr0_2
  clear hr0_2
  by_cases h0 : a0_0 < 1
  · have b0 : decide (a0_0 < 1) = true := decide_eq_true h0
    have br : (decide (1 ≤ a0_0 ∧ a0_0 ≤ 7 ∧ 0 ≤ a0_1 ∧ a0_1 ≤ 1000 ∧ (l0_2.length : Int) ≤ 16) && (List.range l0_2.length).all (manifest_Right.ok l0_2)) = false := by rw [decide_eq_false (by omega)]; rfl
    rw [br]
    clear br h0
    go_enter Tryd.func12, Tryd.ntmps12
    go_wp2
    go_ret
    exact ⟨rfl, by repeat (first | exact HX1.out | exact Below.refl _ _ | apply below_alloc | apply below_drew1)⟩
  have b0 : decide (a0_0 < 1) = false := decide_eq_false h0
  by_cases h1 : a0_0 > 7
  · have b1 : decide ((7 : Int) < a0_0) = true := decide_eq_true h1
    have br : (decide (1 ≤ a0_0 ∧ a0_0 ≤ 7 ∧ 0 ≤ a0_1 ∧ a0_1 ≤ 1000 ∧ (l0_2.length : Int) ≤ 16) && (List.range l0_2.length).all (manifest_Right.ok l0_2)) = false := by rw [decide_eq_false (by omega)]; rfl
    rw [br]
    clear br h0 h1
    go_enter Tryd.func12, Tryd.ntmps12
    go_wp2
    go_ret
    exact ⟨rfl, by repeat (first | exact HX1.out | exact Below.refl _ _ | apply below_alloc | apply below_drew1)⟩
  have b1 : decide ((7 : Int) < a0_0) = false := decide_eq_false h1
  by_cases h2 : a0_1 < 0
  · have b2 : decide (a0_1 < 0) = true := decide_eq_true h2
    have br : (decide (1 ≤ a0_0 ∧ a0_0 ≤ 7 ∧ 0 ≤ a0_1 ∧ a0_1 ≤ 1000 ∧ (l0_2.length : Int) ≤ 16) && (List.range l0_2.length).all (manifest_Right.ok l0_2)) = false := by rw [decide_eq_false (by omega)]; rfl
    rw [br]
    clear br h0 h1 h2
    go_enter Tryd.func12, Tryd.ntmps12
    go_wp2
    go_ret
    exact ⟨rfl, by repeat (first | exact HX1.out | exact Below.refl _ _ | apply below_alloc | apply below_drew1)⟩
  have b2 : decide (a0_1 < 0) = false := decide_eq_false h2
  by_cases h3 : a0_1 > 1000
  · have b3 : decide ((1000 : Int) < a0_1) = true := decide_eq_true h3
    have br : (decide (1 ≤ a0_0 ∧ a0_0 ≤ 7 ∧ 0 ≤ a0_1 ∧ a0_1 ≤ 1000 ∧ (l0_2.length : Int) ≤ 16) && (List.range l0_2.length).all (manifest_Right.ok l0_2)) = false := by rw [decide_eq_false (by omega)]; rfl
    rw [br]
    clear br h0 h1 h2 h3
    go_enter Tryd.func12, Tryd.ntmps12
    go_wp2
    go_ret
    exact ⟨rfl, by repeat (first | exact HX1.out | exact Below.refl _ _ | apply below_alloc | apply below_drew1)⟩
  have b3 : decide ((1000 : Int) < a0_1) = false := decide_eq_false h3
  by_cases h4 : (l0_2.length : Int) > 16
  · have b4 : decide ((16 : Int) < (l0_2.length : Int)) = true := decide_eq_true h4
    have b5 : decide (16 < l0_2.length) = true := decide_eq_true (by omega)
    have br : (decide (1 ≤ a0_0 ∧ a0_0 ≤ 7 ∧ 0 ≤ a0_1 ∧ a0_1 ≤ 1000 ∧ (l0_2.length : Int) ≤ 16) && (List.range l0_2.length).all (manifest_Right.ok l0_2)) = false := by rw [decide_eq_false (by omega)]; rfl
    rw [br]
    clear br h0 h1 h2 h3 h4
    go_enter Tryd.func12, Tryd.ntmps12
    go_wp2
    go_ret
    exact ⟨rfl, by repeat (first | exact HX1.out | exact Below.refl _ _ | apply below_alloc | apply below_drew1)⟩
  have b4 : decide ((16 : Int) < (l0_2.length : Int)) = false := decide_eq_false h4
  have b5 : decide (16 < l0_2.length) = false := decide_eq_false (by omega)
  have H3 := Aside0.mk (show 1 ≤ a0_0 ∧ a0_0 ≤ 7 ∧ 0 ≤ a0_1 ∧ a0_1 ≤ 1000 ∧ (l0_2.length : Int) ≤ 16 by omega)
  clear h0 h1 h2 h3 h4
  obtain ⟨rr, hrr⟩ : ∃ rr, (decide (1 ≤ a0_0 ∧ a0_0 ≤ 7 ∧ 0 ≤ a0_1 ∧ a0_1 ≤ 1000 ∧ (l0_2.length : Int) ≤ 16) && (List.range l0_2.length).all (manifest_Right.ok l0_2)) = rr := ⟨_, rfl⟩
  rw [hrr]
  have HRR := Aside0.mk hrr
  clear hrr
  go_enter Tryd.func12, Tryd.ntmps12
  go_wp2
  go_loopw [32] (fun i wr => ∃ x : Nat, i = .int .i64 (x : Int) ∧ x ≤ l0_2.length ∧ Aside0 (∀ j, j < x → manifest_Right.ok l0_2 j = true) ∧ Aside0 (Below W1.heap.size W1 wr)) (fun i _ => l0_2.length - (intOf i).toNat)
  case atStart => exact ⟨0, rfl, Nat.zero_le _, ⟨fun j h => absurd h (Nat.not_lt_zero _)⟩, ⟨by repeat (first | exact Below.refl _ _ | apply below_drew1)⟩⟩
  case round =>
    clear b0 b1 b2 b3 b4 b5 m0 m1 m2
    obtain ⟨x, rfl, hx, HQ, HB⟩ := hrel
    by_cases hlt : x < l0_2.length
    case neg =>
      obtain rfl : x = l0_2.length := by omega
      have d1 : decide ((l0_2.length : Int) < (l0_2.length : Int)) = false := decide_eq_false (by omega)
      have b2 : (decide (1 ≤ a0_0 ∧ a0_0 ≤ 7 ∧ 0 ≤ a0_1 ∧ a0_1 ≤ 1000 ∧ (l0_2.length : Int) ≤ 16) && (List.range l0_2.length).all (manifest_Right.ok l0_2)) = true := by
        rw [decide_eq_true H3.out, Bool.true_and]
        exact List.all_eq_true.mpr (fun j hj => HQ.out j (List.mem_range.mp hj))
      have HT := Aside0.mk (show rr = true from HRR.out.symm.trans b2)
      clear b2
      go_wp2
      go_ret
      exact ⟨by rw [HT.out]; rfl, below_step HX1.out HB.out⟩
    obtain ⟨ad, ead, h0, h1, h2, h3⟩ := at_T39 (Kd.C_below HR.out (below_step HX1.out HB.out)) (x : Int) (by omega) (by omega)
    cases ead
    rw [api_File_21.rd l0_2 x hlt] at h0 h1 h2 h3
    rw [Int.toNat_natCast] at h0 h1 h2 h3
    have hok0 : manifest_Right.ok l0_2 x = (manifest_Right.mayB l0_2[x] && !manifest_Right.met l0_2 x l0_2[x].f0) := by unfold manifest_Right.ok; rw [manifest_Right.at l0_2 x hlt]
    have hmay : manifest_may.f l0_2[x].f0 l0_2[x].f1 l0_2[x].f2 l0_2[x].f3 = some (manifest_Right.mayB l0_2[x]) := manifest_Right.may_f _ (HSZ.out _ (List.getElem_mem hlt))
    generalize hz : l0_2[x] = z at h0 h1 h2 h3 hok0 hmay
    have HX := Aside0.mk hlt
    have HO := Aside0.mk hok0
    clear hz hok0
    have d1 : decide ((x : Int) < (l0_2.length : Int)) = true := decide_eq_true (by omega)
    have d2 : ((0 : Int) ≤ (x : Int)) = True := eq_true (by omega)
    have d3 : ((x : Int) < (l0_2.length : Int)) = True := eq_true (by omega)
    go_upto_region 6 with (fail)
    clear h0 h1 h2 h3 d1 d3
    have d4 : ((x : Int) ≤ (c0_2 : Int)) = True := eq_true (by omega)
    obtain ⟨WA, hWA⟩ : ∃ WA, wr.alloc (.cells #[.string z.f0, .int .i64 z.f1, .int .i64 z.f2, .int .u32 z.f3] 39) = WA := ⟨_, rfl⟩
    have kz : WA.heap[wr.heap.size]? = some (.cells #[.string z.f0, .int .i64 z.f1, .int .i64 z.f2, .int .u32 z.f3] 39) := by rw [← hWA]; exact blk_new _ _
    have HBr := Aside0.mk (show Below wr.heap.size wr WA by rw [← hWA]; exact below_alloc (Below.refl _ _) _)
    have kb : WA.heap[w.heap.size]? = some (.cells #[.int .i64 a0_0, .int .i64 a0_1, .slice (some ad) l0_2.length c0_2] 34) := blk_below (blk_below kb1 HB.out) HBr.out
    try rw [hWA]
    clear hWA
    cases hm : manifest_Right.mayB z with
    | false =>
      rw [hm] at hmay
      have hMay := fun W => manifest_may.calls z.f0 z.f1 z.f2 z.f3 false W hmay
      refine start_ (ds := []) (n := 13) (S := fun W => Below WA.heap.size WA W) #[false, false, false, false, false, false, false, false, false, false, false, false, false] (by kernel_rfl) rfl (by rfl) (below_drew (Below.refl _ _)) (fun hHeld => ?_)
      refine take_ (i := 0) (N := (some 37)) (v := ?_) (a' := ?_) #[true, false, false, false, false, false, false, false, false, false, false, false, false] rfl rfl (by kernel_rfl) (fun _ _ _ h => h) (Or.inl ⟨by rfl, ?_⟩) hHeld ?_ ?_
      rotate_left
      · intro w' hw'
        have k0 := blk_below kz hw'
        have e0 : w'.cell? ⟨wr.heap.size, 0, none⟩ = some (.string z.f0) := (blk_cell k0 0).trans rfl
        have e1 : w'.cell? ⟨wr.heap.size, 1, none⟩ = some (.int .i64 z.f1) := (blk_cell k0 1).trans rfl
        have e2 : w'.cell? ⟨wr.heap.size, 2, none⟩ = some (.int .i64 z.f2) := (blk_cell k0 2).trans rfl
        have e3 : w'.cell? ⟨wr.heap.size, 3, none⟩ = some (.int .u32 z.f3) := (blk_cell k0 3).trans rfl
        go_simp
        first | done | with_reducible rfl | rfl
      rotate_left
      · simp only [Act.put, List.setIfInBounds_toArray, List.set_cons_zero, List.set_cons_succ, i64_w, i32_w]
        rfl
      refine one_ (i := 1) (N := (some 38)) #[true, true, false, false, false, false, false, false, false, false, false, false, false] rfl rfl (by kernel_rfl) (by decide) (fun K hK => ?_)
      refine goes_ Tryd.func16 (by kernel_rfl) rfl #[.agg #[.string z.f0, .int .i64 z.f1, .int .i64 z.f2, .int .u32 z.f3]] (by rfl) rfl rfl (by (try simp only [List.map_toArray, List.map_cons, List.map_nil]); first | done | rfl | (simp only [List.length_drop, List.length_take]; rfl)) ?_
      with_reducible refine (hMay _).mono ?_
      rintro e wM ⟨rfl, hbM⟩
      refine ⟨_, rfl, ?_⟩
      refine hK.out _ _ (below_step hHeld hbM) (fun hHeld => ?_)
      clear hK K
      refine norm_ (a' := ?_) ?_ ?_
      rotate_left
      · show Act.put _ (some 38) _ = _
        simp only [Act.put, List.setIfInBounds_toArray, List.set_cons_zero, List.set_cons_succ, i64_w, i32_w]
        rfl
      refine pure_ (i := 2) (N := (some 39)) (v := ?_) (a' := ?_) #[true, true, true, false, false, false, false, false, false, false, false, false, false] rfl rfl (by kernel_rfl) (fun _ _ _ h => h) (Or.inl ⟨by rfl, ?_⟩) ?_ ?_
      rotate_left
      · intro w'
        go_simp
        first | with_reducible rfl | rfl
      rotate_left
      · simp only [Act.put, List.setIfInBounds_toArray, List.set_cons_zero, List.set_cons_succ, i64_w, i32_w]
        rfl
      refine pure_ (i := 3) (N := (some 40)) (v := ?_) (a' := ?_) #[true, true, true, true, false, false, false, false, false, false, false, false, false] rfl rfl (by kernel_rfl) (fun _ _ _ h => h) (Or.inl ⟨by rfl, ?_⟩) ?_ ?_
      rotate_left
      · intro w'
        go_simp
        first | with_reducible rfl | rfl
      rotate_left
      · simp only [Act.put, List.setIfInBounds_toArray, List.set_cons_zero, List.set_cons_succ, i64_w, i32_w]
        rfl
      refine pure_ (i := 4) (N := (some 41)) (v := undef) (a' := ?_) #[true, true, true, true, true, false, false, false, false, false, false, false, false] rfl rfl (by kernel_rfl) (fun _ _ _ h => h) (Or.inr ⟨by rfl, rfl⟩) ?_ ?_
      rotate_left
      · simp only [Act.put, List.setIfInBounds_toArray, List.set_cons_zero, List.set_cons_succ, i64_w, i32_w]
        rfl
      refine pure_ (i := 5) (N := (some 42)) (v := undef) (a' := ?_) #[true, true, true, true, true, true, false, false, false, false, false, false, false] rfl rfl (by kernel_rfl) (fun _ _ _ h => h) (Or.inr ⟨by rfl, rfl⟩) ?_ ?_
      rotate_left
      · simp only [Act.put, List.setIfInBounds_toArray, List.set_cons_zero, List.set_cons_succ, i64_w, i32_w]
        rfl
      refine pure_ (i := 6) (N := (some 43)) (v := undef) (a' := ?_) #[true, true, true, true, true, true, true, false, false, false, false, false, false] rfl rfl (by kernel_rfl) (fun _ _ _ h => h) (Or.inr ⟨by rfl, rfl⟩) ?_ ?_
      rotate_left
      · simp only [Act.put, List.setIfInBounds_toArray, List.set_cons_zero, List.set_cons_succ, i64_w, i32_w]
        rfl
      refine pure_ (i := 7) (N := (some 44)) (v := undef) (a' := ?_) #[true, true, true, true, true, true, true, true, false, false, false, false, false] rfl rfl (by kernel_rfl) (fun _ _ _ h => h) (Or.inr ⟨by rfl, rfl⟩) ?_ ?_
      rotate_left
      · simp only [Act.put, List.setIfInBounds_toArray, List.set_cons_zero, List.set_cons_succ, i64_w, i32_w]
        rfl
      refine pure_ (i := 8) (N := (some 45)) (v := undef) (a' := ?_) #[true, true, true, true, true, true, true, true, true, false, false, false, false] rfl rfl (by kernel_rfl) (fun _ _ _ h => h) (Or.inr ⟨by rfl, rfl⟩) ?_ ?_
      rotate_left
      · simp only [Act.put, List.setIfInBounds_toArray, List.set_cons_zero, List.set_cons_succ, i64_w, i32_w]
        rfl
      refine pure_ (i := 9) (N := (some 46)) (v := undef) (a' := ?_) #[true, true, true, true, true, true, true, true, true, true, false, false, false] rfl rfl (by kernel_rfl) (fun _ _ _ h => h) (Or.inr ⟨by rfl, rfl⟩) ?_ ?_
      rotate_left
      · simp only [Act.put, List.setIfInBounds_toArray, List.set_cons_zero, List.set_cons_succ, i64_w, i32_w]
        rfl
      refine pure_ (i := 10) (N := (some 47)) (v := undef) (a' := ?_) #[true, true, true, true, true, true, true, true, true, true, true, false, false] rfl rfl (by kernel_rfl) (fun _ _ _ h => h) (Or.inr ⟨by rfl, rfl⟩) ?_ ?_
      rotate_left
      · simp only [Act.put, List.setIfInBounds_toArray, List.set_cons_zero, List.set_cons_succ, i64_w, i32_w]
        rfl
      refine pure_ (i := 11) (N := (some 48)) (v := undef) (a' := ?_) #[true, true, true, true, true, true, true, true, true, true, true, true, false] rfl rfl (by kernel_rfl) (fun _ _ _ h => h) (Or.inr ⟨by rfl, rfl⟩) ?_ ?_
      rotate_left
      · simp only [Act.put, List.setIfInBounds_toArray, List.set_cons_zero, List.set_cons_succ, i64_w, i32_w]
        rfl
      refine pure_ (i := 12) (N := (some 49)) (v := ?_) (a' := ?_) #[true, true, true, true, true, true, true, true, true, true, true, true, true] rfl rfl (by kernel_rfl) (fun _ _ _ h => h) (Or.inl ⟨by rfl, ?_⟩) ?_ ?_
      rotate_left
      · intro w'
        go_simp
        first | with_reducible rfl | rfl
      rotate_left
      · simp only [Act.put, List.setIfInBounds_toArray, List.set_cons_zero, List.set_cons_succ, i64_w, i32_w]
        rfl
      refine done_ (by kernel_rfl) ?_
      have HB2 := Aside0.mk (below_step (below_step (below_step HX1.out HB.out) HBr.out) hHeld)
      clear hHeld
      go_wp2
      go_ret
      exact ⟨by rw [show rr = false from HRR.out.symm.trans (manifest_Right.bad l0_2 a0_0 a0_1 x HX.out (by rw [HO.out, hm, Bool.false_and]))]; rfl, HB2.out⟩
    | true =>
      rw [hm] at hmay
      have hMay := fun W => manifest_may.calls z.f0 z.f1 z.f2 z.f3 true W hmay
      cases hmt : manifest_Right.met l0_2 x z.f0 with
      | true =>
        have hCon : ∀ (W : World) (g : Nat), Below WA.heap.size WA W → W.heap[g]? = some (.cells #[.string z.f0] 9) → Calls Tryd.prog 17 #[.slice (some ad) x c0_2, .func (.func 22) #[] #[.pointer (some ⟨g, 0, none⟩)]] W fun e w' => e = .returned (.bool true) ∧ Below W.heap.size W w' := fun W g hW hg => by
          have h5 := api_File_17.calls z.f0 g (some ad) c0_2 (l0_2.take x) W (Kd.C_take (Kd.C_below HR.out (below_step (below_step (below_step HX1.out HB.out) HBr.out) hW)) hx) (by rw [List.length_take]; omega) (by rw [List.length_take]; omega) hg
          rw [show (l0_2.take x).length = x by rw [List.length_take]; omega, show ((l0_2.take x).any fun y => y.f0.toList == z.f0.toList) = true from hmt] at h5
          exact h5
        refine start_ (ds := []) (n := 13) (S := fun W => Below WA.heap.size WA W) #[false, false, false, false, false, false, false, false, false, false, false, false, false] (by kernel_rfl) rfl (by rfl) (below_drew (Below.refl _ _)) (fun hHeld => ?_)
        refine take_ (i := 0) (N := (some 37)) (v := ?_) (a' := ?_) #[true, false, false, false, false, false, false, false, false, false, false, false, false] rfl rfl (by kernel_rfl) (fun _ _ _ h => h) (Or.inl ⟨by rfl, ?_⟩) hHeld ?_ ?_
        rotate_left
        · intro w' hw'
          have k0 := blk_below kz hw'
          have e0 : w'.cell? ⟨wr.heap.size, 0, none⟩ = some (.string z.f0) := (blk_cell k0 0).trans rfl
          have e1 : w'.cell? ⟨wr.heap.size, 1, none⟩ = some (.int .i64 z.f1) := (blk_cell k0 1).trans rfl
          have e2 : w'.cell? ⟨wr.heap.size, 2, none⟩ = some (.int .i64 z.f2) := (blk_cell k0 2).trans rfl
          have e3 : w'.cell? ⟨wr.heap.size, 3, none⟩ = some (.int .u32 z.f3) := (blk_cell k0 3).trans rfl
          go_simp
          first | done | with_reducible rfl | rfl
        rotate_left
        · simp only [Act.put, List.setIfInBounds_toArray, List.set_cons_zero, List.set_cons_succ, i64_w, i32_w]
          rfl
        refine one_ (i := 1) (N := (some 38)) #[true, true, false, false, false, false, false, false, false, false, false, false, false] rfl rfl (by kernel_rfl) (by decide) (fun K hK => ?_)
        refine goes_ Tryd.func16 (by kernel_rfl) rfl #[.agg #[.string z.f0, .int .i64 z.f1, .int .i64 z.f2, .int .u32 z.f3]] (by rfl) rfl rfl (by (try simp only [List.map_toArray, List.map_cons, List.map_nil]); first | done | rfl | (simp only [List.length_drop, List.length_take]; rfl)) ?_
        with_reducible refine (hMay _).mono ?_
        rintro e wM ⟨rfl, hbM⟩
        refine ⟨_, rfl, ?_⟩
        refine hK.out _ _ (below_step hHeld hbM) (fun hHeld => ?_)
        clear hK K
        refine norm_ (a' := ?_) ?_ ?_
        rotate_left
        · show Act.put _ (some 38) _ = _
          simp only [Act.put, List.setIfInBounds_toArray, List.set_cons_zero, List.set_cons_succ, i64_w, i32_w]
          rfl
        refine pure_ (i := 2) (N := (some 39)) (v := ?_) (a' := ?_) #[true, true, true, false, false, false, false, false, false, false, false, false, false] rfl rfl (by kernel_rfl) (fun _ _ _ h => h) (Or.inl ⟨by rfl, ?_⟩) ?_ ?_
        rotate_left
        · intro w'
          go_simp
          first | with_reducible rfl | rfl
        rotate_left
        · simp only [Act.put, List.setIfInBounds_toArray, List.set_cons_zero, List.set_cons_succ, i64_w, i32_w]
          rfl
        refine pure_ (i := 3) (N := (some 40)) (v := ?_) (a' := ?_) #[true, true, true, true, false, false, false, false, false, false, false, false, false] rfl rfl (by kernel_rfl) (fun _ _ _ h => h) (Or.inl ⟨by rfl, ?_⟩) ?_ ?_
        rotate_left
        · intro w'
          go_simp
          first | with_reducible rfl | rfl
        rotate_left
        · simp only [Act.put, List.setIfInBounds_toArray, List.set_cons_zero, List.set_cons_succ, i64_w, i32_w]
          rfl
        refine pure_ (i := 4) (N := (some 41)) (v := ?_) (a' := ?_) #[true, true, true, true, true, false, false, false, false, false, false, false, false] rfl rfl (by kernel_rfl) (fun _ _ _ h => h) (Or.inl ⟨by rfl, ?_⟩) ?_ ?_
        rotate_left
        · intro w'
          go_simp
          first | with_reducible rfl | rfl
        rotate_left
        · simp only [Act.put, List.setIfInBounds_toArray, List.set_cons_zero, List.set_cons_succ, i64_w, i32_w]
          rfl
        refine take_ (i := 5) (N := (some 42)) (v := ?_) (a' := ?_) #[true, true, true, true, true, true, false, false, false, false, false, false, false] rfl rfl (by kernel_rfl) (fun _ _ _ h => h) (Or.inl ⟨by rfl, ?_⟩) hHeld ?_ ?_
        rotate_left
        · intro w' hw'
          have k0 := blk_below kb hw'
          have e2 : w'.cell? ⟨w.heap.size, 2, none⟩ = some (.slice (some ad) l0_2.length c0_2) := (blk_cell k0 2).trans rfl
          go_simp
          first | done | with_reducible rfl | rfl
        rotate_left
        · simp only [Act.put, List.setIfInBounds_toArray, List.set_cons_zero, List.set_cons_succ, i64_w, i32_w]
          rfl
        refine pure_ (i := 6) (N := (some 43)) (v := ?_) (a' := ?_) #[true, true, true, true, true, true, true, false, false, false, false, false, false] rfl rfl (by kernel_rfl) (fun _ _ _ h => h) (Or.inl ⟨by rfl, ?_⟩) ?_ ?_
        rotate_left
        · intro w'
          go_simp
          first | with_reducible rfl | rfl
        rotate_left
        · simp only [Act.put, List.setIfInBounds_toArray, List.set_cons_zero, List.set_cons_succ, i64_w, i32_w]
          rfl
        refine pure_ (i := 7) (N := (some 44)) (v := ?_) (a' := ?_) #[true, true, true, true, true, true, true, true, false, false, false, false, false] rfl rfl (by kernel_rfl) (fun _ _ _ h => h) (Or.inl ⟨by rfl, ?_⟩) ?_ ?_
        rotate_left
        · intro w'
          go_simp
          first | with_reducible rfl | rfl
        rotate_left
        · simp only [Act.put, List.setIfInBounds_toArray, List.set_cons_zero, List.set_cons_succ, i64_w, i32_w]
          rfl
        refine pure_ (i := 8) (N := (some 45)) (v := ?_) (a' := ?_) #[true, true, true, true, true, true, true, true, true, false, false, false, false] rfl rfl (by kernel_rfl) (fun _ _ _ h => h) (Or.inl ⟨by rfl, ?_⟩) ?_ ?_
        rotate_left
        · intro w'
          go_simp
          first | with_reducible rfl | rfl
        rotate_left
        · simp only [Act.put, List.setIfInBounds_toArray, List.set_cons_zero, List.set_cons_succ, i64_w, i32_w]
          rfl
        refine take_ (i := 9) (N := (some 46)) (v := ?_) (a' := ?_) #[true, true, true, true, true, true, true, true, true, true, false, false, false] rfl rfl (by kernel_rfl) (fun _ _ _ h => h) (Or.inl ⟨by rfl, ?_⟩) hHeld ?_ ?_
        rotate_left
        · intro w' hw'
          have k0 := blk_below kz hw'
          have e0 : w'.cell? ⟨wr.heap.size, 0, none⟩ = some (.string z.f0) := (blk_cell k0 0).trans rfl
          go_simp
          first | done | with_reducible rfl | rfl
        rotate_left
        · simp only [Act.put, List.setIfInBounds_toArray, List.set_cons_zero, List.set_cons_succ, i64_w, i32_w]
          rfl
        refine one_ (i := 10) (N := (some 47)) #[true, true, true, true, true, true, true, true, true, true, true, false, false] rfl rfl (by kernel_rfl) (by decide) (fun K hK => ?_)
        refine goes_ Tryd.func18 (by kernel_rfl) rfl #[.string z.f0] (by rfl) rfl rfl (by (try simp only [List.map_toArray, List.map_cons, List.map_nil]); first | done | rfl | (simp only [List.length_drop, List.length_take]; rfl)) ?_
        with_reducible refine (manifest_named.calls z.f0 _).mono ?_
        rintro e wN ⟨rfl, hN⟩
        have kN : wN.heap[wM.heap.size]? = some (.cells #[.string z.f0] 9) := by rw [hN]; exact blk_new wM _
        have hbN : Below wM.heap.size wM wN := by rw [hN]; exact below_alloc (Below.refl _ _) _
        clear hN
        refine ⟨_, rfl, ?_⟩
        refine hK.out _ _ (below_step hHeld hbN) (fun hHeld => ?_)
        clear hK K
        refine norm_ (a' := ?_) ?_ ?_
        rotate_left
        · show Act.put _ (some 47) _ = _
          simp only [Act.put, List.setIfInBounds_toArray, List.set_cons_zero, List.set_cons_succ, i64_w, i32_w]
          rfl
        refine one_ (i := 11) (N := (some 48)) #[true, true, true, true, true, true, true, true, true, true, true, true, false] rfl rfl (by kernel_rfl) (by decide) (fun K hK => ?_)
        refine goes_ Tryd.func17 (by kernel_rfl) rfl #[.slice (some ad) x c0_2, .func (.func 22) #[] #[.pointer (some ⟨wM.heap.size, 0, none⟩)]] (by rfl) rfl rfl (by (try simp only [List.map_toArray, List.map_cons, List.map_nil]); first | done | rfl | (simp only [List.length_drop, List.length_take]; rfl)) ?_
        with_reducible refine (hCon _ _ hHeld kN).mono ?_
        rintro e wC ⟨rfl, hbC⟩
        refine ⟨_, rfl, ?_⟩
        refine hK.out _ _ (below_step hHeld hbC) (fun hHeld => ?_)
        clear hK K
        refine norm_ (a' := ?_) ?_ ?_
        rotate_left
        · show Act.put _ (some 48) _ = _
          simp only [Act.put, List.setIfInBounds_toArray, List.set_cons_zero, List.set_cons_succ, i64_w, i32_w]
          rfl
        refine pure_ (i := 12) (N := (some 49)) (v := ?_) (a' := ?_) #[true, true, true, true, true, true, true, true, true, true, true, true, true] rfl rfl (by kernel_rfl) (fun _ _ _ h => h) (Or.inl ⟨by rfl, ?_⟩) ?_ ?_
        rotate_left
        · intro w'
          go_simp
          first | with_reducible rfl | rfl
        rotate_left
        · simp only [Act.put, List.setIfInBounds_toArray, List.set_cons_zero, List.set_cons_succ, i64_w, i32_w]
          rfl
        refine done_ (by kernel_rfl) ?_
        have HB2 := Aside0.mk (below_step (below_step (below_step HX1.out HB.out) HBr.out) hHeld)
        clear hHeld
        go_wp2
        go_ret
        exact ⟨by rw [show rr = false from HRR.out.symm.trans (manifest_Right.bad l0_2 a0_0 a0_1 x HX.out (by rw [HO.out, hm, hmt, Bool.not_true, Bool.and_false]))]; rfl, HB2.out⟩
      | false =>
        have hCon : ∀ (W : World) (g : Nat), Below WA.heap.size WA W → W.heap[g]? = some (.cells #[.string z.f0] 9) → Calls Tryd.prog 17 #[.slice (some ad) x c0_2, .func (.func 22) #[] #[.pointer (some ⟨g, 0, none⟩)]] W fun e w' => e = .returned (.bool false) ∧ Below W.heap.size W w' := fun W g hW hg => by
          have h5 := api_File_17.calls z.f0 g (some ad) c0_2 (l0_2.take x) W (Kd.C_take (Kd.C_below HR.out (below_step (below_step (below_step HX1.out HB.out) HBr.out) hW)) hx) (by rw [List.length_take]; omega) (by rw [List.length_take]; omega) hg
          rw [show (l0_2.take x).length = x by rw [List.length_take]; omega, show ((l0_2.take x).any fun y => y.f0.toList == z.f0.toList) = false from hmt] at h5
          exact h5
        refine start_ (ds := []) (n := 13) (S := fun W => Below WA.heap.size WA W) #[false, false, false, false, false, false, false, false, false, false, false, false, false] (by kernel_rfl) rfl (by rfl) (below_drew (Below.refl _ _)) (fun hHeld => ?_)
        refine take_ (i := 0) (N := (some 37)) (v := ?_) (a' := ?_) #[true, false, false, false, false, false, false, false, false, false, false, false, false] rfl rfl (by kernel_rfl) (fun _ _ _ h => h) (Or.inl ⟨by rfl, ?_⟩) hHeld ?_ ?_
        rotate_left
        · intro w' hw'
          have k0 := blk_below kz hw'
          have e0 : w'.cell? ⟨wr.heap.size, 0, none⟩ = some (.string z.f0) := (blk_cell k0 0).trans rfl
          have e1 : w'.cell? ⟨wr.heap.size, 1, none⟩ = some (.int .i64 z.f1) := (blk_cell k0 1).trans rfl
          have e2 : w'.cell? ⟨wr.heap.size, 2, none⟩ = some (.int .i64 z.f2) := (blk_cell k0 2).trans rfl
          have e3 : w'.cell? ⟨wr.heap.size, 3, none⟩ = some (.int .u32 z.f3) := (blk_cell k0 3).trans rfl
          go_simp
          first | done | with_reducible rfl | rfl
        rotate_left
        · simp only [Act.put, List.setIfInBounds_toArray, List.set_cons_zero, List.set_cons_succ, i64_w, i32_w]
          rfl
        refine one_ (i := 1) (N := (some 38)) #[true, true, false, false, false, false, false, false, false, false, false, false, false] rfl rfl (by kernel_rfl) (by decide) (fun K hK => ?_)
        refine goes_ Tryd.func16 (by kernel_rfl) rfl #[.agg #[.string z.f0, .int .i64 z.f1, .int .i64 z.f2, .int .u32 z.f3]] (by rfl) rfl rfl (by (try simp only [List.map_toArray, List.map_cons, List.map_nil]); first | done | rfl | (simp only [List.length_drop, List.length_take]; rfl)) ?_
        with_reducible refine (hMay _).mono ?_
        rintro e wM ⟨rfl, hbM⟩
        refine ⟨_, rfl, ?_⟩
        refine hK.out _ _ (below_step hHeld hbM) (fun hHeld => ?_)
        clear hK K
        refine norm_ (a' := ?_) ?_ ?_
        rotate_left
        · show Act.put _ (some 38) _ = _
          simp only [Act.put, List.setIfInBounds_toArray, List.set_cons_zero, List.set_cons_succ, i64_w, i32_w]
          rfl
        refine pure_ (i := 2) (N := (some 39)) (v := ?_) (a' := ?_) #[true, true, true, false, false, false, false, false, false, false, false, false, false] rfl rfl (by kernel_rfl) (fun _ _ _ h => h) (Or.inl ⟨by rfl, ?_⟩) ?_ ?_
        rotate_left
        · intro w'
          go_simp
          first | with_reducible rfl | rfl
        rotate_left
        · simp only [Act.put, List.setIfInBounds_toArray, List.set_cons_zero, List.set_cons_succ, i64_w, i32_w]
          rfl
        refine pure_ (i := 3) (N := (some 40)) (v := ?_) (a' := ?_) #[true, true, true, true, false, false, false, false, false, false, false, false, false] rfl rfl (by kernel_rfl) (fun _ _ _ h => h) (Or.inl ⟨by rfl, ?_⟩) ?_ ?_
        rotate_left
        · intro w'
          go_simp
          first | with_reducible rfl | rfl
        rotate_left
        · simp only [Act.put, List.setIfInBounds_toArray, List.set_cons_zero, List.set_cons_succ, i64_w, i32_w]
          rfl
        refine pure_ (i := 4) (N := (some 41)) (v := ?_) (a' := ?_) #[true, true, true, true, true, false, false, false, false, false, false, false, false] rfl rfl (by kernel_rfl) (fun _ _ _ h => h) (Or.inl ⟨by rfl, ?_⟩) ?_ ?_
        rotate_left
        · intro w'
          go_simp
          first | with_reducible rfl | rfl
        rotate_left
        · simp only [Act.put, List.setIfInBounds_toArray, List.set_cons_zero, List.set_cons_succ, i64_w, i32_w]
          rfl
        refine take_ (i := 5) (N := (some 42)) (v := ?_) (a' := ?_) #[true, true, true, true, true, true, false, false, false, false, false, false, false] rfl rfl (by kernel_rfl) (fun _ _ _ h => h) (Or.inl ⟨by rfl, ?_⟩) hHeld ?_ ?_
        rotate_left
        · intro w' hw'
          have k0 := blk_below kb hw'
          have e2 : w'.cell? ⟨w.heap.size, 2, none⟩ = some (.slice (some ad) l0_2.length c0_2) := (blk_cell k0 2).trans rfl
          go_simp
          first | done | with_reducible rfl | rfl
        rotate_left
        · simp only [Act.put, List.setIfInBounds_toArray, List.set_cons_zero, List.set_cons_succ, i64_w, i32_w]
          rfl
        refine pure_ (i := 6) (N := (some 43)) (v := ?_) (a' := ?_) #[true, true, true, true, true, true, true, false, false, false, false, false, false] rfl rfl (by kernel_rfl) (fun _ _ _ h => h) (Or.inl ⟨by rfl, ?_⟩) ?_ ?_
        rotate_left
        · intro w'
          go_simp
          first | with_reducible rfl | rfl
        rotate_left
        · simp only [Act.put, List.setIfInBounds_toArray, List.set_cons_zero, List.set_cons_succ, i64_w, i32_w]
          rfl
        refine pure_ (i := 7) (N := (some 44)) (v := ?_) (a' := ?_) #[true, true, true, true, true, true, true, true, false, false, false, false, false] rfl rfl (by kernel_rfl) (fun _ _ _ h => h) (Or.inl ⟨by rfl, ?_⟩) ?_ ?_
        rotate_left
        · intro w'
          go_simp
          first | with_reducible rfl | rfl
        rotate_left
        · simp only [Act.put, List.setIfInBounds_toArray, List.set_cons_zero, List.set_cons_succ, i64_w, i32_w]
          rfl
        refine pure_ (i := 8) (N := (some 45)) (v := ?_) (a' := ?_) #[true, true, true, true, true, true, true, true, true, false, false, false, false] rfl rfl (by kernel_rfl) (fun _ _ _ h => h) (Or.inl ⟨by rfl, ?_⟩) ?_ ?_
        rotate_left
        · intro w'
          go_simp
          first | with_reducible rfl | rfl
        rotate_left
        · simp only [Act.put, List.setIfInBounds_toArray, List.set_cons_zero, List.set_cons_succ, i64_w, i32_w]
          rfl
        refine take_ (i := 9) (N := (some 46)) (v := ?_) (a' := ?_) #[true, true, true, true, true, true, true, true, true, true, false, false, false] rfl rfl (by kernel_rfl) (fun _ _ _ h => h) (Or.inl ⟨by rfl, ?_⟩) hHeld ?_ ?_
        rotate_left
        · intro w' hw'
          have k0 := blk_below kz hw'
          have e0 : w'.cell? ⟨wr.heap.size, 0, none⟩ = some (.string z.f0) := (blk_cell k0 0).trans rfl
          go_simp
          first | done | with_reducible rfl | rfl
        rotate_left
        · simp only [Act.put, List.setIfInBounds_toArray, List.set_cons_zero, List.set_cons_succ, i64_w, i32_w]
          rfl
        refine one_ (i := 10) (N := (some 47)) #[true, true, true, true, true, true, true, true, true, true, true, false, false] rfl rfl (by kernel_rfl) (by decide) (fun K hK => ?_)
        refine goes_ Tryd.func18 (by kernel_rfl) rfl #[.string z.f0] (by rfl) rfl rfl (by (try simp only [List.map_toArray, List.map_cons, List.map_nil]); first | done | rfl | (simp only [List.length_drop, List.length_take]; rfl)) ?_
        with_reducible refine (manifest_named.calls z.f0 _).mono ?_
        rintro e wN ⟨rfl, hN⟩
        have kN : wN.heap[wM.heap.size]? = some (.cells #[.string z.f0] 9) := by rw [hN]; exact blk_new wM _
        have hbN : Below wM.heap.size wM wN := by rw [hN]; exact below_alloc (Below.refl _ _) _
        clear hN
        refine ⟨_, rfl, ?_⟩
        refine hK.out _ _ (below_step hHeld hbN) (fun hHeld => ?_)
        clear hK K
        refine norm_ (a' := ?_) ?_ ?_
        rotate_left
        · show Act.put _ (some 47) _ = _
          simp only [Act.put, List.setIfInBounds_toArray, List.set_cons_zero, List.set_cons_succ, i64_w, i32_w]
          rfl
        refine one_ (i := 11) (N := (some 48)) #[true, true, true, true, true, true, true, true, true, true, true, true, false] rfl rfl (by kernel_rfl) (by decide) (fun K hK => ?_)
        refine goes_ Tryd.func17 (by kernel_rfl) rfl #[.slice (some ad) x c0_2, .func (.func 22) #[] #[.pointer (some ⟨wM.heap.size, 0, none⟩)]] (by rfl) rfl rfl (by (try simp only [List.map_toArray, List.map_cons, List.map_nil]); first | done | rfl | (simp only [List.length_drop, List.length_take]; rfl)) ?_
        with_reducible refine (hCon _ _ hHeld kN).mono ?_
        rintro e wC ⟨rfl, hbC⟩
        refine ⟨_, rfl, ?_⟩
        refine hK.out _ _ (below_step hHeld hbC) (fun hHeld => ?_)
        clear hK K
        refine norm_ (a' := ?_) ?_ ?_
        rotate_left
        · show Act.put _ (some 48) _ = _
          simp only [Act.put, List.setIfInBounds_toArray, List.set_cons_zero, List.set_cons_succ, i64_w, i32_w]
          rfl
        refine pure_ (i := 12) (N := (some 49)) (v := ?_) (a' := ?_) #[true, true, true, true, true, true, true, true, true, true, true, true, true] rfl rfl (by kernel_rfl) (fun _ _ _ h => h) (Or.inl ⟨by rfl, ?_⟩) ?_ ?_
        rotate_left
        · intro w'
          go_simp
          first | with_reducible rfl | rfl
        rotate_left
        · simp only [Act.put, List.setIfInBounds_toArray, List.set_cons_zero, List.set_cons_succ, i64_w, i32_w]
          rfl
        refine done_ (by kernel_rfl) ?_
        have HB2 := Aside0.mk (below_step (below_step HB.out HBr.out) hHeld)
        clear hHeld
        go_wp2
        go_roundw
        case rel => exact ⟨x + 1, by go_num, HX.out, ⟨fun j hj => by
          rcases Nat.lt_or_eq_of_le (Nat.le_of_lt_succ hj) with hj | rfl
          · exact HQ.out j hj
          · rw [HO.out, hm, hmt]; rfl⟩, HB2⟩
        case measure => have := HX.out; simp [intOf]; omega


/-! ### api_File_13: function 13 -/
/-- Whether files have the same name and size. -/
def api_File_13.like (x y : S39) : Bool := (x.f0.toList == y.f0.toList) && (x.f1 == y.f1)
def api_File_13.ok (l m : List S39) : Bool := (l.length == m.length) && (List.range l.length).all fun j => api_File_13.like (l.getD j z39) (m.getD j z39)
set_option maxHeartbeats 4000000 in
set_option maxRecDepth 100000 in
theorem api_File_13.tells (x y : S39) (W : World) :
    Calls Tryd.prog 11 (#[manifest_named.val x, manifest_named.val y] ++ #[]) W fun e w' => e = .returned (.bool (api_File_13.like x y)) ∧ Below W.heap.size W w' := by
  have hu82 := Tryd.underlying39
  unfold manifest_named.val api_File_13.like
  by_cases h1 : x.f0.toList = y.f0.toList
  · have b1 : (x.f0.toList == y.f0.toList) = true := beq_iff_eq.mpr h1
    rw [b1, Bool.true_and]
    go_enter Tryd.func11, Tryd.ntmps11
    go_wp2
    go_ret
    exact ⟨by first | rfl | simp, by repeat (first | exact Below.refl _ _ | apply below_alloc)⟩
  · have b1 : (x.f0.toList == y.f0.toList) = false := beq_eq_false_iff_ne.mpr h1
    rw [b1, Bool.false_and]
    go_enter Tryd.func11, Tryd.ntmps11
    go_wp2
    go_ret
    exact ⟨by first | rfl | simp, by repeat (first | exact Below.refl _ _ | apply below_alloc)⟩
theorem api_File_13.at (l : List S39) (x : Nat) (h : x < l.length) : l.getD x z39 = l[x] := by
  rw [List.getD_eq_getElem?_getD, List.getElem?_eq_getElem h]; rfl
set_option maxHeartbeats 4000000 in
set_option maxRecDepth 100000 in
theorem api_File_13.calls (A0 : Option Addr) (c0 : Nat) (l0 : List S39) (A1 : Option Addr) (c1 : Nat) (l1 : List S39) (w : World) (hr0 : Kd.C k39 w A0 l0.length l0) (hc0 : l0.length ≤ c0) (hr1 : Kd.C k39 w A1 l1.length l1) (hc1 : l1.length ≤ c1) (hm : l0.length ≤ 1000000000) :
    Calls Tryd.prog 13 #[.slice A0 l0.length c0, .slice A1 l1.length c1, .func (.func 11) #[] #[]] w fun e w' => e = .returned (.bool (api_File_13.ok l0 l1)) ∧ Below w.heap.size w w' := by
  have HR := Aside0.mk hr0
  have HR1 := Aside0.mk hr1
  have HM := Aside0.mk hm
  have hu26 := Tryd.underlying39
  clear hr0 hr1
  by_cases hln : l0.length = l1.length
  case neg =>
    have b0 : ((l0.length : Int) == (l1.length : Int)) = false := beq_eq_false_iff_ne.mpr (by omega)
    have b1 : ((l0.length : Int) != (l1.length : Int)) = true := bne_iff_ne.mpr (by omega)
    have b2 : (l0.length == l1.length) = false := beq_eq_false_iff_ne.mpr hln
    have br : api_File_13.ok l0 l1 = false := by unfold api_File_13.ok; rw [b2, Bool.false_and]
    rw [br]
    go_enter Tryd.func13, Tryd.ntmps13
    go_wp2
    go_ret
    exact ⟨rfl, Below.refl _ _⟩
  have b0 : ((l0.length : Int) == (l1.length : Int)) = true := beq_iff_eq.mpr (by omega)
  have b1 : ((l0.length : Int) != (l1.length : Int)) = false := bne_eq_false_iff_eq.mpr (by omega)
  have HLN := Aside0.mk hln
  clear hln
  obtain ⟨r, hr⟩ : ∃ r, api_File_13.ok l0 l1 = r := ⟨_, rfl⟩
  rw [hr]
  have HRR := Aside0.mk hr
  clear hr
  go_enter Tryd.func13, Tryd.ntmps13
  go_wp2
  go_loopw [17] (fun i wr => ∃ x : Nat, i = .int .i64 (x : Int) ∧ x ≤ l0.length ∧ Aside0 (∀ j, j < x → api_File_13.like (l0.getD j z39) (l1.getD j z39) = true) ∧ Aside0 (Below w.heap.size w wr)) (fun i _ => l0.length - (intOf i).toNat)
  case atStart => exact ⟨0, rfl, Nat.zero_le _, ⟨fun j h => absurd h (Nat.not_lt_zero _)⟩, ⟨Below.refl _ _⟩⟩
  case round =>
    clear b0 b1
    obtain ⟨x, rfl, hx, HQ, HB⟩ := hrel
    by_cases hlt : x < l0.length
    case neg =>
      obtain rfl : x = l0.length := by omega
      have d1 : decide ((l0.length : Int) < (l0.length : Int)) = false := decide_eq_false (by omega)
      have HT := Aside0.mk (show r = true from HRR.out.symm.trans (by
        unfold api_File_13.ok
        rw [beq_iff_eq.mpr HLN.out, Bool.true_and]
        exact List.all_eq_true.mpr (fun j hj => HQ.out j (List.mem_range.mp hj))))
      go_wp2
      go_ret
      exact ⟨by rw [HT.out]; rfl, HB.out⟩
    have hlt1 : x < l1.length := by have := HLN.out; omega
    obtain ⟨ad, ead, h0, h1, h2, h3⟩ := at_T39 (Kd.C_below HR.out HB.out) (x : Int) (by omega) (by omega)
    cases ead
    rw [api_File_21.rd l0 x hlt] at h0 h1 h2 h3
    rw [Int.toNat_natCast] at h0 h1 h2 h3
    have hz0 := api_File_13.at l0 x hlt
    have hy0 := api_File_13.at l1 x hlt1
    generalize hz : l0[x] = z at h0 h1 h2 h3 hz0
    have HX := Aside0.mk hlt
    have HZ := Aside0.mk hz0
    clear hz hz0
    have d1 : decide ((x : Int) < (l0.length : Int)) = true := decide_eq_true (by omega)
    have d2 : ((0 : Int) ≤ (x : Int)) = True := eq_true (by omega)
    have d3 : ((x : Int) < (l0.length : Int)) = True := eq_true (by omega)
    go_upto_region 6 with (fail)
    clear h0 h1 h2 h3 d1 d3
    obtain ⟨WA, hWA⟩ : ∃ WA, wr.alloc (.cells #[.string z.f0, .int .i64 z.f1, .int .i64 z.f2, .int .u32 z.f3] 39) = WA := ⟨_, rfl⟩
    have kz : WA.heap[wr.heap.size]? = some (.cells #[.string z.f0, .int .i64 z.f1, .int .i64 z.f2, .int .u32 z.f3] 39) := by rw [← hWA]; exact blk_new _ _
    have hBA : Below w.heap.size w WA := by rw [← hWA]; exact below_alloc HB.out _
    try rw [hWA]
    clear hWA HB
    obtain ⟨ad1, ead1, h0, h1, h2, h3⟩ := at_T39 (Kd.C_below HR1.out hBA) (x : Int) (by omega) (by omega)
    cases ead1
    rw [api_File_21.rd l1 x hlt1] at h0 h1 h2 h3
    rw [Int.toNat_natCast] at h0 h1 h2 h3
    generalize hy : l1[x] = y at h0 h1 h2 h3 hy0
    have HY := Aside0.mk hy0
    clear hy hy0
    have d4 : ((x : Int) < (l1.length : Int)) = True := eq_true (by omega)
    go_upto_region 7 with (fail)
    clear h0 h1 h2 h3 d2 d4
    obtain ⟨WB, hWB⟩ : ∃ WB, WA.alloc (.cells #[.string y.f0, .int .i64 y.f1, .int .i64 y.f2, .int .u32 y.f3] 39) = WB := ⟨_, rfl⟩
    have ky : WB.heap[WA.heap.size]? = some (.cells #[.string y.f0, .int .i64 y.f1, .int .i64 y.f2, .int .u32 y.f3] 39) := by rw [← hWB]; exact blk_new _ _
    have kz2 : WB.heap[wr.heap.size]? = some (.cells #[.string z.f0, .int .i64 z.f1, .int .i64 z.f2, .int .u32 z.f3] 39) := by rw [← hWB]; exact blk_alloc kz _
    have HBB := Aside0.mk (show Below w.heap.size w WB by rw [← hWB]; exact below_alloc hBA _)
    try rw [hWB]
    clear hWB hBA kz
    have z0 : WB.cell? ⟨wr.heap.size, 0, none⟩ = some (.string z.f0) := (blk_cell kz2 0).trans rfl
    have z1 : WB.cell? ⟨wr.heap.size, 1, none⟩ = some (.int .i64 z.f1) := (blk_cell kz2 1).trans rfl
    have z2 : WB.cell? ⟨wr.heap.size, 2, none⟩ = some (.int .i64 z.f2) := (blk_cell kz2 2).trans rfl
    have z3 : WB.cell? ⟨wr.heap.size, 3, none⟩ = some (.int .u32 z.f3) := (blk_cell kz2 3).trans rfl
    have y0 : WB.cell? ⟨WA.heap.size, 0, none⟩ = some (.string y.f0) := (blk_cell ky 0).trans rfl
    have y1 : WB.cell? ⟨WA.heap.size, 1, none⟩ = some (.int .i64 y.f1) := (blk_cell ky 1).trans rfl
    have y2 : WB.cell? ⟨WA.heap.size, 2, none⟩ = some (.int .i64 y.f2) := (blk_cell ky 2).trans rfl
    have y3 : WB.cell? ⟨WA.heap.size, 3, none⟩ = some (.int .u32 y.f3) := (blk_cell ky 3).trans rfl
    have hT : ∀ W, Calls Tryd.prog 11 #[.agg #[.string z.f0, .int .i64 z.f1, .int .i64 z.f2, .int .u32 z.f3], .agg #[.string y.f0, .int .i64 y.f1, .int .i64 y.f2, .int .u32 y.f3]] W fun e w' => e = .returned (.bool (api_File_13.like z y)) ∧ Below W.heap.size W w' := fun W => api_File_13.tells z y W
    clear kz2 ky
    cases hlk : api_File_13.like z y with
    | false =>
      rw [hlk] at hT
      go_wp2_with (first | (go_at_call 11; refine (hT _).mono ?_; rintro e w9 ⟨rfl, hb9⟩; have HB9 := Aside0.mk (below_step HBB.out hb9); clear hb9 hT z0 z1 z2 z3 y0 y1 y2 y3))
      go_ret
      have HF : r = false := HRR.out.symm.trans (by
        unfold api_File_13.ok
        rw [show (List.range l0.length).all (fun j => api_File_13.like (l0.getD j z39) (l1.getD j z39)) = false from List.all_eq_false.mpr ⟨x, List.mem_range.mpr HX.out, by rw [HZ.out, HY.out, hlk]; decide⟩, Bool.and_false])
      exact ⟨by rw [HF]; rfl, HB9.out⟩
    | true =>
      rw [hlk] at hT
      go_wp2_with (first | (go_at_call 11; refine (hT _).mono ?_; rintro e w9 ⟨rfl, hb9⟩; have HB9 := Aside0.mk (below_step HBB.out hb9); clear hb9 hT z0 z1 z2 z3 y0 y1 y2 y3))
      go_roundw
      case rel => exact ⟨x + 1, by go_num, HX.out, ⟨fun j hj => by
        rcases Nat.lt_or_eq_of_le (Nat.le_of_lt_succ hj) with hj | rfl
        · exact HQ.out j hj
        · rw [HZ.out, HY.out]; exact hlk⟩, HB9⟩
      case measure => have := HX.out; simp [intOf]; omega

end Go.Proofs.YtmacpgkcokpgjaaDoor.PStageEnds
