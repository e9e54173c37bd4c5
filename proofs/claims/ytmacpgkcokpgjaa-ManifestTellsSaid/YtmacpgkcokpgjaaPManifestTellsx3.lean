/- The Go functions that the law reaches, as plain Lean functions, and proofs that the calls of the machine come to them, or the row of the law over them, for every input that the row speaks of; written by a program of this session (wip/tool/mkprint.py) out of the translation and of hand-made templates. -/
import Derived.Test.YtmacpgkcokpgjaaPManifestTellsx0
import Derived.Test.YtmacpgkcokpgjaaPManifestTellsx2
namespace Go.Proofs.Ytmacpgkcokpgjaa.PManifestTells
open Go.RowKit Go.Proofs.YtmacpgkcokpgjaaW.PrintWords Go.Proofs.YtmacpgkcokpgjaaW.PrintLast Go.Proofs.YtmacpgkcokpgjaaW.PrintMore
attribute [local go_sem] max2_int min2_int max_two min_two max_three min_three max_four min_four   -- for this text's walks alone
set_option linter.unusedVariables false
set_option linter.unusedSimpArgs false

/-! ### manifest_Right: function 70 -/
/-- Whether a file may be told of. -/
def manifest_Right.mayB (x : S82) : Bool := (x.f0.data.toList.all fs_Right.ok && (decide (x.f0.size ≠ 0) && decide (x.f0.size ≤ 24))) && decide (1 ≤ x.f1 ∧ x.f1 ≤ 64 ∧ 0 ≤ x.f2 ∧ x.f2 ≤ 4611686018427387904)
theorem manifest_Right.may_f (x : S82) (h : x.f0.size ≤ 1000000000) : manifest_may.f x.f0 x.f1 x.f2 x.f3 = some (manifest_Right.mayB x) := by
  unfold manifest_may.f manifest_Right.mayB fs_Right.f
  rw [if_pos h, Option.bind_some]
  cases (x.f0.data.toList.all fs_Right.ok && (decide (x.f0.size ≠ 0) && decide (x.f0.size ≤ 24))) with
  | false => rw [if_neg (by decide)]; rfl
  | true =>
    rw [if_pos rfl, Bool.true_and]
    by_cases h1 : x.f1 ≥ 1
    · rw [if_pos h1]
      by_cases h2 : x.f1 ≤ 64
      · rw [if_pos h2]
        by_cases h3 : x.f2 ≥ 0
        · rw [if_pos h3]; exact congrArg some (decide_eq_decide.mpr (by omega))
        · rw [if_neg h3]; exact congrArg some (Eq.symm (decide_eq_false (by omega)))
      · rw [if_neg h2]; exact congrArg some (Eq.symm (decide_eq_false (by omega)))
    · rw [if_neg h1]; exact congrArg some (Eq.symm (decide_eq_false (by omega)))
def manifest_Right.met (l : List S82) (i : Nat) (s : ByteArray) : Bool := (l.take i).any fun y => y.f0.toList == s.toList
def manifest_Right.ok (l : List S82) (i : Nat) : Bool := manifest_Right.mayB (l.getD i z82) && !manifest_Right.met l i (l.getD i z82).f0
def manifest_Right.f (a0_0 : Int) (a0_1 : Int) (l0_2 : List S82) : Option Bool := if l0_2.length ≤ 1000000000 ∧ (l0_2.all fun x => decide (x.f0.size ≤ 1000000000)) = true then some (decide (1 ≤ a0_0 ∧ a0_0 ≤ 7 ∧ 0 ≤ a0_1 ∧ a0_1 ≤ 1000 ∧ (l0_2.length : Int) ≤ 16) && (List.range l0_2.length).all (manifest_Right.ok l0_2)) else none
theorem manifest_Right.at (l : List S82) (x : Nat) (h : x < l.length) : l.getD x z82 = l[x] := by
  rw [List.getD_eq_getElem?_getD, List.getElem?_eq_getElem h]; rfl
theorem manifest_Right.bad (l0_2 : List S82) (a0_0 a0_1 : Int) (x : Nat) (h : x < l0_2.length) (hx : manifest_Right.ok l0_2 x = false) : (decide (1 ≤ a0_0 ∧ a0_0 ≤ 7 ∧ 0 ≤ a0_1 ∧ a0_1 ≤ 1000 ∧ (l0_2.length : Int) ≤ 16) && (List.range l0_2.length).all (manifest_Right.ok l0_2)) = false := by
  rw [show (List.range l0_2.length).all (manifest_Right.ok l0_2) = false from List.all_eq_false.mpr ⟨x, List.mem_range.mpr h, by rw [hx]; decide⟩, Bool.and_false]
set_option maxHeartbeats 4000000 in
set_option maxRecDepth 100000 in
theorem manifest_Right.calls (a0_0 : Int) (a0_1 : Int) (A0_2 : Option Addr) (c0_2 : Nat) (l0_2 : List S82) (r : Bool) (w : World) (hr0_2 : Kd.C k82 w A0_2 l0_2.length l0_2) (hc0_2 : l0_2.length ≤ c0_2) (h : manifest_Right.f a0_0 a0_1 l0_2 = some r) :
    Calls Try.prog 70 #[.agg #[.int .i64 a0_0, .int .i64 a0_1, .slice A0_2 l0_2.length c0_2]] w fun e w' => e = .returned (.bool r) ∧ Below w.heap.size w w' := by
  unfold manifest_Right.f at h
  split at h
  case isFalse => cases h
  case isTrue hll =>
  obtain ⟨hl, hsz⟩ := hll
  have HSZ := Aside0.mk (fun x hx => of_decide_eq_true (List.all_eq_true.mp hsz x hx))
  clear hsz
  obtain rfl := Option.some.inj h
  clear h
  have hu82 := Try.underlying82
  have hu80 := Try.underlying80
  obtain ⟨W1, hW1⟩ : ∃ W1, w.alloc (.cells #[.int .i64 a0_0, .int .i64 a0_1, .slice A0_2 l0_2.length c0_2] 80) = W1 := ⟨_, rfl⟩
  have HX1 := Aside0.mk (show Below w.heap.size w W1 by rw [← hW1]; exact below_alloc (Below.refl _ _) _)
  have kb1 : W1.heap[w.heap.size]? = some (.cells #[.int .i64 a0_0, .int .i64 a0_1, .slice A0_2 l0_2.length c0_2] 80) := by rw [← hW1]; exact blk_new _ _
  have m0 : W1.cell? ⟨w.heap.size, 0, none⟩ = some (.int .i64 a0_0) := (blk_cell kb1 0).trans rfl
  have m1 : W1.cell? ⟨w.heap.size, 1, none⟩ = some (.int .i64 a0_1) := (blk_cell kb1 1).trans rfl
  have m2 : W1.cell? ⟨w.heap.size, 2, none⟩ = some (.slice A0_2 l0_2.length c0_2) := (blk_cell kb1 2).trans rfl
  have HR := Aside0.mk hr0_2
  clear hr0_2
  by_cases h0 : a0_0 < 1
  · have b0 : decide (a0_0 < 1) = true := decide_eq_true h0
    have br : (decide (1 ≤ a0_0 ∧ a0_0 ≤ 7 ∧ 0 ≤ a0_1 ∧ a0_1 ≤ 1000 ∧ (l0_2.length : Int) ≤ 16) && (List.range l0_2.length).all (manifest_Right.ok l0_2)) = false := by rw [decide_eq_false (by omega)]; rfl
    rw [br]
    clear br h0
    go_enter Try.func70, Try.ntmps70
    go_wp2
    go_ret
    exact ⟨rfl, by repeat (first | exact HX1.out | exact Below.refl _ _ | apply below_alloc | apply below_drew1)⟩
  have b0 : decide (a0_0 < 1) = false := decide_eq_false h0
  by_cases h1 : a0_0 > 7
  · have b1 : decide ((7 : Int) < a0_0) = true := decide_eq_true h1
    have br : (decide (1 ≤ a0_0 ∧ a0_0 ≤ 7 ∧ 0 ≤ a0_1 ∧ a0_1 ≤ 1000 ∧ (l0_2.length : Int) ≤ 16) && (List.range l0_2.length).all (manifest_Right.ok l0_2)) = false := by rw [decide_eq_false (by omega)]; rfl
    rw [br]
    clear br h0 h1
    go_enter Try.func70, Try.ntmps70
    go_wp2
    go_ret
    exact ⟨rfl, by repeat (first | exact HX1.out | exact Below.refl _ _ | apply below_alloc | apply below_drew1)⟩
  have b1 : decide ((7 : Int) < a0_0) = false := decide_eq_false h1
  by_cases h2 : a0_1 < 0
  · have b2 : decide (a0_1 < 0) = true := decide_eq_true h2
    have br : (decide (1 ≤ a0_0 ∧ a0_0 ≤ 7 ∧ 0 ≤ a0_1 ∧ a0_1 ≤ 1000 ∧ (l0_2.length : Int) ≤ 16) && (List.range l0_2.length).all (manifest_Right.ok l0_2)) = false := by rw [decide_eq_false (by omega)]; rfl
    rw [br]
    clear br h0 h1 h2
    go_enter Try.func70, Try.ntmps70
    go_wp2
    go_ret
    exact ⟨rfl, by repeat (first | exact HX1.out | exact Below.refl _ _ | apply below_alloc | apply below_drew1)⟩
  have b2 : decide (a0_1 < 0) = false := decide_eq_false h2
  by_cases h3 : a0_1 > 1000
  · have b3 : decide ((1000 : Int) < a0_1) = true := decide_eq_true h3
    have br : (decide (1 ≤ a0_0 ∧ a0_0 ≤ 7 ∧ 0 ≤ a0_1 ∧ a0_1 ≤ 1000 ∧ (l0_2.length : Int) ≤ 16) && (List.range l0_2.length).all (manifest_Right.ok l0_2)) = false := by rw [decide_eq_false (by omega)]; rfl
    rw [br]
    clear br h0 h1 h2 h3
    go_enter Try.func70, Try.ntmps70
    go_wp2
    go_ret
    exact ⟨rfl, by repeat (first | exact HX1.out | exact Below.refl _ _ | apply below_alloc | apply below_drew1)⟩
  have b3 : decide ((1000 : Int) < a0_1) = false := decide_eq_false h3
  by_cases h4 : (l0_2.length : Int) > 16
  · have b4 : decide ((16 : Int) < (l0_2.length : Int)) = true := decide_eq_true h4
    have b5 : decide (16 < l0_2.length) = true := decide_eq_true (by omega)
    have br : (decide (1 ≤ a0_0 ∧ a0_0 ≤ 7 ∧ 0 ≤ a0_1 ∧ a0_1 ≤ 1000 ∧ (l0_2.length : Int) ≤ 16) && (List.range l0_2.length).all (manifest_Right.ok l0_2)) = false := by rw [decide_eq_false (by omega)]; rfl
    rw [br]
    clear br h0 h1 h2 h3 h4
    go_enter Try.func70, Try.ntmps70
    go_wp2
    go_ret
    exact ⟨rfl, by repeat (first | exact HX1.out | exact Below.refl _ _ | apply below_alloc | apply below_drew1)⟩
  have b4 : decide ((16 : Int) < (l0_2.length : Int)) = false := decide_eq_false h4
  have b5 : decide (16 < l0_2.length) = false := decide_eq_false (by omega)
  have H3 := Aside0.mk (show 1 ≤ a0_0 ∧ a0_0 ≤ 7 ∧ 0 ≤ a0_1 ∧ a0_1 ≤ 1000 ∧ (l0_2.length : Int) ≤ 16 by omega)
  clear h0 h1 h2 h3 h4
  obtain ⟨rr, hrr⟩ : ∃ rr, (decide (1 ≤ a0_0 ∧ a0_0 ≤ 7 ∧ 0 ≤ a0_1 ∧ a0_1 ≤ 1000 ∧ (l0_2.length : Int) ≤ 16) && (List.range l0_2.length).all (manifest_Right.ok l0_2)) = rr := ⟨_, rfl⟩
  rw [hrr]
  have HRR := Aside0.mk hrr
  clear hrr
  go_enter Try.func70, Try.ntmps70
  go_wp2
  go_loopw [32] (fun i wr => ∃ x : Nat, i = .int .i64 (x : Int) ∧ x ≤ l0_2.length ∧ Aside0 (∀ j, j < x → manifest_Right.ok l0_2 j = true) ∧ Aside0 (Below W1.heap.size W1 wr)) (fun i _ => l0_2.length - (intOf i).toNat)
  case atStart => exact ⟨0, rfl, Nat.zero_le _, ⟨fun j h => absurd h (Nat.not_lt_zero _)⟩, ⟨by repeat (first | exact Below.refl _ _ | apply below_drew1)⟩⟩
  case round =>
    clear b0 b1 b2 b3 b4 b5 m0 m1 m2
    obtain ⟨x, rfl, hx, HQ, HB⟩ := hrel
    by_cases hlt : x < l0_2.length
    case neg =>
      obtain rfl : x = l0_2.length := by omega
      have d1 : decide ((l0_2.length : Int) < (l0_2.length : Int)) = false := decide_eq_false (by omega)
      have b2 : (decide (1 ≤ a0_0 ∧ a0_0 ≤ 7 ∧ 0 ≤ a0_1 ∧ a0_1 ≤ 1000 ∧ (l0_2.length : Int) ≤ 16) && (List.range l0_2.length).all (manifest_Right.ok l0_2)) = true := by
        rw [decide_eq_true H3.out, Bool.true_and]
        exact List.all_eq_true.mpr (fun j hj => HQ.out j (List.mem_range.mp hj))
      have HT := Aside0.mk (show rr = true from HRR.out.symm.trans b2)
      clear b2
      go_wp2
      go_ret
      exact ⟨by rw [HT.out]; rfl, below_step HX1.out HB.out⟩
    obtain ⟨ad, ead, h0, h1, h2, h3⟩ := at_T82 (Kd.C_below HR.out (below_step HX1.out HB.out)) (x : Int) (by omega) (by omega)
    cases ead
    rw [api_File_122.rd l0_2 x hlt] at h0 h1 h2 h3
    rw [Int.toNat_natCast] at h0 h1 h2 h3
    have hok0 : manifest_Right.ok l0_2 x = (manifest_Right.mayB l0_2[x] && !manifest_Right.met l0_2 x l0_2[x].f0) := by unfold manifest_Right.ok; rw [manifest_Right.at l0_2 x hlt]
    have hmay : manifest_may.f l0_2[x].f0 l0_2[x].f1 l0_2[x].f2 l0_2[x].f3 = some (manifest_Right.mayB l0_2[x]) := manifest_Right.may_f _ (HSZ.out _ (List.getElem_mem hlt))
    generalize hz : l0_2[x] = z at h0 h1 h2 h3 hok0 hmay
    have HX := Aside0.mk hlt
    have HO := Aside0.mk hok0
    clear hz hok0
    have d1 : decide ((x : Int) < (l0_2.length : Int)) = true := decide_eq_true (by omega)
    have d2 : ((0 : Int) ≤ (x : Int)) = True := eq_true (by omega)
    have d3 : ((x : Int) < (l0_2.length : Int)) = True := eq_true (by omega)
    go_upto_region 6 with (fail)
    clear h0 h1 h2 h3 d1 d3
    have d4 : ((x : Int) ≤ (c0_2 : Int)) = True := eq_true (by omega)
    obtain ⟨WA, hWA⟩ : ∃ WA, wr.alloc (.cells #[.string z.f0, .int .i64 z.f1, .int .i64 z.f2, .int .u32 z.f3] 82) = WA := ⟨_, rfl⟩
    have kz : WA.heap[wr.heap.size]? = some (.cells #[.string z.f0, .int .i64 z.f1, .int .i64 z.f2, .int .u32 z.f3] 82) := by rw [← hWA]; exact blk_new _ _
    have HBr := Aside0.mk (show Below wr.heap.size wr WA by rw [← hWA]; exact below_alloc (Below.refl _ _) _)
    have kb : WA.heap[w.heap.size]? = some (.cells #[.int .i64 a0_0, .int .i64 a0_1, .slice (some ad) l0_2.length c0_2] 80) := blk_below (blk_below kb1 HB.out) HBr.out
    try rw [hWA]
    clear hWA
    cases hm : manifest_Right.mayB z with
    | false =>
      rw [hm] at hmay
      have hMay := fun W => manifest_may.calls z.f0 z.f1 z.f2 z.f3 false W hmay
      refine start_ (ds := []) (n := 13) (S := fun W => Below WA.heap.size WA W) #[false, false, false, false, false, false, false, false, false, false, false, false, false] (by kernel_rfl) rfl (by rfl) (below_drew (Below.refl _ _)) (fun hHeld => ?_)
      refine take_ (i := 0) (N := (some 37)) (v := ?_) (a' := ?_) #[true, false, false, false, false, false, false, false, false, false, false, false, false] rfl rfl (by kernel_rfl) (fun _ _ _ h => h) (Or.inl ⟨by rfl, ?_⟩) hHeld ?_ ?_
      rotate_left
      · intro w' hw'
        have k0 := blk_below kz hw'
        have e0 : w'.cell? ⟨wr.heap.size, 0, none⟩ = some (.string z.f0) := (blk_cell k0 0).trans rfl
        have e1 : w'.cell? ⟨wr.heap.size, 1, none⟩ = some (.int .i64 z.f1) := (blk_cell k0 1).trans rfl
        have e2 : w'.cell? ⟨wr.heap.size, 2, none⟩ = some (.int .i64 z.f2) := (blk_cell k0 2).trans rfl
        have e3 : w'.cell? ⟨wr.heap.size, 3, none⟩ = some (.int .u32 z.f3) := (blk_cell k0 3).trans rfl
        go_simp
        first | done | with_reducible rfl | rfl
      rotate_left
      · simp only [Act.put, List.setIfInBounds_toArray, List.set_cons_zero, List.set_cons_succ, i64_w, i32_w]
        rfl
      refine one_ (i := 1) (N := (some 38)) #[true, true, false, false, false, false, false, false, false, false, false, false, false] rfl rfl (by kernel_rfl) (by decide) (fun K hK => ?_)
      refine goes_ Try.func130 (by kernel_rfl) rfl #[.agg #[.string z.f0, .int .i64 z.f1, .int .i64 z.f2, .int .u32 z.f3]] (by rfl) rfl rfl (by (try simp only [List.map_toArray, List.map_cons, List.map_nil]); first | done | rfl | (simp only [List.length_drop, List.length_take]; rfl)) ?_
      with_reducible refine (hMay _).mono ?_
      rintro e wM ⟨rfl, hbM⟩
      refine ⟨_, rfl, ?_⟩
      refine hK.out _ _ (below_step hHeld hbM) (fun hHeld => ?_)
      clear hK K
      refine norm_ (a' := ?_) ?_ ?_
      rotate_left
      · show Act.put _ (some 38) _ = _
        simp only [Act.put, List.setIfInBounds_toArray, List.set_cons_zero, List.set_cons_succ, i64_w, i32_w]
        rfl
      refine pure_ (i := 2) (N := (some 39)) (v := ?_) (a' := ?_) #[true, true, true, false, false, false, false, false, false, false, false, false, false] rfl rfl (by kernel_rfl) (fun _ _ _ h => h) (Or.inl ⟨by rfl, ?_⟩) ?_ ?_
      rotate_left
      · intro w'
        go_simp
        first | with_reducible rfl | rfl
      rotate_left
      · simp only [Act.put, List.setIfInBounds_toArray, List.set_cons_zero, List.set_cons_succ, i64_w, i32_w]
        rfl
      refine pure_ (i := 3) (N := (some 40)) (v := ?_) (a' := ?_) #[true, true, true, true, false, false, false, false, false, false, false, false, false] rfl rfl (by kernel_rfl) (fun _ _ _ h => h) (Or.inl ⟨by rfl, ?_⟩) ?_ ?_
      rotate_left
      · intro w'
        go_simp
        first | with_reducible rfl | rfl
      rotate_left
      · simp only [Act.put, List.setIfInBounds_toArray, List.set_cons_zero, List.set_cons_succ, i64_w, i32_w]
        rfl
      refine pure_ (i := 4) (N := (some 41)) (v := undef) (a' := ?_) #[true, true, true, true, true, false, false, false, false, false, false, false, false] rfl rfl (by kernel_rfl) (fun _ _ _ h => h) (Or.inr ⟨by rfl, rfl⟩) ?_ ?_
      rotate_left
      · simp only [Act.put, List.setIfInBounds_toArray, List.set_cons_zero, List.set_cons_succ, i64_w, i32_w]
        rfl
      refine pure_ (i := 5) (N := (some 42)) (v := undef) (a' := ?_) #[true, true, true, true, true, true, false, false, false, false, false, false, false] rfl rfl (by kernel_rfl) (fun _ _ _ h => h) (Or.inr ⟨by rfl, rfl⟩) ?_ ?_
      rotate_left
      · simp only [Act.put, List.setIfInBounds_toArray, List.set_cons_zero, List.set_cons_succ, i64_w, i32_w]
        rfl
      refine pure_ (i := 6) (N := (some 43)) (v := undef) (a' := ?_) #[true, true, true, true, true, true, true, false, false, false, false, false, false] rfl rfl (by kernel_rfl) (fun _ _ _ h => h) (Or.inr ⟨by rfl, rfl⟩) ?_ ?_
      rotate_left
      · simp only [Act.put, List.setIfInBounds_toArray, List.set_cons_zero, List.set_cons_succ, i64_w, i32_w]
        rfl
      refine pure_ (i := 7) (N := (some 44)) (v := undef) (a' := ?_) #[true, true, true, true, true, true, true, true, false, false, false, false, false] rfl rfl (by kernel_rfl) (fun _ _ _ h => h) (Or.inr ⟨by rfl, rfl⟩) ?_ ?_
      rotate_left
      · simp only [Act.put, List.setIfInBounds_toArray, List.set_cons_zero, List.set_cons_succ, i64_w, i32_w]
        rfl
      refine pure_ (i := 8) (N := (some 45)) (v := undef) (a' := ?_) #[true, true, true, true, true, true, true, true, true, false, false, false, false] rfl rfl (by kernel_rfl) (fun _ _ _ h => h) (Or.inr ⟨by rfl, rfl⟩) ?_ ?_
      rotate_left
      · simp only [Act.put, List.setIfInBounds_toArray, List.set_cons_zero, List.set_cons_succ, i64_w, i32_w]
        rfl
      refine pure_ (i := 9) (N := (some 46)) (v := undef) (a' := ?_) #[true, true, true, true, true, true, true, true, true, true, false, false, false] rfl rfl (by kernel_rfl) (fun _ _ _ h => h) (Or.inr ⟨by rfl, rfl⟩) ?_ ?_
      rotate_left
      · simp only [Act.put, List.setIfInBounds_toArray, List.set_cons_zero, List.set_cons_succ, i64_w, i32_w]
        rfl
      refine pure_ (i := 10) (N := (some 47)) (v := undef) (a' := ?_) #[true, true, true, true, true, true, true, true, true, true, true, false, false] rfl rfl (by kernel_rfl) (fun _ _ _ h => h) (Or.inr ⟨by rfl, rfl⟩) ?_ ?_
      rotate_left
      · simp only [Act.put, List.setIfInBounds_toArray, List.set_cons_zero, List.set_cons_succ, i64_w, i32_w]
        rfl
      refine pure_ (i := 11) (N := (some 48)) (v := undef) (a' := ?_) #[true, true, true, true, true, true, true, true, true, true, true, true, false] rfl rfl (by kernel_rfl) (fun _ _ _ h => h) (Or.inr ⟨by rfl, rfl⟩) ?_ ?_
      rotate_left
      · simp only [Act.put, List.setIfInBounds_toArray, List.set_cons_zero, List.set_cons_succ, i64_w, i32_w]
        rfl
      refine pure_ (i := 12) (N := (some 49)) (v := ?_) (a' := ?_) #[true, true, true, true, true, true, true, true, true, true, true, true, true] rfl rfl (by kernel_rfl) (fun _ _ _ h => h) (Or.inl ⟨by rfl, ?_⟩) ?_ ?_
      rotate_left
      · intro w'
        go_simp
        first | with_reducible rfl | rfl
      rotate_left
      · simp only [Act.put, List.setIfInBounds_toArray, List.set_cons_zero, List.set_cons_succ, i64_w, i32_w]
        rfl
      refine done_ (by kernel_rfl) ?_
      have HB2 := Aside0.mk (below_step (below_step (below_step HX1.out HB.out) HBr.out) hHeld)
      clear hHeld
      go_wp2
      go_ret
      exact ⟨by rw [show rr = false from HRR.out.symm.trans (manifest_Right.bad l0_2 a0_0 a0_1 x HX.out (by rw [HO.out, hm, Bool.false_and]))]; rfl, HB2.out⟩
    | true =>
      rw [hm] at hmay
      have hMay := fun W => manifest_may.calls z.f0 z.f1 z.f2 z.f3 true W hmay
      cases hmt : manifest_Right.met l0_2 x z.f0 with
      | true =>
        have hCon : ∀ (W : World) (g : Nat), Below WA.heap.size WA W → W.heap[g]? = some (.cells #[.string z.f0] 9) → Calls Try.prog 131 #[.slice (some ad) x c0_2, .func (.func 162) #[] #[.pointer (some ⟨g, 0, none⟩)]] W fun e w' => e = .returned (.bool true) ∧ Below W.heap.size W w' := fun W g hW hg => by
          have h5 := api_File_131.calls z.f0 g (some ad) c0_2 (l0_2.take x) W (Kd.C_take (Kd.C_below HR.out (below_step (below_step (below_step HX1.out HB.out) HBr.out) hW)) hx) (by rw [List.length_take]; omega) (by rw [List.length_take]; omega) hg
          rw [show (l0_2.take x).length = x by rw [List.length_take]; omega, show ((l0_2.take x).any fun y => y.f0.toList == z.f0.toList) = true from hmt] at h5
          exact h5
        refine start_ (ds := []) (n := 13) (S := fun W => Below WA.heap.size WA W) #[false, false, false, false, false, false, false, false, false, false, false, false, false] (by kernel_rfl) rfl (by rfl) (below_drew (Below.refl _ _)) (fun hHeld => ?_)
        refine take_ (i := 0) (N := (some 37)) (v := ?_) (a' := ?_) #[true, false, false, false, false, false, false, false, false, false, false, false, false] rfl rfl (by kernel_rfl) (fun _ _ _ h => h) (Or.inl ⟨by rfl, ?_⟩) hHeld ?_ ?_
        rotate_left
        · intro w' hw'
          have k0 := blk_below kz hw'
          have e0 : w'.cell? ⟨wr.heap.size, 0, none⟩ = some (.string z.f0) := (blk_cell k0 0).trans rfl
          have e1 : w'.cell? ⟨wr.heap.size, 1, none⟩ = some (.int .i64 z.f1) := (blk_cell k0 1).trans rfl
          have e2 : w'.cell? ⟨wr.heap.size, 2, none⟩ = some (.int .i64 z.f2) := (blk_cell k0 2).trans rfl
          have e3 : w'.cell? ⟨wr.heap.size, 3, none⟩ = some (.int .u32 z.f3) := (blk_cell k0 3).trans rfl
          go_simp
          first | done | with_reducible rfl | rfl
        rotate_left
        · simp only [Act.put, List.setIfInBounds_toArray, List.set_cons_zero, List.set_cons_succ, i64_w, i32_w]
          rfl
        refine one_ (i := 1) (N := (some 38)) #[true, true, false, false, false, false, false, false, false, false, false, false, false] rfl rfl (by kernel_rfl) (by decide) (fun K hK => ?_)
        refine goes_ Try.func130 (by kernel_rfl) rfl #[.agg #[.string z.f0, .int .i64 z.f1, .int .i64 z.f2, .int .u32 z.f3]] (by rfl) rfl rfl (by (try simp only [List.map_toArray, List.map_cons, List.map_nil]); first | done | rfl | (simp only [List.length_drop, List.length_take]; rfl)) ?_
        with_reducible refine (hMay _).mono ?_
        rintro e wM ⟨rfl, hbM⟩
        refine ⟨_, rfl, ?_⟩
        refine hK.out _ _ (below_step hHeld hbM) (fun hHeld => ?_)
        clear hK K
        refine norm_ (a' := ?_) ?_ ?_
        rotate_left
        · show Act.put _ (some 38) _ = _
          simp only [Act.put, List.setIfInBounds_toArray, List.set_cons_zero, List.set_cons_succ, i64_w, i32_w]
          rfl
        refine pure_ (i := 2) (N := (some 39)) (v := ?_) (a' := ?_) #[true, true, true, false, false, false, false, false, false, false, false, false, false] rfl rfl (by kernel_rfl) (fun _ _ _ h => h) (Or.inl ⟨by rfl, ?_⟩) ?_ ?_
        rotate_left
        · intro w'
          go_simp
          first | with_reducible rfl | rfl
        rotate_left
        · simp only [Act.put, List.setIfInBounds_toArray, List.set_cons_zero, List.set_cons_succ, i64_w, i32_w]
          rfl
        refine pure_ (i := 3) (N := (some 40)) (v := ?_) (a' := ?_) #[true, true, true, true, false, false, false, false, false, false, false, false, false] rfl rfl (by kernel_rfl) (fun _ _ _ h => h) (Or.inl ⟨by rfl, ?_⟩) ?_ ?_
        rotate_left
        · intro w'
          go_simp
          first | with_reducible rfl | rfl
        rotate_left
        · simp only [Act.put, List.setIfInBounds_toArray, List.set_cons_zero, List.set_cons_succ, i64_w, i32_w]
          rfl
        refine pure_ (i := 4) (N := (some 41)) (v := ?_) (a' := ?_) #[true, true, true, true, true, false, false, false, false, false, false, false, false] rfl rfl (by kernel_rfl) (fun _ _ _ h => h) (Or.inl ⟨by rfl, ?_⟩) ?_ ?_
        rotate_left
        · intro w'
          go_simp
          first | with_reducible rfl | rfl
        rotate_left
        · simp only [Act.put, List.setIfInBounds_toArray, List.set_cons_zero, List.set_cons_succ, i64_w, i32_w]
          rfl
        refine take_ (i := 5) (N := (some 42)) (v := ?_) (a' := ?_) #[true, true, true, true, true, true, false, false, false, false, false, false, false] rfl rfl (by kernel_rfl) (fun _ _ _ h => h) (Or.inl ⟨by rfl, ?_⟩) hHeld ?_ ?_
        rotate_left
        · intro w' hw'
          have k0 := blk_below kb hw'
          have e2 : w'.cell? ⟨w.heap.size, 2, none⟩ = some (.slice (some ad) l0_2.length c0_2) := (blk_cell k0 2).trans rfl
          go_simp
          first | done | with_reducible rfl | rfl
        rotate_left
        · simp only [Act.put, List.setIfInBounds_toArray, List.set_cons_zero, List.set_cons_succ, i64_w, i32_w]
          rfl
        refine pure_ (i := 6) (N := (some 43)) (v := ?_) (a' := ?_) #[true, true, true, true, true, true, true, false, false, false, false, false, false] rfl rfl (by kernel_rfl) (fun _ _ _ h => h) (Or.inl ⟨by rfl, ?_⟩) ?_ ?_
        rotate_left
        · intro w'
          go_simp
          first | with_reducible rfl | rfl
        rotate_left
        · simp only [Act.put, List.setIfInBounds_toArray, List.set_cons_zero, List.set_cons_succ, i64_w, i32_w]
          rfl
        refine pure_ (i := 7) (N := (some 44)) (v := ?_) (a' := ?_) #[true, true, true, true, true, true, true, true, false, false, false, false, false] rfl rfl (by kernel_rfl) (fun _ _ _ h => h) (Or.inl ⟨by rfl, ?_⟩) ?_ ?_
        rotate_left
        · intro w'
          go_simp
          first | with_reducible rfl | rfl
        rotate_left
        · simp only [Act.put, List.setIfInBounds_toArray, List.set_cons_zero, List.set_cons_succ, i64_w, i32_w]
          rfl
        refine pure_ (i := 8) (N := (some 45)) (v := ?_) (a' := ?_) #[true, true, true, true, true, true, true, true, true, false, false, false, false] rfl rfl (by kernel_rfl) (fun _ _ _ h => h) (Or.inl ⟨by rfl, ?_⟩) ?_ ?_
        rotate_left
        · intro w'
          go_simp
          first | with_reducible rfl | rfl
        rotate_left
        · simp only [Act.put, List.setIfInBounds_toArray, List.set_cons_zero, List.set_cons_succ, i64_w, i32_w]
          rfl
        refine take_ (i := 9) (N := (some 46)) (v := ?_) (a' := ?_) #[true, true, true, true, true, true, true, true, true, true, false, false, false] rfl rfl (by kernel_rfl) (fun _ _ _ h => h) (Or.inl ⟨by rfl, ?_⟩) hHeld ?_ ?_
        rotate_left
        · intro w' hw'
          have k0 := blk_below kz hw'
          have e0 : w'.cell? ⟨wr.heap.size, 0, none⟩ = some (.string z.f0) := (blk_cell k0 0).trans rfl
          go_simp
          first | done | with_reducible rfl | rfl
        rotate_left
        · simp only [Act.put, List.setIfInBounds_toArray, List.set_cons_zero, List.set_cons_succ, i64_w, i32_w]
          rfl
        refine one_ (i := 10) (N := (some 47)) #[true, true, true, true, true, true, true, true, true, true, true, false, false] rfl rfl (by kernel_rfl) (by decide) (fun K hK => ?_)
        refine goes_ Try.func123 (by kernel_rfl) rfl #[.string z.f0] (by rfl) rfl rfl (by (try simp only [List.map_toArray, List.map_cons, List.map_nil]); first | done | rfl | (simp only [List.length_drop, List.length_take]; rfl)) ?_
        with_reducible refine (manifest_named.calls z.f0 _).mono ?_
        rintro e wN ⟨rfl, hN⟩
        have kN : wN.heap[wM.heap.size]? = some (.cells #[.string z.f0] 9) := by rw [hN]; exact blk_new wM _
        have hbN : Below wM.heap.size wM wN := by rw [hN]; exact below_alloc (Below.refl _ _) _
        clear hN
        refine ⟨_, rfl, ?_⟩
        refine hK.out _ _ (below_step hHeld hbN) (fun hHeld => ?_)
        clear hK K
        refine norm_ (a' := ?_) ?_ ?_
        rotate_left
        · show Act.put _ (some 47) _ = _
          simp only [Act.put, List.setIfInBounds_toArray, List.set_cons_zero, List.set_cons_succ, i64_w, i32_w]
          rfl
        refine one_ (i := 11) (N := (some 48)) #[true, true, true, true, true, true, true, true, true, true, true, true, false] rfl rfl (by kernel_rfl) (by decide) (fun K hK => ?_)
        refine goes_ Try.func131 (by kernel_rfl) rfl #[.slice (some ad) x c0_2, .func (.func 162) #[] #[.pointer (some ⟨wM.heap.size, 0, none⟩)]] (by rfl) rfl rfl (by (try simp only [List.map_toArray, List.map_cons, List.map_nil]); first | done | rfl | (simp only [List.length_drop, List.length_take]; rfl)) ?_
        with_reducible refine (hCon _ _ hHeld kN).mono ?_
        rintro e wC ⟨rfl, hbC⟩
        refine ⟨_, rfl, ?_⟩
        refine hK.out _ _ (below_step hHeld hbC) (fun hHeld => ?_)
        clear hK K
        refine norm_ (a' := ?_) ?_ ?_
        rotate_left
        · show Act.put _ (some 48) _ = _
          simp only [Act.put, List.setIfInBounds_toArray, List.set_cons_zero, List.set_cons_succ, i64_w, i32_w]
          rfl
        refine pure_ (i := 12) (N := (some 49)) (v := ?_) (a' := ?_) #[true, true, true, true, true, true, true, true, true, true, true, true, true] rfl rfl (by kernel_rfl) (fun _ _ _ h => h) (Or.inl ⟨by rfl, ?_⟩) ?_ ?_
        rotate_left
        · intro w'
          go_simp
          first | with_reducible rfl | rfl
        rotate_left
        · simp only [Act.put, List.setIfInBounds_toArray, List.set_cons_zero, List.set_cons_succ, i64_w, i32_w]
          rfl
        refine done_ (by kernel_rfl) ?_
        have HB2 := Aside0.mk (below_step (below_step (below_step HX1.out HB.out) HBr.out) hHeld)
        clear hHeld
        go_wp2
        go_ret
        exact ⟨by rw [show rr = false from HRR.out.symm.trans (manifest_Right.bad l0_2 a0_0 a0_1 x HX.out (by rw [HO.out, hm, hmt, Bool.not_true, Bool.and_false]))]; rfl, HB2.out⟩
      | false =>
        have hCon : ∀ (W : World) (g : Nat), Below WA.heap.size WA W → W.heap[g]? = some (.cells #[.string z.f0] 9) → Calls Try.prog 131 #[.slice (some ad) x c0_2, .func (.func 162) #[] #[.pointer (some ⟨g, 0, none⟩)]] W fun e w' => e = .returned (.bool false) ∧ Below W.heap.size W w' := fun W g hW hg => by
          have h5 := api_File_131.calls z.f0 g (some ad) c0_2 (l0_2.take x) W (Kd.C_take (Kd.C_below HR.out (below_step (below_step (below_step HX1.out HB.out) HBr.out) hW)) hx) (by rw [List.length_take]; omega) (by rw [List.length_take]; omega) hg
          rw [show (l0_2.take x).length = x by rw [List.length_take]; omega, show ((l0_2.take x).any fun y => y.f0.toList == z.f0.toList) = false from hmt] at h5
          exact h5
        refine start_ (ds := []) (n := 13) (S := fun W => Below WA.heap.size WA W) #[false, false, false, false, false, false, false, false, false, false, false, false, false] (by kernel_rfl) rfl (by rfl) (below_drew (Below.refl _ _)) (fun hHeld => ?_)
        refine take_ (i := 0) (N := (some 37)) (v := ?_) (a' := ?_) #[true, false, false, false, false, false, false, false, false, false, false, false, false] rfl rfl (by kernel_rfl) (fun _ _ _ h => h) (Or.inl ⟨by rfl, ?_⟩) hHeld ?_ ?_
        rotate_left
        · intro w' hw'
          have k0 := blk_below kz hw'
          have e0 : w'.cell? ⟨wr.heap.size, 0, none⟩ = some (.string z.f0) := (blk_cell k0 0).trans rfl
          have e1 : w'.cell? ⟨wr.heap.size, 1, none⟩ = some (.int .i64 z.f1) := (blk_cell k0 1).trans rfl
          have e2 : w'.cell? ⟨wr.heap.size, 2, none⟩ = some (.int .i64 z.f2) := (blk_cell k0 2).trans rfl
          have e3 : w'.cell? ⟨wr.heap.size, 3, none⟩ = some (.int .u32 z.f3) := (blk_cell k0 3).trans rfl
          go_simp
          first | done | with_reducible rfl | rfl
        rotate_left
        · simp only [Act.put, List.setIfInBounds_toArray, List.set_cons_zero, List.set_cons_succ, i64_w, i32_w]
          rfl
        refine one_ (i := 1) (N := (some 38)) #[true, true, false, false, false, false, false, false, false, false, false, false, false] rfl rfl (by kernel_rfl) (by decide) (fun K hK => ?_)
        refine goes_ Try.func130 (by kernel_rfl) rfl #[.agg #[.string z.f0, .int .i64 z.f1, .int .i64 z.f2, .int .u32 z.f3]] (by rfl) rfl rfl (by (try simp only [List.map_toArray, List.map_cons, List.map_nil]); first | done | rfl | (simp only [List.length_drop, List.length_take]; rfl)) ?_
        with_reducible refine (hMay _).mono ?_
        rintro e wM ⟨rfl, hbM⟩
        refine ⟨_, rfl, ?_⟩
        refine hK.out _ _ (below_step hHeld hbM) (fun hHeld => ?_)
        clear hK K
        refine norm_ (a' := ?_) ?_ ?_
        rotate_left
        · show Act.put _ (some 38) _ = _
          simp only [Act.put, List.setIfInBounds_toArray, List.set_cons_zero, List.set_cons_succ, i64_w, i32_w]
          rfl
        refine pure_ (i := 2) (N := (some 39)) (v := ?_) (a' := ?_) #[true, true, true, false, false, false, false, false, false, false, false, false, false] rfl rfl (by kernel_rfl) (fun _ _ _ h => h) (Or.inl ⟨by rfl, ?_⟩) ?_ ?_
        rotate_left
        · intro w'
          go_simp
          first | with_reducible rfl | rfl
        rotate_left
        · simp only [Act.put, List.setIfInBounds_toArray, List.set_cons_zero, List.set_cons_succ, i64_w, i32_w]
          rfl
        refine pure_ (i := 3) (N := (some 40)) (v := ?_) (a' := ?_) #[true, true, true, true, false, false, false, false, false, false, false, false, false] rfl rfl (by kernel_rfl) (fun _ _ _ h => h) (Or.inl ⟨by rfl, ?_⟩) ?_ ?_
        rotate_left
        · intro w'
          go_simp
          first | with_reducible rfl | rfl
        rotate_left
        · simp only [Act.put, List.setIfInBounds_toArray, List.set_cons_zero, List.set_cons_succ, i64_w, i32_w]
          rfl
        refine pure_ (i := 4) (N := (some 41)) (v := ?_) (a' := ?_) #[true, true, true, true, true, false, false, false, false, false, false, false, false] rfl rfl (by kernel_rfl) (fun _ _ _ h => h) (Or.inl ⟨by rfl, ?_⟩) ?_ ?_
        rotate_left
        · intro w'
          go_simp
          first | with_reducible rfl | rfl
        rotate_left
        · simp only [Act.put, List.setIfInBounds_toArray, List.set_cons_zero, List.set_cons_succ, i64_w, i32_w]
          rfl
        refine take_ (i := 5) (N := (some 42)) (v := ?_) (a' := ?_) #[true, true, true, true, true, true, false, false, false, false, false, false, false] rfl rfl (by kernel_rfl) (fun _ _ _ h => h) (Or.inl ⟨by rfl, ?_⟩) hHeld ?_ ?_
        rotate_left
        · intro w' hw'
          have k0 := blk_below kb hw'
          have e2 : w'.cell? ⟨w.heap.size, 2, none⟩ = some (.slice (some ad) l0_2.length c0_2) := (blk_cell k0 2).trans rfl
          go_simp
          first | done | with_reducible rfl | rfl
        rotate_left
        · simp only [Act.put, List.setIfInBounds_toArray, List.set_cons_zero, List.set_cons_succ, i64_w, i32_w]
          rfl
        refine pure_ (i := 6) (N := (some 43)) (v := ?_) (a' := ?_) #[true, true, true, true, true, true, true, false, false, false, false, false, false] rfl rfl (by kernel_rfl) (fun _ _ _ h => h) (Or.inl ⟨by rfl, ?_⟩) ?_ ?_
        rotate_left
        · intro w'
          go_simp
          first | with_reducible rfl | rfl
        rotate_left
        · simp only [Act.put, List.setIfInBounds_toArray, List.set_cons_zero, List.set_cons_succ, i64_w, i32_w]
          rfl
        refine pure_ (i := 7) (N := (some 44)) (v := ?_) (a' := ?_) #[true, true, true, true, true, true, true, true, false, false, false, false, false] rfl rfl (by kernel_rfl) (fun _ _ _ h => h) (Or.inl ⟨by rfl, ?_⟩) ?_ ?_
        rotate_left
        · intro w'
          go_simp
          first | with_reducible rfl | rfl
        rotate_left
        · simp only [Act.put, List.setIfInBounds_toArray, List.set_cons_zero, List.set_cons_succ, i64_w, i32_w]
          rfl
        refine pure_ (i := 8) (N := (some 45)) (v := ?_) (a' := ?_) #[true, true, true, true, true, true, true, true, true, false, false, false, false] rfl rfl (by kernel_rfl) (fun _ _ _ h => h) (Or.inl ⟨by rfl, ?_⟩) ?_ ?_
        rotate_left
        · intro w'
          go_simp
          first | with_reducible rfl | rfl
        rotate_left
        · simp only [Act.put, List.setIfInBounds_toArray, List.set_cons_zero, List.set_cons_succ, i64_w, i32_w]
          rfl
        refine take_ (i := 9) (N := (some 46)) (v := ?_) (a' := ?_) #[true, true, true, true, true, true, true, true, true, true, false, false, false] rfl rfl (by kernel_rfl) (fun _ _ _ h => h) (Or.inl ⟨by rfl, ?_⟩) hHeld ?_ ?_
        rotate_left
        · intro w' hw'
          have k0 := blk_below kz hw'
          have e0 : w'.cell? ⟨wr.heap.size, 0, none⟩ = some (.string z.f0) := (blk_cell k0 0).trans rfl
          go_simp
          first | done | with_reducible rfl | rfl
        rotate_left
        · simp only [Act.put, List.setIfInBounds_toArray, List.set_cons_zero, List.set_cons_succ, i64_w, i32_w]
          rfl
        refine one_ (i := 10) (N := (some 47)) #[true, true, true, true, true, true, true, true, true, true, true, false, false] rfl rfl (by kernel_rfl) (by decide) (fun K hK => ?_)
        refine goes_ Try.func123 (by kernel_rfl) rfl #[.string z.f0] (by rfl) rfl rfl (by (try simp only [List.map_toArray, List.map_cons, List.map_nil]); first | done | rfl | (simp only [List.length_drop, List.length_take]; rfl)) ?_
        with_reducible refine (manifest_named.calls z.f0 _).mono ?_
        rintro e wN ⟨rfl, hN⟩
        have kN : wN.heap[wM.heap.size]? = some (.cells #[.string z.f0] 9) := by rw [hN]; exact blk_new wM _
        have hbN : Below wM.heap.size wM wN := by rw [hN]; exact below_alloc (Below.refl _ _) _
        clear hN
        refine ⟨_, rfl, ?_⟩
        refine hK.out _ _ (below_step hHeld hbN) (fun hHeld => ?_)
        clear hK K
        refine norm_ (a' := ?_) ?_ ?_
        rotate_left
        · show Act.put _ (some 47) _ = _
          simp only [Act.put, List.setIfInBounds_toArray, List.set_cons_zero, List.set_cons_succ, i64_w, i32_w]
          rfl
        refine one_ (i := 11) (N := (some 48)) #[true, true, true, true, true, true, true, true, true, true, true, true, false] rfl rfl (by kernel_rfl) (by decide) (fun K hK => ?_)
        refine goes_ Try.func131 (by kernel_rfl) rfl #[.slice (some ad) x c0_2, .func (.func 162) #[] #[.pointer (some ⟨wM.heap.size, 0, none⟩)]] (by rfl) rfl rfl (by (try simp only [List.map_toArray, List.map_cons, List.map_nil]); first | done | rfl | (simp only [List.length_drop, List.length_take]; rfl)) ?_
        with_reducible refine (hCon _ _ hHeld kN).mono ?_
        rintro e wC ⟨rfl, hbC⟩
        refine ⟨_, rfl, ?_⟩
        refine hK.out _ _ (below_step hHeld hbC) (fun hHeld => ?_)
        clear hK K
        refine norm_ (a' := ?_) ?_ ?_
        rotate_left
        · show Act.put _ (some 48) _ = _
          simp only [Act.put, List.setIfInBounds_toArray, List.set_cons_zero, List.set_cons_succ, i64_w, i32_w]
          rfl
        refine pure_ (i := 12) (N := (some 49)) (v := ?_) (a' := ?_) #[true, true, true, true, true, true, true, true, true, true, true, true, true] rfl rfl (by kernel_rfl) (fun _ _ _ h => h) (Or.inl ⟨by rfl, ?_⟩) ?_ ?_
        rotate_left
        · intro w'
          go_simp
          first | with_reducible rfl | rfl
        rotate_left
        · simp only [Act.put, List.setIfInBounds_toArray, List.set_cons_zero, List.set_cons_succ, i64_w, i32_w]
          rfl
        refine done_ (by kernel_rfl) ?_
        have HB2 := Aside0.mk (below_step (below_step HB.out HBr.out) hHeld)
        clear hHeld
        go_wp2
        go_roundw
        case rel => exact ⟨x + 1, by go_num, HX.out, ⟨fun j hj => by
          rcases Nat.lt_or_eq_of_le (Nat.le_of_lt_succ hj) with hj | rfl
          · exact HQ.out j hj
          · rw [HO.out, hm, hmt]; rfl⟩, HB2⟩
        case measure => have := HX.out; simp [intOf]; omega


/-! ### manifest_Find: function 62 -/
/-- Where the first file of a name is. -/
def manifest_Find.at (l : List S82) (s : ByteArray) : Option Nat := l.findIdx? fun x => x.f0.toList == s.toList
theorem manifest_Find.ix (l : List S82) (s : ByteArray) : api_File_122.ix (fun x => x.f0.toList == s.toList) l = match manifest_Find.at l s with | some i => (i : Int) | none => -1 := rfl
def manifest_Find.f (a0_0 : Int) (a0_1 : Int) (l0_2 : List S82) (a1 : ByteArray) : Option (ByteArray × Int × Int × Int × Bool) :=
  if l0_2.length ≤ 1000000000 then (match manifest_Find.at l0_2 a1 with | none => some (⟨#[]⟩, 0, 0, 0, false) | some i => some ((l0_2.getD i z82).f0, (l0_2.getD i z82).f1, (l0_2.getD i z82).f2, (l0_2.getD i z82).f3, true)) else none
set_option maxHeartbeats 4000000 in
set_option maxRecDepth 100000 in
theorem manifest_Find.calls (a0_0 : Int) (a0_1 : Int) (A0_2 : Option Addr) (c0_2 : Nat) (l0_2 : List S82) (a1 : ByteArray) (r1 : ByteArray) (r2 : Int) (r3 : Int) (r4 : Int) (r5 : Bool) (w : World) (hr0_2 : Kd.C k82 w A0_2 l0_2.length l0_2) (hc0_2 : l0_2.length ≤ c0_2) (h : manifest_Find.f a0_0 a0_1 l0_2 a1 = some (r1, r2, r3, r4, r5)) :
    Calls Try.prog 62 #[.agg #[.int .i64 a0_0, .int .i64 a0_1, .slice A0_2 l0_2.length c0_2], .string a1] w fun e w' => e = .returned (.tuple #[.agg #[.string r1, .int .i64 r2, .int .i64 r3, .int .u32 r4], .bool r5]) ∧ Below w.heap.size w w' := by
  unfold manifest_Find.f at h
  split at h
  case isFalse => cases h
  case isTrue hl =>
  have hu82 := Try.underlying82
  have hu80 := Try.underlying80
  obtain ⟨W1, hW1⟩ : ∃ W1, w.alloc (.cells #[.int .i64 a0_0, .int .i64 a0_1, .slice A0_2 l0_2.length c0_2] 80) = W1 := ⟨_, rfl⟩
  have hx1 : Below w.heap.size w W1 := by rw [← hW1]; exact below_alloc (Below.refl _ _) _
  have kb1 : W1.heap[w.heap.size]? = some (.cells #[.int .i64 a0_0, .int .i64 a0_1, .slice A0_2 l0_2.length c0_2] 80) := by rw [← hW1]; exact blk_new _ _
  obtain ⟨W2, hW2⟩ : ∃ W2, W1.alloc (.cells #[.string ⟨#[]⟩, .int .i64 0, .int .i64 0, .int .u32 0] 82) = W2 := ⟨_, rfl⟩
  have HX2 := Aside0.mk (show Below w.heap.size w W2 by rw [← hW2]; exact below_alloc hx1 _)
  have kb : W2.heap[w.heap.size]? = some (.cells #[.int .i64 a0_0, .int .i64 a0_1, .slice A0_2 l0_2.length c0_2] 80) := by rw [← hW2]; exact blk_alloc kb1 _
  have kr : W2.heap[W1.heap.size]? = some (.cells #[.string ⟨#[]⟩, .int .i64 0, .int .i64 0, .int .u32 0] 82) := by rw [← hW2]; exact blk_new _ _
  have GW1 := Aside0.mk (show w.heap.size ≤ W1.heap.size from hx1.size)
  have HR := Aside0.mk hr0_2
  have hIx : ∀ (W : World) (g : Nat), Below W2.heap.size W2 W → W.heap[g]? = some (.cells #[.string a1] 9) → Calls Try.prog 122 #[.slice A0_2 l0_2.length c0_2, .func (.func 162) #[] #[.pointer (some ⟨g, 0, none⟩)]] W fun e w' => e = .returned (.int .i64 (match manifest_Find.at l0_2 a1 with | some i => (i : Int) | none => -1)) ∧ Below W.heap.size W w' := fun W g hW hg =>
    api_File_131.index a1 g A0_2 c0_2 l0_2 W (Kd.C_below HR.out (below_step HX2.out hW)) hc0_2 hl hg
  clear hr0_2 kb1 hx1
  obtain ⟨o, ho⟩ : ∃ o, manifest_Find.at l0_2 a1 = o := ⟨_, rfl⟩
  rw [ho] at h hIx
  have HO := Aside0.mk ho
  clear ho
  go_enter Try.func62, Try.ntmps62
  go_upto_region 1 with (fail)
  cases o with
  | none =>
    obtain ⟨rfl, rfl, rfl, rfl, rfl⟩ : r1 = ⟨#[]⟩ ∧ r2 = 0 ∧ r3 = 0 ∧ r4 = 0 ∧ r5 = false := by simpa using h.symm
    clear h
    refine start_ (ds := []) (n := 6) (S := fun W => Below W2.heap.size W2 W) #[false, false, false, false, false, false] (by kernel_rfl) rfl (by rfl) (below_drew (Below.refl _ _)) (fun hHeld => ?_)
    refine pure_ (i := 0) (N := (some 7)) (v := ?_) (a' := ?_) #[true, false, false, false, false, false] rfl rfl (by kernel_rfl) (fun _ _ _ h => h) (Or.inl ⟨by rfl, ?_⟩) ?_ ?_
    rotate_left
    · intro w'
      go_simp
      first | with_reducible rfl | rfl
    rotate_left
    · simp only [Act.put, List.setIfInBounds_toArray, List.set_cons_zero, List.set_cons_succ, i64_w, i32_w]
      rfl
    refine take_ (i := 1) (N := (some 8)) (v := ?_) (a' := ?_) #[true, true, false, false, false, false] rfl rfl (by kernel_rfl) (fun _ _ _ h => h) (Or.inl ⟨by rfl, ?_⟩) hHeld ?_ ?_
    rotate_left
    · intro w' hw'
      have k0 := blk_below kb hw'
      have e2 : w'.cell? ⟨w.heap.size, 2, none⟩ = some (.slice A0_2 l0_2.length c0_2) := (blk_cell k0 2).trans rfl
      go_simp
      first | done | with_reducible rfl | rfl
    rotate_left
    · simp only [Act.put, List.setIfInBounds_toArray, List.set_cons_zero, List.set_cons_succ, i64_w, i32_w]
      rfl
    refine pure_ (i := 2) (N := (some 9)) (v := ?_) (a' := ?_) #[true, true, true, false, false, false] rfl rfl (by kernel_rfl) (fun _ _ _ h => h) (Or.inl ⟨by rfl, ?_⟩) ?_ ?_
    rotate_left
    · intro w'
      go_simp
      first | with_reducible rfl | rfl
    rotate_left
    · simp only [Act.put, List.setIfInBounds_toArray, List.set_cons_zero, List.set_cons_succ, i64_w, i32_w]
      rfl
    refine one_ (i := 3) (N := (some 10)) #[true, true, true, true, false, false] rfl rfl (by kernel_rfl) (by decide) (fun K hK => ?_)
    refine goes_ Try.func123 (by kernel_rfl) rfl #[.string a1] (by rfl) rfl rfl (by (try simp only [List.map_toArray, List.map_cons, List.map_nil]); first | done | rfl | (simp only [List.length_drop, List.length_take]; rfl)) ?_
    obtain ⟨wK, hwK⟩ : ∃ wK, wK = W2.drew := ⟨_, rfl⟩
    rw [← hwK] at hHeld ⊢
    clear hwK
    with_reducible refine (manifest_named.calls a1 _).mono ?_
    rintro e wN ⟨rfl, hN⟩
    have kN : wN.heap[wK.heap.size]? = some (.cells #[.string a1] 9) := by rw [hN]; exact blk_new wK _
    have hbN : Below wK.heap.size wK wN := by rw [hN]; exact below_alloc (Below.refl _ _) _
    clear hN
    refine ⟨_, rfl, ?_⟩
    refine hK.out _ _ (below_step hHeld hbN) (fun hHeld => ?_)
    clear hK K
    refine norm_ (a' := ?_) ?_ ?_
    rotate_left
    · show Act.put _ (some 10) _ = _
      simp only [Act.put, List.setIfInBounds_toArray, List.set_cons_zero, List.set_cons_succ, i64_w, i32_w]
      rfl
    refine one_ (i := 4) (N := (some 11)) #[true, true, true, true, true, false] rfl rfl (by kernel_rfl) (by decide) (fun K hK => ?_)
    refine goes_ Try.func122 (by kernel_rfl) rfl #[.slice A0_2 l0_2.length c0_2, .func (.func 162) #[] #[.pointer (some ⟨wK.heap.size, 0, none⟩)]] (by rfl) rfl rfl (by (try simp only [List.map_toArray, List.map_cons, List.map_nil]); first | done | rfl | (simp only [List.length_drop, List.length_take]; rfl)) ?_
    with_reducible refine (hIx _ _ hHeld kN).mono ?_
    rintro e wC ⟨rfl, hbC⟩
    refine ⟨_, rfl, ?_⟩
    refine hK.out _ _ (below_step hHeld hbC) (fun hHeld => ?_)
    clear hK K
    refine norm_ (a' := ?_) ?_ ?_
    rotate_left
    · show Act.put _ (some 11) _ = _
      simp only [Act.put, List.setIfInBounds_toArray, List.set_cons_zero, List.set_cons_succ, i64_w, i32_w]
      rfl
    refine pure_ (i := 5) (N := (some 6)) (v := ?_) (a' := ?_) #[true, true, true, true, true, true] rfl rfl (by kernel_rfl) (fun _ _ _ h => h) (Or.inl ⟨by rfl, ?_⟩) ?_ ?_
    rotate_left
    · intro w'
      go_simp
      first | with_reducible rfl | rfl
    rotate_left
    · simp only [Act.put, List.setIfInBounds_toArray, List.set_cons_zero, List.set_cons_succ, i64_w, i32_w]
      rfl
    refine done_ (by kernel_rfl) ?_
    have HXC := Aside0.mk (below_step HX2.out hHeld)
    have kc := blk_below kr hHeld
    clear hHeld
    have f0 := blk_frozen kc 0
    have f1 := blk_frozen kc 1
    have f2 := blk_frozen kc 2
    have f3 := blk_frozen kc 3
    have e0 : wC.cell? ⟨W1.heap.size, 0, none⟩ = some (.string ⟨#[]⟩) := (blk_cell kc 0).trans rfl
    have e1 : wC.cell? ⟨W1.heap.size, 1, none⟩ = some (.int .i64 0) := (blk_cell kc 1).trans rfl
    have e2 : wC.cell? ⟨W1.heap.size, 2, none⟩ = some (.int .i64 0) := (blk_cell kc 2).trans rfl
    have e3 : wC.cell? ⟨W1.heap.size, 3, none⟩ = some (.int .u32 0) := (blk_cell kc 3).trans rfl
    go_wp2
    refine bodyPost_ret (results_ct rfl _ _ W1.heap.size 82 #[.string ⟨#[]⟩, .int .i64 0, .int .i64 0, .int .u32 0] (0, 0) _ rfl (by refine blk_put (cs := #[.string ⟨#[]⟩, .int .i64 0, .int .i64 0, .int .u32 0]) ?_ 3 _ rfl; refine blk_put (cs := #[.string ⟨#[]⟩, .int .i64 0, .int .i64 0, .int .u32 0]) ?_ 2 _ rfl; refine blk_put (cs := #[.string ⟨#[]⟩, .int .i64 0, .int .i64 0, .int .u32 0]) ?_ 1 _ rfl; refine blk_put (cs := #[.string ⟨#[]⟩, .int .i64 0, .int .i64 0, .int .u32 0]) ?_ 0 _ rfl; exact kc) hu82 rfl (by kernel_rfl)) rfl ?_
    exact ⟨rfl, by repeat (first | exact HXC.out | refine below_set ?_ GW1.out)⟩
  | some i =>
    obtain ⟨hi, _⟩ := List.findIdx?_eq_some_iff_getElem.mp HO.out
    obtain ⟨x, hx⟩ : ∃ x, l0_2.getD i z82 = x := ⟨_, rfl⟩
    rw [show (match some i with | none => some ((⟨#[]⟩ : ByteArray), (0 : Int), (0 : Int), (0 : Int), false) | some i => some ((l0_2.getD i z82).f0, (l0_2.getD i z82).f1, (l0_2.getD i z82).f2, (l0_2.getD i z82).f3, true)) = some (x.f0, x.f1, x.f2, x.f3, true) by rw [← hx]] at h
    obtain ⟨rfl, rfl, rfl, rfl, rfl⟩ : r1 = x.f0 ∧ r2 = x.f1 ∧ r3 = x.f2 ∧ r4 = x.f3 ∧ r5 = true := by simpa using h.symm
    clear h
    refine start_ (ds := []) (n := 6) (S := fun W => Below W2.heap.size W2 W) #[false, false, false, false, false, false] (by kernel_rfl) rfl (by rfl) (below_drew (Below.refl _ _)) (fun hHeld => ?_)
    refine pure_ (i := 0) (N := (some 7)) (v := ?_) (a' := ?_) #[true, false, false, false, false, false] rfl rfl (by kernel_rfl) (fun _ _ _ h => h) (Or.inl ⟨by rfl, ?_⟩) ?_ ?_
    rotate_left
    · intro w'
      go_simp
      first | with_reducible rfl | rfl
    rotate_left
    · simp only [Act.put, List.setIfInBounds_toArray, List.set_cons_zero, List.set_cons_succ, i64_w, i32_w]
      rfl
    refine take_ (i := 1) (N := (some 8)) (v := ?_) (a' := ?_) #[true, true, false, false, false, false] rfl rfl (by kernel_rfl) (fun _ _ _ h => h) (Or.inl ⟨by rfl, ?_⟩) hHeld ?_ ?_
    rotate_left
    · intro w' hw'
      have k0 := blk_below kb hw'
      have e2 : w'.cell? ⟨w.heap.size, 2, none⟩ = some (.slice A0_2 l0_2.length c0_2) := (blk_cell k0 2).trans rfl
      go_simp
      first | done | with_reducible rfl | rfl
    rotate_left
    · simp only [Act.put, List.setIfInBounds_toArray, List.set_cons_zero, List.set_cons_succ, i64_w, i32_w]
      rfl
    refine pure_ (i := 2) (N := (some 9)) (v := ?_) (a' := ?_) #[true, true, true, false, false, false] rfl rfl (by kernel_rfl) (fun _ _ _ h => h) (Or.inl ⟨by rfl, ?_⟩) ?_ ?_
    rotate_left
    · intro w'
      go_simp
      first | with_reducible rfl | rfl
    rotate_left
    · simp only [Act.put, List.setIfInBounds_toArray, List.set_cons_zero, List.set_cons_succ, i64_w, i32_w]
      rfl
    refine one_ (i := 3) (N := (some 10)) #[true, true, true, true, false, false] rfl rfl (by kernel_rfl) (by decide) (fun K hK => ?_)
    refine goes_ Try.func123 (by kernel_rfl) rfl #[.string a1] (by rfl) rfl rfl (by (try simp only [List.map_toArray, List.map_cons, List.map_nil]); first | done | rfl | (simp only [List.length_drop, List.length_take]; rfl)) ?_
    obtain ⟨wK, hwK⟩ : ∃ wK, wK = W2.drew := ⟨_, rfl⟩
    rw [← hwK] at hHeld ⊢
    clear hwK
    with_reducible refine (manifest_named.calls a1 _).mono ?_
    rintro e wN ⟨rfl, hN⟩
    have kN : wN.heap[wK.heap.size]? = some (.cells #[.string a1] 9) := by rw [hN]; exact blk_new wK _
    have hbN : Below wK.heap.size wK wN := by rw [hN]; exact below_alloc (Below.refl _ _) _
    clear hN
    refine ⟨_, rfl, ?_⟩
    refine hK.out _ _ (below_step hHeld hbN) (fun hHeld => ?_)
    clear hK K
    refine norm_ (a' := ?_) ?_ ?_
    rotate_left
    · show Act.put _ (some 10) _ = _
      simp only [Act.put, List.setIfInBounds_toArray, List.set_cons_zero, List.set_cons_succ, i64_w, i32_w]
      rfl
    refine one_ (i := 4) (N := (some 11)) #[true, true, true, true, true, false] rfl rfl (by kernel_rfl) (by decide) (fun K hK => ?_)
    refine goes_ Try.func122 (by kernel_rfl) rfl #[.slice A0_2 l0_2.length c0_2, .func (.func 162) #[] #[.pointer (some ⟨wK.heap.size, 0, none⟩)]] (by rfl) rfl rfl (by (try simp only [List.map_toArray, List.map_cons, List.map_nil]); first | done | rfl | (simp only [List.length_drop, List.length_take]; rfl)) ?_
    with_reducible refine (hIx _ _ hHeld kN).mono ?_
    rintro e wC ⟨rfl, hbC⟩
    refine ⟨_, rfl, ?_⟩
    refine hK.out _ _ (below_step hHeld hbC) (fun hHeld => ?_)
    clear hK K
    refine norm_ (a' := ?_) ?_ ?_
    rotate_left
    · show Act.put _ (some 11) _ = _
      simp only [Act.put, List.setIfInBounds_toArray, List.set_cons_zero, List.set_cons_succ, i64_w, i32_w]
      rfl
    refine pure_ (i := 5) (N := (some 6)) (v := ?_) (a' := ?_) #[true, true, true, true, true, true] rfl rfl (by kernel_rfl) (fun _ _ _ h => h) (Or.inl ⟨by rfl, ?_⟩) ?_ ?_
    rotate_left
    · intro w'
      go_simp
      first | with_reducible rfl | rfl
    rotate_left
    · simp only [Act.put, List.setIfInBounds_toArray, List.set_cons_zero, List.set_cons_succ, i64_w, i32_w]
      rfl
    refine done_ (by kernel_rfl) ?_
    have HXC := Aside0.mk (below_step HX2.out hHeld)
    have kc := blk_below kr hHeld
    have kbc := blk_below kb hHeld
    clear hHeld
    have m2 : wC.cell? ⟨w.heap.size, 2, none⟩ = some (.slice A0_2 l0_2.length c0_2) := (blk_cell kbc 2).trans rfl
    obtain ⟨ad, ead, h0, h1, h2, h3⟩ := at_T82 (Kd.C_below HR.out HXC.out) (i : Int) (by omega) (by omega)
    cases ead
    rw [api_File_122.rd l0_2 i hi, ← manifest_Right.at l0_2 i hi, hx] at h0 h1 h2 h3
    rw [Int.toNat_natCast] at h0 h1 h2 h3
    have d2 : ((0 : Int) ≤ (i : Int)) = True := eq_true (by omega)
    have d3 : ((i : Int) < (l0_2.length : Int)) = True := eq_true (by omega)
    have d4 : decide ((i : Int) < 0) = false := decide_eq_false (by omega)
    clear hx
    have f0 := blk_frozen kc 0
    have f1 := blk_frozen kc 1
    have f2 := blk_frozen kc 2
    have f3 := blk_frozen kc 3
    have e0 : wC.cell? ⟨W1.heap.size, 0, none⟩ = some (.string ⟨#[]⟩) := (blk_cell kc 0).trans rfl
    have e1 : wC.cell? ⟨W1.heap.size, 1, none⟩ = some (.int .i64 0) := (blk_cell kc 1).trans rfl
    have e2 : wC.cell? ⟨W1.heap.size, 2, none⟩ = some (.int .i64 0) := (blk_cell kc 2).trans rfl
    have e3 : wC.cell? ⟨W1.heap.size, 3, none⟩ = some (.int .u32 0) := (blk_cell kc 3).trans rfl
    go_wp2
    refine bodyPost_ret (results_ct rfl _ _ W1.heap.size 82 #[.string x.f0, .int .i64 x.f1, .int .i64 x.f2, .int .u32 x.f3] (0, 0) _ rfl (by refine blk_put (cs := #[.string x.f0, .int .i64 x.f1, .int .i64 x.f2, .int .u32 0]) ?_ 3 _ rfl; refine blk_put (cs := #[.string x.f0, .int .i64 x.f1, .int .i64 0, .int .u32 0]) ?_ 2 _ rfl; refine blk_put (cs := #[.string x.f0, .int .i64 0, .int .i64 0, .int .u32 0]) ?_ 1 _ rfl; refine blk_put (cs := #[.string ⟨#[]⟩, .int .i64 0, .int .i64 0, .int .u32 0]) ?_ 0 _ rfl; exact kc) hu82 rfl (by kernel_rfl)) rfl ?_
    exact ⟨rfl, by repeat (first | exact HXC.out | refine below_set ?_ GW1.out)⟩


/-! ### api_File_124: function 124 -/
theorem api_File_124.info : (Try.prog.info? 82).map (fun i => (i.zero, i.size, i.bytes)) = some (some (.agg #[.string ⟨#[]⟩, .int .i64 0, .int .i64 0, .int .u32 0]), 4, 40) := by kernel_rfl
def api_File_124.f (l0 : List S82) : Option (List S82) := if l0.length ≤ 1000000000 then some l0 else none
set_option maxHeartbeats 4000000 in
set_option maxRecDepth 100000 in
theorem api_File_124.calls (A0 : Option Addr) (c0 : Nat) (l0 : List S82) (r : List S82) (w : World) (hr0 : Kd.C k82 w A0 l0.length l0) (hc0 : l0.length ≤ c0) (h : api_File_124.f l0 = some r) :
    Calls Try.prog 124 #[.slice A0 l0.length c0] w fun e w' => ∃ v0_ : Value, e = .returned v0_ ∧ Kd.R k82 82 w' w.heap.size (fun _ => True) v0_ r ∧ Below w.heap.size w w' := by
  unfold api_File_124.f at h
  by_cases c : l0.length ≤ 1000000000
  case neg => rw [if_neg c] at h; cases h
  rw [if_pos c] at h
  obtain rfl := Option.some.inj h
  clear h
  have HR := Aside0.mk hr0
  have HM := Aside0.mk c
  cases A0 with
  | none =>
    have hz : l0.length = 0 := by
      rcases Nat.eq_zero_or_pos l0.length with z | z
      · exact z
      · obtain ⟨ad, e, _⟩ := hr0.2.2 z; cases e
    obtain rfl : l0 = [] := List.eq_nil_of_length_eq_zero hz
    have hnil := fun W : World => Lib.run_eql_slice_nil (P := Try.prog) W 78 _ none 0 c0 0 0 Try.underlying78
    clear hr0
    go_enter Try.func124, Try.ntmps124
    go_wp2
    go_ret
    exact ⟨_, rfl, Kd.R_nil _ _ _ _ _, Below.refl _ _⟩
  | some ad =>
    clear hr0
    have hnil := fun W : World => Lib.run_eql_slice_nil (P := Try.prog) W 78 _ (some ad) l0.length c0 0 0 Try.underlying78
    go_enter Try.func124, Try.ntmps124
    have HO := Aside0.mk (show Kd.R k82 82 (w.alloc (.cells #[] 82)) w.heap.size (fun _ => True) (.slice (some ⟨w.heap.size, 0, none⟩) 0 0) [] from ⟨fun _ _ => trivial, [], World.ownsRow_lit (base := w.heap.size) (e := 82) (size := 4) w #[] 0 (Nat.le_refl _) (by decide) rfl, ⟨rfl, fun j p hj => by simp at hj⟩⟩)
    have HB := Aside0.mk (below_alloc (Below.refl w.heap.size w) (.cells #[] 82))
    go_wp2_with (at_builtin; refine Kd.R_append_rows k82 (w0 := w) w.heap.size rfl (.tmp 5) (.tmp 6) 78 82 _ 40 rfl Try.underlying78 api_File_124.info rfl (by decide) (by omega) _ [] l0 (some ad) l0.length c0 (fun _ => True) (fun _ => False) rfl rfl HO.out (Kd.C_alloc HR.out _) ?aK (fun _ hk => hk.elim) (fun _ _ => trivial) HB.out HB.out.size ?aL ?_; (case aK => exact fun x cs h_ => by rw [k82_open h_]; exact k82_mkM _ _ _ x); (case aL => have := HM.out; simp; omega); intro v1 w3 ho hb hg hat; rw [List.nil_append] at ho; have HO2 := Aside0.mk ho; have HB2 := Aside0.mk hb; clear HO HB ho hb hg hat)
    go_ret
    exact ⟨_, rfl, HO2.out, HB2.out⟩


end Go.Proofs.Ytmacpgkcokpgjaa.PManifestTells
