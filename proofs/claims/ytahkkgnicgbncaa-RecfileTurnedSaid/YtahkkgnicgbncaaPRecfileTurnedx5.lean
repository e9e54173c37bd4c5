/- The Go functions that the law reaches, as plain Lean functions, and proofs that the calls of the machine come to them, or the row of the law over them, for every input that the row speaks of; written by a program of this session (wip/tool/mkprint.py) out of the translation and of hand-made templates. -/
import Derived.Test.YtahkkgnicgbncaaPRecfileTurnedx0
import Derived.Test.YtahkkgnicgbncaaPRecfileTurnedx1
import Derived.Test.YtahkkgnicgbncaaPRecfileTurnedx2
import Derived.Test.YtahkkgnicgbncaaPRecfileTurnedx4
namespace Go.Proofs.Ytahkkgnicgbncaa.PRecfileTurned
open Go.RowKit Go.Proofs.YtahkkgnicgbncaaW.PrintWords Go.Proofs.YtahkkgnicgbncaaW.PrintLast Go.Proofs.YtahkkgnicgbncaaW.PrintMore
attribute [local go_sem] max2_int min2_int max_two min_two max_three min_three max_four min_four   -- for this text's walks alone
set_option linter.unusedVariables false
set_option linter.unusedSimpArgs false

/-! ### recfile_Length: function 20 -/
def recfile_Length.f (a0 : Int) (a1 : Int) : Option (Int) := if a0 < 1 then (some 0) else (if a0 > 64 then (some 0) else (if a1 < 0 then (some 0) else (if a1 > 1099511627776 then (some 0) else (some (wrap64 ((wrap64 ((wrap64 (11 + (wrap64 (a1 * a0)))) + (wrap64 ((wrap64 (Int.tdiv (wrap64 ((wrap64 (a1 + 4)) - 1)) 4)) * 5)))) + 17))))))
set_option maxHeartbeats 8000000 in
set_option maxRecDepth 100000 in
theorem recfile_Length.calls (a0 : Int) (a1 : Int) (r : Int) (w : World) (h : recfile_Length.f a0 a1 = some r) :
    Calls Try.prog 20 #[.int .i64 a0, .int .i64 a1] w fun e w' => e = .returned (.int .i64 r) ∧ Drawn0 w w' := by
  have H : (if a0 < 1 then (some 0) else (if a0 > 64 then (some 0) else (if a1 < 0 then (some 0) else (if a1 > 1099511627776 then (some 0) else (some (wrap64 ((wrap64 ((wrap64 (11 + (wrap64 (a1 * a0)))) + (wrap64 ((wrap64 (Int.tdiv (wrap64 ((wrap64 (a1 + 4)) - 1)) 4)) * 5)))) + 17))))))) = some r := h
  clear h
  by_cases c3 : a0 < 1
  · rw [if_pos c3] at H
    have c3b0 : decide (a0 < 1) = true := decide_eq_true c3
    clear c3
    obtain rfl := Option.some.inj H
    go_enter Try.func20, Try.ntmps20
    go_wp2
    go_ret
    exact ⟨by first | rfl | (simp; done) | (simp [*]; done), by repeat (first | exact Drawn0.refl _ | apply Drawn0.step)⟩
  · rw [if_neg c3] at H
    have c3b0 : decide (a0 < 1) = false := decide_eq_false c3
    clear c3
    by_cases c4 : a0 > 64
    · rw [if_pos c4] at H
      have c4b0 : decide (64 < a0) = true := decide_eq_true c4
      clear c4
      obtain rfl := Option.some.inj H
      go_enter Try.func20, Try.ntmps20
      go_wp2
      go_ret
      exact ⟨by first | rfl | (simp; done) | (simp [*]; done), by repeat (first | exact Drawn0.refl _ | apply Drawn0.step)⟩
    · rw [if_neg c4] at H
      have c4b0 : decide (64 < a0) = false := decide_eq_false c4
      clear c4
      by_cases c5 : a1 < 0
      · rw [if_pos c5] at H
        have c5b0 : decide (a1 < 0) = true := decide_eq_true c5
        clear c5
        obtain rfl := Option.some.inj H
        go_enter Try.func20, Try.ntmps20
        go_wp2
        go_ret
        exact ⟨by first | rfl | (simp; done) | (simp [*]; done), by repeat (first | exact Drawn0.refl _ | apply Drawn0.step)⟩
      · rw [if_neg c5] at H
        have c5b0 : decide (a1 < 0) = false := decide_eq_false c5
        clear c5
        by_cases c6 : a1 > 1099511627776
        · rw [if_pos c6] at H
          have c6b0 : decide (1099511627776 < a1) = true := decide_eq_true c6
          clear c6
          obtain rfl := Option.some.inj H
          go_enter Try.func20, Try.ntmps20
          go_wp2
          go_ret
          exact ⟨by first | rfl | (simp; done) | (simp [*]; done), by repeat (first | exact Drawn0.refl _ | apply Drawn0.step)⟩
        · rw [if_neg c6] at H
          have c6b0 : decide (1099511627776 < a1) = false := decide_eq_false c6
          clear c6
          obtain rfl := Option.some.inj H
          go_enter Try.func20, Try.ntmps20
          go_wp2
          go_ret
          exact ⟨by first | rfl | (simp; done) | (simp [*]; done), by repeat (first | exact Drawn0.refl _ | apply Drawn0.step)⟩

/-! ### chainmanlaw06_awake: function 10 -/
def chainmanlaw06_awake.f (k : Nat)  : Option (Bool) := (recfile_Lay.f 1 ([] : List ByteArray)).bind fun bt135 => ((recfile_Parse.f k 1 bt135.1).bind fun bt137 => ((recfile_Parse.f k 2 bt135.1).bind fun bt144 => (if bt135.2 = true then (if (bt135.1.size : Int) = 28 then ((recfile_Length.f 1 0).bind fun t151 => (if t151 = 28 then (if bt137.2.2.2 = 0 then (if (bt137.1.length : Int) = 0 then (if bt137.2.1 = 0 then (if bt144.2.2.2 = 6 then (some true) else (none)) else (none)) else (none)) else (none)) else (none))) else (none)) else (none))))
theorem chainmanlaw06_awake.mono : ∀ k, LeO (chainmanlaw06_awake.f k ) (chainmanlaw06_awake.f (k + 1) ) := by
  intro  k
  unfold chainmanlaw06_awake.f
  repeat' first
      | (with_reducible exact recfile_Parse.mono _ _ _)
      | (with_reducible exact LeO.refl _)
      | (with_reducible exact LeO.none _)
      | (with_reducible refine LeO.ite ?_ ?_)
      | (with_reducible refine LeO.bind ?_ (fun _ => ?_))
      | exact recfile_Parse.mono _ _ _
      | exact LeO.none _
      | refine LeO.ite ?_ ?_
      | refine LeO.bind ?_ (fun _ => ?_)
set_option maxHeartbeats 8000000 in
set_option maxRecDepth 100000 in
theorem chainmanlaw06_awake.calls (k : Nat)  (r : Bool) (w : World) (h : chainmanlaw06_awake.f k  = some r) :
    Calls Try.prog 10 #[] w fun e w' => e = .returned (.bool r) ∧ Below w.heap.size w w' := by
  have hu29 := Try.underlying29
  have HB := Aside0.mk (Below.refl w.heap.size w)
  have H : ((recfile_Lay.f 1 ([] : List ByteArray)).bind fun bt135 => ((recfile_Parse.f k 1 bt135.1).bind fun bt137 => ((recfile_Parse.f k 2 bt135.1).bind fun bt144 => (if bt135.2 = true then (if (bt135.1.size : Int) = 28 then ((recfile_Length.f 1 0).bind fun t151 => (if t151 = 28 then (if bt137.2.2.2 = 0 then (if (bt137.1.length : Int) = 0 then (if bt137.2.1 = 0 then (if bt144.2.2.2 = 6 then (some true) else (none)) else (none)) else (none)) else (none)) else (none))) else (none)) else (none))))) = some r := h
  clear h
  replace H := Option.bind_eq_some_iff.mp H
  obtain ⟨⟨t135, t136⟩, A10, H⟩ := H
  replace H : ((recfile_Parse.f k 1 t135).bind fun bt137 => ((recfile_Parse.f k 2 t135).bind fun bt144 => (if t136 = true then (if (t135.size : Int) = 28 then ((recfile_Length.f 1 0).bind fun t151 => (if t151 = 28 then (if bt137.2.2.2 = 0 then (if (bt137.1.length : Int) = 0 then (if bt137.2.1 = 0 then (if bt144.2.2.2 = 6 then (some true) else (none)) else (none)) else (none)) else (none)) else (none))) else (none)) else (none)))) = some r := H
  have A1 := Aside0.mk A10
  clear A10
  replace H := Option.bind_eq_some_iff.mp H
  obtain ⟨⟨t137, t140, t141, t142⟩, A20, H⟩ := H
  replace H : ((recfile_Parse.f k 2 t135).bind fun bt144 => (if t136 = true then (if (t135.size : Int) = 28 then ((recfile_Length.f 1 0).bind fun t151 => (if t151 = 28 then (if t142 = 0 then (if (t137.length : Int) = 0 then (if t140 = 0 then (if bt144.2.2.2 = 6 then (some true) else (none)) else (none)) else (none)) else (none)) else (none))) else (none)) else (none))) = some r := H
  have A2 := Aside0.mk A20
  clear A20
  replace H := Option.bind_eq_some_iff.mp H
  obtain ⟨⟨t144, t147, t148, t149⟩, A30, H⟩ := H
  replace H : (if t136 = true then (if (t135.size : Int) = 28 then ((recfile_Length.f 1 0).bind fun t151 => (if t151 = 28 then (if t142 = 0 then (if (t137.length : Int) = 0 then (if t140 = 0 then (if t149 = 6 then (some true) else (none)) else (none)) else (none)) else (none)) else (none))) else (none)) else (none)) = some r := H
  have A3 := Aside0.mk A30
  clear A30
  by_cases c4 : t136 = true
  · subst c4
    have H1 : (if (t135.size : Int) = 28 then ((recfile_Length.f 1 0).bind fun t151 => (if t151 = 28 then (if t142 = 0 then (if (t137.length : Int) = 0 then (if t140 = 0 then (if t149 = 6 then (some true) else (none)) else (none)) else (none)) else (none)) else (none))) else (none)) = some r := by rw [if_pos rfl] at H; exact H
    clear H
    have H := H1
    clear H1
    by_cases c5 : (t135.size : Int) = 28
    · rw [if_pos c5] at H
      have c5b0 : ((t135.size : Int) == 28) = true := beq_iff_eq.mpr c5
      have c5b1 : ((t135.size : Int) != 28) = false := bne_eq_false_iff_eq.mpr c5
      clear c5
      replace H := Option.bind_eq_some_iff.mp H
      obtain ⟨t151, A60, H⟩ := H
      replace H : (if t151 = 28 then (if t142 = 0 then (if (t137.length : Int) = 0 then (if t140 = 0 then (if t149 = 6 then (some true) else (none)) else (none)) else (none)) else (none)) else (none)) = some r := H
      have A6 := Aside0.mk A60
      clear A60
      by_cases c7 : t151 = 28
      · rw [if_pos c7] at H
        have c7b0 : (t151 == 28) = true := beq_iff_eq.mpr c7
        have c7b1 : (t151 != 28) = false := bne_eq_false_iff_eq.mpr c7
        clear c7
        by_cases c8 : t142 = 0
        · rw [if_pos c8] at H
          have c8b0 : (t142 == 0) = true := beq_iff_eq.mpr c8
          have c8b1 : (t142 != 0) = false := bne_eq_false_iff_eq.mpr c8
          clear c8
          by_cases c9 : (t137.length : Int) = 0
          · rw [if_pos c9] at H
            have c9b0 : ((t137.length : Int) == 0) = true := beq_iff_eq.mpr c9
            have c9b1 : ((t137.length : Int) != 0) = false := bne_eq_false_iff_eq.mpr c9
            clear c9
            by_cases c10 : t140 = 0
            · rw [if_pos c10] at H
              have c10b0 : (t140 == 0) = true := beq_iff_eq.mpr c10
              have c10b1 : (t140 != 0) = false := bne_eq_false_iff_eq.mpr c10
              clear c10
              by_cases c11 : t149 = 6
              · rw [if_pos c11] at H
                have c11b0 : (t149 == 6) = true := beq_iff_eq.mpr c11
                have c11b1 : (t149 != 6) = false := bne_eq_false_iff_eq.mpr c11
                clear c11
                obtain rfl := Option.some.inj H
                go_enter Try.func10, Try.ntmps10
                go_wp2_with (first | ((with_reducible refine gate_callee (f := 11) rfl ?_); refine goesL_ (some 10) rfl rfl Try.func11 (by kernel_rfl) rfl #[.int .i64 1, .slice none 0 0] rfl (by (try simp only [List.map_toArray, List.map_cons, List.map_nil]); first | done | rfl | (simp only [List.length_drop, List.length_take]; rfl)) ?_; (refine (recfile_Lay.calls 1 _ _ ([] : List ByteArray) t135 true _ ?side1 ?side2 A1.out).mono ?_); (case side1 => exact Kd.C_nil _ _); (case side2 => exact Nat.le_refl _); rintro e w12 ⟨rfl, hb⟩; refine ⟨_, rfl, ?_⟩; have n0_ := Aside0.mk (below_step (by repeat (first | (with_reducible first | exact HB.out | apply below_alloc | apply pw_below_drewN | apply below_drew1) | exact HB.out)) hb); clear HB; have HB := n0_; clear n0_; (try clear hb); (try clear hb2); (try clear hk); (try clear hi)) | ((with_reducible refine gate_callee (f := 13) rfl ?_); refine goesL_ (some 15) rfl rfl Try.func13 (by kernel_rfl) rfl #[.int .i64 1, .string t135] rfl (by (try simp only [List.map_toArray, List.map_cons, List.map_nil]); first | done | rfl | (simp only [List.length_drop, List.length_take]; rfl)) ?_; (with_reducible refine (recfile_Parse.calls k 1 t135 t137 t140 t141 t142 _ A2.out).mono ?_); rintro e w13 ⟨v138, rfl, ho0, hb⟩; refine ⟨_, rfl, ?_⟩; have n0_ := Aside0.mk (Kd.R_lower ho0 (below_size (by repeat (first | (with_reducible first | exact HB.out | apply below_alloc | apply pw_below_drewN | apply below_drew1) | exact HB.out)))); have n1_ := Aside0.mk (below_step (by repeat (first | (with_reducible first | exact HB.out | apply below_alloc | apply pw_below_drewN | apply below_drew1) | exact HB.out)) hb); clear HB; have HO139 := n0_; have HB := n1_; clear n0_ n1_; (try clear hb); (try clear hb2); (try clear hk); (try clear hi); (try clear ho0)) | ((with_reducible refine gate_dst (N := 4) rfl ?_); (try (refine gate_guard (by rfl) ?_; dsimp only)); refine box_event ?hg (N := 4) ?hd (cs := #[.int .i64 0, .int .u32 0]) (t := 29) ?hr ?_; (case hd => rfl); (case hg => rfl); (case hr => first | (go_simp; done) | (go_simp; rfl)); intro gb143 hg w14 hbox hb; have n0_ := Aside0.mk (Kd.R_below (by (with_reducible repeat (first | apply Kd.R_alloc | apply Kd.R_drewN | apply Kd.R_drew)); exact HO139.out) hb); have n1_ := Aside0.mk (below_step (by repeat (first | (with_reducible first | exact HB.out | apply below_alloc | apply pw_below_drewN | apply below_drew1) | exact HB.out)) hb); have n2_ := Aside0.mk (hbox); have n3_ := Aside0.mk ((by rw [hg]; exact (below_size (by repeat (first | (with_reducible first | exact HB.out | apply below_alloc | apply pw_below_drewN | apply below_drew1) | exact HB.out))) : w.heap.size ≤ gb143)); have n4_ := Aside0.mk ((by rw [hg]; exact (below_size (by repeat (first | (with_reducible first | exact HB.out | apply below_alloc | apply pw_below_drewN | apply below_drew1) | exact HB.out))) : w.heap.size ≤ gb143)); clear HO139; clear HB; have HO139 := n0_; have HB := n1_; have BK143 := n2_; have GW143 := n3_; have GE143 := n4_; clear n0_ n1_ n2_ n3_ n4_; clear hb hbox hg; have hcz15_0 : w14.cell? ⟨gb143, 0, none⟩ = some (.int .i64 0) := (blk_cell BK143.out 0).trans rfl; have hcz15_1 : w14.cell? ⟨gb143, 1, none⟩ = some (.int .u32 0) := (blk_cell BK143.out 1).trans rfl; have hfz15_0 := blk_frozen BK143.out 0; have hfz15_1 := blk_frozen BK143.out 1) | ((with_reducible refine gate_callee (f := 13) rfl ?_); refine goesL_ (some 21) rfl rfl Try.func13 (by kernel_rfl) rfl #[.int .i64 2, .string t135] rfl (by (try simp only [List.map_toArray, List.map_cons, List.map_nil]); first | done | rfl | (simp only [List.length_drop, List.length_take]; rfl)) ?_; (with_reducible refine (recfile_Parse.calls k 2 t135 t144 t147 t148 t149 _ A3.out).mono ?_); rintro e w16 ⟨v145, rfl, ho0, hb⟩; refine ⟨_, rfl, ?_⟩; have n0_ := Aside0.mk (Kd.R_elder' (by (with_reducible repeat (first | apply Kd.R_alloc | apply Kd.R_drewN | apply Kd.R_drew)); exact (Kd.R_mono (Kd.R_far (p := ⟨gb143, 1, none⟩) (Kd.R_far (p := ⟨gb143, 0, none⟩) (Kd.R_types HO139.out BK143.out (by decide)) (fun _ hk => hk.2) (.int .i64 t140)) (fun _ hk => hk.2) (.int .u32 t141)) (fun _ h_ => h_.1))) (Kd.R_base ho0) hb); have n1_ := Aside0.mk (Kd.R_lower (Kd.R_new' ho0 (Kd.R_lt (by (with_reducible repeat (first | apply Kd.R_alloc | apply Kd.R_drewN | apply Kd.R_drew)); exact (Kd.R_mono (Kd.R_far (p := ⟨gb143, 1, none⟩) (Kd.R_far (p := ⟨gb143, 0, none⟩) (Kd.R_types HO139.out BK143.out (by decide)) (fun _ hk => hk.2) (.int .i64 t140)) (fun _ hk => hk.2) (.int .u32 t141)) (fun _ h_ => h_.1))))) (below_size (by repeat (first | (with_reducible first | exact HB.out | apply below_alloc | apply pw_below_drewN | apply below_drew1 | refine below_set ?_ GE143.out) | exact HB.out)))); have n2_ := Aside0.mk (blk_below (g := gb143) (o := .cells #[.int .i64 t140, .int .u32 t141] 29 (0, 0)) (by (with_reducible repeat (first | refine blk_drewN ?_ _ | refine blk_drew ?_ | refine blk_alloc ?_ _)); refine blk_put (cs := #[.int .i64 t140, .int .u32 0]) ?_ 1 _ rfl; (with_reducible repeat (first | refine blk_drewN ?_ _ | refine blk_drew ?_ | refine blk_alloc ?_ _)); refine blk_put (cs := #[.int .i64 0, .int .u32 0]) ?_ 0 _ rfl; (with_reducible repeat (first | refine blk_drewN ?_ _ | refine blk_drew ?_ | refine blk_alloc ?_ _)); exact BK143.out) hb); have n3_ := Aside0.mk (below_step (by repeat (first | (with_reducible first | exact HB.out | apply below_alloc | apply pw_below_drewN | apply below_drew1 | refine below_set ?_ GE143.out) | exact HB.out)) hb); clear HO139; clear BK143; clear HB; have HO139 := n0_; have HO146 := n1_; have BK143 := n2_; have HB := n3_; clear n0_ n1_ n2_ n3_; (try clear hb); (try clear hb2); (try clear hk); (try clear hi); (try clear ho0)) | ((with_reducible refine gate_dst (N := 7) rfl ?_); (try (refine gate_guard (by rfl) ?_; dsimp only)); refine box_event ?hg (N := 7) ?hd (cs := #[.int .i64 0, .int .u32 0]) (t := 29) ?hr ?_; (case hd => rfl); (case hg => rfl); (case hr => first | (go_simp; done) | (go_simp; rfl)); intro gb150 hg w17 hbox hb; have n0_ := Aside0.mk (Kd.R_below (by (with_reducible repeat (first | apply Kd.R_alloc | apply Kd.R_drewN | apply Kd.R_drew)); exact HO139.out) hb); have n1_ := Aside0.mk (Kd.R_below (by (with_reducible repeat (first | apply Kd.R_alloc | apply Kd.R_drewN | apply Kd.R_drew)); exact HO146.out) hb); have n2_ := Aside0.mk (blk_below (g := gb143) (o := .cells #[.int .i64 t140, .int .u32 t141] 29 (0, 0)) (by (with_reducible repeat (first | refine blk_drewN ?_ _ | refine blk_drew ?_ | refine blk_alloc ?_ _)); exact BK143.out) hb); have n3_ := Aside0.mk (below_step (by repeat (first | (with_reducible first | exact HB.out | apply below_alloc | apply pw_below_drewN | apply below_drew1 | refine below_set ?_ GE143.out) | exact HB.out)) hb); have n4_ := Aside0.mk (hbox); have n5_ := Aside0.mk ((by rw [hg]; exact (below_size (by repeat (first | (with_reducible first | exact HB.out | apply below_alloc | apply pw_below_drewN | apply below_drew1 | refine below_set ?_ GE143.out) | exact HB.out))) : w.heap.size ≤ gb150)); have n6_ := Aside0.mk ((by rw [hg]; exact (below_size (by repeat (first | (with_reducible first | exact HB.out | apply below_alloc | apply pw_below_drewN | apply below_drew1 | refine below_set ?_ GE143.out) | exact HB.out))) : w.heap.size ≤ gb150)); have n7_ := Aside0.mk ((by rw [hg]; exact Nat.ne_of_lt (blk_lt (g := gb143) (o := .cells #[.int .i64 t140, .int .u32 t141] 29 (0, 0)) (by (with_reducible repeat (first | refine blk_drewN ?_ _ | refine blk_drew ?_ | refine blk_alloc ?_ _)); exact BK143.out)) : gb143 ≠ gb150)); have n8_ := Aside0.mk ((by rw [hg]; exact Nat.ne_of_gt (blk_lt (g := gb143) (o := .cells #[.int .i64 t140, .int .u32 t141] 29 (0, 0)) (by (with_reducible repeat (first | refine blk_drewN ?_ _ | refine blk_drew ?_ | refine blk_alloc ?_ _)); exact BK143.out)) : gb150 ≠ gb143)); clear HO139; clear HO146; clear BK143; clear HB; have HO139 := n0_; have HO146 := n1_; have BK143 := n2_; have HB := n3_; have BK150 := n4_; have GW150 := n5_; have GE150 := n6_; have NB143_150 := n7_; have NB150_143 := n8_; clear n0_ n1_ n2_ n3_ n4_ n5_ n6_ n7_ n8_; clear hb hbox hg; have hnb18 := NB150_143.out; have hnc18 := NB143_150.out; have hcz19_0 : w17.cell? ⟨gb150, 0, none⟩ = some (.int .i64 0) := (blk_cell BK150.out 0).trans rfl; have hcz19_1 : w17.cell? ⟨gb150, 1, none⟩ = some (.int .u32 0) := (blk_cell BK150.out 1).trans rfl; have hfz19_0 := blk_frozen BK150.out 0; have hfz19_1 := blk_frozen BK150.out 1) | (go_at_call 20; (with_reducible refine (recfile_Length.calls 1 0 t151 _ A6.out).mono ?_); rintro e w' ⟨rfl, ⟨nd, rfl⟩⟩; obtain ⟨Ao20, co20, eo20⟩ := Kd.R_slice HO139.out; subst eo20; have hcz21_0 : w17.cell? ⟨gb143, 0, none⟩ = some (.int .i64 t140) := (blk_cell BK143.out 0).trans rfl; have hcz21_1 : w17.cell? ⟨gb143, 1, none⟩ = some (.int .u32 t141) := (blk_cell BK143.out 1).trans rfl; have hfz21_0 := blk_frozen BK143.out 0; have hfz21_1 := blk_frozen BK143.out 1) | (go_at_call 20; refine calls_of_args (args' := #[.int .i64 1, .int .i64 0]) (by first | rfl) ?_; (with_reducible refine (recfile_Length.calls 1 0 t151 _ A6.out).mono ?_); rintro e w' ⟨rfl, ⟨nd, rfl⟩⟩))
                go_ret
                exact ⟨by first | rfl | (simp [errW_none, errW_some] <;> rfl) | (simp [*, errW_none, errW_some] <;> rfl), by repeat (first | (with_reducible first | exact HB.out | apply below_alloc | apply pw_below_drewN | apply below_drew1 | refine below_set ?_ GE143.out | refine below_set ?_ GE150.out) | exact HB.out)⟩
              · rw [if_neg c11] at H
                exact absurd H (by simp)
            · rw [if_neg c10] at H
              exact absurd H (by simp)
          · rw [if_neg c9] at H
            exact absurd H (by simp)
        · rw [if_neg c8] at H
          exact absurd H (by simp)
      · rw [if_neg c7] at H
        exact absurd H (by simp)
    · rw [if_neg c5] at H
      exact absurd H (by simp)
  · replace c4 := Bool.eq_false_iff.mpr c4
    subst c4
    have H1 : (none) = some r := by rw [if_neg (show ¬ (false = true) by decide)] at H; exact H
    clear H
    have H := H1
    clear H1
    exact absurd H (by simp)

/-! ### chainmanref03_Turned: function 24 -/
def chainmanref03_Turned.go (len : Nat) (first bits : Int) (l : List Int) : Nat → List Int × Bool
  | 0 => (l, false)
  | k + 1 => if first + (k : Int) < 8 * (len : Int) ∧ Go.bits .and .u32 (bits / 2 ^ k) 1 = 1 then ((chainmanref03_Turned.go len first bits l k).1.set ((first + (k : Int)) / 8).toNat (Go.bits .xor .u8 ((chainmanref03_Turned.go len first bits l k).1.getD ((first + (k : Int)) / 8).toNat 0) (2 ^ ((first + (k : Int)) % 8).toNat % 256)), true) else chainmanref03_Turned.go len first bits l k
def chainmanref03_Turned.f (a0 : ByteArray) (a1 a2 : Int) : Option (ByteArray × Bool) := if 0 ≤ a1 ∧ a1 ≤ 1000000 ∧ a0.size ≤ 1000000 then some (strOfNums (chainmanref03_Turned.go a0.size a1 a2 (bytesOf a0) 32).1, (chainmanref03_Turned.go a0.size a1 a2 (bytesOf a0) 32).2) else none
theorem chainmanref03_Turned.blk_set {w : World} {g : Nat} {t : TypeId} {cs : Array Value} {fr : Nat × Nat} (h : w.heap[g]? = some (.cells cs t fr)) (i : Nat) (u : Value) : (w.setCell ⟨g, i, none⟩ u).heap[g]? = some (.cells (cs.setIfInBounds i u) t fr) := by
  have hlt := blk_lt h
  have h' : w.heap[g] = .cells cs t fr := by simpa [Array.getElem?_eq_getElem hlt] using h
  show (w.heap.modify g _)[g]? = _
  rw [Array.getElem?_eq_getElem (by simpa using hlt), Array.getElem_modify_self, h']
  rfl
theorem chainmanref03_Turned.blk_free {w : World} {g : Nat} {t : TypeId} {cs : Array Value} {n : Nat} (h : w.heap[g]? = some (.cells cs t (n, n + 1))) (i : Nat) (hi : i < n) : w.frozen? ⟨g, i, none⟩ = false := by
  simp [World.frozen?, h]
  omega
/-- what the cells of the row of bytes hold -/
def chainmanref03_Turned.Row (w : World) (B : Nat) (len : Nat) (l : List Int) : Prop := ∃ (cs : Array Value) (n : Nat), w.heap[B]? = some (.cells cs 5 (n, n + 1)) ∧ len ≤ n ∧ cs.size = n ∧ l.length = len ∧ ∀ i, i < len → cs[i]? = some (.int .u8 (l.getD i 0))
theorem chainmanref03_Turned.Row.cell {w : World} {B len : Nat} {l : List Int} (h : chainmanref03_Turned.Row w B len l) (i : Nat) (hi : i < len) : w.cell? ⟨B, i, none⟩ = some (.int .u8 (l.getD i 0)) := by
  obtain ⟨cs, n, hb, _, _, _, hc⟩ := h
  rw [cell_of_row w B i cs _ _ hb]; exact hc i hi
theorem chainmanref03_Turned.Row.free {w : World} {B len : Nat} {l : List Int} (h : chainmanref03_Turned.Row w B len l) (i : Nat) (hi : i < len) : w.frozen? ⟨B, i, none⟩ = false := by
  obtain ⟨cs, n, hb, hn, _⟩ := h
  exact chainmanref03_Turned.blk_free hb i (by omega)
theorem chainmanref03_Turned.Row.set {w : World} {B len : Nat} {l : List Int} (h : chainmanref03_Turned.Row w B len l) (i : Nat) (hi : i < len) (v : Int) : chainmanref03_Turned.Row (w.setCell ⟨B, i, none⟩ (.int .u8 v)) B len (l.set i v) := by
  obtain ⟨cs, n, hb, hn, hs, hl, hc⟩ := h
  refine ⟨_, n, chainmanref03_Turned.blk_set hb i _, hn, by simpa using hs, by simpa using hl, fun j hj => ?_⟩
  by_cases e : i = j
  · subst e
    rw [Array.getElem?_setIfInBounds_self_of_lt (by omega)]
    simp [List.getD_eq_getElem?_getD, hl, hi]
  · rw [Array.getElem?_setIfInBounds_ne e, hc j hj]
    simp [List.getD_eq_getElem?_getD, e]
theorem chainmanref03_Turned.Row.alike {w w' : World} {B len : Nat} {l : List Int} (h : chainmanref03_Turned.Row w B len l) (e : w'.heap = w.heap) : chainmanref03_Turned.Row w' B len l := by
  obtain ⟨cs, n, hb, r⟩ := h
  exact ⟨cs, n, by rw [e]; exact hb, r⟩
set_option maxHeartbeats 2000000 in
set_option maxRecDepth 100000 in
theorem chainmanref03_Turned.calls (a0 : ByteArray) (a1 a2 : Int) (r1 : ByteArray) (r2 : Bool) (w : World) (h : chainmanref03_Turned.f a0 a1 a2 = some (r1, r2)) :
    Calls Try.prog 24 #[.string a0, .int .i64 a1, .int .u32 a2] w fun e w' => e = .returned (.tuple #[.string r1, .bool r2]) ∧ Below w.heap.size w w' := by
  unfold chainmanref03_Turned.f at h
  by_cases hs : 0 ≤ a1 ∧ a1 ≤ 1000000 ∧ a0.size ≤ 1000000
  · rw [if_pos hs] at h
    obtain ⟨f, rfl⟩ : ∃ f : Nat, a1 = (f : Int) := ⟨a1.toNat, by omega⟩
    have hf : f ≤ 1000000 := by omega
    have hz := hs.2.2
    clear hs
    have H := Aside0.mk (Option.some.inj h)
    clear h
    have hconv := fun w : World => Lib.run_convert_string_bytes (P := Try.prog) w 9 76 5 a0 Try.underlying9 Try.underlying76 Try.underlying5
    go_enter Try.func24, Try.ntmps24
    go_wp2
    obtain ⟨W1, hW1⟩ : ∃ W1, W1 = Lib.bytesWorld w 5 a0 := ⟨_, rfl⟩
    have hR : chainmanref03_Turned.Row W1 w.heap.size a0.size (bytesOf a0) := by
      refine ⟨_, _, by rw [hW1]; exact Lib.bytesWorld_at_new w 5 a0, ?_, rfl, by simp [bytesOf], fun i hi => ?_⟩
      · simp [Lib.bytesCells]
      · simp [Lib.bytesCells, bytesOf, Array.getElem?_append, List.getD, hi]
    have hwW : Below w.heap.size w W1 := by rw [hW1]; exact ⟨rfl, rfl, rfl, by rw [Lib.bytesWorld_size]; omega, fun j hj => Lib.bytesWorld_at_old w 5 a0 j hj⟩
    rw [← hW1]
    have HW := Aside0.mk hW1
    have HR := Aside0.mk hR
    have HC := Aside0.mk hconv
    have HN := Aside0.mk hwW
    clear hW1 hR hconv hwW
    go_loopw [9, 10] (fun b i wr => ∃ k : Nat, k ≤ 32 ∧ i = .int .i64 k ∧ b = .bool (chainmanref03_Turned.go a0.size f a2 (bytesOf a0) k).2 ∧ Aside0 (chainmanref03_Turned.Row wr w.heap.size a0.size (chainmanref03_Turned.go a0.size f a2 (bytesOf a0) k).1) ∧ Aside0 (Below w.heap.size w wr)) (fun _ i _ => 32 - (intOf i).toNat)
    case atStart => exact ⟨0, by omega, rfl, rfl, HR, HN⟩
    case round =>
      obtain ⟨k, hk, rfl, rfl, hb, hw⟩ := hrel
      by_cases hlt : k < 32
      · by_cases hin : f + k < 8 * a0.size
        · have hdec : decide (((f : Int) + (k : Int)) < 8 * (a0.size : Int)) = true := decide_eq_true (by omega)
          by_cases hbit : Go.bits .and .u32 (a2 / 2 ^ k) 1 = 1
          · have hb1 : (Go.bits .and .u32 (a2 / 2 ^ k) 1 == 1) = true := beq_iff_eq.2 hbit
            obtain ⟨j, hj⟩ : ∃ j : Nat, j = (f + k) / 8 := ⟨_, rfl⟩
            obtain ⟨m, hm⟩ : ∃ m : Nat, m = (f + k) % 8 := ⟨_, rfl⟩
            have hjl : j < a0.size := by omega
            have hm8 : m < 8 := by omega
            have e1 : IntKind.i64.wrap ((f : Int) + (k : Int)) = (f : Int) + (k : Int) := by rw [IntKind.wrap_i64]; omega
            have e2 : Int.tdiv ((f : Int) + (k : Int)) 8 = (j : Int) := by rw [Int.tdiv_eq_ediv_of_nonneg (by omega)]; omega
            have e3 : Int.tmod ((f : Int) + (k : Int)) 8 = (m : Int) := by rw [Int.tmod_eq_emod_of_nonneg (by omega)]; omega
            have e4 : ((f : Int) + (k : Int)) / 8 = (j : Int) := by omega
            have e5 : ((f : Int) + (k : Int)) % 8 = (m : Int) := by omega
            obtain ⟨x, hx⟩ : ∃ x, x = (chainmanref03_Turned.go a0.size f a2 (bytesOf a0) k).1.getD j 0 := ⟨_, rfl⟩
            have hc : wr.cell? ⟨w.heap.size, j, none⟩ = some (.int .u8 x) := by rw [hx]; exact hb.out.cell j hjl
            have hfz : wr.frozen? ⟨w.heap.size, j, none⟩ = false := hb.out.free j hjl
            have HX := Aside0.mk hx
            have HJ := Aside0.mk hj
            have HM := Aside0.mk hm
            have HB := Aside0.mk hbit
            clear hx hj hm hbit
            go_wp2_with fail
            go_region
            go_wp2
            go_roundw
            case rel =>
              have hgo : chainmanref03_Turned.go a0.size f a2 (bytesOf a0) (k + 1) = ((chainmanref03_Turned.go a0.size f a2 (bytesOf a0) k).1.set j (Go.bits .xor .u8 x (2 ^ m % 256)), true) := by
                rw [chainmanref03_Turned.go, if_pos ⟨by omega, HB.out⟩, show ((f : Int) + (k : Int)) / 8 = (j : Int) from e4, show ((f : Int) + (k : Int)) % 8 = (m : Int) from e5, Int.toNat_natCast, Int.toNat_natCast, ← HX.out]
              exact ⟨k + 1, by omega, by go_num, by rw [hgo], ⟨by rw [hgo]; exact (hb.out.set j hjl _).alike rfl⟩, ⟨below_drew (hw.out.setCell (p := ⟨w.heap.size, j, none⟩) (Nat.le_refl _) _)⟩⟩
            case measure => simp [intOf]; omega
          · have hb1 : (Go.bits .and .u32 (a2 / 2 ^ k) 1 == 1) = false := beq_eq_false_iff_ne.2 hbit
            have HB := Aside0.mk hbit
            clear hbit
            go_wp2
            go_roundw
            case rel =>
              have hgo : chainmanref03_Turned.go a0.size f a2 (bytesOf a0) (k + 1) = chainmanref03_Turned.go a0.size f a2 (bytesOf a0) k := by rw [chainmanref03_Turned.go, if_neg (fun h => HB.out h.2)]
              exact ⟨k + 1, by omega, by go_num, by rw [hgo], ⟨by rw [hgo]; exact hb.out⟩, hw⟩
            case measure => simp [intOf]; omega
        · have hdec : decide (((f : Int) + (k : Int)) < 8 * (a0.size : Int)) = false := decide_eq_false (by omega)
          have hend : ∀ d, chainmanref03_Turned.go a0.size f a2 (bytesOf a0) (k + d) = chainmanref03_Turned.go a0.size f a2 (bytesOf a0) k := by
            intro d
            induction d with
            | zero => rfl
            | succ d ih => rw [← Nat.add_assoc, chainmanref03_Turned.go, if_neg (fun h => by have := h.1; omega)]; exact ih
          have HE : Aside0 (chainmanref03_Turned.go a0.size f a2 (bytesOf a0) k = chainmanref03_Turned.go a0.size f a2 (bytesOf a0) 32) := ⟨by rw [← hend (32 - k), show k + (32 - k) = 32 from by omega]⟩
          clear hend
          rw [HE.out] at hb ⊢
          have hl := hb.out
          obtain ⟨cs, n, _, _, _, hlen, _⟩ := hl
          have hcv := run_convert_bytes_arg (P := Try.prog) wr 76 5 Try.underlying76 Try.underlying5 w.heap.size 0 a0.size (grownCap w a0.size 0 5) (chainmanref03_Turned.go a0.size f a2 (bytesOf a0) 32).1 hlen (fun i hi => by rw [Nat.zero_add]; exact hb.out.cell i hi) 9 Try.underlying9
          simp only [Prod.mk.injEq] at H
          generalize strOfNums (chainmanref03_Turned.go a0.size f a2 (bytesOf a0) 32).1 = z at hcv H
          go_wp2
          go_ret2
          exact ⟨by rw [← H.out.1, ← H.out.2]; rfl, hw.out⟩
      · obtain rfl : k = 32 := by omega
        have hl := hb.out
        obtain ⟨cs, n, _, _, _, hlen, _⟩ := hl
        have hcv := run_convert_bytes_arg (P := Try.prog) wr 76 5 Try.underlying76 Try.underlying5 w.heap.size 0 a0.size (grownCap w a0.size 0 5) (chainmanref03_Turned.go a0.size f a2 (bytesOf a0) 32).1 hlen (fun i hi => by rw [Nat.zero_add]; exact hb.out.cell i hi) 9 Try.underlying9
        simp only [Prod.mk.injEq] at H
        generalize strOfNums (chainmanref03_Turned.go a0.size f a2 (bytesOf a0) 32).1 = z at hcv H
        go_wp2
        go_ret2
        exact ⟨by rw [← H.out.1, ← H.out.2]; rfl, hw.out⟩
  · rw [if_neg hs] at h
    cases h


/-! ### chainmanlaw06_RecfileTurned: function 5 -/
def chainmanlaw06_RecfileTurned.j0 : Nat → Int → List ByteArray → Int → Int → Bool → Option (Bool)
  | 0, _, _, _, _, _ => none
  | k + 1, x0, x1, x2, x3, x27 => if x27 = true then ((chainmanlaw06_awake.f k).bind fun t153 => (some t153)) else ((recfile_Lay.f x0 x1).bind fun bt154 => (if bt154.2 = true then (if (bt154.1.size : Int) < (wrap64 ((wrap64 ((wrap64 (12 + (wrap64 ((x1.length : Int) * x0)))) + 4)) + 17)) then (none) else (if (wrap64 ((wrap64 (8 * (wrap64 ((wrap64 (12 + (wrap64 ((x1.length : Int) * x0)))) + 4)))) - 96)) = 0 then (none) else (if (wrap64 ((wrap64 (8 * (wrap64 ((wrap64 (12 + (wrap64 ((x1.length : Int) * x0)))) + 4)))) - (wrap64 (96 + (Int.tmod (wrap64 (x2)) (wrap64 ((wrap64 (8 * (wrap64 ((wrap64 (12 + (wrap64 ((x1.length : Int) * x0)))) + 4)))) - 96))))))) ≥ 32 then ((chainmanref03_Turned.f bt154.1 (wrap64 (96 + (Int.tmod (wrap64 (x2)) (wrap64 ((wrap64 (8 * (wrap64 ((wrap64 (12 + (wrap64 ((x1.length : Int) * x0)))) + 4)))) - 96))))) (Go.bits .and .u32 x3 4294967295)).bind fun bt157 => ((recfile_Parse.f k x0 bt157.1).bind fun bt159 => (if ((bt159.2.2.2 == 6) == bt157.2) = true then ((chainmanlaw06_awake.f k).bind fun t166 => (some t166)) else (none)))) else ((chainmanref03_Turned.f bt154.1 (wrap64 (96 + (Int.tmod (wrap64 (x2)) (wrap64 ((wrap64 (8 * (wrap64 ((wrap64 (12 + (wrap64 ((x1.length : Int) * x0)))) + 4)))) - 96))))) (Go.bits .and .u32 x3 (((2 ^ (mn 31 (mx 0 (wrap64 ((wrap64 (8 * (wrap64 ((wrap64 (12 + (wrap64 ((x1.length : Int) * x0)))) + 4)))) - (wrap64 (96 + (Int.tmod (wrap64 (x2)) (wrap64 ((wrap64 (8 * (wrap64 ((wrap64 (12 + (wrap64 ((x1.length : Int) * x0)))) + 4)))) - 96))))))))).toNat) - 1) % 4294967296))).bind fun bt167 => ((recfile_Parse.f k x0 bt167.1).bind fun bt169 => (if ((bt169.2.2.2 == 6) == bt167.2) = true then ((chainmanlaw06_awake.f k).bind fun t176 => (some t176)) else (none))))))) else ((chainmanlaw06_awake.f k).bind fun t156 => (some t156))))
def chainmanlaw06_RecfileTurned.f (k : Nat) (a0 : Int) (l1 : List ByteArray) (a2 : Int) (a3 : Int) : Option (Bool) := (chainmanref06_Few.f k l1 4).bind fun t152 => (if t152 = true then (chainmanlaw06_RecfileTurned.j0 k a0 l1 a2 a3 ((l1.length : Int) == 0)) else (chainmanlaw06_RecfileTurned.j0 k a0 l1 a2 a3 true))
theorem chainmanlaw06_RecfileTurned.mono_l : ∀ k, (∀ y0 y1 y2 y3 y4, LeO (chainmanlaw06_RecfileTurned.j0 k y0 y1 y2 y3 y4) (chainmanlaw06_RecfileTurned.j0 (k + 1) y0 y1 y2 y3 y4))
  | 0 => fun _ _ _ _ _ r h => by simp [chainmanlaw06_RecfileTurned.j0] at h
  | k + 1 => by
    have ih0 := chainmanlaw06_RecfileTurned.mono_l k
    · intro y0 y1 y2 y3 y4
      unfold chainmanlaw06_RecfileTurned.j0
      repeat' first
      | (with_reducible exact ih0 _ _ _ _ _)
      | (with_reducible exact chainmanlaw06_awake.mono _)
      | (with_reducible exact chainmanref06_Few.mono _ _ _)
      | (with_reducible exact recfile_Parse.mono _ _ _)
      | (with_reducible exact LeO.refl _)
      | (with_reducible exact LeO.none _)
      | (with_reducible refine LeO.ite ?_ ?_)
      | (with_reducible refine LeO.bind ?_ (fun _ => ?_))
      | exact ih0 _ _ _ _ _
      | exact chainmanlaw06_awake.mono _
      | exact chainmanref06_Few.mono _ _ _
      | exact recfile_Parse.mono _ _ _
      | exact LeO.none _
      | refine LeO.ite ?_ ?_
      | refine LeO.bind ?_ (fun _ => ?_)
theorem chainmanlaw06_RecfileTurned.mono : ∀ a0 a1 a2 a3 k, LeO (chainmanlaw06_RecfileTurned.f k a0 a1 a2 a3) (chainmanlaw06_RecfileTurned.f (k + 1) a0 a1 a2 a3) := by
  intro a0 a1 a2 a3 k
  have ih0 := chainmanlaw06_RecfileTurned.mono_l k
  unfold chainmanlaw06_RecfileTurned.f
  repeat' first
      | (with_reducible exact ih0 _ _ _ _ _)
      | (with_reducible exact chainmanlaw06_awake.mono _)
      | (with_reducible exact chainmanref06_Few.mono _ _ _)
      | (with_reducible exact recfile_Parse.mono _ _ _)
      | (with_reducible exact LeO.refl _)
      | (with_reducible exact LeO.none _)
      | (with_reducible refine LeO.ite ?_ ?_)
      | (with_reducible refine LeO.bind ?_ (fun _ => ?_))
      | exact ih0 _ _ _ _ _
      | exact chainmanlaw06_awake.mono _
      | exact chainmanref06_Few.mono _ _ _
      | exact recfile_Parse.mono _ _ _
      | exact LeO.none _
      | refine LeO.ite ?_ ?_
      | refine LeO.bind ?_ (fun _ => ?_)
set_option maxHeartbeats 8000000 in
set_option maxRecDepth 100000 in
theorem chainmanlaw06_RecfileTurned.calls (k : Nat) (a0 : Int) (A1 : Option Addr) (c1 : Nat) (l1 : List ByteArray) (a2 : Int) (a3 : Int) (r : Bool) (w : World) (hr1 : Kd.C Kd.string w A1 l1.length l1) (hc1 : l1.length ≤ c1) (h : chainmanlaw06_RecfileTurned.f k a0 l1 a2 a3 = some r) :
    Calls Try.prog 5 #[.int .i64 a0, .slice A1 l1.length c1, .int .u16 a2, .int .u32 a3] w fun e w' => e = .returned (.bool r) ∧ Below w.heap.size w w' := by
  have hu29 := Try.underlying29
  have HR1 := Aside0.mk hr1
  have HC1 := Aside0.mk hc1
  clear hr1 hc1
  have HB := Aside0.mk (Below.refl w.heap.size w)
  have H : ((chainmanref06_Few.f k l1 4).bind fun t152 => (if t152 = true then (chainmanlaw06_RecfileTurned.j0 k a0 l1 a2 a3 ((l1.length : Int) == 0)) else (chainmanlaw06_RecfileTurned.j0 k a0 l1 a2 a3 true))) = some r := h
  clear h
  have HC5 := Aside0.mk H
  clear H
  go_enter Try.func5, Try.ntmps5
  go_upto_region 1 with (fail)
  go_cut [27] (fun v27 wc => ∃ (kq : Nat) (x27_4 : Bool), v27 = .bool x27_4 ∧ Aside0 (chainmanlaw06_RecfileTurned.j0 kq a0 l1 a2 a3 x27_4 = some r) ∧ Aside0 (kq ≤ k) ∧ Aside0 (Below w.heap.size w wc))
  case first =>
    have H := HC5.out
    clear HC5
    replace H := Option.bind_eq_some_iff.mp H
    obtain ⟨t152, A60, H⟩ := H
    replace H : (if t152 = true then (chainmanlaw06_RecfileTurned.j0 k a0 l1 a2 a3 ((l1.length : Int) == 0)) else (chainmanlaw06_RecfileTurned.j0 k a0 l1 a2 a3 true)) = some r := H
    have A6 := Aside0.mk A60
    clear A60
    by_cases c7 : t152 = true
    · subst c7
      have H1 : (chainmanlaw06_RecfileTurned.j0 k a0 l1 a2 a3 ((l1.length : Int) == 0)) = some r := by rw [if_pos rfl] at H; exact H
      clear H
      have H := H1
      clear H1
      have H' := Aside0.mk H
      clear H
      go_wp2_with (first | ((with_reducible refine gate_callee (f := 9) rfl ?_); refine goesL_ (some 21) rfl rfl Try.func9 (by kernel_rfl) rfl #[.slice A1 l1.length c1, .int .i64 4] rfl (by (try simp only [List.map_toArray, List.map_cons, List.map_nil]); first | done | rfl | (simp only [List.length_drop, List.length_take]; rfl)) ?_; (with_reducible refine (chainmanref06_Few.calls k _ _ l1 4 true _ ?side1 ?side2 A6.out).mono ?_); (case side1 => repeat (first | exact (Kd.C_below HR1.out HB.out) | (with_reducible refine Kd.C_alloc ?_ _) | (with_reducible refine Kd.C_drewN ?_ _) | (with_reducible refine Kd.C_drew ?_))); (case side2 => exact HC1.out); rintro e w' ⟨rfl, ⟨nd, rfl⟩⟩; refine ⟨_, rfl, ?_⟩) | (go_at_call 9; refine calls_of_args (args' := #[.slice A1 l1.length c1, .int .i64 4]) (by first | rfl) ?_; (with_reducible refine (chainmanref06_Few.calls k _ _ l1 4 true _ ?side1 ?side2 A6.out).mono ?_); (case side1 => repeat (first | exact (Kd.C_below HR1.out HB.out) | (with_reducible refine Kd.C_alloc ?_ _) | (with_reducible refine Kd.C_drewN ?_ _) | (with_reducible refine Kd.C_drew ?_))); (case side2 => exact HC1.out); rintro e w' ⟨rfl, ⟨nd, rfl⟩⟩))
      go_meet
      case rel => exact ⟨_, (((l1.length : Int) == 0)), (by first | rfl | (simp; done) | (simp [*]; done)), H', ⟨by first | omega | exact Nat.le_refl _⟩, ⟨by repeat (first | (with_reducible first | exact HB.out | apply below_alloc | apply pw_below_drewN | apply below_drew1) | exact HB.out)⟩⟩
    · replace c7 := Bool.eq_false_iff.mpr c7
      subst c7
      have H1 : (chainmanlaw06_RecfileTurned.j0 k a0 l1 a2 a3 true) = some r := by rw [if_neg (show ¬ (false = true) by decide)] at H; exact H
      clear H
      have H := H1
      clear H1
      have H' := Aside0.mk H
      clear H
      go_wp2_with (first | ((with_reducible refine gate_callee (f := 9) rfl ?_); refine goesL_ (some 21) rfl rfl Try.func9 (by kernel_rfl) rfl #[.slice A1 l1.length c1, .int .i64 4] rfl (by (try simp only [List.map_toArray, List.map_cons, List.map_nil]); first | done | rfl | (simp only [List.length_drop, List.length_take]; rfl)) ?_; (with_reducible refine (chainmanref06_Few.calls k _ _ l1 4 false _ ?side1 ?side2 A6.out).mono ?_); (case side1 => repeat (first | exact (Kd.C_below HR1.out HB.out) | (with_reducible refine Kd.C_alloc ?_ _) | (with_reducible refine Kd.C_drewN ?_ _) | (with_reducible refine Kd.C_drew ?_))); (case side2 => exact HC1.out); rintro e w' ⟨rfl, ⟨nd, rfl⟩⟩; refine ⟨_, rfl, ?_⟩) | (go_at_call 9; refine calls_of_args (args' := #[.slice A1 l1.length c1, .int .i64 4]) (by first | rfl) ?_; (with_reducible refine (chainmanref06_Few.calls k _ _ l1 4 false _ ?side1 ?side2 A6.out).mono ?_); (case side1 => repeat (first | exact (Kd.C_below HR1.out HB.out) | (with_reducible refine Kd.C_alloc ?_ _) | (with_reducible refine Kd.C_drewN ?_ _) | (with_reducible refine Kd.C_drew ?_))); (case side2 => exact HC1.out); rintro e w' ⟨rfl, ⟨nd, rfl⟩⟩))
      go_meet
      case rel => exact ⟨_, (true), (by first | rfl | (simp; done) | (simp [*]; done)), H', ⟨by first | omega | exact Nat.le_refl _⟩, ⟨by repeat (first | (with_reducible first | exact HB.out | apply below_alloc | apply pw_below_drewN | apply below_drew1) | exact HB.out)⟩⟩
  case rest =>
    clear HC5
    try clear c1
    try clear p2
    try clear c5
    try clear c7
    obtain ⟨kq, x27_4, rfl, HA, HJ4, HB⟩ := hcut
    cases kq with
    | zero => exact absurd HA.out (by simp [chainmanlaw06_RecfileTurned.j0])
    | succ kj4 =>
      have H := HA.out
      clear HA
      simp only [chainmanlaw06_RecfileTurned.j0] at H
      by_cases c8 : x27_4 = true
      · subst c8
        have H1 : ((chainmanlaw06_awake.f kj4).bind fun t153 => (some t153)) = some r := by rw [if_pos rfl] at H; exact H
        clear H
        have H := H1
        clear H1
        replace H := Option.bind_eq_some_iff.mp H
        obtain ⟨t153, A90, H⟩ := H
        replace H : (some t153) = some r := H
        have A9 := Aside0.mk A90
        clear A90
        obtain rfl := Option.some.inj H
        go_wp2_with (first | ((with_reducible refine gate_callee (f := 10) rfl ?_); refine goesL_ (some 28) rfl rfl Try.func10 (by kernel_rfl) rfl #[] rfl (by (try simp only [List.map_toArray, List.map_cons, List.map_nil]); first | done | rfl | (simp only [List.length_drop, List.length_take]; rfl)) ?_; (with_reducible refine (chainmanlaw06_awake.calls kj4  t153 _ A9.out).mono ?_); rintro e w10 ⟨rfl, hb⟩; refine ⟨_, rfl, ?_⟩; have n0_ := Aside0.mk (below_step (by repeat (first | (with_reducible first | exact HB.out | apply below_alloc | apply pw_below_drewN | apply below_drew1) | exact HB.out)) hb); clear HB; have HB := n0_; clear n0_; (try clear hb); (try clear hb2); (try clear hk); (try clear hi)))
        go_ret
        exact ⟨by first | rfl | (simp [errW_none, errW_some] <;> rfl) | (simp [*, errW_none, errW_some] <;> rfl), by repeat (first | (with_reducible first | exact HB.out | apply below_alloc | apply pw_below_drewN | apply below_drew1) | exact HB.out)⟩
      · replace c8 := Bool.eq_false_iff.mpr c8
        subst c8
        have H1 : ((recfile_Lay.f a0 l1).bind fun bt154 => (if bt154.2 = true then (if (bt154.1.size : Int) < (wrap64 ((wrap64 ((wrap64 (12 + (wrap64 ((l1.length : Int) * a0)))) + 4)) + 17)) then (none) else (if (wrap64 ((wrap64 (8 * (wrap64 ((wrap64 (12 + (wrap64 ((l1.length : Int) * a0)))) + 4)))) - 96)) = 0 then (none) else (if (wrap64 ((wrap64 (8 * (wrap64 ((wrap64 (12 + (wrap64 ((l1.length : Int) * a0)))) + 4)))) - (wrap64 (96 + (Int.tmod (wrap64 (a2)) (wrap64 ((wrap64 (8 * (wrap64 ((wrap64 (12 + (wrap64 ((l1.length : Int) * a0)))) + 4)))) - 96))))))) ≥ 32 then ((chainmanref03_Turned.f bt154.1 (wrap64 (96 + (Int.tmod (wrap64 (a2)) (wrap64 ((wrap64 (8 * (wrap64 ((wrap64 (12 + (wrap64 ((l1.length : Int) * a0)))) + 4)))) - 96))))) (Go.bits .and .u32 a3 4294967295)).bind fun bt157 => ((recfile_Parse.f kj4 a0 bt157.1).bind fun bt159 => (if ((bt159.2.2.2 == 6) == bt157.2) = true then ((chainmanlaw06_awake.f kj4).bind fun t166 => (some t166)) else (none)))) else ((chainmanref03_Turned.f bt154.1 (wrap64 (96 + (Int.tmod (wrap64 (a2)) (wrap64 ((wrap64 (8 * (wrap64 ((wrap64 (12 + (wrap64 ((l1.length : Int) * a0)))) + 4)))) - 96))))) (Go.bits .and .u32 a3 (((2 ^ (mn 31 (mx 0 (wrap64 ((wrap64 (8 * (wrap64 ((wrap64 (12 + (wrap64 ((l1.length : Int) * a0)))) + 4)))) - (wrap64 (96 + (Int.tmod (wrap64 (a2)) (wrap64 ((wrap64 (8 * (wrap64 ((wrap64 (12 + (wrap64 ((l1.length : Int) * a0)))) + 4)))) - 96))))))))).toNat) - 1) % 4294967296))).bind fun bt167 => ((recfile_Parse.f kj4 a0 bt167.1).bind fun bt169 => (if ((bt169.2.2.2 == 6) == bt167.2) = true then ((chainmanlaw06_awake.f kj4).bind fun t176 => (some t176)) else (none))))))) else ((chainmanlaw06_awake.f kj4).bind fun t156 => (some t156)))) = some r := by rw [if_neg (show ¬ (false = true) by decide)] at H; exact H
        clear H
        have H := H1
        clear H1
        replace H := Option.bind_eq_some_iff.mp H
        obtain ⟨⟨t154, t155⟩, A110, H⟩ := H
        replace H : (if t155 = true then (if (t154.size : Int) < (wrap64 ((wrap64 ((wrap64 (12 + (wrap64 ((l1.length : Int) * a0)))) + 4)) + 17)) then (none) else (if (wrap64 ((wrap64 (8 * (wrap64 ((wrap64 (12 + (wrap64 ((l1.length : Int) * a0)))) + 4)))) - 96)) = 0 then (none) else (if (wrap64 ((wrap64 (8 * (wrap64 ((wrap64 (12 + (wrap64 ((l1.length : Int) * a0)))) + 4)))) - (wrap64 (96 + (Int.tmod (wrap64 (a2)) (wrap64 ((wrap64 (8 * (wrap64 ((wrap64 (12 + (wrap64 ((l1.length : Int) * a0)))) + 4)))) - 96))))))) ≥ 32 then ((chainmanref03_Turned.f t154 (wrap64 (96 + (Int.tmod (wrap64 (a2)) (wrap64 ((wrap64 (8 * (wrap64 ((wrap64 (12 + (wrap64 ((l1.length : Int) * a0)))) + 4)))) - 96))))) (Go.bits .and .u32 a3 4294967295)).bind fun bt157 => ((recfile_Parse.f kj4 a0 bt157.1).bind fun bt159 => (if ((bt159.2.2.2 == 6) == bt157.2) = true then ((chainmanlaw06_awake.f kj4).bind fun t166 => (some t166)) else (none)))) else ((chainmanref03_Turned.f t154 (wrap64 (96 + (Int.tmod (wrap64 (a2)) (wrap64 ((wrap64 (8 * (wrap64 ((wrap64 (12 + (wrap64 ((l1.length : Int) * a0)))) + 4)))) - 96))))) (Go.bits .and .u32 a3 (((2 ^ (mn 31 (mx 0 (wrap64 ((wrap64 (8 * (wrap64 ((wrap64 (12 + (wrap64 ((l1.length : Int) * a0)))) + 4)))) - (wrap64 (96 + (Int.tmod (wrap64 (a2)) (wrap64 ((wrap64 (8 * (wrap64 ((wrap64 (12 + (wrap64 ((l1.length : Int) * a0)))) + 4)))) - 96))))))))).toNat) - 1) % 4294967296))).bind fun bt167 => ((recfile_Parse.f kj4 a0 bt167.1).bind fun bt169 => (if ((bt169.2.2.2 == 6) == bt167.2) = true then ((chainmanlaw06_awake.f kj4).bind fun t176 => (some t176)) else (none))))))) else ((chainmanlaw06_awake.f kj4).bind fun t156 => (some t156))) = some r := H
        have A11 := Aside0.mk A110
        clear A110
        by_cases c12 : t155 = true
        · subst c12
          have H1 : (if (t154.size : Int) < (wrap64 ((wrap64 ((wrap64 (12 + (wrap64 ((l1.length : Int) * a0)))) + 4)) + 17)) then (none) else (if (wrap64 ((wrap64 (8 * (wrap64 ((wrap64 (12 + (wrap64 ((l1.length : Int) * a0)))) + 4)))) - 96)) = 0 then (none) else (if (wrap64 ((wrap64 (8 * (wrap64 ((wrap64 (12 + (wrap64 ((l1.length : Int) * a0)))) + 4)))) - (wrap64 (96 + (Int.tmod (wrap64 (a2)) (wrap64 ((wrap64 (8 * (wrap64 ((wrap64 (12 + (wrap64 ((l1.length : Int) * a0)))) + 4)))) - 96))))))) ≥ 32 then ((chainmanref03_Turned.f t154 (wrap64 (96 + (Int.tmod (wrap64 (a2)) (wrap64 ((wrap64 (8 * (wrap64 ((wrap64 (12 + (wrap64 ((l1.length : Int) * a0)))) + 4)))) - 96))))) (Go.bits .and .u32 a3 4294967295)).bind fun bt157 => ((recfile_Parse.f kj4 a0 bt157.1).bind fun bt159 => (if ((bt159.2.2.2 == 6) == bt157.2) = true then ((chainmanlaw06_awake.f kj4).bind fun t166 => (some t166)) else (none)))) else ((chainmanref03_Turned.f t154 (wrap64 (96 + (Int.tmod (wrap64 (a2)) (wrap64 ((wrap64 (8 * (wrap64 ((wrap64 (12 + (wrap64 ((l1.length : Int) * a0)))) + 4)))) - 96))))) (Go.bits .and .u32 a3 (((2 ^ (mn 31 (mx 0 (wrap64 ((wrap64 (8 * (wrap64 ((wrap64 (12 + (wrap64 ((l1.length : Int) * a0)))) + 4)))) - (wrap64 (96 + (Int.tmod (wrap64 (a2)) (wrap64 ((wrap64 (8 * (wrap64 ((wrap64 (12 + (wrap64 ((l1.length : Int) * a0)))) + 4)))) - 96))))))))).toNat) - 1) % 4294967296))).bind fun bt167 => ((recfile_Parse.f kj4 a0 bt167.1).bind fun bt169 => (if ((bt169.2.2.2 == 6) == bt167.2) = true then ((chainmanlaw06_awake.f kj4).bind fun t176 => (some t176)) else (none))))))) = some r := by rw [if_pos rfl] at H; exact H
          clear H
          have H := H1
          clear H1
          by_cases c13 : (t154.size : Int) < (wrap64 ((wrap64 ((wrap64 (12 + (wrap64 ((l1.length : Int) * a0)))) + 4)) + 17))
          · rw [if_pos c13] at H
            exact absurd H (by simp)
          · rw [if_neg c13] at H
            have c13b0 : decide ((t154.size : Int) < (wrap64 ((wrap64 ((wrap64 (12 + (wrap64 ((l1.length : Int) * a0)))) + 4)) + 17))) = false := decide_eq_false c13
            clear c13
            by_cases c14 : (wrap64 ((wrap64 (8 * (wrap64 ((wrap64 (12 + (wrap64 ((l1.length : Int) * a0)))) + 4)))) - 96)) = 0
            · rw [if_pos c14] at H
              exact absurd H (by simp)
            · rw [if_neg c14] at H
              have c14b0 : ((wrap64 ((wrap64 (8 * (wrap64 ((wrap64 (12 + (wrap64 ((l1.length : Int) * a0)))) + 4)))) - 96)) == 0) = false := beq_eq_false_iff_ne.mpr c14
              have c14b1 : ((wrap64 ((wrap64 (8 * (wrap64 ((wrap64 (12 + (wrap64 ((l1.length : Int) * a0)))) + 4)))) - 96)) != 0) = true := bne_iff_ne.mpr c14
              obtain ⟨ji15, hji15⟩ : ∃ j_ : Int, (mx 0 (wrap64 ((wrap64 (8 * (wrap64 ((wrap64 (12 + (wrap64 ((l1.length : Int) * a0)))) + 4)))) - (wrap64 (96 + (Int.tmod (wrap64 (a2)) (wrap64 ((wrap64 (8 * (wrap64 ((wrap64 (12 + (wrap64 ((l1.length : Int) * a0)))) + 4)))) - 96)))))))) = j_ := ⟨_, rfl⟩
              replace H : (if (wrap64 ((wrap64 (8 * (wrap64 ((wrap64 (12 + (wrap64 ((l1.length : Int) * a0)))) + 4)))) - (wrap64 (96 + (Int.tmod (wrap64 (a2)) (wrap64 ((wrap64 (8 * (wrap64 ((wrap64 (12 + (wrap64 ((l1.length : Int) * a0)))) + 4)))) - 96))))))) ≥ 32 then ((chainmanref03_Turned.f t154 (wrap64 (96 + (Int.tmod (wrap64 (a2)) (wrap64 ((wrap64 (8 * (wrap64 ((wrap64 (12 + (wrap64 ((l1.length : Int) * a0)))) + 4)))) - 96))))) (Go.bits .and .u32 a3 4294967295)).bind fun bt157 => ((recfile_Parse.f kj4 a0 bt157.1).bind fun bt159 => (if ((bt159.2.2.2 == 6) == bt157.2) = true then ((chainmanlaw06_awake.f kj4).bind fun t166 => (some t166)) else (none)))) else ((chainmanref03_Turned.f t154 (wrap64 (96 + (Int.tmod (wrap64 (a2)) (wrap64 ((wrap64 (8 * (wrap64 ((wrap64 (12 + (wrap64 ((l1.length : Int) * a0)))) + 4)))) - 96))))) (Go.bits .and .u32 a3 (((2 ^ (mn 31 (ji15)).toNat) - 1) % 4294967296))).bind fun bt167 => ((recfile_Parse.f kj4 a0 bt167.1).bind fun bt169 => (if ((bt169.2.2.2 == 6) == bt167.2) = true then ((chainmanlaw06_awake.f kj4).bind fun t176 => (some t176)) else (none))))) = some r := by first | (rw [hji15] at H; exact H) | (simp only [hji15] at H ⊢; exact H)
              (try rw [hji15] at A11)
              have hji15_ : (if 0 < (wrap64 ((wrap64 (8 * (wrap64 ((wrap64 (12 + (wrap64 ((l1.length : Int) * a0)))) + 4)))) - (wrap64 (96 + (Int.tmod (wrap64 (a2)) (wrap64 ((wrap64 (8 * (wrap64 ((wrap64 (12 + (wrap64 ((l1.length : Int) * a0)))) + 4)))) - 96))))))) then (wrap64 ((wrap64 (8 * (wrap64 ((wrap64 (12 + (wrap64 ((l1.length : Int) * a0)))) + 4)))) - (wrap64 (96 + (Int.tmod (wrap64 (a2)) (wrap64 ((wrap64 (8 * (wrap64 ((wrap64 (12 + (wrap64 ((l1.length : Int) * a0)))) + 4)))) - 96))))))) else 0) = ji15 := hji15
              obtain ⟨ji16, hji16⟩ : ∃ j_ : Int, (mn 31 (ji15)) = j_ := ⟨_, rfl⟩
              replace H : (if (wrap64 ((wrap64 (8 * (wrap64 ((wrap64 (12 + (wrap64 ((l1.length : Int) * a0)))) + 4)))) - (wrap64 (96 + (Int.tmod (wrap64 (a2)) (wrap64 ((wrap64 (8 * (wrap64 ((wrap64 (12 + (wrap64 ((l1.length : Int) * a0)))) + 4)))) - 96))))))) ≥ 32 then ((chainmanref03_Turned.f t154 (wrap64 (96 + (Int.tmod (wrap64 (a2)) (wrap64 ((wrap64 (8 * (wrap64 ((wrap64 (12 + (wrap64 ((l1.length : Int) * a0)))) + 4)))) - 96))))) (Go.bits .and .u32 a3 4294967295)).bind fun bt157 => ((recfile_Parse.f kj4 a0 bt157.1).bind fun bt159 => (if ((bt159.2.2.2 == 6) == bt157.2) = true then ((chainmanlaw06_awake.f kj4).bind fun t166 => (some t166)) else (none)))) else ((chainmanref03_Turned.f t154 (wrap64 (96 + (Int.tmod (wrap64 (a2)) (wrap64 ((wrap64 (8 * (wrap64 ((wrap64 (12 + (wrap64 ((l1.length : Int) * a0)))) + 4)))) - 96))))) (Go.bits .and .u32 a3 (((2 ^ (ji16).toNat) - 1) % 4294967296))).bind fun bt167 => ((recfile_Parse.f kj4 a0 bt167.1).bind fun bt169 => (if ((bt169.2.2.2 == 6) == bt167.2) = true then ((chainmanlaw06_awake.f kj4).bind fun t176 => (some t176)) else (none))))) = some r := by first | (rw [hji16] at H; exact H) | (simp only [hji16] at H ⊢; exact H)
              (try rw [hji16] at A11)
              have hji16_ : (if (ji15) < 31 then (ji15) else 31) = ji16 := hji16
              by_cases c17 : (wrap64 ((wrap64 (8 * (wrap64 ((wrap64 (12 + (wrap64 ((l1.length : Int) * a0)))) + 4)))) - (wrap64 (96 + (Int.tmod (wrap64 (a2)) (wrap64 ((wrap64 (8 * (wrap64 ((wrap64 (12 + (wrap64 ((l1.length : Int) * a0)))) + 4)))) - 96))))))) ≥ 32
              · rw [if_pos c17] at H
                have c17b0 : decide (32 ≤ (wrap64 ((wrap64 (8 * (wrap64 ((wrap64 (12 + (wrap64 ((l1.length : Int) * a0)))) + 4)))) - (wrap64 (96 + (Int.tmod (wrap64 (a2)) (wrap64 ((wrap64 (8 * (wrap64 ((wrap64 (12 + (wrap64 ((l1.length : Int) * a0)))) + 4)))) - 96)))))))) = true := decide_eq_true c17
                clear c17
                replace H := Option.bind_eq_some_iff.mp H
                obtain ⟨⟨t157, t158⟩, A180, H⟩ := H
                replace H : ((recfile_Parse.f kj4 a0 t157).bind fun bt159 => (if ((bt159.2.2.2 == 6) == t158) = true then ((chainmanlaw06_awake.f kj4).bind fun t166 => (some t166)) else (none))) = some r := H
                have A18 := Aside0.mk A180
                clear A180
                replace H := Option.bind_eq_some_iff.mp H
                obtain ⟨⟨t159, t162, t163, t164⟩, A190, H⟩ := H
                replace H : (if ((t164 == 6) == t158) = true then ((chainmanlaw06_awake.f kj4).bind fun t166 => (some t166)) else (none)) = some r := H
                have A19 := Aside0.mk A190
                clear A190
                by_cases c20 : ((t164 == 6) == t158) = true
                · rw [if_pos c20] at H
                  have c20b0 : ((t164 == 6) == t158) = true := c20
                  (try (have c20b1 : decide ((t164 == 6) = t158) = true := by simpa using c20))
                  (try (have c20b2 : ((t164 == 6) == t158) = true := by simpa using c20))
                  clear c20
                  replace H := Option.bind_eq_some_iff.mp H
                  obtain ⟨t166, A210, H⟩ := H
                  replace H : (some t166) = some r := H
                  have A21 := Aside0.mk A210
                  clear A210
                  obtain rfl := Option.some.inj H
                  go_wp2_with (first | ((with_reducible refine gate_callee (f := 11) rfl ?_); refine goesL_ (some 32) rfl rfl Try.func11 (by kernel_rfl) rfl #[.int .i64 a0, .slice A1 l1.length c1] rfl (by (try simp only [List.map_toArray, List.map_cons, List.map_nil]); first | done | rfl | (simp only [List.length_drop, List.length_take]; rfl)) ?_; (with_reducible refine (recfile_Lay.calls a0 _ _ l1 t154 true _ ?side1 ?side2 A11.out).mono ?_); (case side1 => repeat (first | exact (Kd.C_below HR1.out HB.out) | (with_reducible refine Kd.C_alloc ?_ _) | (with_reducible refine Kd.C_drewN ?_ _) | (with_reducible refine Kd.C_drew ?_))); (case side2 => exact HC1.out); rintro e w22 ⟨rfl, hb⟩; refine ⟨_, rfl, ?_⟩; have n0_ := Aside0.mk (below_step (by repeat (first | (with_reducible first | exact HB.out | apply below_alloc | apply pw_below_drewN | apply below_drew1) | exact HB.out)) hb); clear HB; have HB := n0_; clear n0_; (try clear hb); (try clear hb2); (try clear hk); (try clear hi)) | ((with_reducible refine gate_callee (f := 24) rfl ?_); refine goesL_ (some 80) rfl rfl Try.func24 (by kernel_rfl) rfl #[.string t154, .int .i64 (wrap64 (96 + (Int.tmod (wrap64 (a2)) (wrap64 ((wrap64 (8 * (wrap64 ((wrap64 (12 + (wrap64 ((l1.length : Int) * a0)))) + 4)))) - 96))))), .int .u32 (Go.bits .and .u32 a3 4294967295)] rfl (by (try simp only [List.map_toArray, List.map_cons, List.map_nil]); first | done | rfl | (simp only [List.length_drop, List.length_take]; rfl)) ?_; (with_reducible refine (chainmanref03_Turned.calls t154 (wrap64 (96 + (Int.tmod (wrap64 (a2)) (wrap64 ((wrap64 (8 * (wrap64 ((wrap64 (12 + (wrap64 ((l1.length : Int) * a0)))) + 4)))) - 96))))) (Go.bits .and .u32 a3 4294967295) t157 t158 _ A18.out).mono ?_); rintro e w23 ⟨rfl, hb⟩; refine ⟨_, rfl, ?_⟩; have n0_ := Aside0.mk (below_step (by repeat (first | (with_reducible first | exact HB.out | apply below_alloc | apply pw_below_drewN | apply below_drew1) | exact HB.out)) hb); clear HB; have HB := n0_; clear n0_; (try clear hb); (try clear hb2); (try clear hk); (try clear hi)) | ((with_reducible refine gate_callee (f := 13) rfl ?_); refine goesL_ (some 86) rfl rfl Try.func13 (by kernel_rfl) rfl #[.int .i64 a0, .string t157] rfl (by (try simp only [List.map_toArray, List.map_cons, List.map_nil]); first | done | rfl | (simp only [List.length_drop, List.length_take]; rfl)) ?_; (with_reducible refine (recfile_Parse.calls kj4 a0 t157 t159 t162 t163 t164 _ A19.out).mono ?_); rintro e w24 ⟨v160, rfl, ho0, hb⟩; refine ⟨_, rfl, ?_⟩; have n0_ := Aside0.mk (Kd.R_lower ho0 (below_size (by repeat (first | (with_reducible first | exact HB.out | apply below_alloc | apply pw_below_drewN | apply below_drew1) | exact HB.out)))); have n1_ := Aside0.mk (below_step (by repeat (first | (with_reducible first | exact HB.out | apply below_alloc | apply pw_below_drewN | apply below_drew1) | exact HB.out)) hb); clear HB; have HO161 := n0_; have HB := n1_; clear n0_ n1_; (try clear hb); (try clear hb2); (try clear hk); (try clear hi); (try clear ho0)) | ((with_reducible refine gate_dst (N := 18) rfl ?_); (try (refine gate_guard (by rfl) ?_; dsimp only)); refine box_event ?hg (N := 18) ?hd (cs := #[.int .i64 0, .int .u32 0]) (t := 29) ?hr ?_; (case hd => rfl); (case hg => rfl); (case hr => first | (go_simp; done) | (go_simp; rfl)); intro gb165 hg w25 hbox hb; have n0_ := Aside0.mk (Kd.R_below (by (with_reducible repeat (first | apply Kd.R_alloc | apply Kd.R_drewN | apply Kd.R_drew)); exact HO161.out) hb); have n1_ := Aside0.mk (below_step (by repeat (first | (with_reducible first | exact HB.out | apply below_alloc | apply pw_below_drewN | apply below_drew1) | exact HB.out)) hb); have n2_ := Aside0.mk (hbox); have n3_ := Aside0.mk ((by rw [hg]; exact (below_size (by repeat (first | (with_reducible first | exact HB.out | apply below_alloc | apply pw_below_drewN | apply below_drew1) | exact HB.out))) : w.heap.size ≤ gb165)); have n4_ := Aside0.mk ((by rw [hg]; exact (below_size (by repeat (first | (with_reducible first | exact HB.out | apply below_alloc | apply pw_below_drewN | apply below_drew1) | exact HB.out))) : w.heap.size ≤ gb165)); clear HO161; clear HB; have HO161 := n0_; have HB := n1_; have BK165 := n2_; have GW165 := n3_; have GE165 := n4_; clear n0_ n1_ n2_ n3_ n4_; clear hb hbox hg; have hcz26_0 : w25.cell? ⟨gb165, 0, none⟩ = some (.int .i64 0) := (blk_cell BK165.out 0).trans rfl; have hcz26_1 : w25.cell? ⟨gb165, 1, none⟩ = some (.int .u32 0) := (blk_cell BK165.out 1).trans rfl; have hfz26_0 := blk_frozen BK165.out 0; have hfz26_1 := blk_frozen BK165.out 1) | (go_at_call 10; (with_reducible refine (chainmanlaw06_awake.calls kj4  t166 _ A21.out).mono ?_); rintro e w27 ⟨rfl, hb⟩; have n0_ := Aside0.mk (Kd.R_below (by (with_reducible repeat (first | apply Kd.R_alloc | apply Kd.R_drewN | apply Kd.R_drew)); exact (Kd.R_mono (Kd.R_far (p := ⟨gb165, 1, none⟩) (Kd.R_far (p := ⟨gb165, 0, none⟩) (Kd.R_types HO161.out BK165.out (by decide)) (fun _ hk => hk.2) (.int .i64 t162)) (fun _ hk => hk.2) (.int .u32 t163)) (fun _ h_ => h_.1))) hb); have n1_ := Aside0.mk (blk_below (g := gb165) (o := .cells #[.int .i64 t162, .int .u32 t163] 29 (0, 0)) (by (with_reducible repeat (first | refine blk_drewN ?_ _ | refine blk_drew ?_ | refine blk_alloc ?_ _)); refine blk_put (cs := #[.int .i64 t162, .int .u32 0]) ?_ 1 _ rfl; (with_reducible repeat (first | refine blk_drewN ?_ _ | refine blk_drew ?_ | refine blk_alloc ?_ _)); refine blk_put (cs := #[.int .i64 0, .int .u32 0]) ?_ 0 _ rfl; (with_reducible repeat (first | refine blk_drewN ?_ _ | refine blk_drew ?_ | refine blk_alloc ?_ _)); exact BK165.out) hb); have n2_ := Aside0.mk (below_step (by repeat (first | (with_reducible first | exact HB.out | apply below_alloc | apply pw_below_drewN | apply below_drew1 | refine below_set ?_ GE165.out) | exact HB.out)) hb); clear HO161; clear BK165; clear HB; have HO161 := n0_; have BK165 := n1_; have HB := n2_; clear n0_ n1_ n2_; (try clear hb); (try clear hb2); (try clear hk); (try clear hi)))
                  go_ret
                  exact ⟨by first | rfl | (simp [errW_none, errW_some] <;> rfl) | (simp only [← hji15, ← hji16]; first | rfl | (simp [errW_none, errW_some] <;> rfl)) | (simp [*, errW_none, errW_some] <;> rfl), by repeat (first | (with_reducible first | exact HB.out | apply below_alloc | apply pw_below_drewN | apply below_drew1 | refine below_set ?_ GE165.out) | exact HB.out)⟩
                · rw [if_neg c20] at H
                  exact absurd H (by simp)
              · rw [if_neg c17] at H
                have c17b0 : decide (32 ≤ (wrap64 ((wrap64 (8 * (wrap64 ((wrap64 (12 + (wrap64 ((l1.length : Int) * a0)))) + 4)))) - (wrap64 (96 + (Int.tmod (wrap64 (a2)) (wrap64 ((wrap64 (8 * (wrap64 ((wrap64 (12 + (wrap64 ((l1.length : Int) * a0)))) + 4)))) - 96)))))))) = false := decide_eq_false c17
                clear c17
                replace H := Option.bind_eq_some_iff.mp H
                obtain ⟨⟨t167, t168⟩, A280, H⟩ := H
                replace H : ((recfile_Parse.f kj4 a0 t167).bind fun bt169 => (if ((bt169.2.2.2 == 6) == t168) = true then ((chainmanlaw06_awake.f kj4).bind fun t176 => (some t176)) else (none))) = some r := H
                have A28 := Aside0.mk A280
                clear A280
                replace H := Option.bind_eq_some_iff.mp H
                obtain ⟨⟨t169, t172, t173, t174⟩, A290, H⟩ := H
                replace H : (if ((t174 == 6) == t168) = true then ((chainmanlaw06_awake.f kj4).bind fun t176 => (some t176)) else (none)) = some r := H
                have A29 := Aside0.mk A290
                clear A290
                by_cases c30 : ((t174 == 6) == t168) = true
                · rw [if_pos c30] at H
                  have c30b0 : ((t174 == 6) == t168) = true := c30
                  (try (have c30b1 : decide ((t174 == 6) = t168) = true := by simpa using c30))
                  (try (have c30b2 : ((t174 == 6) == t168) = true := by simpa using c30))
                  clear c30
                  replace H := Option.bind_eq_some_iff.mp H
                  obtain ⟨t176, A310, H⟩ := H
                  replace H : (some t176) = some r := H
                  have A31 := Aside0.mk A310
                  clear A310
                  obtain rfl := Option.some.inj H
                  go_wp2_with (first | ((with_reducible refine gate_callee (f := 11) rfl ?_); refine goesL_ (some 32) rfl rfl Try.func11 (by kernel_rfl) rfl #[.int .i64 a0, .slice A1 l1.length c1] rfl (by (try simp only [List.map_toArray, List.map_cons, List.map_nil]); first | done | rfl | (simp only [List.length_drop, List.length_take]; rfl)) ?_; (with_reducible refine (recfile_Lay.calls a0 _ _ l1 t154 true _ ?side1 ?side2 A11.out).mono ?_); (case side1 => repeat (first | exact (Kd.C_below HR1.out HB.out) | (with_reducible refine Kd.C_alloc ?_ _) | (with_reducible refine Kd.C_drewN ?_ _) | (with_reducible refine Kd.C_drew ?_))); (case side2 => exact HC1.out); rintro e w32 ⟨rfl, hb⟩; refine ⟨_, rfl, ?_⟩; have n0_ := Aside0.mk (below_step (by repeat (first | (with_reducible first | exact HB.out | apply below_alloc | apply pw_below_drewN | apply below_drew1) | exact HB.out)) hb); clear HB; have HB := n0_; clear n0_; (try clear hb); (try clear hb2); (try clear hk); (try clear hi)) | ((with_reducible refine gate_callee (f := 24) rfl ?_); refine goesL_ (some 80) rfl rfl Try.func24 (by kernel_rfl) rfl #[.string t154, .int .i64 (wrap64 (96 + (Int.tmod (wrap64 (a2)) (wrap64 ((wrap64 (8 * (wrap64 ((wrap64 (12 + (wrap64 ((l1.length : Int) * a0)))) + 4)))) - 96))))), .int .u32 (Go.bits .and .u32 a3 (((2 ^ (ji16).toNat) - 1) % 4294967296))] rfl (by (try simp only [List.map_toArray, List.map_cons, List.map_nil]); first | done | (simp only [hji16]; rfl) | rfl | (simp only [List.length_drop, List.length_take]; rfl)) ?_; (with_reducible refine (chainmanref03_Turned.calls t154 (wrap64 (96 + (Int.tmod (wrap64 (a2)) (wrap64 ((wrap64 (8 * (wrap64 ((wrap64 (12 + (wrap64 ((l1.length : Int) * a0)))) + 4)))) - 96))))) (Go.bits .and .u32 a3 (((2 ^ (ji16).toNat) - 1) % 4294967296)) t167 t168 _ A28.out).mono ?_); rintro e w33 ⟨rfl, hb⟩; refine ⟨_, rfl, ?_⟩; have n0_ := Aside0.mk (below_step (by repeat (first | (with_reducible first | exact HB.out | apply below_alloc | apply pw_below_drewN | apply below_drew1) | exact HB.out)) hb); clear HB; have HB := n0_; clear n0_; (try clear hb); (try clear hb2); (try clear hk); (try clear hi)) | ((with_reducible refine gate_callee (f := 13) rfl ?_); refine goesL_ (some 86) rfl rfl Try.func13 (by kernel_rfl) rfl #[.int .i64 a0, .string t167] rfl (by (try simp only [List.map_toArray, List.map_cons, List.map_nil]); first | done | rfl | (simp only [List.length_drop, List.length_take]; rfl)) ?_; (with_reducible refine (recfile_Parse.calls kj4 a0 t167 t169 t172 t173 t174 _ A29.out).mono ?_); rintro e w34 ⟨v170, rfl, ho0, hb⟩; refine ⟨_, rfl, ?_⟩; have n0_ := Aside0.mk (Kd.R_lower ho0 (below_size (by repeat (first | (with_reducible first | exact HB.out | apply below_alloc | apply pw_below_drewN | apply below_drew1) | exact HB.out)))); have n1_ := Aside0.mk (below_step (by repeat (first | (with_reducible first | exact HB.out | apply below_alloc | apply pw_below_drewN | apply below_drew1) | exact HB.out)) hb); clear HB; have HO171 := n0_; have HB := n1_; clear n0_ n1_; (try clear hb); (try clear hb2); (try clear hk); (try clear hi); (try clear ho0)) | ((with_reducible refine gate_dst (N := 18) rfl ?_); (try (refine gate_guard (by rfl) ?_; dsimp only)); refine box_event ?hg (N := 18) ?hd (cs := #[.int .i64 0, .int .u32 0]) (t := 29) ?hr ?_; (case hd => rfl); (case hg => rfl); (case hr => first | (go_simp; done) | (go_simp; rfl)); intro gb175 hg w35 hbox hb; have n0_ := Aside0.mk (Kd.R_below (by (with_reducible repeat (first | apply Kd.R_alloc | apply Kd.R_drewN | apply Kd.R_drew)); exact HO171.out) hb); have n1_ := Aside0.mk (below_step (by repeat (first | (with_reducible first | exact HB.out | apply below_alloc | apply pw_below_drewN | apply below_drew1) | exact HB.out)) hb); have n2_ := Aside0.mk (hbox); have n3_ := Aside0.mk ((by rw [hg]; exact (below_size (by repeat (first | (with_reducible first | exact HB.out | apply below_alloc | apply pw_below_drewN | apply below_drew1) | exact HB.out))) : w.heap.size ≤ gb175)); have n4_ := Aside0.mk ((by rw [hg]; exact (below_size (by repeat (first | (with_reducible first | exact HB.out | apply below_alloc | apply pw_below_drewN | apply below_drew1) | exact HB.out))) : w.heap.size ≤ gb175)); clear HO171; clear HB; have HO171 := n0_; have HB := n1_; have BK175 := n2_; have GW175 := n3_; have GE175 := n4_; clear n0_ n1_ n2_ n3_ n4_; clear hb hbox hg; have hcz36_0 : w35.cell? ⟨gb175, 0, none⟩ = some (.int .i64 0) := (blk_cell BK175.out 0).trans rfl; have hcz36_1 : w35.cell? ⟨gb175, 1, none⟩ = some (.int .u32 0) := (blk_cell BK175.out 1).trans rfl; have hfz36_0 := blk_frozen BK175.out 0; have hfz36_1 := blk_frozen BK175.out 1) | (go_at_call 10; (with_reducible refine (chainmanlaw06_awake.calls kj4  t176 _ A31.out).mono ?_); rintro e w37 ⟨rfl, hb⟩; have n0_ := Aside0.mk (Kd.R_below (by (with_reducible repeat (first | apply Kd.R_alloc | apply Kd.R_drewN | apply Kd.R_drew)); exact (Kd.R_mono (Kd.R_far (p := ⟨gb175, 1, none⟩) (Kd.R_far (p := ⟨gb175, 0, none⟩) (Kd.R_types HO171.out BK175.out (by decide)) (fun _ hk => hk.2) (.int .i64 t172)) (fun _ hk => hk.2) (.int .u32 t173)) (fun _ h_ => h_.1))) hb); have n1_ := Aside0.mk (blk_below (g := gb175) (o := .cells #[.int .i64 t172, .int .u32 t173] 29 (0, 0)) (by (with_reducible repeat (first | refine blk_drewN ?_ _ | refine blk_drew ?_ | refine blk_alloc ?_ _)); refine blk_put (cs := #[.int .i64 t172, .int .u32 0]) ?_ 1 _ rfl; (with_reducible repeat (first | refine blk_drewN ?_ _ | refine blk_drew ?_ | refine blk_alloc ?_ _)); refine blk_put (cs := #[.int .i64 0, .int .u32 0]) ?_ 0 _ rfl; (with_reducible repeat (first | refine blk_drewN ?_ _ | refine blk_drew ?_ | refine blk_alloc ?_ _)); exact BK175.out) hb); have n2_ := Aside0.mk (below_step (by repeat (first | (with_reducible first | exact HB.out | apply below_alloc | apply pw_below_drewN | apply below_drew1 | refine below_set ?_ GE175.out) | exact HB.out)) hb); clear HO171; clear BK175; clear HB; have HO171 := n0_; have BK175 := n1_; have HB := n2_; clear n0_ n1_ n2_; (try clear hb); (try clear hb2); (try clear hk); (try clear hi)))
                  go_ret
                  exact ⟨by first | rfl | (simp [errW_none, errW_some] <;> rfl) | (simp only [← hji15, ← hji16]; first | rfl | (simp [errW_none, errW_some] <;> rfl)) | (simp [*, errW_none, errW_some] <;> rfl), by repeat (first | (with_reducible first | exact HB.out | apply below_alloc | apply pw_below_drewN | apply below_drew1 | refine below_set ?_ GE175.out) | exact HB.out)⟩
                · rw [if_neg c30] at H
                  exact absurd H (by simp)
        · replace c12 := Bool.eq_false_iff.mpr c12
          subst c12
          have H1 : ((chainmanlaw06_awake.f kj4).bind fun t156 => (some t156)) = some r := by rw [if_neg (show ¬ (false = true) by decide)] at H; exact H
          clear H
          have H := H1
          clear H1
          replace H := Option.bind_eq_some_iff.mp H
          obtain ⟨t156, A380, H⟩ := H
          replace H : (some t156) = some r := H
          have A38 := Aside0.mk A380
          clear A380
          obtain rfl := Option.some.inj H
          go_wp2_with (first | ((with_reducible refine gate_callee (f := 11) rfl ?_); refine goesL_ (some 32) rfl rfl Try.func11 (by kernel_rfl) rfl #[.int .i64 a0, .slice A1 l1.length c1] rfl (by (try simp only [List.map_toArray, List.map_cons, List.map_nil]); first | done | rfl | (simp only [List.length_drop, List.length_take]; rfl)) ?_; (with_reducible refine (recfile_Lay.calls a0 _ _ l1 t154 false _ ?side1 ?side2 A11.out).mono ?_); (case side1 => repeat (first | exact (Kd.C_below HR1.out HB.out) | (with_reducible refine Kd.C_alloc ?_ _) | (with_reducible refine Kd.C_drewN ?_ _) | (with_reducible refine Kd.C_drew ?_))); (case side2 => exact HC1.out); rintro e w39 ⟨rfl, hb⟩; refine ⟨_, rfl, ?_⟩; have n0_ := Aside0.mk (below_step (by repeat (first | (with_reducible first | exact HB.out | apply below_alloc | apply pw_below_drewN | apply below_drew1) | exact HB.out)) hb); clear HB; have HB := n0_; clear n0_; (try clear hb); (try clear hb2); (try clear hk); (try clear hi)) | ((with_reducible refine gate_callee (f := 10) rfl ?_); refine goesL_ (some 37) rfl rfl Try.func10 (by kernel_rfl) rfl #[] rfl (by (try simp only [List.map_toArray, List.map_cons, List.map_nil]); first | done | rfl | (simp only [List.length_drop, List.length_take]; rfl)) ?_; (with_reducible refine (chainmanlaw06_awake.calls kj4  t156 _ A38.out).mono ?_); rintro e w40 ⟨rfl, hb⟩; refine ⟨_, rfl, ?_⟩; have n0_ := Aside0.mk (below_step (by repeat (first | (with_reducible first | exact HB.out | apply below_alloc | apply pw_below_drewN | apply below_drew1) | exact HB.out)) hb); clear HB; have HB := n0_; clear n0_; (try clear hb); (try clear hb2); (try clear hk); (try clear hi)))
          go_ret
          exact ⟨by first | rfl | (simp [errW_none, errW_some] <;> rfl) | (simp [*, errW_none, errW_some] <;> rfl), by repeat (first | (with_reducible first | exact HB.out | apply below_alloc | apply pw_below_drewN | apply below_drew1) | exact HB.out)⟩

/-- THE ONE PURE STATEMENT of chainmanlaw06_RecfileTurned. -/
def chainmanlaw06_RecfileTurned.Pure : Prop := ∀ (a0 : Int) (l1 : List ByteArray) (a2 : Int) (a3 : Int), (Lit.int .i64 a0).wf = true → (l1.length ≤ maxLen ∧ ∀ y0_ ∈ l1, y0_.size ≤ maxLen) → (Lit.int .u16 a2).wf = true → (Lit.int .u32 a3).wf = true → ∃ k, chainmanlaw06_RecfileTurned.f k a0 l1 a2 a3 = some true
theorem chainmanlaw06_RecfileTurned.walk (P : chainmanlaw06_RecfileTurned.Pure) (a0 : Int) (A1 : Option Addr) (c1 : Nat) (l1 : List ByteArray) (a2 : Int) (a3 : Int) (w : World) (w0 : (Lit.int .i64 a0).wf = true) (hr1 : Kd.C Kd.string w A1 l1.length l1) (hc1 : l1.length ≤ c1) (w1 : (l1.length ≤ maxLen ∧ ∀ y0_ ∈ l1, y0_.size ≤ maxLen)) (w2 : (Lit.int .u16 a2).wf = true) (w3 : (Lit.int .u32 a3).wf = true) :
    Calls Try.prog 5 #[.int .i64 a0, .slice A1 l1.length c1, .int .u16 a2, .int .u32 a3] w fun e w' => e = .returned (.bool true) ∧ Below w.heap.size w w' := by
  obtain ⟨k, h⟩ := P a0 l1 a2 a3 w0 w1 w2 w3
  refine (chainmanlaw06_RecfileTurned.calls k a0 _ _ l1 a2 a3 true w  hr1 hc1   h).mono ?_
  rintro e w' ⟨rfl, hd⟩
  exact ⟨rfl, hd⟩


end Go.Proofs.Ytahkkgnicgbncaa.PRecfileTurned
