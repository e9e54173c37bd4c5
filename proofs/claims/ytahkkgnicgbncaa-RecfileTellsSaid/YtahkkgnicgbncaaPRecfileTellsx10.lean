/- The Go functions that the law reaches, as plain Lean functions, and proofs that the calls of the machine come to them, or the row of the law over them, for every input that the row speaks of; written by a program of this session (wip/tool/mkprint.py) out of the translation and of hand-made templates. -/
import Derived.Test.YtahkkgnicgbncaaPRecfileTellsx0
import Derived.Test.YtahkkgnicgbncaaPRecfileTellsx1
import Derived.Test.YtahkkgnicgbncaaPRecfileTellsx2
import Derived.Test.YtahkkgnicgbncaaPRecfileTellsx3
import Derived.Test.YtahkkgnicgbncaaPRecfileTellsx5
import Derived.Test.YtahkkgnicgbncaaPRecfileTellsx6
import Derived.Test.YtahkkgnicgbncaaPRecfileTellsx8
import Derived.Test.YtahkkgnicgbncaaPRecfileTellsx9
namespace Go.Proofs.Ytahkkgnicgbncaa.PRecfileTells
open Go.RowKit Go.Proofs.YtahkkgnicgbncaaW.PrintWords Go.Proofs.YtahkkgnicgbncaaW.PrintLast Go.Proofs.YtahkkgnicgbncaaW.PrintMore
attribute [local go_sem] max2_int min2_int max_two min_two max_three min_three max_four min_four   -- for this text's walks alone
set_option linter.unusedVariables false
set_option linter.unusedSimpArgs false

attribute [local go_sem high] eqA29
/-! ### chainmanlaw06_RecfileTells: function 3 -/
def chainmanlaw06_RecfileTells.j0 : Nat → Int → List ByteArray → ByteArray → Int → Bool → Option (Bool)
  | 0, _, _, _, _, _ => none
  | k + 1, x0, x1, x2, x3, x34 => if x34 = true then ((chainmanlaw06_awake.f k).bind fun t221 => (some t221)) else ((recfile_Lay.f x0 x1).bind fun bt222 => ((chainmanref06_Lay.f k x0 x1).bind fun bt224 => ((recfile_Parse.f k x0 x2).bind fun bt226 => ((chainmanref06_Parse.f k x0 x2).bind fun bt233 => ((recfile_PutHead.f x0).bind fun bt240 => ((chainmanref06_PutHead.f k x0).bind fun bt242 => ((recfile_GetHead.f k x2).bind fun bt244 => ((chainmanref06_GetHead.f k x2).bind fun bt246 => (if bt222.1.toList = bt224.1.toList then (if (bt222.2 == bt224.2) = true then ((chainmanref04_SameNames.f k bt226.1 bt233.1).bind fun t248 => (if t248 = true then (if (bt226.2.1 == bt233.2.1 && (bt226.2.2.1 == bt233.2.2.1)) = true then (if bt226.2.2.2 = bt233.2.2.2 then (if bt240.1.toList = bt242.1.toList then (if (bt240.2 == bt242.2) = true then (if bt244.1 = bt246.1 then (if (bt244.2 == bt246.2) = true then ((recfile_Length.f x0 x3).bind fun t249 => ((chainmanref06_Length.f k x0 x3).bind fun t250 => (if t249 = t250 then ((recfile_Sum.f x1).bind fun bt251 => ((chainmanref06_Sum.f k x1).bind fun bt253 => (if (bt251.1 == bt253.1 && (bt251.2 == bt253.2)) = true then ((chainmanlaw06_awake.f k).bind fun t255 => (some t255)) else (none)))) else (none)))) else (none)) else (none)) else (none)) else (none)) else (none)) else (none)) else (none))) else (none)) else (none))))))))))
def chainmanlaw06_RecfileTells.f (k : Nat) (a0 : Int) (l1 : List ByteArray) (a2 : ByteArray) (a3 : Int) : Option (Bool) := (chainmanref06_Few.f k l1 30).bind fun t220 => (if t220 = true then (chainmanlaw06_RecfileTells.j0 k a0 l1 a2 a3 (decide ((a2.size : Int) > 800))) else (chainmanlaw06_RecfileTells.j0 k a0 l1 a2 a3 true))
theorem chainmanlaw06_RecfileTells.mono_l : ∀ k, (∀ y0 y1 y2 y3 y4, LeO (chainmanlaw06_RecfileTells.j0 k y0 y1 y2 y3 y4) (chainmanlaw06_RecfileTells.j0 (k + 1) y0 y1 y2 y3 y4))
  | 0 => fun _ _ _ _ _ r h => by simp [chainmanlaw06_RecfileTells.j0] at h
  | k + 1 => by
    have ih0 := chainmanlaw06_RecfileTells.mono_l k
    · intro y0 y1 y2 y3 y4
      unfold chainmanlaw06_RecfileTells.j0
      repeat' first
      | (with_reducible exact ih0 _ _ _ _ _)
      | (with_reducible exact chainmanlaw06_awake.mono _)
      | (with_reducible exact chainmanref04_SameNames.mono _ _ _)
      | (with_reducible exact chainmanref06_Few.mono _ _ _)
      | (with_reducible exact chainmanref06_GetHead.mono _ _)
      | (with_reducible exact chainmanref06_Lay.mono _ _ _)
      | (with_reducible exact chainmanref06_Length.mono _ _ _)
      | (with_reducible exact chainmanref06_Parse.mono _ _ _)
      | (with_reducible exact chainmanref06_PutHead.mono _ _)
      | (with_reducible exact chainmanref06_Sum.mono _ _)
      | (with_reducible exact recfile_GetHead.mono _ _)
      | (with_reducible exact recfile_Parse.mono _ _ _)
      | (with_reducible exact LeO.refl _)
      | (with_reducible exact LeO.none _)
      | (with_reducible refine LeO.ite ?_ ?_)
      | (with_reducible refine LeO.bind ?_ (fun _ => ?_))
      | exact ih0 _ _ _ _ _
      | exact chainmanlaw06_awake.mono _
      | exact chainmanref04_SameNames.mono _ _ _
      | exact chainmanref06_Few.mono _ _ _
      | exact chainmanref06_GetHead.mono _ _
      | exact chainmanref06_Lay.mono _ _ _
      | exact chainmanref06_Length.mono _ _ _
      | exact chainmanref06_Parse.mono _ _ _
      | exact chainmanref06_PutHead.mono _ _
      | exact chainmanref06_Sum.mono _ _
      | exact recfile_GetHead.mono _ _
      | exact recfile_Parse.mono _ _ _
      | exact LeO.none _
      | refine LeO.ite ?_ ?_
      | refine LeO.bind ?_ (fun _ => ?_)
theorem chainmanlaw06_RecfileTells.mono : ∀ a0 a1 a2 a3 k, LeO (chainmanlaw06_RecfileTells.f k a0 a1 a2 a3) (chainmanlaw06_RecfileTells.f (k + 1) a0 a1 a2 a3) := by
  intro a0 a1 a2 a3 k
  have ih0 := chainmanlaw06_RecfileTells.mono_l k
  unfold chainmanlaw06_RecfileTells.f
  repeat' first
      | (with_reducible exact ih0 _ _ _ _ _)
      | (with_reducible exact chainmanlaw06_awake.mono _)
      | (with_reducible exact chainmanref04_SameNames.mono _ _ _)
      | (with_reducible exact chainmanref06_Few.mono _ _ _)
      | (with_reducible exact chainmanref06_GetHead.mono _ _)
      | (with_reducible exact chainmanref06_Lay.mono _ _ _)
      | (with_reducible exact chainmanref06_Length.mono _ _ _)
      | (with_reducible exact chainmanref06_Parse.mono _ _ _)
      | (with_reducible exact chainmanref06_PutHead.mono _ _)
      | (with_reducible exact chainmanref06_Sum.mono _ _)
      | (with_reducible exact recfile_GetHead.mono _ _)
      | (with_reducible exact recfile_Parse.mono _ _ _)
      | (with_reducible exact LeO.refl _)
      | (with_reducible exact LeO.none _)
      | (with_reducible refine LeO.ite ?_ ?_)
      | (with_reducible refine LeO.bind ?_ (fun _ => ?_))
      | exact ih0 _ _ _ _ _
      | exact chainmanlaw06_awake.mono _
      | exact chainmanref04_SameNames.mono _ _ _
      | exact chainmanref06_Few.mono _ _ _
      | exact chainmanref06_GetHead.mono _ _
      | exact chainmanref06_Lay.mono _ _ _
      | exact chainmanref06_Length.mono _ _ _
      | exact chainmanref06_Parse.mono _ _ _
      | exact chainmanref06_PutHead.mono _ _
      | exact chainmanref06_Sum.mono _ _
      | exact recfile_GetHead.mono _ _
      | exact recfile_Parse.mono _ _ _
      | exact LeO.none _
      | refine LeO.ite ?_ ?_
      | refine LeO.bind ?_ (fun _ => ?_)
set_option maxHeartbeats 8000000 in
set_option maxRecDepth 100000 in
theorem chainmanlaw06_RecfileTells.calls (k : Nat) (a0 : Int) (A1 : Option Addr) (c1 : Nat) (l1 : List ByteArray) (a2 : ByteArray) (a3 : Int) (r : Bool) (w : World) (hr1 : Kd.C Kd.string w A1 l1.length l1) (hc1 : l1.length ≤ c1) (h : chainmanlaw06_RecfileTells.f k a0 l1 a2 a3 = some r) :
    Calls Try.prog 3 #[.int .i64 a0, .slice A1 l1.length c1, .string a2, .int .i64 a3] w fun e w' => e = .returned (.bool r) ∧ Below w.heap.size w w' := by
  have hu29 := Try.underlying29
  have HR1 := Aside0.mk hr1
  have HC1 := Aside0.mk hc1
  clear hr1 hc1
  have HB := Aside0.mk (Below.refl w.heap.size w)
  have H : ((chainmanref06_Few.f k l1 30).bind fun t220 => (if t220 = true then (chainmanlaw06_RecfileTells.j0 k a0 l1 a2 a3 (decide ((a2.size : Int) > 800))) else (chainmanlaw06_RecfileTells.j0 k a0 l1 a2 a3 true))) = some r := h
  clear h
  have HC5 := Aside0.mk H
  clear H
  go_enter Try.func3, Try.ntmps3
  go_upto_region 1 with (fail)
  go_cut [34] (fun v34 wc => ∃ (kq : Nat) (x34_4 : Bool), v34 = .bool x34_4 ∧ Aside0 (chainmanlaw06_RecfileTells.j0 kq a0 l1 a2 a3 x34_4 = some r) ∧ Aside0 (kq ≤ k) ∧ Aside0 (Below w.heap.size w wc))
  case first =>
    have H := HC5.out
    clear HC5
    replace H := Option.bind_eq_some_iff.mp H
    obtain ⟨t220, A60, H⟩ := H
    replace H : (if t220 = true then (chainmanlaw06_RecfileTells.j0 k a0 l1 a2 a3 (decide ((a2.size : Int) > 800))) else (chainmanlaw06_RecfileTells.j0 k a0 l1 a2 a3 true)) = some r := H
    have A6 := Aside0.mk A60
    clear A60
    by_cases c7 : t220 = true
    · subst c7
      have H1 : (chainmanlaw06_RecfileTells.j0 k a0 l1 a2 a3 (decide ((a2.size : Int) > 800))) = some r := by rw [if_pos rfl] at H; exact H
      clear H
      have H := H1
      clear H1
      have H' := Aside0.mk H
      clear H
      go_wp2_with (first | ((with_reducible refine gate_callee (f := 9) rfl ?_); refine goesL_ (some 28) rfl rfl Try.func9 (by kernel_rfl) rfl #[.slice A1 l1.length c1, .int .i64 30] rfl (by (try simp only [List.map_toArray, List.map_cons, List.map_nil]); first | done | rfl | (simp only [List.length_drop, List.length_take]; rfl)) ?_; (with_reducible refine (chainmanref06_Few.calls k _ _ l1 30 true _ ?side1 ?side2 A6.out).mono ?_); (case side1 => repeat (first | exact (Kd.C_below HR1.out HB.out) | (with_reducible refine Kd.C_alloc ?_ _) | (with_reducible refine Kd.C_drewN ?_ _) | (with_reducible refine Kd.C_drew ?_))); (case side2 => exact HC1.out); rintro e w' ⟨rfl, ⟨nd, rfl⟩⟩; refine ⟨_, rfl, ?_⟩) | (go_at_call 9; refine calls_of_args (args' := #[.slice A1 l1.length c1, .int .i64 30]) (by first | rfl) ?_; (with_reducible refine (chainmanref06_Few.calls k _ _ l1 30 true _ ?side1 ?side2 A6.out).mono ?_); (case side1 => repeat (first | exact (Kd.C_below HR1.out HB.out) | (with_reducible refine Kd.C_alloc ?_ _) | (with_reducible refine Kd.C_drewN ?_ _) | (with_reducible refine Kd.C_drew ?_))); (case side2 => exact HC1.out); rintro e w' ⟨rfl, ⟨nd, rfl⟩⟩))
      go_meet
      case rel => exact ⟨_, (decide ((a2.size : Int) > 800)), (by first | rfl | (simp; done) | (simp [*]; done)), H', ⟨by first | omega | exact Nat.le_refl _⟩, ⟨by repeat (first | (with_reducible first | exact HB.out | apply below_alloc | apply pw_below_drewN | apply below_drew1) | exact HB.out)⟩⟩
    · replace c7 := Bool.eq_false_iff.mpr c7
      subst c7
      have H1 : (chainmanlaw06_RecfileTells.j0 k a0 l1 a2 a3 true) = some r := by rw [if_neg (show ¬ (false = true) by decide)] at H; exact H
      clear H
      have H := H1
      clear H1
      have H' := Aside0.mk H
      clear H
      go_wp2_with (first | ((with_reducible refine gate_callee (f := 9) rfl ?_); refine goesL_ (some 28) rfl rfl Try.func9 (by kernel_rfl) rfl #[.slice A1 l1.length c1, .int .i64 30] rfl (by (try simp only [List.map_toArray, List.map_cons, List.map_nil]); first | done | rfl | (simp only [List.length_drop, List.length_take]; rfl)) ?_; (with_reducible refine (chainmanref06_Few.calls k _ _ l1 30 false _ ?side1 ?side2 A6.out).mono ?_); (case side1 => repeat (first | exact (Kd.C_below HR1.out HB.out) | (with_reducible refine Kd.C_alloc ?_ _) | (with_reducible refine Kd.C_drewN ?_ _) | (with_reducible refine Kd.C_drew ?_))); (case side2 => exact HC1.out); rintro e w' ⟨rfl, ⟨nd, rfl⟩⟩; refine ⟨_, rfl, ?_⟩) | (go_at_call 9; refine calls_of_args (args' := #[.slice A1 l1.length c1, .int .i64 30]) (by first | rfl) ?_; (with_reducible refine (chainmanref06_Few.calls k _ _ l1 30 false _ ?side1 ?side2 A6.out).mono ?_); (case side1 => repeat (first | exact (Kd.C_below HR1.out HB.out) | (with_reducible refine Kd.C_alloc ?_ _) | (with_reducible refine Kd.C_drewN ?_ _) | (with_reducible refine Kd.C_drew ?_))); (case side2 => exact HC1.out); rintro e w' ⟨rfl, ⟨nd, rfl⟩⟩))
      go_meet
      case rel => exact ⟨_, (true), (by first | rfl | (simp; done) | (simp [*]; done)), H', ⟨by first | omega | exact Nat.le_refl _⟩, ⟨by repeat (first | (with_reducible first | exact HB.out | apply below_alloc | apply pw_below_drewN | apply below_drew1) | exact HB.out)⟩⟩
  case rest =>
    clear HC5
    try clear c1
    try clear p2
    try clear c3
    try clear c7
    obtain ⟨kq, x34_4, rfl, HA, HJ4, HB⟩ := hcut
    cases kq with
    | zero => exact absurd HA.out (by simp [chainmanlaw06_RecfileTells.j0])
    | succ kj4 =>
      have H := HA.out
      clear HA
      simp only [chainmanlaw06_RecfileTells.j0] at H
      by_cases c8 : x34_4 = true
      · subst c8
        have H1 : ((chainmanlaw06_awake.f kj4).bind fun t221 => (some t221)) = some r := by rw [if_pos rfl] at H; exact H
        clear H
        have H := H1
        clear H1
        replace H := Option.bind_eq_some_iff.mp H
        obtain ⟨t221, A90, H⟩ := H
        replace H : (some t221) = some r := H
        have A9 := Aside0.mk A90
        clear A90
        obtain rfl := Option.some.inj H
        go_wp2_with (first | ((with_reducible refine gate_callee (f := 10) rfl ?_); refine goesL_ (some 35) rfl rfl Try.func10 (by kernel_rfl) rfl #[] rfl (by (try simp only [List.map_toArray, List.map_cons, List.map_nil]); first | done | rfl | (simp only [List.length_drop, List.length_take]; rfl)) ?_; (with_reducible refine (chainmanlaw06_awake.calls kj4  t221 _ A9.out).mono ?_); rintro e w10 ⟨rfl, hb⟩; refine ⟨_, rfl, ?_⟩; have n0_ := Aside0.mk (below_step (by repeat (first | (with_reducible first | exact HB.out | apply below_alloc | apply pw_below_drewN | apply below_drew1) | exact HB.out)) hb); clear HB; have HB := n0_; clear n0_; (try clear hb); (try clear hb2); (try clear hk); (try clear hi)))
        go_ret
        exact ⟨by first | rfl | (simp [errW_none, errW_some] <;> rfl) | (simp [*, errW_none, errW_some] <;> rfl), by repeat (first | (with_reducible first | exact HB.out | apply below_alloc | apply pw_below_drewN | apply below_drew1) | exact HB.out)⟩
      · replace c8 := Bool.eq_false_iff.mpr c8
        subst c8
        have H1 : ((recfile_Lay.f a0 l1).bind fun bt222 => ((chainmanref06_Lay.f kj4 a0 l1).bind fun bt224 => ((recfile_Parse.f kj4 a0 a2).bind fun bt226 => ((chainmanref06_Parse.f kj4 a0 a2).bind fun bt233 => ((recfile_PutHead.f a0).bind fun bt240 => ((chainmanref06_PutHead.f kj4 a0).bind fun bt242 => ((recfile_GetHead.f kj4 a2).bind fun bt244 => ((chainmanref06_GetHead.f kj4 a2).bind fun bt246 => (if bt222.1.toList = bt224.1.toList then (if (bt222.2 == bt224.2) = true then ((chainmanref04_SameNames.f kj4 bt226.1 bt233.1).bind fun t248 => (if t248 = true then (if (bt226.2.1 == bt233.2.1 && (bt226.2.2.1 == bt233.2.2.1)) = true then (if bt226.2.2.2 = bt233.2.2.2 then (if bt240.1.toList = bt242.1.toList then (if (bt240.2 == bt242.2) = true then (if bt244.1 = bt246.1 then (if (bt244.2 == bt246.2) = true then ((recfile_Length.f a0 a3).bind fun t249 => ((chainmanref06_Length.f kj4 a0 a3).bind fun t250 => (if t249 = t250 then ((recfile_Sum.f l1).bind fun bt251 => ((chainmanref06_Sum.f kj4 l1).bind fun bt253 => (if (bt251.1 == bt253.1 && (bt251.2 == bt253.2)) = true then ((chainmanlaw06_awake.f kj4).bind fun t255 => (some t255)) else (none)))) else (none)))) else (none)) else (none)) else (none)) else (none)) else (none)) else (none)) else (none))) else (none)) else (none)))))))))) = some r := by rw [if_neg (show ¬ (false = true) by decide)] at H; exact H
        clear H
        have H := H1
        clear H1
        replace H := Option.bind_eq_some_iff.mp H
        obtain ⟨⟨t222, t223⟩, A110, H⟩ := H
        replace H : ((chainmanref06_Lay.f kj4 a0 l1).bind fun bt224 => ((recfile_Parse.f kj4 a0 a2).bind fun bt226 => ((chainmanref06_Parse.f kj4 a0 a2).bind fun bt233 => ((recfile_PutHead.f a0).bind fun bt240 => ((chainmanref06_PutHead.f kj4 a0).bind fun bt242 => ((recfile_GetHead.f kj4 a2).bind fun bt244 => ((chainmanref06_GetHead.f kj4 a2).bind fun bt246 => (if t222.toList = bt224.1.toList then (if (t223 == bt224.2) = true then ((chainmanref04_SameNames.f kj4 bt226.1 bt233.1).bind fun t248 => (if t248 = true then (if (bt226.2.1 == bt233.2.1 && (bt226.2.2.1 == bt233.2.2.1)) = true then (if bt226.2.2.2 = bt233.2.2.2 then (if bt240.1.toList = bt242.1.toList then (if (bt240.2 == bt242.2) = true then (if bt244.1 = bt246.1 then (if (bt244.2 == bt246.2) = true then ((recfile_Length.f a0 a3).bind fun t249 => ((chainmanref06_Length.f kj4 a0 a3).bind fun t250 => (if t249 = t250 then ((recfile_Sum.f l1).bind fun bt251 => ((chainmanref06_Sum.f kj4 l1).bind fun bt253 => (if (bt251.1 == bt253.1 && (bt251.2 == bt253.2)) = true then ((chainmanlaw06_awake.f kj4).bind fun t255 => (some t255)) else (none)))) else (none)))) else (none)) else (none)) else (none)) else (none)) else (none)) else (none)) else (none))) else (none)) else (none))))))))) = some r := H
        have A11 := Aside0.mk A110
        clear A110
        replace H := Option.bind_eq_some_iff.mp H
        obtain ⟨⟨t224, t225⟩, A120, H⟩ := H
        replace H : ((recfile_Parse.f kj4 a0 a2).bind fun bt226 => ((chainmanref06_Parse.f kj4 a0 a2).bind fun bt233 => ((recfile_PutHead.f a0).bind fun bt240 => ((chainmanref06_PutHead.f kj4 a0).bind fun bt242 => ((recfile_GetHead.f kj4 a2).bind fun bt244 => ((chainmanref06_GetHead.f kj4 a2).bind fun bt246 => (if t222.toList = t224.toList then (if (t223 == t225) = true then ((chainmanref04_SameNames.f kj4 bt226.1 bt233.1).bind fun t248 => (if t248 = true then (if (bt226.2.1 == bt233.2.1 && (bt226.2.2.1 == bt233.2.2.1)) = true then (if bt226.2.2.2 = bt233.2.2.2 then (if bt240.1.toList = bt242.1.toList then (if (bt240.2 == bt242.2) = true then (if bt244.1 = bt246.1 then (if (bt244.2 == bt246.2) = true then ((recfile_Length.f a0 a3).bind fun t249 => ((chainmanref06_Length.f kj4 a0 a3).bind fun t250 => (if t249 = t250 then ((recfile_Sum.f l1).bind fun bt251 => ((chainmanref06_Sum.f kj4 l1).bind fun bt253 => (if (bt251.1 == bt253.1 && (bt251.2 == bt253.2)) = true then ((chainmanlaw06_awake.f kj4).bind fun t255 => (some t255)) else (none)))) else (none)))) else (none)) else (none)) else (none)) else (none)) else (none)) else (none)) else (none))) else (none)) else (none)))))))) = some r := H
        have A12 := Aside0.mk A120
        clear A120
        replace H := Option.bind_eq_some_iff.mp H
        obtain ⟨⟨t226, t229, t230, t231⟩, A130, H⟩ := H
        replace H : ((chainmanref06_Parse.f kj4 a0 a2).bind fun bt233 => ((recfile_PutHead.f a0).bind fun bt240 => ((chainmanref06_PutHead.f kj4 a0).bind fun bt242 => ((recfile_GetHead.f kj4 a2).bind fun bt244 => ((chainmanref06_GetHead.f kj4 a2).bind fun bt246 => (if t222.toList = t224.toList then (if (t223 == t225) = true then ((chainmanref04_SameNames.f kj4 t226 bt233.1).bind fun t248 => (if t248 = true then (if (t229 == bt233.2.1 && (t230 == bt233.2.2.1)) = true then (if t231 = bt233.2.2.2 then (if bt240.1.toList = bt242.1.toList then (if (bt240.2 == bt242.2) = true then (if bt244.1 = bt246.1 then (if (bt244.2 == bt246.2) = true then ((recfile_Length.f a0 a3).bind fun t249 => ((chainmanref06_Length.f kj4 a0 a3).bind fun t250 => (if t249 = t250 then ((recfile_Sum.f l1).bind fun bt251 => ((chainmanref06_Sum.f kj4 l1).bind fun bt253 => (if (bt251.1 == bt253.1 && (bt251.2 == bt253.2)) = true then ((chainmanlaw06_awake.f kj4).bind fun t255 => (some t255)) else (none)))) else (none)))) else (none)) else (none)) else (none)) else (none)) else (none)) else (none)) else (none))) else (none)) else (none))))))) = some r := H
        have A13 := Aside0.mk A130
        clear A130
        replace H := Option.bind_eq_some_iff.mp H
        obtain ⟨⟨t233, t236, t237, t238⟩, A140, H⟩ := H
        replace H : ((recfile_PutHead.f a0).bind fun bt240 => ((chainmanref06_PutHead.f kj4 a0).bind fun bt242 => ((recfile_GetHead.f kj4 a2).bind fun bt244 => ((chainmanref06_GetHead.f kj4 a2).bind fun bt246 => (if t222.toList = t224.toList then (if (t223 == t225) = true then ((chainmanref04_SameNames.f kj4 t226 t233).bind fun t248 => (if t248 = true then (if (t229 == t236 && (t230 == t237)) = true then (if t231 = t238 then (if bt240.1.toList = bt242.1.toList then (if (bt240.2 == bt242.2) = true then (if bt244.1 = bt246.1 then (if (bt244.2 == bt246.2) = true then ((recfile_Length.f a0 a3).bind fun t249 => ((chainmanref06_Length.f kj4 a0 a3).bind fun t250 => (if t249 = t250 then ((recfile_Sum.f l1).bind fun bt251 => ((chainmanref06_Sum.f kj4 l1).bind fun bt253 => (if (bt251.1 == bt253.1 && (bt251.2 == bt253.2)) = true then ((chainmanlaw06_awake.f kj4).bind fun t255 => (some t255)) else (none)))) else (none)))) else (none)) else (none)) else (none)) else (none)) else (none)) else (none)) else (none))) else (none)) else (none)))))) = some r := H
        have A14 := Aside0.mk A140
        clear A140
        replace H := Option.bind_eq_some_iff.mp H
        obtain ⟨⟨t240, t241⟩, A150, H⟩ := H
        replace H : ((chainmanref06_PutHead.f kj4 a0).bind fun bt242 => ((recfile_GetHead.f kj4 a2).bind fun bt244 => ((chainmanref06_GetHead.f kj4 a2).bind fun bt246 => (if t222.toList = t224.toList then (if (t223 == t225) = true then ((chainmanref04_SameNames.f kj4 t226 t233).bind fun t248 => (if t248 = true then (if (t229 == t236 && (t230 == t237)) = true then (if t231 = t238 then (if t240.toList = bt242.1.toList then (if (t241 == bt242.2) = true then (if bt244.1 = bt246.1 then (if (bt244.2 == bt246.2) = true then ((recfile_Length.f a0 a3).bind fun t249 => ((chainmanref06_Length.f kj4 a0 a3).bind fun t250 => (if t249 = t250 then ((recfile_Sum.f l1).bind fun bt251 => ((chainmanref06_Sum.f kj4 l1).bind fun bt253 => (if (bt251.1 == bt253.1 && (bt251.2 == bt253.2)) = true then ((chainmanlaw06_awake.f kj4).bind fun t255 => (some t255)) else (none)))) else (none)))) else (none)) else (none)) else (none)) else (none)) else (none)) else (none)) else (none))) else (none)) else (none))))) = some r := H
        have A15 := Aside0.mk A150
        clear A150
        replace H := Option.bind_eq_some_iff.mp H
        obtain ⟨⟨t242, t243⟩, A160, H⟩ := H
        replace H : ((recfile_GetHead.f kj4 a2).bind fun bt244 => ((chainmanref06_GetHead.f kj4 a2).bind fun bt246 => (if t222.toList = t224.toList then (if (t223 == t225) = true then ((chainmanref04_SameNames.f kj4 t226 t233).bind fun t248 => (if t248 = true then (if (t229 == t236 && (t230 == t237)) = true then (if t231 = t238 then (if t240.toList = t242.toList then (if (t241 == t243) = true then (if bt244.1 = bt246.1 then (if (bt244.2 == bt246.2) = true then ((recfile_Length.f a0 a3).bind fun t249 => ((chainmanref06_Length.f kj4 a0 a3).bind fun t250 => (if t249 = t250 then ((recfile_Sum.f l1).bind fun bt251 => ((chainmanref06_Sum.f kj4 l1).bind fun bt253 => (if (bt251.1 == bt253.1 && (bt251.2 == bt253.2)) = true then ((chainmanlaw06_awake.f kj4).bind fun t255 => (some t255)) else (none)))) else (none)))) else (none)) else (none)) else (none)) else (none)) else (none)) else (none)) else (none))) else (none)) else (none)))) = some r := H
        have A16 := Aside0.mk A160
        clear A160
        replace H := Option.bind_eq_some_iff.mp H
        obtain ⟨⟨t244, t245⟩, A170, H⟩ := H
        replace H : ((chainmanref06_GetHead.f kj4 a2).bind fun bt246 => (if t222.toList = t224.toList then (if (t223 == t225) = true then ((chainmanref04_SameNames.f kj4 t226 t233).bind fun t248 => (if t248 = true then (if (t229 == t236 && (t230 == t237)) = true then (if t231 = t238 then (if t240.toList = t242.toList then (if (t241 == t243) = true then (if t244 = bt246.1 then (if (t245 == bt246.2) = true then ((recfile_Length.f a0 a3).bind fun t249 => ((chainmanref06_Length.f kj4 a0 a3).bind fun t250 => (if t249 = t250 then ((recfile_Sum.f l1).bind fun bt251 => ((chainmanref06_Sum.f kj4 l1).bind fun bt253 => (if (bt251.1 == bt253.1 && (bt251.2 == bt253.2)) = true then ((chainmanlaw06_awake.f kj4).bind fun t255 => (some t255)) else (none)))) else (none)))) else (none)) else (none)) else (none)) else (none)) else (none)) else (none)) else (none))) else (none)) else (none))) = some r := H
        have A17 := Aside0.mk A170
        clear A170
        replace H := Option.bind_eq_some_iff.mp H
        obtain ⟨⟨t246, t247⟩, A180, H⟩ := H
        replace H : (if t222.toList = t224.toList then (if (t223 == t225) = true then ((chainmanref04_SameNames.f kj4 t226 t233).bind fun t248 => (if t248 = true then (if (t229 == t236 && (t230 == t237)) = true then (if t231 = t238 then (if t240.toList = t242.toList then (if (t241 == t243) = true then (if t244 = t246 then (if (t245 == t247) = true then ((recfile_Length.f a0 a3).bind fun t249 => ((chainmanref06_Length.f kj4 a0 a3).bind fun t250 => (if t249 = t250 then ((recfile_Sum.f l1).bind fun bt251 => ((chainmanref06_Sum.f kj4 l1).bind fun bt253 => (if (bt251.1 == bt253.1 && (bt251.2 == bt253.2)) = true then ((chainmanlaw06_awake.f kj4).bind fun t255 => (some t255)) else (none)))) else (none)))) else (none)) else (none)) else (none)) else (none)) else (none)) else (none)) else (none))) else (none)) else (none)) = some r := H
        have A18 := Aside0.mk A180
        clear A180
        by_cases c19 : t222.toList = t224.toList
        · rw [if_pos c19] at H
          have c19b0 : (t222.toList == t224.toList) = true := beq_iff_eq.mpr c19
          have c19b1 : (t222.toList != t224.toList) = false := bne_eq_false_iff_eq.mpr c19
          clear c19
          by_cases c20 : (t223 == t225) = true
          · rw [if_pos c20] at H
            have c20b0 : (t223 == t225) = true := c20
            (try (have c20b1 : decide (t223 = t225) = true := by simpa using c20))
            (try (have c20b2 : (t223 == t225) = true := by simpa using c20))
            clear c20
            replace H := Option.bind_eq_some_iff.mp H
            obtain ⟨t248, A210, H⟩ := H
            replace H : (if t248 = true then (if (t229 == t236 && (t230 == t237)) = true then (if t231 = t238 then (if t240.toList = t242.toList then (if (t241 == t243) = true then (if t244 = t246 then (if (t245 == t247) = true then ((recfile_Length.f a0 a3).bind fun t249 => ((chainmanref06_Length.f kj4 a0 a3).bind fun t250 => (if t249 = t250 then ((recfile_Sum.f l1).bind fun bt251 => ((chainmanref06_Sum.f kj4 l1).bind fun bt253 => (if (bt251.1 == bt253.1 && (bt251.2 == bt253.2)) = true then ((chainmanlaw06_awake.f kj4).bind fun t255 => (some t255)) else (none)))) else (none)))) else (none)) else (none)) else (none)) else (none)) else (none)) else (none)) else (none)) = some r := H
            have A21 := Aside0.mk A210
            clear A210
            by_cases c22 : t248 = true
            · subst c22
              have H1 : (if (t229 == t236 && (t230 == t237)) = true then (if t231 = t238 then (if t240.toList = t242.toList then (if (t241 == t243) = true then (if t244 = t246 then (if (t245 == t247) = true then ((recfile_Length.f a0 a3).bind fun t249 => ((chainmanref06_Length.f kj4 a0 a3).bind fun t250 => (if t249 = t250 then ((recfile_Sum.f l1).bind fun bt251 => ((chainmanref06_Sum.f kj4 l1).bind fun bt253 => (if (bt251.1 == bt253.1 && (bt251.2 == bt253.2)) = true then ((chainmanlaw06_awake.f kj4).bind fun t255 => (some t255)) else (none)))) else (none)))) else (none)) else (none)) else (none)) else (none)) else (none)) else (none)) = some r := by rw [if_pos rfl] at H; exact H
              clear H
              have H := H1
              clear H1
              by_cases c23 : (t229 == t236 && (t230 == t237)) = true
              · rw [if_pos c23] at H
                have c23b0 : (t229 == t236 && (t230 == t237)) = true := c23
                (try (have c23b1 : decide (t229 = t236 && (t230 == t237)) = true := by simpa using c23))
                (try (have c23b2 : (t229 == t236 && (t230 == t237)) = true := by simpa using c23))
                clear c23
                by_cases c24 : t231 = t238
                · rw [if_pos c24] at H
                  have c24b0 : (t231 == t238) = true := beq_iff_eq.mpr c24
                  have c24b1 : (t231 != t238) = false := bne_eq_false_iff_eq.mpr c24
                  clear c24
                  by_cases c25 : t240.toList = t242.toList
                  · rw [if_pos c25] at H
                    have c25b0 : (t240.toList == t242.toList) = true := beq_iff_eq.mpr c25
                    have c25b1 : (t240.toList != t242.toList) = false := bne_eq_false_iff_eq.mpr c25
                    clear c25
                    by_cases c26 : (t241 == t243) = true
                    · rw [if_pos c26] at H
                      have c26b0 : (t241 == t243) = true := c26
                      (try (have c26b1 : decide (t241 = t243) = true := by simpa using c26))
                      (try (have c26b2 : (t241 == t243) = true := by simpa using c26))
                      clear c26
                      by_cases c27 : t244 = t246
                      · rw [if_pos c27] at H
                        have c27b0 : (t244 == t246) = true := beq_iff_eq.mpr c27
                        have c27b1 : (t244 != t246) = false := bne_eq_false_iff_eq.mpr c27
                        clear c27
                        by_cases c28 : (t245 == t247) = true
                        · rw [if_pos c28] at H
                          have c28b0 : (t245 == t247) = true := c28
                          (try (have c28b1 : decide (t245 = t247) = true := by simpa using c28))
                          (try (have c28b2 : (t245 == t247) = true := by simpa using c28))
                          clear c28
                          replace H := Option.bind_eq_some_iff.mp H
                          obtain ⟨t249, A290, H⟩ := H
                          replace H : ((chainmanref06_Length.f kj4 a0 a3).bind fun t250 => (if t249 = t250 then ((recfile_Sum.f l1).bind fun bt251 => ((chainmanref06_Sum.f kj4 l1).bind fun bt253 => (if (bt251.1 == bt253.1 && (bt251.2 == bt253.2)) = true then ((chainmanlaw06_awake.f kj4).bind fun t255 => (some t255)) else (none)))) else (none))) = some r := H
                          have A29 := Aside0.mk A290
                          clear A290
                          replace H := Option.bind_eq_some_iff.mp H
                          obtain ⟨t250, A300, H⟩ := H
                          replace H : (if t249 = t250 then ((recfile_Sum.f l1).bind fun bt251 => ((chainmanref06_Sum.f kj4 l1).bind fun bt253 => (if (bt251.1 == bt253.1 && (bt251.2 == bt253.2)) = true then ((chainmanlaw06_awake.f kj4).bind fun t255 => (some t255)) else (none)))) else (none)) = some r := H
                          have A30 := Aside0.mk A300
                          clear A300
                          by_cases c31 : t249 = t250
                          · rw [if_pos c31] at H
                            have c31b0 : (t249 == t250) = true := beq_iff_eq.mpr c31
                            have c31b1 : (t249 != t250) = false := bne_eq_false_iff_eq.mpr c31
                            clear c31
                            replace H := Option.bind_eq_some_iff.mp H
                            obtain ⟨⟨t251, t252⟩, A320, H⟩ := H
                            replace H : ((chainmanref06_Sum.f kj4 l1).bind fun bt253 => (if (t251 == bt253.1 && (t252 == bt253.2)) = true then ((chainmanlaw06_awake.f kj4).bind fun t255 => (some t255)) else (none))) = some r := H
                            have A32 := Aside0.mk A320
                            clear A320
                            replace H := Option.bind_eq_some_iff.mp H
                            obtain ⟨⟨t253, t254⟩, A330, H⟩ := H
                            replace H : (if (t251 == t253 && (t252 == t254)) = true then ((chainmanlaw06_awake.f kj4).bind fun t255 => (some t255)) else (none)) = some r := H
                            have A33 := Aside0.mk A330
                            clear A330
                            by_cases c34 : (t251 == t253 && (t252 == t254)) = true
                            · rw [if_pos c34] at H
                              have c34b0 : (t251 == t253 && (t252 == t254)) = true := c34
                              (try (have c34b1 : decide (t251 = t253 && (t252 == t254)) = true := by simpa using c34))
                              (try (have c34b2 : (t251 == t253 && (t252 == t254)) = true := by simpa using c34))
                              clear c34
                              replace H := Option.bind_eq_some_iff.mp H
                              obtain ⟨t255, A350, H⟩ := H
                              replace H : (some t255) = some r := H
                              have A35 := Aside0.mk A350
                              clear A350
                              obtain rfl := Option.some.inj H
                              go_wp2_with (first | ((with_reducible refine gate_callee (f := 11) rfl ?_); refine goesL_ (some 39) rfl rfl Try.func11 (by kernel_rfl) rfl #[.int .i64 a0, .slice A1 l1.length c1] rfl (by (try simp only [List.map_toArray, List.map_cons, List.map_nil]); first | done | rfl | (simp only [List.length_drop, List.length_take]; rfl)) ?_; (with_reducible refine (recfile_Lay.calls a0 _ _ l1 t222 t223 _ ?side1 ?side2 A11.out).mono ?_); (case side1 => repeat (first | exact (Kd.C_below HR1.out HB.out) | (with_reducible refine Kd.C_alloc ?_ _) | (with_reducible refine Kd.C_drewN ?_ _) | (with_reducible refine Kd.C_drew ?_))); (case side2 => exact HC1.out); rintro e w36 ⟨rfl, hb⟩; refine ⟨_, rfl, ?_⟩; have n0_ := Aside0.mk (below_step (by repeat (first | (with_reducible first | exact HB.out | apply below_alloc | apply pw_below_drewN | apply below_drew1) | exact HB.out)) hb); clear HB; have HB := n0_; clear n0_; (try clear hb); (try clear hb2); (try clear hk); (try clear hi)) | ((with_reducible refine gate_callee (f := 12) rfl ?_); refine goesL_ (some 45) rfl rfl Try.func12 (by kernel_rfl) rfl #[.int .i64 a0, .slice A1 l1.length c1] rfl (by (try simp only [List.map_toArray, List.map_cons, List.map_nil]); first | done | rfl | (simp only [List.length_drop, List.length_take]; rfl)) ?_; (with_reducible refine (chainmanref06_Lay.calls kj4 a0 _ _ l1 t224 t225 _ ?side1 ?side2 A12.out).mono ?_); (case side1 => repeat (first | exact (Kd.C_below HR1.out HB.out) | (with_reducible refine Kd.C_alloc ?_ _) | (with_reducible refine Kd.C_drewN ?_ _) | (with_reducible refine Kd.C_drew ?_))); (case side2 => exact HC1.out); rintro e w37 ⟨rfl, hb⟩; refine ⟨_, rfl, ?_⟩; have n0_ := Aside0.mk (below_step (by repeat (first | (with_reducible first | exact HB.out | apply below_alloc | apply pw_below_drewN | apply below_drew1) | exact HB.out)) hb); clear HB; have HB := n0_; clear n0_; (try clear hb); (try clear hb2); (try clear hk); (try clear hi)) | ((with_reducible refine gate_callee (f := 13) rfl ?_); refine goesL_ (some 51) rfl rfl Try.func13 (by kernel_rfl) rfl #[.int .i64 a0, .string a2] rfl (by (try simp only [List.map_toArray, List.map_cons, List.map_nil]); first | done | rfl | (simp only [List.length_drop, List.length_take]; rfl)) ?_; (with_reducible refine (recfile_Parse.calls kj4 a0 a2 t226 t229 t230 t231 _ A13.out).mono ?_); rintro e w38 ⟨v227, rfl, ho0, hb⟩; refine ⟨_, rfl, ?_⟩; have n0_ := Aside0.mk (Kd.R_lower ho0 (below_size (by repeat (first | (with_reducible first | exact HB.out | apply below_alloc | apply pw_below_drewN | apply below_drew1) | exact HB.out)))); have n1_ := Aside0.mk (below_step (by repeat (first | (with_reducible first | exact HB.out | apply below_alloc | apply pw_below_drewN | apply below_drew1) | exact HB.out)) hb); clear HB; have HO228 := n0_; have HB := n1_; clear n0_ n1_; (try clear hb); (try clear hb2); (try clear hk); (try clear hi); (try clear ho0)) | ((with_reducible refine gate_dst (N := 14) rfl ?_); (try (refine gate_guard (by rfl) ?_; dsimp only)); refine box_event ?hg (N := 14) ?hd (cs := #[.int .i64 0, .int .u32 0]) (t := 29) ?hr ?_; (case hd => rfl); (case hg => rfl); (case hr => first | (go_simp; done) | (go_simp; rfl)); intro gb232 hg w39 hbox hb; have n0_ := Aside0.mk (Kd.R_below (by (with_reducible repeat (first | apply Kd.R_alloc | apply Kd.R_drewN | apply Kd.R_drew)); exact HO228.out) hb); have n1_ := Aside0.mk (below_step (by repeat (first | (with_reducible first | exact HB.out | apply below_alloc | apply pw_below_drewN | apply below_drew1) | exact HB.out)) hb); have n2_ := Aside0.mk (hbox); have n3_ := Aside0.mk ((by rw [hg]; exact (below_size (by repeat (first | (with_reducible first | exact HB.out | apply below_alloc | apply pw_below_drewN | apply below_drew1) | exact HB.out))) : w.heap.size ≤ gb232)); have n4_ := Aside0.mk ((by rw [hg]; exact (below_size (by repeat (first | (with_reducible first | exact HB.out | apply below_alloc | apply pw_below_drewN | apply below_drew1) | exact HB.out))) : w.heap.size ≤ gb232)); clear HO228; clear HB; have HO228 := n0_; have HB := n1_; have BK232 := n2_; have GW232 := n3_; have GE232 := n4_; clear n0_ n1_ n2_ n3_ n4_; clear hb hbox hg; have hcz40_0 : w39.cell? ⟨gb232, 0, none⟩ = some (.int .i64 0) := (blk_cell BK232.out 0).trans rfl; have hcz40_1 : w39.cell? ⟨gb232, 1, none⟩ = some (.int .u32 0) := (blk_cell BK232.out 1).trans rfl; have hfz40_0 := blk_frozen BK232.out 0; have hfz40_1 := blk_frozen BK232.out 1) | ((with_reducible refine gate_callee (f := 14) rfl ?_); refine goesL_ (some 58) rfl rfl Try.func14 (by kernel_rfl) rfl #[.int .i64 a0, .string a2] rfl (by (try simp only [List.map_toArray, List.map_cons, List.map_nil]); first | done | rfl | (simp only [List.length_drop, List.length_take]; rfl)) ?_; (with_reducible refine (chainmanref06_Parse.calls kj4 a0 a2 t233 t236 t237 t238 _ A14.out).mono ?_); rintro e w41 ⟨v234, rfl, ho0, hb⟩; refine ⟨_, rfl, ?_⟩; have n0_ := Aside0.mk (Kd.R_elder' (by (with_reducible repeat (first | apply Kd.R_alloc | apply Kd.R_drewN | apply Kd.R_drew)); exact (Kd.R_mono (Kd.R_far (p := ⟨gb232, 1, none⟩) (Kd.R_far (p := ⟨gb232, 0, none⟩) (Kd.R_types HO228.out BK232.out (by decide)) (fun _ hk => hk.2) (.int .i64 t229)) (fun _ hk => hk.2) (.int .u32 t230)) (fun _ h_ => h_.1))) (Kd.R_base ho0) hb); have n1_ := Aside0.mk (Kd.R_lower (Kd.R_new' ho0 (Kd.R_lt (by (with_reducible repeat (first | apply Kd.R_alloc | apply Kd.R_drewN | apply Kd.R_drew)); exact (Kd.R_mono (Kd.R_far (p := ⟨gb232, 1, none⟩) (Kd.R_far (p := ⟨gb232, 0, none⟩) (Kd.R_types HO228.out BK232.out (by decide)) (fun _ hk => hk.2) (.int .i64 t229)) (fun _ hk => hk.2) (.int .u32 t230)) (fun _ h_ => h_.1))))) (below_size (by repeat (first | (with_reducible first | exact HB.out | apply below_alloc | apply pw_below_drewN | apply below_drew1 | refine below_set ?_ GE232.out) | exact HB.out)))); have n2_ := Aside0.mk (blk_below (g := gb232) (o := .cells #[.int .i64 t229, .int .u32 t230] 29 (0, 0)) (by (with_reducible repeat (first | refine blk_drewN ?_ _ | refine blk_drew ?_ | refine blk_alloc ?_ _)); refine blk_put (cs := #[.int .i64 t229, .int .u32 0]) ?_ 1 _ rfl; (with_reducible repeat (first | refine blk_drewN ?_ _ | refine blk_drew ?_ | refine blk_alloc ?_ _)); refine blk_put (cs := #[.int .i64 0, .int .u32 0]) ?_ 0 _ rfl; (with_reducible repeat (first | refine blk_drewN ?_ _ | refine blk_drew ?_ | refine blk_alloc ?_ _)); exact BK232.out) hb); have n3_ := Aside0.mk (below_step (by repeat (first | (with_reducible first | exact HB.out | apply below_alloc | apply pw_below_drewN | apply below_drew1 | refine below_set ?_ GE232.out) | exact HB.out)) hb); clear HO228; clear BK232; clear HB; have HO228 := n0_; have HO235 := n1_; have BK232 := n2_; have HB := n3_; clear n0_ n1_ n2_ n3_; (try clear hb); (try clear hb2); (try clear hk); (try clear hi); (try clear ho0)) | ((with_reducible refine gate_dst (N := 17) rfl ?_); (try (refine gate_guard (by rfl) ?_; dsimp only)); refine box_event ?hg (N := 17) ?hd (cs := #[.int .i64 0, .int .u32 0]) (t := 29) ?hr ?_; (case hd => rfl); (case hg => rfl); (case hr => first | (go_simp; done) | (go_simp; rfl)); intro gb239 hg w42 hbox hb; have n0_ := Aside0.mk (Kd.R_below (by (with_reducible repeat (first | apply Kd.R_alloc | apply Kd.R_drewN | apply Kd.R_drew)); exact HO228.out) hb); have n1_ := Aside0.mk (Kd.R_below (by (with_reducible repeat (first | apply Kd.R_alloc | apply Kd.R_drewN | apply Kd.R_drew)); exact HO235.out) hb); have n2_ := Aside0.mk (blk_below (g := gb232) (o := .cells #[.int .i64 t229, .int .u32 t230] 29 (0, 0)) (by (with_reducible repeat (first | refine blk_drewN ?_ _ | refine blk_drew ?_ | refine blk_alloc ?_ _)); exact BK232.out) hb); have n3_ := Aside0.mk (below_step (by repeat (first | (with_reducible first | exact HB.out | apply below_alloc | apply pw_below_drewN | apply below_drew1 | refine below_set ?_ GE232.out) | exact HB.out)) hb); have n4_ := Aside0.mk (hbox); have n5_ := Aside0.mk ((by rw [hg]; exact (below_size (by repeat (first | (with_reducible first | exact HB.out | apply below_alloc | apply pw_below_drewN | apply below_drew1 | refine below_set ?_ GE232.out) | exact HB.out))) : w.heap.size ≤ gb239)); have n6_ := Aside0.mk ((by rw [hg]; exact (below_size (by repeat (first | (with_reducible first | exact HB.out | apply below_alloc | apply pw_below_drewN | apply below_drew1 | refine below_set ?_ GE232.out) | exact HB.out))) : w.heap.size ≤ gb239)); have n7_ := Aside0.mk ((by rw [hg]; exact Nat.ne_of_lt (blk_lt (g := gb232) (o := .cells #[.int .i64 t229, .int .u32 t230] 29 (0, 0)) (by (with_reducible repeat (first | refine blk_drewN ?_ _ | refine blk_drew ?_ | refine blk_alloc ?_ _)); exact BK232.out)) : gb232 ≠ gb239)); have n8_ := Aside0.mk ((by rw [hg]; exact Nat.ne_of_gt (blk_lt (g := gb232) (o := .cells #[.int .i64 t229, .int .u32 t230] 29 (0, 0)) (by (with_reducible repeat (first | refine blk_drewN ?_ _ | refine blk_drew ?_ | refine blk_alloc ?_ _)); exact BK232.out)) : gb239 ≠ gb232)); clear HO228; clear HO235; clear BK232; clear HB; have HO228 := n0_; have HO235 := n1_; have BK232 := n2_; have HB := n3_; have BK239 := n4_; have GW239 := n5_; have GE239 := n6_; have NB232_239 := n7_; have NB239_232 := n8_; clear n0_ n1_ n2_ n3_ n4_ n5_ n6_ n7_ n8_; clear hb hbox hg; have hnb43 := NB239_232.out; have hnc43 := NB232_239.out; have hcz44_0 : w42.cell? ⟨gb239, 0, none⟩ = some (.int .i64 0) := (blk_cell BK239.out 0).trans rfl; have hcz44_1 : w42.cell? ⟨gb239, 1, none⟩ = some (.int .u32 0) := (blk_cell BK239.out 1).trans rfl; have hfz44_0 := blk_frozen BK239.out 0; have hfz44_1 := blk_frozen BK239.out 1) | ((with_reducible refine gate_callee (f := 15) rfl ?_); refine goesL_ (some 64) rfl rfl Try.func15 (by kernel_rfl) rfl #[.int .i64 a0] rfl (by (try simp only [List.map_toArray, List.map_cons, List.map_nil]); first | done | rfl | (simp only [List.length_drop, List.length_take]; rfl)) ?_; (with_reducible refine (recfile_PutHead.calls a0 t240 t241 _ A15.out).mono ?_); rintro e w45 ⟨rfl, hb⟩; refine ⟨_, rfl, ?_⟩; have n0_ := Aside0.mk (Kd.R_below (by (with_reducible repeat (first | apply Kd.R_alloc | apply Kd.R_drewN | apply Kd.R_drew)); exact (Kd.R_mono (Kd.R_far (p := ⟨gb239, 1, none⟩) (Kd.R_far (p := ⟨gb239, 0, none⟩) (Kd.R_types HO228.out BK239.out (by decide)) (fun _ hk => hk.2) (.int .i64 t236)) (fun _ hk => hk.2) (.int .u32 t237)) (fun _ h_ => h_.1))) hb); have n1_ := Aside0.mk (Kd.R_below (by (with_reducible repeat (first | apply Kd.R_alloc | apply Kd.R_drewN | apply Kd.R_drew)); exact (Kd.R_mono (Kd.R_far (p := ⟨gb239, 1, none⟩) (Kd.R_far (p := ⟨gb239, 0, none⟩) (Kd.R_types HO235.out BK239.out (by decide)) (fun _ hk => hk.2) (.int .i64 t236)) (fun _ hk => hk.2) (.int .u32 t237)) (fun _ h_ => h_.1))) hb); have n2_ := Aside0.mk (blk_below (g := gb232) (o := .cells #[.int .i64 t229, .int .u32 t230] 29 (0, 0)) (by (with_reducible repeat (first | refine blk_drewN ?_ _ | refine blk_drew ?_ | refine blk_alloc ?_ _)); refine blk_far ?_ NB232_239.out _; (with_reducible repeat (first | refine blk_drewN ?_ _ | refine blk_drew ?_ | refine blk_alloc ?_ _)); refine blk_far ?_ NB232_239.out _; (with_reducible repeat (first | refine blk_drewN ?_ _ | refine blk_drew ?_ | refine blk_alloc ?_ _)); exact BK232.out) hb); have n3_ := Aside0.mk (blk_below (g := gb239) (o := .cells #[.int .i64 t236, .int .u32 t237] 29 (0, 0)) (by (with_reducible repeat (first | refine blk_drewN ?_ _ | refine blk_drew ?_ | refine blk_alloc ?_ _)); refine blk_put (cs := #[.int .i64 t236, .int .u32 0]) ?_ 1 _ rfl; (with_reducible repeat (first | refine blk_drewN ?_ _ | refine blk_drew ?_ | refine blk_alloc ?_ _)); refine blk_put (cs := #[.int .i64 0, .int .u32 0]) ?_ 0 _ rfl; (with_reducible repeat (first | refine blk_drewN ?_ _ | refine blk_drew ?_ | refine blk_alloc ?_ _)); exact BK239.out) hb); have n4_ := Aside0.mk (below_step (by repeat (first | (with_reducible first | exact HB.out | apply below_alloc | apply pw_below_drewN | apply below_drew1 | refine below_set ?_ GE232.out | refine below_set ?_ GE239.out) | exact HB.out)) hb); clear HO228; clear HO235; clear BK232; clear BK239; clear HB; have HO228 := n0_; have HO235 := n1_; have BK232 := n2_; have BK239 := n3_; have HB := n4_; clear n0_ n1_ n2_ n3_ n4_; (try clear hb); (try clear hb2); (try clear hk); (try clear hi)) | ((with_reducible refine gate_callee (f := 16) rfl ?_); refine goesL_ (some 69) rfl rfl Try.func16 (by kernel_rfl) rfl #[.int .i64 a0] rfl (by (try simp only [List.map_toArray, List.map_cons, List.map_nil]); first | done | rfl | (simp only [List.length_drop, List.length_take]; rfl)) ?_; (with_reducible refine (chainmanref06_PutHead.calls kj4 a0 t242 t243 _ A16.out).mono ?_); rintro e w46 ⟨rfl, hb⟩; refine ⟨_, rfl, ?_⟩; have n0_ := Aside0.mk (Kd.R_below (by (with_reducible repeat (first | apply Kd.R_alloc | apply Kd.R_drewN | apply Kd.R_drew)); exact HO228.out) hb); have n1_ := Aside0.mk (Kd.R_below (by (with_reducible repeat (first | apply Kd.R_alloc | apply Kd.R_drewN | apply Kd.R_drew)); exact HO235.out) hb); have n2_ := Aside0.mk (blk_below (g := gb232) (o := .cells #[.int .i64 t229, .int .u32 t230] 29 (0, 0)) (by (with_reducible repeat (first | refine blk_drewN ?_ _ | refine blk_drew ?_ | refine blk_alloc ?_ _)); exact BK232.out) hb); have n3_ := Aside0.mk (blk_below (g := gb239) (o := .cells #[.int .i64 t236, .int .u32 t237] 29 (0, 0)) (by (with_reducible repeat (first | refine blk_drewN ?_ _ | refine blk_drew ?_ | refine blk_alloc ?_ _)); exact BK239.out) hb); have n4_ := Aside0.mk (below_step (by repeat (first | (with_reducible first | exact HB.out | apply below_alloc | apply pw_below_drewN | apply below_drew1 | refine below_set ?_ GE232.out | refine below_set ?_ GE239.out) | exact HB.out)) hb); clear HO228; clear HO235; clear BK232; clear BK239; clear HB; have HO228 := n0_; have HO235 := n1_; have BK232 := n2_; have BK239 := n3_; have HB := n4_; clear n0_ n1_ n2_ n3_ n4_; (try clear hb); (try clear hb2); (try clear hk); (try clear hi)) | ((with_reducible refine gate_callee (f := 17) rfl ?_); refine goesL_ (some 74) rfl rfl Try.func17 (by kernel_rfl) rfl #[.string a2] rfl (by (try simp only [List.map_toArray, List.map_cons, List.map_nil]); first | done | rfl | (simp only [List.length_drop, List.length_take]; rfl)) ?_; (with_reducible refine (recfile_GetHead.calls kj4 a2 t244 t245 _ A17.out).mono ?_); rintro e w47 ⟨rfl, hb⟩; refine ⟨_, rfl, ?_⟩; have n0_ := Aside0.mk (Kd.R_below (by (with_reducible repeat (first | apply Kd.R_alloc | apply Kd.R_drewN | apply Kd.R_drew)); exact HO228.out) hb); have n1_ := Aside0.mk (Kd.R_below (by (with_reducible repeat (first | apply Kd.R_alloc | apply Kd.R_drewN | apply Kd.R_drew)); exact HO235.out) hb); have n2_ := Aside0.mk (blk_below (g := gb232) (o := .cells #[.int .i64 t229, .int .u32 t230] 29 (0, 0)) (by (with_reducible repeat (first | refine blk_drewN ?_ _ | refine blk_drew ?_ | refine blk_alloc ?_ _)); exact BK232.out) hb); have n3_ := Aside0.mk (blk_below (g := gb239) (o := .cells #[.int .i64 t236, .int .u32 t237] 29 (0, 0)) (by (with_reducible repeat (first | refine blk_drewN ?_ _ | refine blk_drew ?_ | refine blk_alloc ?_ _)); exact BK239.out) hb); have n4_ := Aside0.mk (below_step (by repeat (first | (with_reducible first | exact HB.out | apply below_alloc | apply pw_below_drewN | apply below_drew1 | refine below_set ?_ GE232.out | refine below_set ?_ GE239.out) | exact HB.out)) hb); clear HO228; clear HO235; clear BK232; clear BK239; clear HB; have HO228 := n0_; have HO235 := n1_; have BK232 := n2_; have BK239 := n3_; have HB := n4_; clear n0_ n1_ n2_ n3_ n4_; (try clear hb); (try clear hb2); (try clear hk); (try clear hi)) | ((with_reducible refine gate_callee (f := 18) rfl ?_); refine goesL_ (some 79) rfl rfl Try.func18 (by kernel_rfl) rfl #[.string a2] rfl (by (try simp only [List.map_toArray, List.map_cons, List.map_nil]); first | done | rfl | (simp only [List.length_drop, List.length_take]; rfl)) ?_; (with_reducible refine (chainmanref06_GetHead.calls kj4 a2 t246 t247 _ A18.out).mono ?_); rintro e w48 ⟨rfl, hb⟩; refine ⟨_, rfl, ?_⟩; have n0_ := Aside0.mk (Kd.R_below (by (with_reducible repeat (first | apply Kd.R_alloc | apply Kd.R_drewN | apply Kd.R_drew)); exact HO228.out) hb); have n1_ := Aside0.mk (Kd.R_below (by (with_reducible repeat (first | apply Kd.R_alloc | apply Kd.R_drewN | apply Kd.R_drew)); exact HO235.out) hb); have n2_ := Aside0.mk (blk_below (g := gb232) (o := .cells #[.int .i64 t229, .int .u32 t230] 29 (0, 0)) (by (with_reducible repeat (first | refine blk_drewN ?_ _ | refine blk_drew ?_ | refine blk_alloc ?_ _)); exact BK232.out) hb); have n3_ := Aside0.mk (blk_below (g := gb239) (o := .cells #[.int .i64 t236, .int .u32 t237] 29 (0, 0)) (by (with_reducible repeat (first | refine blk_drewN ?_ _ | refine blk_drew ?_ | refine blk_alloc ?_ _)); exact BK239.out) hb); have n4_ := Aside0.mk (below_step (by repeat (first | (with_reducible first | exact HB.out | apply below_alloc | apply pw_below_drewN | apply below_drew1 | refine below_set ?_ GE232.out | refine below_set ?_ GE239.out) | exact HB.out)) hb); clear HO228; clear HO235; clear BK232; clear BK239; clear HB; have HO228 := n0_; have HO235 := n1_; have BK232 := n2_; have BK239 := n3_; have HB := n4_; clear n0_ n1_ n2_ n3_ n4_; (try clear hb); (try clear hb2); (try clear hk); (try clear hi); obtain ⟨Ao49, co49, eo49⟩ := Kd.R_slice HO228.out; subst eo49; obtain ⟨Ao50, co50, eo50⟩ := Kd.R_slice HO235.out; subst eo50) | (go_at_call 19; (with_reducible refine (chainmanref04_SameNames.calls kj4 _ _ t226 _ _ t233 true _ ?side1 ?side2 ?side3 ?side4 A21.out).mono ?_); (case side1 => repeat (first | exact (Kd.R_reads' HO228.out).2.2 | (with_reducible refine Kd.C_alloc ?_ _) | (with_reducible refine Kd.C_drewN ?_ _) | (with_reducible refine Kd.C_drew ?_))); (case side2 => exact (Kd.R_reads' HO228.out).2.1); (case side3 => repeat (first | exact (Kd.R_reads' HO235.out).2.2 | (with_reducible refine Kd.C_alloc ?_ _) | (with_reducible refine Kd.C_drewN ?_ _) | (with_reducible refine Kd.C_drew ?_))); (case side4 => exact (Kd.R_reads' HO235.out).2.1); rintro e w' ⟨rfl, ⟨nd, rfl⟩⟩; have hcz51_0 : w48.cell? ⟨gb232, 0, none⟩ = some (.int .i64 t229) := (blk_cell BK232.out 0).trans rfl; have hcz51_1 : w48.cell? ⟨gb232, 1, none⟩ = some (.int .u32 t230) := (blk_cell BK232.out 1).trans rfl; have hfz51_0 := blk_frozen BK232.out 0; have hfz51_1 := blk_frozen BK232.out 1; have hcz52_0 : w48.cell? ⟨gb239, 0, none⟩ = some (.int .i64 t236) := (blk_cell BK239.out 0).trans rfl; have hcz52_1 : w48.cell? ⟨gb239, 1, none⟩ = some (.int .u32 t237) := (blk_cell BK239.out 1).trans rfl; have hfz52_0 := blk_frozen BK239.out 0; have hfz52_1 := blk_frozen BK239.out 1) | (go_at_call 19; refine calls_of_args (args' := #[.slice Ao49 t226.length co49, .slice Ao50 t233.length co50]) (by first | rfl) ?_; (with_reducible refine (chainmanref04_SameNames.calls kj4 _ _ t226 _ _ t233 true _ ?side1 ?side2 ?side3 ?side4 A21.out).mono ?_); (case side1 => repeat (first | exact (Kd.R_reads' HO228.out).2.2 | (with_reducible refine Kd.C_alloc ?_ _) | (with_reducible refine Kd.C_drewN ?_ _) | (with_reducible refine Kd.C_drew ?_))); (case side2 => exact (Kd.R_reads' HO228.out).2.1); (case side3 => repeat (first | exact (Kd.R_reads' HO235.out).2.2 | (with_reducible refine Kd.C_alloc ?_ _) | (with_reducible refine Kd.C_drewN ?_ _) | (with_reducible refine Kd.C_drew ?_))); (case side4 => exact (Kd.R_reads' HO235.out).2.1); rintro e w' ⟨rfl, ⟨nd, rfl⟩⟩) | (go_at_call 20; (with_reducible refine (recfile_Length.calls a0 a3 t249 _ A29.out).mono ?_); rintro e w' ⟨rfl, ⟨nd, rfl⟩⟩) | (go_at_call 20; refine calls_of_args (args' := #[.int .i64 a0, .int .i64 a3]) (by first | rfl) ?_; (with_reducible refine (recfile_Length.calls a0 a3 t249 _ A29.out).mono ?_); rintro e w' ⟨rfl, ⟨nd, rfl⟩⟩) | (go_at_call 21; (with_reducible refine (chainmanref06_Length.calls kj4 a0 a3 t250 _ A30.out).mono ?_); rintro e w' ⟨rfl, ⟨nd, rfl⟩⟩) | (go_at_call 21; refine calls_of_args (args' := #[.int .i64 a0, .int .i64 a3]) (by first | rfl) ?_; (with_reducible refine (chainmanref06_Length.calls kj4 a0 a3 t250 _ A30.out).mono ?_); rintro e w' ⟨rfl, ⟨nd, rfl⟩⟩) | (go_at_call 22; (with_reducible refine (recfile_Sum.calls _ _ l1 t251 t252 _ ?side1 ?side2 A32.out).mono ?_); (case side1 => repeat (first | exact (Kd.C_below HR1.out (by repeat (first | (with_reducible first | exact HB.out | apply below_alloc | apply pw_below_drewN | apply below_drew1 | refine below_set ?_ GE232.out | refine below_set ?_ GE239.out) | exact HB.out))) | (with_reducible refine Kd.C_alloc ?_ _) | (with_reducible refine Kd.C_drewN ?_ _) | (with_reducible refine Kd.C_drew ?_))); (case side2 => exact HC1.out); rintro e w53 ⟨rfl, hb⟩; have n0_ := Aside0.mk (Kd.R_below (by (with_reducible repeat (first | apply Kd.R_alloc | apply Kd.R_drewN | apply Kd.R_drew)); exact HO228.out) hb); have n1_ := Aside0.mk (Kd.R_below (by (with_reducible repeat (first | apply Kd.R_alloc | apply Kd.R_drewN | apply Kd.R_drew)); exact HO235.out) hb); have n2_ := Aside0.mk (blk_below (g := gb232) (o := .cells #[.int .i64 t229, .int .u32 t230] 29 (0, 0)) (by (with_reducible repeat (first | refine blk_drewN ?_ _ | refine blk_drew ?_ | refine blk_alloc ?_ _)); exact BK232.out) hb); have n3_ := Aside0.mk (blk_below (g := gb239) (o := .cells #[.int .i64 t236, .int .u32 t237] 29 (0, 0)) (by (with_reducible repeat (first | refine blk_drewN ?_ _ | refine blk_drew ?_ | refine blk_alloc ?_ _)); exact BK239.out) hb); have n4_ := Aside0.mk (below_step (by repeat (first | (with_reducible first | exact HB.out | apply below_alloc | apply pw_below_drewN | apply below_drew1 | refine below_set ?_ GE232.out | refine below_set ?_ GE239.out) | exact HB.out)) hb); clear HO228; clear HO235; clear BK232; clear BK239; clear HB; have HO228 := n0_; have HO235 := n1_; have BK232 := n2_; have BK239 := n3_; have HB := n4_; clear n0_ n1_ n2_ n3_ n4_; (try clear hb); (try clear hb2); (try clear hk); (try clear hi)) | (go_at_call 23; (with_reducible refine (chainmanref06_Sum.calls kj4 _ _ l1 t253 t254 _ ?side1 ?side2 A33.out).mono ?_); (case side1 => repeat (first | exact (Kd.C_below HR1.out HB.out) | (with_reducible refine Kd.C_alloc ?_ _) | (with_reducible refine Kd.C_drewN ?_ _) | (with_reducible refine Kd.C_drew ?_))); (case side2 => exact HC1.out); rintro e w54 ⟨rfl, hb⟩; have n0_ := Aside0.mk (Kd.R_below (by (with_reducible repeat (first | apply Kd.R_alloc | apply Kd.R_drewN | apply Kd.R_drew)); exact HO228.out) hb); have n1_ := Aside0.mk (Kd.R_below (by (with_reducible repeat (first | apply Kd.R_alloc | apply Kd.R_drewN | apply Kd.R_drew)); exact HO235.out) hb); have n2_ := Aside0.mk (blk_below (g := gb232) (o := .cells #[.int .i64 t229, .int .u32 t230] 29 (0, 0)) (by (with_reducible repeat (first | refine blk_drewN ?_ _ | refine blk_drew ?_ | refine blk_alloc ?_ _)); exact BK232.out) hb); have n3_ := Aside0.mk (blk_below (g := gb239) (o := .cells #[.int .i64 t236, .int .u32 t237] 29 (0, 0)) (by (with_reducible repeat (first | refine blk_drewN ?_ _ | refine blk_drew ?_ | refine blk_alloc ?_ _)); exact BK239.out) hb); have n4_ := Aside0.mk (below_step (by repeat (first | (with_reducible first | exact HB.out | apply below_alloc | apply pw_below_drewN | apply below_drew1 | refine below_set ?_ GE232.out | refine below_set ?_ GE239.out) | exact HB.out)) hb); clear HO228; clear HO235; clear BK232; clear BK239; clear HB; have HO228 := n0_; have HO235 := n1_; have BK232 := n2_; have BK239 := n3_; have HB := n4_; clear n0_ n1_ n2_ n3_ n4_; (try clear hb); (try clear hb2); (try clear hk); (try clear hi)) | (go_at_call 10; (with_reducible refine (chainmanlaw06_awake.calls kj4  t255 _ A35.out).mono ?_); rintro e w55 ⟨rfl, hb⟩; have n0_ := Aside0.mk (Kd.R_below (by (with_reducible repeat (first | apply Kd.R_alloc | apply Kd.R_drewN | apply Kd.R_drew)); exact HO228.out) hb); have n1_ := Aside0.mk (Kd.R_below (by (with_reducible repeat (first | apply Kd.R_alloc | apply Kd.R_drewN | apply Kd.R_drew)); exact HO235.out) hb); have n2_ := Aside0.mk (blk_below (g := gb232) (o := .cells #[.int .i64 t229, .int .u32 t230] 29 (0, 0)) (by (with_reducible repeat (first | refine blk_drewN ?_ _ | refine blk_drew ?_ | refine blk_alloc ?_ _)); exact BK232.out) hb); have n3_ := Aside0.mk (blk_below (g := gb239) (o := .cells #[.int .i64 t236, .int .u32 t237] 29 (0, 0)) (by (with_reducible repeat (first | refine blk_drewN ?_ _ | refine blk_drew ?_ | refine blk_alloc ?_ _)); exact BK239.out) hb); have n4_ := Aside0.mk (below_step (by repeat (first | (with_reducible first | exact HB.out | apply below_alloc | apply pw_below_drewN | apply below_drew1 | refine below_set ?_ GE232.out | refine below_set ?_ GE239.out) | exact HB.out)) hb); clear HO228; clear HO235; clear BK232; clear BK239; clear HB; have HO228 := n0_; have HO235 := n1_; have BK232 := n2_; have BK239 := n3_; have HB := n4_; clear n0_ n1_ n2_ n3_ n4_; (try clear hb); (try clear hb2); (try clear hk); (try clear hi)))
                              go_ret
                              exact ⟨by first | rfl | (simp [errW_none, errW_some] <;> rfl) | (simp [*, errW_none, errW_some] <;> rfl), by repeat (first | (with_reducible first | exact HB.out | apply below_alloc | apply pw_below_drewN | apply below_drew1 | refine below_set ?_ GE232.out | refine below_set ?_ GE239.out) | exact HB.out)⟩
                            · rw [if_neg c34] at H
                              exact absurd H (by simp)
                          · rw [if_neg c31] at H
                            exact absurd H (by simp)
                        · rw [if_neg c28] at H
                          exact absurd H (by simp)
                      · rw [if_neg c27] at H
                        exact absurd H (by simp)
                    · rw [if_neg c26] at H
                      exact absurd H (by simp)
                  · rw [if_neg c25] at H
                    exact absurd H (by simp)
                · rw [if_neg c24] at H
                  exact absurd H (by simp)
              · rw [if_neg c23] at H
                exact absurd H (by simp)
            · replace c22 := Bool.eq_false_iff.mpr c22
              subst c22
              have H1 : (none) = some r := by rw [if_neg (show ¬ (false = true) by decide)] at H; exact H
              clear H
              have H := H1
              clear H1
              exact absurd H (by simp)
          · rw [if_neg c20] at H
            exact absurd H (by simp)
        · rw [if_neg c19] at H
          exact absurd H (by simp)

/-- THE ONE PURE STATEMENT of chainmanlaw06_RecfileTells. -/
def chainmanlaw06_RecfileTells.Pure : Prop := ∀ (a0 : Int) (l1 : List ByteArray) (a2 : ByteArray) (a3 : Int), (Lit.int .i64 a0).wf = true → (l1.length ≤ maxLen ∧ ∀ y0_ ∈ l1, y0_.size ≤ maxLen) → a2.size ≤ 140737488351232 → (Lit.int .i64 a3).wf = true → ∃ k, chainmanlaw06_RecfileTells.f k a0 l1 a2 a3 = some true
theorem chainmanlaw06_RecfileTells.walk (P : chainmanlaw06_RecfileTells.Pure) (a0 : Int) (A1 : Option Addr) (c1 : Nat) (l1 : List ByteArray) (a2 : ByteArray) (a3 : Int) (w : World) (w0 : (Lit.int .i64 a0).wf = true) (hr1 : Kd.C Kd.string w A1 l1.length l1) (hc1 : l1.length ≤ c1) (w1 : (l1.length ≤ maxLen ∧ ∀ y0_ ∈ l1, y0_.size ≤ maxLen)) (w2 : a2.size ≤ 140737488351232) (w3 : (Lit.int .i64 a3).wf = true) :
    Calls Try.prog 3 #[.int .i64 a0, .slice A1 l1.length c1, .string a2, .int .i64 a3] w fun e w' => e = .returned (.bool true) ∧ Below w.heap.size w w' := by
  obtain ⟨k, h⟩ := P a0 l1 a2 a3 w0 w1 w2 w3
  refine (chainmanlaw06_RecfileTells.calls k a0 _ _ l1 a2 a3 true w  hr1 hc1   h).mono ?_
  rintro e w' ⟨rfl, hd⟩
  exact ⟨rfl, hd⟩


end Go.Proofs.Ytahkkgnicgbncaa.PRecfileTells
