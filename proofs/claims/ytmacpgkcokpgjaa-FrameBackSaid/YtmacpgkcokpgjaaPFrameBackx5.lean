/- The Go functions that the law reaches, as plain Lean functions, and proofs that the calls of the machine come to them, or the row of the law over them, for every input that the row speaks of; written by a program of this session (wip/tool/mkprint.py) out of the translation and of hand-made templates. -/
import Derived.Test.YtmacpgkcokpgjaaPFrameBackx0
import Derived.Test.YtmacpgkcokpgjaaPFrameBackx1
import Derived.Test.YtmacpgkcokpgjaaPFrameBackx2
import Derived.Test.YtmacpgkcokpgjaaPFrameBackx3
import Derived.Test.YtmacpgkcokpgjaaPFrameBackx4
namespace Go.Proofs.Ytmacpgkcokpgjaa.PFrameBack
open Go.RowKit Go.Proofs.YtmacpgkcokpgjaaW.PrintWords Go.Proofs.YtmacpgkcokpgjaaW.PrintLast Go.Proofs.YtmacpgkcokpgjaaW.PrintMore
attribute [local go_sem] max2_int min2_int max_two min_two max_three min_three max_four min_four   -- for this text's walks alone
set_option linter.unusedVariables false
set_option linter.unusedSimpArgs false

attribute [local go_sem high] eqA46
/-! ### chainmanlaw05_FrameBack: function 6 -/
mutual
def chainmanlaw05_FrameBack.j0 : Nat → Int → List ByteArray → ByteArray → Int → Int → Bool → Int → Int → Option (Bool)
  | 0, _, _, _, _, _, _, _, _ => none
  | k + 1, x0, x1, x2, x4, x5, x38, x143000, x143001 => if x38 = true then ((chainmanlaw05_awake.f).bind fun t144 => (some t144)) else ((frame_Put.f x0 x1).bind fun bt145 => (if bt145.2 = true then (if bt145.1.size + x2.size ≤ 9223372036854775807 then ((frame_Get.f k x0 (bt145.1 ++ x2)).bind fun bt147 => (if (bt145.1.size : Int) < 6 then (chainmanlaw05_FrameBack.j1 k x0 x4 x5 bt145.1 true x143000 x143001) else (if bt147.2.2 = true then (if bt147.2.1 = (bt145.1.size : Int) then ((chainmanref04_SameNames.f k bt147.1 x1).bind fun t152 => (chainmanlaw05_FrameBack.j1 k x0 x4 x5 bt145.1 (!t152) x143000 x143001)) else (chainmanlaw05_FrameBack.j1 k x0 x4 x5 bt145.1 true x143000 x143001)) else (chainmanlaw05_FrameBack.j1 k x0 x4 x5 bt145.1 true x143000 x143001)))) else (none)) else (chainmanlaw05_FrameBack.j2 k x4 x5 x143000 x143001)))
def chainmanlaw05_FrameBack.j2 : Nat → Int → Int → Int → Int → Option (Bool)
  | 0, _, _, _, _ => none
  | k + 1, x4, x5, x143000, x143001 => (frame_PutEnd.f x143000 x143001).bind fun bt160 => (if bt160.2 = true then (chainmanlaw05_FrameBack.j3 k x4 x5 bt160.1 ((bt160.1.size : Int) == 17) x143000 x143001) else (chainmanlaw05_FrameBack.j3 k x4 x5 bt160.1 false x143000 x143001))
def chainmanlaw05_FrameBack.j3 : Nat → Int → Int → ByteArray → Bool → Int → Int → Option (Bool)
  | 0, _, _, _, _, _, _ => none
  | k + 1, x4, x5, x23, x109, x143000, x143001 => if x109 = true then ((frame_GetEnd.f k x23).bind fun bt162 => ((chainmanref03_Turned.f x23 (wrap64 (8 + (Int.tmod (wrap64 (x4)) 128))) x5).bind fun bt166 => ((frame_GetEnd.f k bt166.1).bind fun bt168 => (if bt162.2.2 = true then (if (!(bt162.1 == x143000) || (!(bt162.2.1 == x143001))) = true then (none) else (if (bt168.2.2 == bt166.2) = true then (none) else ((chainmanlaw05_awake.f).bind fun t172 => (some t172)))) else (none))))) else ((chainmanlaw05_awake.f).bind fun t173 => (some t173))
def chainmanlaw05_FrameBack.j1 : Nat → Int → Int → Int → ByteArray → Bool → Int → Int → Option (Bool)
  | 0, _, _, _, _, _, _, _ => none
  | k + 1, x0, x4, x5, x13, x74, x143000, x143001 => if x74 = true then (none) else (if (wrap64 ((wrap64 (8 * (x13.size : Int))) - 8)) = 0 then (none) else ((chainmanref03_Turned.f x13 (wrap64 (8 + (Int.tmod (wrap64 (x4)) (wrap64 ((wrap64 (8 * (x13.size : Int))) - 8))))) x5).bind fun bt153 => ((frame_Get.f k x0 bt153.1).bind fun bt155 => (if (bt155.2.2 == bt153.2) = true then (none) else (chainmanlaw05_FrameBack.j2 k x4 x5 x143000 x143001)))))
end
def chainmanlaw05_FrameBack.f (k : Nat) (a0 : Int) (l1 : List ByteArray) (a2 : ByteArray) (a3_0 : Int) (a3_1 : Int) (a4 : Int) (a5 : Int) : Option (Bool) := (chainmanlaw05_few.f k l1).bind fun t143 => (if t143 = true then (chainmanlaw05_FrameBack.j0 k a0 l1 a2 a4 a5 (decide ((a2.size : Int) > 100)) a3_0 a3_1) else (chainmanlaw05_FrameBack.j0 k a0 l1 a2 a4 a5 true a3_0 a3_1))
theorem chainmanlaw05_FrameBack.mono_l : ∀ k, (∀ y0 y1 y2 y3 y4 y5 y6 y7, LeO (chainmanlaw05_FrameBack.j0 k y0 y1 y2 y3 y4 y5 y6 y7) (chainmanlaw05_FrameBack.j0 (k + 1) y0 y1 y2 y3 y4 y5 y6 y7)) ∧ (∀ y0 y1 y2 y3, LeO (chainmanlaw05_FrameBack.j2 k y0 y1 y2 y3) (chainmanlaw05_FrameBack.j2 (k + 1) y0 y1 y2 y3)) ∧ (∀ y0 y1 y2 y3 y4 y5, LeO (chainmanlaw05_FrameBack.j3 k y0 y1 y2 y3 y4 y5) (chainmanlaw05_FrameBack.j3 (k + 1) y0 y1 y2 y3 y4 y5)) ∧ (∀ y0 y1 y2 y3 y4 y5 y6, LeO (chainmanlaw05_FrameBack.j1 k y0 y1 y2 y3 y4 y5 y6) (chainmanlaw05_FrameBack.j1 (k + 1) y0 y1 y2 y3 y4 y5 y6))
  | 0 => ⟨fun _ _ _ _ _ _ _ _ r h => by simp [chainmanlaw05_FrameBack.j0] at h, fun _ _ _ _ r h => by simp [chainmanlaw05_FrameBack.j2] at h, fun _ _ _ _ _ _ r h => by simp [chainmanlaw05_FrameBack.j3] at h, fun _ _ _ _ _ _ _ r h => by simp [chainmanlaw05_FrameBack.j1] at h⟩
  | k + 1 => by
    obtain ⟨ih0, ih1, ih2, ih3⟩ := chainmanlaw05_FrameBack.mono_l k
    refine ⟨?_, ?_, ?_, ?_⟩
    · intro y0 y1 y2 y3 y4 y5 y6 y7
      unfold chainmanlaw05_FrameBack.j0
      repeat' first
      | (with_reducible exact ih0 _ _ _ _ _ _ _ _)
      | (with_reducible exact ih1 _ _ _ _)
      | (with_reducible exact ih2 _ _ _ _ _ _)
      | (with_reducible exact ih3 _ _ _ _ _ _ _)
      | (with_reducible exact chainmanlaw05_few.mono _ _)
      | (with_reducible exact chainmanref04_SameNames.mono _ _ _)
      | (with_reducible exact frame_Get.mono _ _ _)
      | (with_reducible exact frame_GetEnd.mono _ _)
      | (with_reducible exact LeO.refl _)
      | (with_reducible exact LeO.none _)
      | (with_reducible refine LeO.ite ?_ ?_)
      | (with_reducible refine LeO.bind ?_ (fun _ => ?_))
      | exact ih0 _ _ _ _ _ _ _ _
      | exact ih1 _ _ _ _
      | exact ih2 _ _ _ _ _ _
      | exact ih3 _ _ _ _ _ _ _
      | exact chainmanlaw05_few.mono _ _
      | exact chainmanref04_SameNames.mono _ _ _
      | exact frame_Get.mono _ _ _
      | exact frame_GetEnd.mono _ _
      | exact LeO.none _
      | refine LeO.ite ?_ ?_
      | refine LeO.bind ?_ (fun _ => ?_)
    · intro y0 y1 y2 y3
      unfold chainmanlaw05_FrameBack.j2
      repeat' first
      | (with_reducible exact ih0 _ _ _ _ _ _ _ _)
      | (with_reducible exact ih1 _ _ _ _)
      | (with_reducible exact ih2 _ _ _ _ _ _)
      | (with_reducible exact ih3 _ _ _ _ _ _ _)
      | (with_reducible exact chainmanlaw05_few.mono _ _)
      | (with_reducible exact chainmanref04_SameNames.mono _ _ _)
      | (with_reducible exact frame_Get.mono _ _ _)
      | (with_reducible exact frame_GetEnd.mono _ _)
      | (with_reducible exact LeO.refl _)
      | (with_reducible exact LeO.none _)
      | (with_reducible refine LeO.ite ?_ ?_)
      | (with_reducible refine LeO.bind ?_ (fun _ => ?_))
      | exact ih0 _ _ _ _ _ _ _ _
      | exact ih1 _ _ _ _
      | exact ih2 _ _ _ _ _ _
      | exact ih3 _ _ _ _ _ _ _
      | exact chainmanlaw05_few.mono _ _
      | exact chainmanref04_SameNames.mono _ _ _
      | exact frame_Get.mono _ _ _
      | exact frame_GetEnd.mono _ _
      | exact LeO.none _
      | refine LeO.ite ?_ ?_
      | refine LeO.bind ?_ (fun _ => ?_)
    · intro y0 y1 y2 y3 y4 y5
      unfold chainmanlaw05_FrameBack.j3
      repeat' first
      | (with_reducible exact ih0 _ _ _ _ _ _ _ _)
      | (with_reducible exact ih1 _ _ _ _)
      | (with_reducible exact ih2 _ _ _ _ _ _)
      | (with_reducible exact ih3 _ _ _ _ _ _ _)
      | (with_reducible exact chainmanlaw05_few.mono _ _)
      | (with_reducible exact chainmanref04_SameNames.mono _ _ _)
      | (with_reducible exact frame_Get.mono _ _ _)
      | (with_reducible exact frame_GetEnd.mono _ _)
      | (with_reducible exact LeO.refl _)
      | (with_reducible exact LeO.none _)
      | (with_reducible refine LeO.ite ?_ ?_)
      | (with_reducible refine LeO.bind ?_ (fun _ => ?_))
      | exact ih0 _ _ _ _ _ _ _ _
      | exact ih1 _ _ _ _
      | exact ih2 _ _ _ _ _ _
      | exact ih3 _ _ _ _ _ _ _
      | exact chainmanlaw05_few.mono _ _
      | exact chainmanref04_SameNames.mono _ _ _
      | exact frame_Get.mono _ _ _
      | exact frame_GetEnd.mono _ _
      | exact LeO.none _
      | refine LeO.ite ?_ ?_
      | refine LeO.bind ?_ (fun _ => ?_)
    · intro y0 y1 y2 y3 y4 y5 y6
      unfold chainmanlaw05_FrameBack.j1
      repeat' first
      | (with_reducible exact ih0 _ _ _ _ _ _ _ _)
      | (with_reducible exact ih1 _ _ _ _)
      | (with_reducible exact ih2 _ _ _ _ _ _)
      | (with_reducible exact ih3 _ _ _ _ _ _ _)
      | (with_reducible exact chainmanlaw05_few.mono _ _)
      | (with_reducible exact chainmanref04_SameNames.mono _ _ _)
      | (with_reducible exact frame_Get.mono _ _ _)
      | (with_reducible exact frame_GetEnd.mono _ _)
      | (with_reducible exact LeO.refl _)
      | (with_reducible exact LeO.none _)
      | (with_reducible refine LeO.ite ?_ ?_)
      | (with_reducible refine LeO.bind ?_ (fun _ => ?_))
      | exact ih0 _ _ _ _ _ _ _ _
      | exact ih1 _ _ _ _
      | exact ih2 _ _ _ _ _ _
      | exact ih3 _ _ _ _ _ _ _
      | exact chainmanlaw05_few.mono _ _
      | exact chainmanref04_SameNames.mono _ _ _
      | exact frame_Get.mono _ _ _
      | exact frame_GetEnd.mono _ _
      | exact LeO.none _
      | refine LeO.ite ?_ ?_
      | refine LeO.bind ?_ (fun _ => ?_)
theorem chainmanlaw05_FrameBack.mono : ∀ a0 a1 a2 a3 a4 a5 a6 k, LeO (chainmanlaw05_FrameBack.f k a0 a1 a2 a3 a4 a5 a6) (chainmanlaw05_FrameBack.f (k + 1) a0 a1 a2 a3 a4 a5 a6) := by
  intro a0 a1 a2 a3 a4 a5 a6 k
  obtain ⟨ih0, ih1, ih2, ih3⟩ := chainmanlaw05_FrameBack.mono_l k
  unfold chainmanlaw05_FrameBack.f
  repeat' first
      | (with_reducible exact ih0 _ _ _ _ _ _ _ _)
      | (with_reducible exact ih1 _ _ _ _)
      | (with_reducible exact ih2 _ _ _ _ _ _)
      | (with_reducible exact ih3 _ _ _ _ _ _ _)
      | (with_reducible exact chainmanlaw05_few.mono _ _)
      | (with_reducible exact chainmanref04_SameNames.mono _ _ _)
      | (with_reducible exact frame_Get.mono _ _ _)
      | (with_reducible exact frame_GetEnd.mono _ _)
      | (with_reducible exact LeO.refl _)
      | (with_reducible exact LeO.none _)
      | (with_reducible refine LeO.ite ?_ ?_)
      | (with_reducible refine LeO.bind ?_ (fun _ => ?_))
      | exact ih0 _ _ _ _ _ _ _ _
      | exact ih1 _ _ _ _
      | exact ih2 _ _ _ _ _ _
      | exact ih3 _ _ _ _ _ _ _
      | exact chainmanlaw05_few.mono _ _
      | exact chainmanref04_SameNames.mono _ _ _
      | exact frame_Get.mono _ _ _
      | exact frame_GetEnd.mono _ _
      | exact LeO.none _
      | refine LeO.ite ?_ ?_
      | refine LeO.bind ?_ (fun _ => ?_)
set_option maxHeartbeats 8000000 in
set_option maxRecDepth 100000 in
theorem chainmanlaw05_FrameBack.calls (k : Nat) (a0 : Int) (A1 : Option Addr) (c1 : Nat) (l1 : List ByteArray) (a2 : ByteArray) (a3_0 : Int) (a3_1 : Int) (a4 : Int) (a5 : Int) (r : Bool) (w : World) (hr1 : Kd.C Kd.string w A1 l1.length l1) (hc1 : l1.length ≤ c1) (h : chainmanlaw05_FrameBack.f k a0 l1 a2 a3_0 a3_1 a4 a5 = some r) :
    Calls Try.prog 6 #[.int .i64 a0, .slice A1 l1.length c1, .string a2, .agg #[.int .i64 a3_0, .int .u32 a3_1], .int .u16 a4, .int .u32 a5] w fun e w' => e = .returned (.bool r) ∧ Below w.heap.size w w' := by
  have hu46 := Try.underlying46
  have HR1 := Aside0.mk hr1
  have HC1 := Aside0.mk hc1
  clear hr1 hc1
  have HB := Aside0.mk (Below.refl w.heap.size w)
  have H : ((chainmanlaw05_few.f k l1).bind fun t143 => (if t143 = true then (chainmanlaw05_FrameBack.j0 k a0 l1 a2 a4 a5 (decide ((a2.size : Int) > 100)) a3_0 a3_1) else (chainmanlaw05_FrameBack.j0 k a0 l1 a2 a4 a5 true a3_0 a3_1))) = some r := h
  clear h
  have HC7 := Aside0.mk H
  clear H
  go_enter Try.func6, Try.ntmps6
  go_upto_region 1 with (first | ((with_reducible refine gate_dst (N := 9) rfl ?_); (try (refine gate_guard (by rfl) ?_; dsimp only)); refine box_event ?hg (N := 9) ?hd (cs := #[.int .i64 a3_0, .int .u32 a3_1]) (t := 46) ?hr ?_; (case hd => rfl); (case hg => rfl); (case hr => first | (go_simp; done) | (go_simp; rfl)); intro gb142 hg w8 hbox hb; have n0_ := Aside0.mk (below_step (by repeat (first | (with_reducible first | exact HB.out | apply below_alloc | apply pw_below_drewN | apply below_drew1) | exact HB.out)) hb); have n1_ := Aside0.mk (hbox); have n2_ := Aside0.mk ((by rw [hg]; exact (below_size (by repeat (first | (with_reducible first | exact HB.out | apply below_alloc | apply pw_below_drewN | apply below_drew1) | exact HB.out))) : w.heap.size ≤ gb142)); have n3_ := Aside0.mk ((by rw [hg]; exact (below_size (by repeat (first | (with_reducible first | exact HB.out | apply below_alloc | apply pw_below_drewN | apply below_drew1) | exact HB.out))) : w.heap.size ≤ gb142)); clear HB; have HB := n0_; have BK142 := n1_; have GW142 := n2_; have GE142 := n3_; clear n0_ n1_ n2_ n3_; clear hb hbox hg))
  (try simp only [Act.put, List.setIfInBounds_toArray, List.set_cons_zero, List.set_cons_succ])
  go_cut [38] (fun v38 wc => ∃ (kq : Nat) (x38_6 : Bool), v38 = .bool x38_6 ∧ Aside0 (chainmanlaw05_FrameBack.j0 kq a0 l1 a2 a4 a5 x38_6 a3_0 a3_1 = some r) ∧ Aside0 (kq ≤ k) ∧ Aside0 (wc.heap[gb142]? = some (.cells #[.int .i64 a3_0, .int .u32 a3_1] 46 (0, 0))) ∧ Aside0 (Below w.heap.size w wc))
  case first =>
    have H := HC7.out
    clear HC7
    replace H := Option.bind_eq_some_iff.mp H
    obtain ⟨t143, A90, H⟩ := H
    replace H : (if t143 = true then (chainmanlaw05_FrameBack.j0 k a0 l1 a2 a4 a5 (decide ((a2.size : Int) > 100)) a3_0 a3_1) else (chainmanlaw05_FrameBack.j0 k a0 l1 a2 a4 a5 true a3_0 a3_1)) = some r := H
    have A9 := Aside0.mk A90
    clear A90
    by_cases c10 : t143 = true
    · subst c10
      have H1 : (chainmanlaw05_FrameBack.j0 k a0 l1 a2 a4 a5 (decide ((a2.size : Int) > 100)) a3_0 a3_1) = some r := by rw [if_pos rfl] at H; exact H
      clear H
      have H := H1
      clear H1
      have H' := Aside0.mk H
      clear H
      go_wp2_with (first | ((with_reducible refine gate_callee (f := 30) rfl ?_); refine goesL_ (some 32) rfl rfl Try.func30 (by kernel_rfl) rfl #[.slice A1 l1.length c1] rfl (by (try simp only [List.map_toArray, List.map_cons, List.map_nil]); first | done | rfl | (simp only [List.length_drop, List.length_take]; rfl)) ?_; (with_reducible refine (chainmanlaw05_few.calls k _ _ l1 true _ ?side1 ?side2 A9.out).mono ?_); (case side1 => repeat (first | exact (Kd.C_below HR1.out HB.out) | (with_reducible refine Kd.C_alloc ?_ _) | (with_reducible refine Kd.C_drewN ?_ _) | (with_reducible refine Kd.C_drew ?_))); (case side2 => exact HC1.out); rintro e w' ⟨rfl, ⟨nd, rfl⟩⟩; refine ⟨_, rfl, ?_⟩) | (go_at_call 30; refine calls_of_args (args' := #[.slice A1 l1.length c1]) (by first | rfl) ?_; (with_reducible refine (chainmanlaw05_few.calls k _ _ l1 true _ ?side1 ?side2 A9.out).mono ?_); (case side1 => repeat (first | exact (Kd.C_below HR1.out HB.out) | (with_reducible refine Kd.C_alloc ?_ _) | (with_reducible refine Kd.C_drewN ?_ _) | (with_reducible refine Kd.C_drew ?_))); (case side2 => exact HC1.out); rintro e w' ⟨rfl, ⟨nd, rfl⟩⟩))
      go_meet
      case rel => exact ⟨_, (decide ((a2.size : Int) > 100)), (by first | rfl | (simp; done) | (simp [*]; done)), H', ⟨by first | omega | exact Nat.le_refl _⟩, ⟨by (with_reducible repeat (first | refine blk_drewN ?_ _ | refine blk_drew ?_ | refine blk_alloc ?_ _)); exact BK142.out⟩, ⟨by repeat (first | (with_reducible first | exact HB.out | apply below_alloc | apply pw_below_drewN | apply below_drew1 | refine below_set ?_ GE142.out) | exact HB.out)⟩⟩
    · replace c10 := Bool.eq_false_iff.mpr c10
      subst c10
      have H1 : (chainmanlaw05_FrameBack.j0 k a0 l1 a2 a4 a5 true a3_0 a3_1) = some r := by rw [if_neg (show ¬ (false = true) by decide)] at H; exact H
      clear H
      have H := H1
      clear H1
      have H' := Aside0.mk H
      clear H
      go_wp2_with (first | ((with_reducible refine gate_callee (f := 30) rfl ?_); refine goesL_ (some 32) rfl rfl Try.func30 (by kernel_rfl) rfl #[.slice A1 l1.length c1] rfl (by (try simp only [List.map_toArray, List.map_cons, List.map_nil]); first | done | rfl | (simp only [List.length_drop, List.length_take]; rfl)) ?_; (with_reducible refine (chainmanlaw05_few.calls k _ _ l1 false _ ?side1 ?side2 A9.out).mono ?_); (case side1 => repeat (first | exact (Kd.C_below HR1.out HB.out) | (with_reducible refine Kd.C_alloc ?_ _) | (with_reducible refine Kd.C_drewN ?_ _) | (with_reducible refine Kd.C_drew ?_))); (case side2 => exact HC1.out); rintro e w' ⟨rfl, ⟨nd, rfl⟩⟩; refine ⟨_, rfl, ?_⟩) | (go_at_call 30; refine calls_of_args (args' := #[.slice A1 l1.length c1]) (by first | rfl) ?_; (with_reducible refine (chainmanlaw05_few.calls k _ _ l1 false _ ?side1 ?side2 A9.out).mono ?_); (case side1 => repeat (first | exact (Kd.C_below HR1.out HB.out) | (with_reducible refine Kd.C_alloc ?_ _) | (with_reducible refine Kd.C_drewN ?_ _) | (with_reducible refine Kd.C_drew ?_))); (case side2 => exact HC1.out); rintro e w' ⟨rfl, ⟨nd, rfl⟩⟩))
      go_meet
      case rel => exact ⟨_, (true), (by first | rfl | (simp; done) | (simp [*]; done)), H', ⟨by first | omega | exact Nat.le_refl _⟩, ⟨by (with_reducible repeat (first | refine blk_drewN ?_ _ | refine blk_drew ?_ | refine blk_alloc ?_ _)); exact BK142.out⟩, ⟨by repeat (first | (with_reducible first | exact HB.out | apply below_alloc | apply pw_below_drewN | apply below_drew1 | refine below_set ?_ GE142.out) | exact HB.out)⟩⟩
  case rest =>
    clear HC7
    try clear c1
    try clear p2
    try clear c3
    try clear c6
    try clear c10
    obtain ⟨kq, x38_6, rfl, HA, HJ6, BK142, HB⟩ := hcut
    cases kq with
    | zero => exact absurd HA.out (by simp [chainmanlaw05_FrameBack.j0])
    | succ kj6 =>
      have H := HA.out
      clear HA
      simp only [chainmanlaw05_FrameBack.j0] at H
      by_cases c11 : x38_6 = true
      · subst c11
        have H1 : ((chainmanlaw05_awake.f).bind fun t144 => (some t144)) = some r := by rw [if_pos rfl] at H; exact H
        clear H
        have H := H1
        clear H1
        replace H := Option.bind_eq_some_iff.mp H
        obtain ⟨t144, A120, H⟩ := H
        replace H : (some t144) = some r := H
        have A12 := Aside0.mk A120
        clear A120
        obtain rfl := Option.some.inj H
        go_wp2_with (first | ((with_reducible refine gate_callee (f := 31) rfl ?_); refine goesL_ (some 39) rfl rfl Try.func31 (by kernel_rfl) rfl #[] rfl (by (try simp only [List.map_toArray, List.map_cons, List.map_nil]); first | done | rfl | (simp only [List.length_drop, List.length_take]; rfl)) ?_; (with_reducible refine (chainmanlaw05_awake.calls  t144 _ A12.out).mono ?_); rintro e w13 ⟨rfl, hb⟩; refine ⟨_, rfl, ?_⟩; have n0_ := Aside0.mk (blk_below (g := gb142) (o := .cells #[.int .i64 a3_0, .int .u32 a3_1] 46 (0, 0)) (by (with_reducible repeat (first | refine blk_drewN ?_ _ | refine blk_drew ?_ | refine blk_alloc ?_ _)); exact BK142.out) hb); have n1_ := Aside0.mk (below_step (by repeat (first | (with_reducible first | exact HB.out | apply below_alloc | apply pw_below_drewN | apply below_drew1 | refine below_set ?_ GE142.out) | exact HB.out)) hb); clear BK142; clear HB; have BK142 := n0_; have HB := n1_; clear n0_ n1_; (try clear hb); (try clear hb2); (try clear hk); (try clear hi)))
        go_ret
        exact ⟨by first | rfl | (simp [errW_none, errW_some] <;> rfl) | (simp [*, errW_none, errW_some] <;> rfl), by repeat (first | (with_reducible first | exact HB.out | apply below_alloc | apply pw_below_drewN | apply below_drew1 | refine below_set ?_ GE142.out) | exact HB.out)⟩
      · replace c11 := Bool.eq_false_iff.mpr c11
        subst c11
        have H1 : ((frame_Put.f a0 l1).bind fun bt145 => (if bt145.2 = true then (if bt145.1.size + a2.size ≤ 9223372036854775807 then ((frame_Get.f kj6 a0 (bt145.1 ++ a2)).bind fun bt147 => (if (bt145.1.size : Int) < 6 then (chainmanlaw05_FrameBack.j1 kj6 a0 a4 a5 bt145.1 true a3_0 a3_1) else (if bt147.2.2 = true then (if bt147.2.1 = (bt145.1.size : Int) then ((chainmanref04_SameNames.f kj6 bt147.1 l1).bind fun t152 => (chainmanlaw05_FrameBack.j1 kj6 a0 a4 a5 bt145.1 (!t152) a3_0 a3_1)) else (chainmanlaw05_FrameBack.j1 kj6 a0 a4 a5 bt145.1 true a3_0 a3_1)) else (chainmanlaw05_FrameBack.j1 kj6 a0 a4 a5 bt145.1 true a3_0 a3_1)))) else (none)) else (chainmanlaw05_FrameBack.j2 kj6 a4 a5 a3_0 a3_1))) = some r := by rw [if_neg (show ¬ (false = true) by decide)] at H; exact H
        clear H
        have H := H1
        clear H1
        replace H := Option.bind_eq_some_iff.mp H
        obtain ⟨⟨t145, t146⟩, A140, H⟩ := H
        replace H : (if t146 = true then (if t145.size + a2.size ≤ 9223372036854775807 then ((frame_Get.f kj6 a0 (t145 ++ a2)).bind fun bt147 => (if (t145.size : Int) < 6 then (chainmanlaw05_FrameBack.j1 kj6 a0 a4 a5 t145 true a3_0 a3_1) else (if bt147.2.2 = true then (if bt147.2.1 = (t145.size : Int) then ((chainmanref04_SameNames.f kj6 bt147.1 l1).bind fun t152 => (chainmanlaw05_FrameBack.j1 kj6 a0 a4 a5 t145 (!t152) a3_0 a3_1)) else (chainmanlaw05_FrameBack.j1 kj6 a0 a4 a5 t145 true a3_0 a3_1)) else (chainmanlaw05_FrameBack.j1 kj6 a0 a4 a5 t145 true a3_0 a3_1)))) else (none)) else (chainmanlaw05_FrameBack.j2 kj6 a4 a5 a3_0 a3_1)) = some r := H
        have A14 := Aside0.mk A140
        clear A140
        have HC15 := Aside0.mk H
        clear H
        go_upto_if 46 with (first | ((with_reducible refine gate_callee (f := 32) rfl ?_); refine goesL_ (some 43) rfl rfl Try.func32 (by kernel_rfl) rfl #[.int .i64 a0, .slice A1 l1.length c1] rfl (by (try simp only [List.map_toArray, List.map_cons, List.map_nil]); first | done | rfl | (simp only [List.length_drop, List.length_take]; rfl)) ?_; (with_reducible refine (frame_Put.calls a0 _ _ l1 t145 t146 _ ?side1 ?side2 A14.out).mono ?_); (case side1 => repeat (first | exact (Kd.C_below HR1.out HB.out) | (with_reducible refine Kd.C_alloc ?_ _) | (with_reducible refine Kd.C_drewN ?_ _) | (with_reducible refine Kd.C_drew ?_))); (case side2 => exact HC1.out); rintro e w16 ⟨rfl, hb⟩; refine ⟨_, rfl, ?_⟩; have n0_ := Aside0.mk (blk_below (g := gb142) (o := .cells #[.int .i64 a3_0, .int .u32 a3_1] 46 (0, 0)) (by (with_reducible repeat (first | refine blk_drewN ?_ _ | refine blk_drew ?_ | refine blk_alloc ?_ _)); exact BK142.out) hb); have n1_ := Aside0.mk (below_step (by repeat (first | (with_reducible first | exact HB.out | apply below_alloc | apply pw_below_drewN | apply below_drew1 | refine below_set ?_ GE142.out) | exact HB.out)) hb); clear BK142; clear HB; have BK142 := n0_; have HB := n1_; clear n0_ n1_; (try clear hb); (try clear hb2); (try clear hk); (try clear hi)))
        (try simp only [Act.put, List.setIfInBounds_toArray, List.set_cons_zero, List.set_cons_succ])
        go_cut [] (fun wc => ∃ (kq : Nat), Aside0 (chainmanlaw05_FrameBack.j2 kq a4 a5 a3_0 a3_1 = some r) ∧ Aside0 (kq ≤ kj6) ∧ Aside0 (wc.heap[gb142]? = some (.cells #[.int .i64 a3_0, .int .u32 a3_1] 46 (0, 0))) ∧ Aside0 (Below w.heap.size w wc))
        case first =>
          have H := HC15.out
          clear HC15
          by_cases c17 : t146 = true
          · subst c17
            have H1 : (if t145.size + a2.size ≤ 9223372036854775807 then ((frame_Get.f kj6 a0 (t145 ++ a2)).bind fun bt147 => (if (t145.size : Int) < 6 then (chainmanlaw05_FrameBack.j1 kj6 a0 a4 a5 t145 true a3_0 a3_1) else (if bt147.2.2 = true then (if bt147.2.1 = (t145.size : Int) then ((chainmanref04_SameNames.f kj6 bt147.1 l1).bind fun t152 => (chainmanlaw05_FrameBack.j1 kj6 a0 a4 a5 t145 (!t152) a3_0 a3_1)) else (chainmanlaw05_FrameBack.j1 kj6 a0 a4 a5 t145 true a3_0 a3_1)) else (chainmanlaw05_FrameBack.j1 kj6 a0 a4 a5 t145 true a3_0 a3_1)))) else (none)) = some r := by rw [if_pos rfl] at H; exact H
            clear H
            have H := H1
            clear H1
            by_cases c18 : t145.size + a2.size ≤ 9223372036854775807
            · rw [if_pos c18] at H
              have c18b0 := eq_true c18
              have c18b1 : decide (t145.size + a2.size ≤ 9223372036854775807) = true := decide_eq_true c18
              try have c18b2 : (9223372036854775807 < t145.size + a2.size) = False := eq_false (Nat.not_lt.2 c18)
              replace H := Option.bind_eq_some_iff.mp H
              obtain ⟨⟨t147, t148, t149⟩, A190, H⟩ := H
              replace H : (if (t145.size : Int) < 6 then (chainmanlaw05_FrameBack.j1 kj6 a0 a4 a5 t145 true a3_0 a3_1) else (if t149 = true then (if t148 = (t145.size : Int) then ((chainmanref04_SameNames.f kj6 t147 l1).bind fun t152 => (chainmanlaw05_FrameBack.j1 kj6 a0 a4 a5 t145 (!t152) a3_0 a3_1)) else (chainmanlaw05_FrameBack.j1 kj6 a0 a4 a5 t145 true a3_0 a3_1)) else (chainmanlaw05_FrameBack.j1 kj6 a0 a4 a5 t145 true a3_0 a3_1))) = some r := H
              have A19 := Aside0.mk A190
              clear A190
              have HC20 := Aside0.mk H
              clear H
              go_upto_region 6 with (first | ((with_reducible refine gate_callee (f := 33) rfl ?_); refine goesL_ (some 52) rfl rfl Try.func33 (by kernel_rfl) rfl #[.int .i64 a0, .string (t145 ++ a2)] rfl (by (try simp only [List.map_toArray, List.map_cons, List.map_nil]); first | done | rfl | (simp only [List.length_drop, List.length_take]; rfl)) ?_; (with_reducible refine (frame_Get.calls kj6 a0 (t145 ++ a2) t147 t148 t149 _ A19.out).mono ?_); rintro e w21 ⟨v150, rfl, ho0, hb⟩; refine ⟨_, rfl, ?_⟩; have n0_ := Aside0.mk (Kd.R_lower ho0 (below_size (by repeat (first | (with_reducible first | exact HB.out | apply below_alloc | apply pw_below_drewN | apply below_drew1 | refine below_set ?_ GE142.out) | exact HB.out)))); have n1_ := Aside0.mk (blk_below (g := gb142) (o := .cells #[.int .i64 a3_0, .int .u32 a3_1] 46 (0, 0)) (by (with_reducible repeat (first | refine blk_drewN ?_ _ | refine blk_drew ?_ | refine blk_alloc ?_ _)); exact BK142.out) hb); have n2_ := Aside0.mk (below_step (by repeat (first | (with_reducible first | exact HB.out | apply below_alloc | apply pw_below_drewN | apply below_drew1 | refine below_set ?_ GE142.out) | exact HB.out)) hb); clear BK142; clear HB; have HO151 := n0_; have BK142 := n1_; have HB := n2_; clear n0_ n1_ n2_; (try clear hb); (try clear hb2); (try clear hk); (try clear hi); (try clear ho0)))
              (try simp only [Act.put, List.setIfInBounds_toArray, List.set_cons_zero, List.set_cons_succ])
              go_cut [74] (fun v74 wc => ∃ (kq : Nat) (x74_19 : Bool), v74 = .bool x74_19 ∧ Aside0 (chainmanlaw05_FrameBack.j1 kq a0 a4 a5 t145 x74_19 a3_0 a3_1 = some r) ∧ Aside0 (kq ≤ kj6) ∧ Aside0 (wc.heap[gb142]? = some (.cells #[.int .i64 a3_0, .int .u32 a3_1] 46 (0, 0))) ∧ Aside0 (Below w.heap.size w wc))
              case first =>
                have H := HC20.out
                clear HC20
                by_cases c22 : (t145.size : Int) < 6
                · rw [if_pos c22] at H
                  have c22b0 : decide ((t145.size : Int) < 6) = true := decide_eq_true c22
                  have c22b1 : decide (t145.size < 6) = true := decide_eq_true (by omega)
                  clear c22
                  (first | rw [c22b0] | (simp only [i64_w, i32_w]; rw [c22b0]) | skip)
                  have H' := Aside0.mk H
                  clear H
                  go_wp2
                  go_meet
                  case rel => exact ⟨_, (true), (by first | rfl | (simp; done) | (simp [*]; done)), H', ⟨by have := HJ6.out; first | omega | exact Nat.le_refl _⟩, ⟨by (with_reducible repeat (first | refine blk_drewN ?_ _ | refine blk_drew ?_ | refine blk_alloc ?_ _)); exact BK142.out⟩, ⟨by repeat (first | (with_reducible first | exact HB.out | apply below_alloc | apply pw_below_drewN | apply below_drew1 | refine below_set ?_ GE142.out) | exact HB.out)⟩⟩
                · rw [if_neg c22] at H
                  have c22b0 : decide ((t145.size : Int) < 6) = false := decide_eq_false c22
                  have c22b1 : decide (t145.size < 6) = false := decide_eq_false (by omega)
                  clear c22
                  (first | rw [c22b0] | (simp only [i64_w, i32_w]; rw [c22b0]) | skip)
                  by_cases c23 : t149 = true
                  · subst c23
                    have H1 : (if t148 = (t145.size : Int) then ((chainmanref04_SameNames.f kj6 t147 l1).bind fun t152 => (chainmanlaw05_FrameBack.j1 kj6 a0 a4 a5 t145 (!t152) a3_0 a3_1)) else (chainmanlaw05_FrameBack.j1 kj6 a0 a4 a5 t145 true a3_0 a3_1)) = some r := by rw [if_pos rfl] at H; exact H
                    clear H
                    have H := H1
                    clear H1
                    by_cases c24 : t148 = (t145.size : Int)
                    · rw [if_pos c24] at H
                      have c24b0 : (t148 == (t145.size : Int)) = true := beq_iff_eq.mpr c24
                      have c24b1 : (t148 != (t145.size : Int)) = false := bne_eq_false_iff_eq.mpr c24
                      clear c24
                      replace H := Option.bind_eq_some_iff.mp H
                      obtain ⟨t152, A250, H⟩ := H
                      replace H : (chainmanlaw05_FrameBack.j1 kj6 a0 a4 a5 t145 (!t152) a3_0 a3_1) = some r := H
                      have A25 := Aside0.mk A250
                      clear A250
                      have H' := Aside0.mk H
                      clear H
                      obtain ⟨Ao26, co26, eo26⟩ := Kd.R_slice HO151.out
                      subst eo26
                      go_wp2_with (first | (go_at_call 34; (with_reducible refine (chainmanref04_SameNames.calls kj6 _ _ t147 _ _ l1 t152 _ ?side1 ?side2 ?side3 ?side4 A25.out).mono ?_); (case side1 => repeat (first | exact (Kd.R_reads' HO151.out).2.2 | (with_reducible refine Kd.C_alloc ?_ _) | (with_reducible refine Kd.C_drewN ?_ _) | (with_reducible refine Kd.C_drew ?_))); (case side2 => exact (Kd.R_reads' HO151.out).2.1); (case side3 => repeat (first | exact (Kd.C_below HR1.out HB.out) | (with_reducible refine Kd.C_alloc ?_ _) | (with_reducible refine Kd.C_drewN ?_ _) | (with_reducible refine Kd.C_drew ?_))); (case side4 => exact HC1.out); rintro e w' ⟨rfl, ⟨nd, rfl⟩⟩) | (go_at_call 34; refine calls_of_args (args' := #[.slice Ao26 t147.length co26, .slice A1 l1.length c1]) (by first | rfl) ?_; (with_reducible refine (chainmanref04_SameNames.calls kj6 _ _ t147 _ _ l1 t152 _ ?side1 ?side2 ?side3 ?side4 A25.out).mono ?_); (case side1 => repeat (first | exact (Kd.R_reads' HO151.out).2.2 | (with_reducible refine Kd.C_alloc ?_ _) | (with_reducible refine Kd.C_drewN ?_ _) | (with_reducible refine Kd.C_drew ?_))); (case side2 => exact (Kd.R_reads' HO151.out).2.1); (case side3 => repeat (first | exact (Kd.C_below HR1.out HB.out) | (with_reducible refine Kd.C_alloc ?_ _) | (with_reducible refine Kd.C_drewN ?_ _) | (with_reducible refine Kd.C_drew ?_))); (case side4 => exact HC1.out); rintro e w' ⟨rfl, ⟨nd, rfl⟩⟩))
                      go_meet
                      case rel => exact ⟨_, (!t152), (by first | rfl | (simp; done) | (simp [*]; done)), H', ⟨by have := HJ6.out; first | omega | exact Nat.le_refl _⟩, ⟨by (with_reducible repeat (first | refine blk_drewN ?_ _ | refine blk_drew ?_ | refine blk_alloc ?_ _)); exact BK142.out⟩, ⟨by repeat (first | (with_reducible first | exact HB.out | apply below_alloc | apply pw_below_drewN | apply below_drew1 | refine below_set ?_ GE142.out) | exact HB.out)⟩⟩
                    · rw [if_neg c24] at H
                      have c24b0 : (t148 == (t145.size : Int)) = false := beq_eq_false_iff_ne.mpr c24
                      have c24b1 : (t148 != (t145.size : Int)) = true := bne_iff_ne.mpr c24
                      have H' := Aside0.mk H
                      clear H
                      go_wp2
                      go_meet
                      case rel => exact ⟨_, (true), (by first | rfl | (simp; done) | (simp [*]; done)), H', ⟨by have := HJ6.out; first | omega | exact Nat.le_refl _⟩, ⟨by (with_reducible repeat (first | refine blk_drewN ?_ _ | refine blk_drew ?_ | refine blk_alloc ?_ _)); exact BK142.out⟩, ⟨by repeat (first | (with_reducible first | exact HB.out | apply below_alloc | apply pw_below_drewN | apply below_drew1 | refine below_set ?_ GE142.out) | exact HB.out)⟩⟩
                  · replace c23 := Bool.eq_false_iff.mpr c23
                    subst c23
                    have H1 : (chainmanlaw05_FrameBack.j1 kj6 a0 a4 a5 t145 true a3_0 a3_1) = some r := by rw [if_neg (show ¬ (false = true) by decide)] at H; exact H
                    clear H
                    have H := H1
                    clear H1
                    have H' := Aside0.mk H
                    clear H
                    go_wp2
                    go_meet
                    case rel => exact ⟨_, (true), (by first | rfl | (simp; done) | (simp [*]; done)), H', ⟨by have := HJ6.out; first | omega | exact Nat.le_refl _⟩, ⟨by (with_reducible repeat (first | refine blk_drewN ?_ _ | refine blk_drew ?_ | refine blk_alloc ?_ _)); exact BK142.out⟩, ⟨by repeat (first | (with_reducible first | exact HB.out | apply below_alloc | apply pw_below_drewN | apply below_drew1 | refine below_set ?_ GE142.out) | exact HB.out)⟩⟩
              case rest =>
                clear HC20
                try clear c1
                try clear c2
                try clear p2
                try clear c3
                try clear c6
                try clear c10
                try clear c11
                try clear c17
                try clear c18
                try clear c18b0
                try clear c18b1
                try clear c18b2
                try clear c22
                try clear c22b0
                try clear c22b1
                try clear c23
                try clear c24
                try clear c24b0
                try clear c24b1
                try clear p2
                obtain ⟨kq, x74_19, rfl, HA, HJ19, BK142, HB⟩ := hcut
                cases kq with
                | zero => exact absurd HA.out (by simp [chainmanlaw05_FrameBack.j1])
                | succ kj19 =>
                  have H := HA.out
                  clear HA
                  simp only [chainmanlaw05_FrameBack.j1] at H
                  by_cases c27 : x74_19 = true
                  · subst c27
                    have H1 : (none) = some r := by rw [if_pos rfl] at H; exact H
                    clear H
                    have H := H1
                    clear H1
                    exact absurd H (by simp)
                  · replace c27 := Bool.eq_false_iff.mpr c27
                    subst c27
                    have H1 : (if (wrap64 ((wrap64 (8 * (t145.size : Int))) - 8)) = 0 then (none) else ((chainmanref03_Turned.f t145 (wrap64 (8 + (Int.tmod (wrap64 (a4)) (wrap64 ((wrap64 (8 * (t145.size : Int))) - 8))))) a5).bind fun bt153 => ((frame_Get.f kj19 a0 bt153.1).bind fun bt155 => (if (bt155.2.2 == bt153.2) = true then (none) else (chainmanlaw05_FrameBack.j2 kj19 a4 a5 a3_0 a3_1))))) = some r := by rw [if_neg (show ¬ (false = true) by decide)] at H; exact H
                    clear H
                    have H := H1
                    clear H1
                    by_cases c28 : (wrap64 ((wrap64 (8 * (t145.size : Int))) - 8)) = 0
                    · rw [if_pos c28] at H
                      exact absurd H (by simp)
                    · rw [if_neg c28] at H
                      have c28b0 : ((wrap64 ((wrap64 (8 * (t145.size : Int))) - 8)) == 0) = false := beq_eq_false_iff_ne.mpr c28
                      have c28b1 : ((wrap64 ((wrap64 (8 * (t145.size : Int))) - 8)) != 0) = true := bne_iff_ne.mpr c28
                      replace H := Option.bind_eq_some_iff.mp H
                      obtain ⟨⟨t153, t154⟩, A290, H⟩ := H
                      replace H : ((frame_Get.f kj19 a0 t153).bind fun bt155 => (if (bt155.2.2 == t154) = true then (none) else (chainmanlaw05_FrameBack.j2 kj19 a4 a5 a3_0 a3_1))) = some r := H
                      have A29 := Aside0.mk A290
                      clear A290
                      replace H := Option.bind_eq_some_iff.mp H
                      obtain ⟨⟨t155, t156, t157⟩, A300, H⟩ := H
                      replace H : (if (t157 == t154) = true then (none) else (chainmanlaw05_FrameBack.j2 kj19 a4 a5 a3_0 a3_1)) = some r := H
                      have A30 := Aside0.mk A300
                      clear A300
                      by_cases c31 : (t157 == t154) = true
                      · rw [if_pos c31] at H
                        exact absurd H (by simp)
                      · rw [if_neg c31] at H
                        have c31b0 : (t157 == t154) = false := by simpa using c31
                        (try (have c31b1 : decide (t157 = t154) = false := by simpa using c31))
                        (try (have c31b2 : (t157 == t154) = false := by simpa using c31))
                        (try (have c31b3 : ¬ (t157 = t154) := by simpa using c31))
                        clear c31
                        have H' := Aside0.mk H
                        clear H
                        go_wp2_with (first | ((with_reducible refine gate_callee (f := 35) rfl ?_); refine goesL_ (some 86) rfl rfl Try.func35 (by kernel_rfl) rfl #[.string t145, .int .i64 (wrap64 (8 + (Int.tmod (wrap64 (a4)) (wrap64 ((wrap64 (8 * (t145.size : Int))) - 8))))), .int .u32 a5] rfl (by (try simp only [List.map_toArray, List.map_cons, List.map_nil]); first | done | rfl | (simp only [List.length_drop, List.length_take]; rfl)) ?_; (with_reducible refine (chainmanref03_Turned.calls t145 (wrap64 (8 + (Int.tmod (wrap64 (a4)) (wrap64 ((wrap64 (8 * (t145.size : Int))) - 8))))) a5 t153 t154 _ A29.out).mono ?_); rintro e w32 ⟨rfl, hb⟩; refine ⟨_, rfl, ?_⟩; have n0_ := Aside0.mk (blk_below (g := gb142) (o := .cells #[.int .i64 a3_0, .int .u32 a3_1] 46 (0, 0)) (by (with_reducible repeat (first | refine blk_drewN ?_ _ | refine blk_drew ?_ | refine blk_alloc ?_ _)); exact BK142.out) hb); have n1_ := Aside0.mk (below_step (by repeat (first | (with_reducible first | exact HB.out | apply below_alloc | apply pw_below_drewN | apply below_drew1 | refine below_set ?_ GE142.out) | exact HB.out)) hb); clear BK142; clear HB; have BK142 := n0_; have HB := n1_; clear n0_ n1_; (try clear hb); (try clear hb2); (try clear hk); (try clear hi)) | ((with_reducible refine gate_callee (f := 33) rfl ?_); refine goesL_ (some 92) rfl rfl Try.func33 (by kernel_rfl) rfl #[.int .i64 a0, .string t153] rfl (by (try simp only [List.map_toArray, List.map_cons, List.map_nil]); first | done | rfl | (simp only [List.length_drop, List.length_take]; rfl)) ?_; (with_reducible refine (frame_Get.calls kj19 a0 t153 t155 t156 t157 _ A30.out).mono ?_); rintro e w33 ⟨v158, rfl, ho0, hb⟩; refine ⟨_, rfl, ?_⟩; have n0_ := Aside0.mk (Kd.R_lower ho0 (below_size (by repeat (first | (with_reducible first | exact HB.out | apply below_alloc | apply pw_below_drewN | apply below_drew1 | refine below_set ?_ GE142.out) | exact HB.out)))); have n1_ := Aside0.mk (blk_below (g := gb142) (o := .cells #[.int .i64 a3_0, .int .u32 a3_1] 46 (0, 0)) (by (with_reducible repeat (first | refine blk_drewN ?_ _ | refine blk_drew ?_ | refine blk_alloc ?_ _)); exact BK142.out) hb); have n2_ := Aside0.mk (below_step (by repeat (first | (with_reducible first | exact HB.out | apply below_alloc | apply pw_below_drewN | apply below_drew1 | refine below_set ?_ GE142.out) | exact HB.out)) hb); clear BK142; clear HB; have HO159 := n0_; have BK142 := n1_; have HB := n2_; clear n0_ n1_ n2_; (try clear hb); (try clear hb2); (try clear hk); (try clear hi); (try clear ho0)))
                        go_meet
                        case rel => exact ⟨_, H', ⟨by have := HJ6.out; have := HJ19.out; first | omega | exact Nat.le_refl _⟩, ⟨by (with_reducible repeat (first | refine blk_drewN ?_ _ | refine blk_drew ?_ | refine blk_alloc ?_ _)); exact BK142.out⟩, ⟨by repeat (first | (with_reducible first | exact HB.out | apply below_alloc | apply pw_below_drewN | apply below_drew1 | refine below_set ?_ GE142.out) | exact HB.out)⟩⟩
            · rw [if_neg c18] at H
              exact absurd H (by simp)
          · replace c17 := Bool.eq_false_iff.mpr c17
            subst c17
            have H1 : (chainmanlaw05_FrameBack.j2 kj6 a4 a5 a3_0 a3_1) = some r := by rw [if_neg (show ¬ (false = true) by decide)] at H; exact H
            clear H
            have H := H1
            clear H1
            have H' := Aside0.mk H
            clear H
            go_wp2
            go_meet
            case rel => exact ⟨_, H', ⟨by have := HJ6.out; first | omega | exact Nat.le_refl _⟩, ⟨by (with_reducible repeat (first | refine blk_drewN ?_ _ | refine blk_drew ?_ | refine blk_alloc ?_ _)); exact BK142.out⟩, ⟨by repeat (first | (with_reducible first | exact HB.out | apply below_alloc | apply pw_below_drewN | apply below_drew1 | refine below_set ?_ GE142.out) | exact HB.out)⟩⟩
        case rest =>
          clear HC15
          try clear c1
          try clear c2
          try clear p2
          try clear c3
          try clear c6
          try clear p6
          try clear c10
          try clear c11
          try clear c17
          try clear c18
          try clear c18b0
          try clear c18b1
          try clear c18b2
          try clear c22
          try clear c22b0
          try clear c22b1
          try clear c23
          try clear c24
          try clear c24b0
          try clear c24b1
          try clear c27
          try clear c28
          try clear c28b0
          try clear c28b1
          try clear c30
          try clear c31
          try clear c31b0
          try clear c31b1
          try clear c31b2
          try clear c32
          try clear c33
          try clear p2
          obtain ⟨kq, HA, HJ14, BK142, HB⟩ := hcut
          cases kq with
          | zero => exact absurd HA.out (by simp [chainmanlaw05_FrameBack.j2])
          | succ kj14 =>
            have H := HA.out
            clear HA
            simp only [chainmanlaw05_FrameBack.j2] at H
            replace H := Option.bind_eq_some_iff.mp H
            obtain ⟨⟨t160, t161⟩, A340, H⟩ := H
            replace H : (if t161 = true then (chainmanlaw05_FrameBack.j3 kj14 a4 a5 t160 ((t160.size : Int) == 17) a3_0 a3_1) else (chainmanlaw05_FrameBack.j3 kj14 a4 a5 t160 false a3_0 a3_1)) = some r := H
            have A34 := Aside0.mk A340
            clear A340
            have HC35 := Aside0.mk H
            clear H
            have hcz36_0 : wc.cell? ⟨gb142, 0, none⟩ = some (.int .i64 a3_0) := (blk_cell BK142.out 0).trans rfl
            have hcz36_1 : wc.cell? ⟨gb142, 1, none⟩ = some (.int .u32 a3_1) := (blk_cell BK142.out 1).trans rfl
            have hfz36_0 := blk_frozen BK142.out 0
            have hfz36_1 := blk_frozen BK142.out 1
            go_upto_region 13 with (first | ((with_reducible refine gate_callee (f := 36) rfl ?_); refine goesL_ (some 101) rfl rfl Try.func36 (by kernel_rfl) rfl #[.agg #[.int .i64 a3_0, .int .u32 a3_1]] rfl (by (try simp only [List.map_toArray, List.map_cons, List.map_nil]); first | done | rfl | (simp only [List.length_drop, List.length_take]; rfl)) ?_; (with_reducible refine (frame_PutEnd.calls a3_0 a3_1 t160 t161 _ A34.out).mono ?_); rintro e w37 ⟨rfl, hb⟩; refine ⟨_, rfl, ?_⟩; have n0_ := Aside0.mk (blk_below (g := gb142) (o := .cells #[.int .i64 a3_0, .int .u32 a3_1] 46 (0, 0)) (by (with_reducible repeat (first | refine blk_drewN ?_ _ | refine blk_drew ?_ | refine blk_alloc ?_ _)); exact BK142.out) hb); have n1_ := Aside0.mk (below_step (by repeat (first | (with_reducible first | exact HB.out | apply below_alloc | apply pw_below_drewN | apply below_drew1 | refine below_set ?_ GE142.out) | exact HB.out)) hb); clear BK142; clear HB; have BK142 := n0_; have HB := n1_; clear n0_ n1_; (try clear hb); (try clear hb2); (try clear hk); (try clear hi)))
            (try simp only [Act.put, List.setIfInBounds_toArray, List.set_cons_zero, List.set_cons_succ])
            go_cut [109] (fun v109 wc => ∃ (kq : Nat) (x109_34 : Bool), v109 = .bool x109_34 ∧ Aside0 (chainmanlaw05_FrameBack.j3 kq a4 a5 t160 x109_34 a3_0 a3_1 = some r) ∧ Aside0 (kq ≤ kj14) ∧ Aside0 (wc.heap[gb142]? = some (.cells #[.int .i64 a3_0, .int .u32 a3_1] 46 (0, 0))) ∧ Aside0 (Below w.heap.size w wc))
            case first =>
              have H := HC35.out
              clear HC35
              by_cases c38 : t161 = true
              · subst c38
                have H1 : (chainmanlaw05_FrameBack.j3 kj14 a4 a5 t160 ((t160.size : Int) == 17) a3_0 a3_1) = some r := by rw [if_pos rfl] at H; exact H
                clear H
                have H := H1
                clear H1
                have H' := Aside0.mk H
                clear H
                go_wp2
                go_meet
                case rel => exact ⟨_, (((t160.size : Int) == 17)), (by first | rfl | (simp; done) | (simp [*]; done)), H', ⟨by have := HJ6.out; have := HJ14.out; first | omega | exact Nat.le_refl _⟩, ⟨by (with_reducible repeat (first | refine blk_drewN ?_ _ | refine blk_drew ?_ | refine blk_alloc ?_ _)); exact BK142.out⟩, ⟨by repeat (first | (with_reducible first | exact HB.out | apply below_alloc | apply pw_below_drewN | apply below_drew1 | refine below_set ?_ GE142.out) | exact HB.out)⟩⟩
              · replace c38 := Bool.eq_false_iff.mpr c38
                subst c38
                have H1 : (chainmanlaw05_FrameBack.j3 kj14 a4 a5 t160 false a3_0 a3_1) = some r := by rw [if_neg (show ¬ (false = true) by decide)] at H; exact H
                clear H
                have H := H1
                clear H1
                have H' := Aside0.mk H
                clear H
                go_wp2
                go_meet
                case rel => exact ⟨_, (false), (by first | rfl | (simp; done) | (simp [*]; done)), H', ⟨by have := HJ6.out; have := HJ14.out; first | omega | exact Nat.le_refl _⟩, ⟨by (with_reducible repeat (first | refine blk_drewN ?_ _ | refine blk_drew ?_ | refine blk_alloc ?_ _)); exact BK142.out⟩, ⟨by repeat (first | (with_reducible first | exact HB.out | apply below_alloc | apply pw_below_drewN | apply below_drew1 | refine below_set ?_ GE142.out) | exact HB.out)⟩⟩
            case rest =>
              clear HC35
              try clear c1
              try clear c2
              try clear p2
              try clear c3
              try clear c6
              try clear p6
              try clear c10
              try clear c11
              try clear c17
              try clear c18
              try clear c18b0
              try clear c18b1
              try clear c18b2
              try clear c22
              try clear c22b0
              try clear c22b1
              try clear c23
              try clear c24
              try clear c24b0
              try clear c24b1
              try clear c27
              try clear c28
              try clear c28b0
              try clear c28b1
              try clear c30
              try clear c31
              try clear c31b0
              try clear c31b1
              try clear c31b2
              try clear c32
              try clear c33
              try clear c35
              try clear c36
              try clear c38
              try clear hcz36_0
              try clear hcz36_1
              try clear hfz36_0
              try clear hfz36_1
              try clear p2
              try clear p6
              obtain ⟨kq, x109_34, rfl, HA, HJ34, BK142, HB⟩ := hcut
              cases kq with
              | zero => exact absurd HA.out (by simp [chainmanlaw05_FrameBack.j3])
              | succ kj34 =>
                have H := HA.out
                clear HA
                simp only [chainmanlaw05_FrameBack.j3] at H
                by_cases c39 : x109_34 = true
                · subst c39
                  have H1 : ((frame_GetEnd.f kj34 t160).bind fun bt162 => ((chainmanref03_Turned.f t160 (wrap64 (8 + (Int.tmod (wrap64 (a4)) 128))) a5).bind fun bt166 => ((frame_GetEnd.f kj34 bt166.1).bind fun bt168 => (if bt162.2.2 = true then (if (!(bt162.1 == a3_0) || (!(bt162.2.1 == a3_1))) = true then (none) else (if (bt168.2.2 == bt166.2) = true then (none) else ((chainmanlaw05_awake.f).bind fun t172 => (some t172)))) else (none))))) = some r := by rw [if_pos rfl] at H; exact H
                  clear H
                  have H := H1
                  clear H1
                  replace H := Option.bind_eq_some_iff.mp H
                  obtain ⟨⟨t162, t163, t164⟩, A400, H⟩ := H
                  replace H : ((chainmanref03_Turned.f t160 (wrap64 (8 + (Int.tmod (wrap64 (a4)) 128))) a5).bind fun bt166 => ((frame_GetEnd.f kj34 bt166.1).bind fun bt168 => (if t164 = true then (if (!(t162 == a3_0) || (!(t163 == a3_1))) = true then (none) else (if (bt168.2.2 == bt166.2) = true then (none) else ((chainmanlaw05_awake.f).bind fun t172 => (some t172)))) else (none)))) = some r := H
                  have A40 := Aside0.mk A400
                  clear A400
                  replace H := Option.bind_eq_some_iff.mp H
                  obtain ⟨⟨t166, t167⟩, A410, H⟩ := H
                  replace H : ((frame_GetEnd.f kj34 t166).bind fun bt168 => (if t164 = true then (if (!(t162 == a3_0) || (!(t163 == a3_1))) = true then (none) else (if (bt168.2.2 == t167) = true then (none) else ((chainmanlaw05_awake.f).bind fun t172 => (some t172)))) else (none))) = some r := H
                  have A41 := Aside0.mk A410
                  clear A410
                  replace H := Option.bind_eq_some_iff.mp H
                  obtain ⟨⟨t168, t169, t170⟩, A420, H⟩ := H
                  replace H : (if t164 = true then (if (!(t162 == a3_0) || (!(t163 == a3_1))) = true then (none) else (if (t170 == t167) = true then (none) else ((chainmanlaw05_awake.f).bind fun t172 => (some t172)))) else (none)) = some r := H
                  have A42 := Aside0.mk A420
                  clear A420
                  by_cases c43 : t164 = true
                  · subst c43
                    have H1 : (if (!(t162 == a3_0) || (!(t163 == a3_1))) = true then (none) else (if (t170 == t167) = true then (none) else ((chainmanlaw05_awake.f).bind fun t172 => (some t172)))) = some r := by rw [if_pos rfl] at H; exact H
                    clear H
                    have H := H1
                    clear H1
                    by_cases c44 : (!(t162 == a3_0) || (!(t163 == a3_1))) = true
                    · rw [if_pos c44] at H
                      exact absurd H (by simp)
                    · rw [if_neg c44] at H
                      have c44b0 : (!(t162 == a3_0) || (!(t163 == a3_1))) = false := by simpa using c44
                      clear c44
                      by_cases c45 : (t170 == t167) = true
                      · rw [if_pos c45] at H
                        exact absurd H (by simp)
                      · rw [if_neg c45] at H
                        have c45b0 : (t170 == t167) = false := by simpa using c45
                        (try (have c45b1 : decide (t170 = t167) = false := by simpa using c45))
                        (try (have c45b2 : (t170 == t167) = false := by simpa using c45))
                        (try (have c45b3 : ¬ (t170 = t167) := by simpa using c45))
                        clear c45
                        replace H := Option.bind_eq_some_iff.mp H
                        obtain ⟨t172, A460, H⟩ := H
                        replace H : (some t172) = some r := H
                        have A46 := Aside0.mk A460
                        clear A460
                        obtain rfl := Option.some.inj H
                        go_wp2_with (first | ((with_reducible refine gate_callee (f := 37) rfl ?_); refine goesL_ (some 112) rfl rfl Try.func37 (by kernel_rfl) rfl #[.string t160] rfl (by (try simp only [List.map_toArray, List.map_cons, List.map_nil]); first | done | rfl | (simp only [List.length_drop, List.length_take]; rfl)) ?_; (with_reducible refine (frame_GetEnd.calls kj34 t160 t162 t163 true _ A40.out).mono ?_); rintro e w47 ⟨rfl, hb⟩; refine ⟨_, rfl, ?_⟩; have n0_ := Aside0.mk (blk_below (g := gb142) (o := .cells #[.int .i64 a3_0, .int .u32 a3_1] 46 (0, 0)) (by (with_reducible repeat (first | refine blk_drewN ?_ _ | refine blk_drew ?_ | refine blk_alloc ?_ _)); exact BK142.out) hb); have n1_ := Aside0.mk (below_step (by repeat (first | (with_reducible first | exact HB.out | apply below_alloc | apply pw_below_drewN | apply below_drew1 | refine below_set ?_ GE142.out) | exact HB.out)) hb); clear BK142; clear HB; have BK142 := n0_; have HB := n1_; clear n0_ n1_; (try clear hb); (try clear hb2); (try clear hk); (try clear hi)) | ((with_reducible refine gate_dst (N := 25) rfl ?_); (try (refine gate_guard (by rfl) ?_; dsimp only)); refine box_event ?hg (N := 25) ?hd (cs := #[.int .i64 0, .int .u32 0]) (t := 46) ?hr ?_; (case hd => rfl); (case hg => rfl); (case hr => first | (go_simp; done) | (go_simp; rfl)); intro gb165 hg w48 hbox hb; have n0_ := Aside0.mk (blk_below (g := gb142) (o := .cells #[.int .i64 a3_0, .int .u32 a3_1] 46 (0, 0)) (by (with_reducible repeat (first | refine blk_drewN ?_ _ | refine blk_drew ?_ | refine blk_alloc ?_ _)); exact BK142.out) hb); have n1_ := Aside0.mk (below_step (by repeat (first | (with_reducible first | exact HB.out | apply below_alloc | apply pw_below_drewN | apply below_drew1 | refine below_set ?_ GE142.out) | exact HB.out)) hb); have n2_ := Aside0.mk (hbox); have n3_ := Aside0.mk ((by rw [hg]; exact (below_size (by repeat (first | (with_reducible first | exact HB.out | apply below_alloc | apply pw_below_drewN | apply below_drew1 | refine below_set ?_ GE142.out) | exact HB.out))) : w.heap.size ≤ gb165)); have n4_ := Aside0.mk ((by rw [hg]; exact (below_size (by repeat (first | (with_reducible first | exact HB.out | apply below_alloc | apply pw_below_drewN | apply below_drew1 | refine below_set ?_ GE142.out) | exact HB.out))) : w.heap.size ≤ gb165)); have n5_ := Aside0.mk ((by rw [hg]; exact Nat.ne_of_lt (blk_lt (g := gb142) (o := .cells #[.int .i64 a3_0, .int .u32 a3_1] 46 (0, 0)) (by (with_reducible repeat (first | refine blk_drewN ?_ _ | refine blk_drew ?_ | refine blk_alloc ?_ _)); exact BK142.out)) : gb142 ≠ gb165)); have n6_ := Aside0.mk ((by rw [hg]; exact Nat.ne_of_gt (blk_lt (g := gb142) (o := .cells #[.int .i64 a3_0, .int .u32 a3_1] 46 (0, 0)) (by (with_reducible repeat (first | refine blk_drewN ?_ _ | refine blk_drew ?_ | refine blk_alloc ?_ _)); exact BK142.out)) : gb165 ≠ gb142)); clear BK142; clear HB; have BK142 := n0_; have HB := n1_; have BK165 := n2_; have GW165 := n3_; have GE165 := n4_; have NB142_165 := n5_; have NB165_142 := n6_; clear n0_ n1_ n2_ n3_ n4_ n5_ n6_; clear hb hbox hg; have hnb49 := NB165_142.out; have hnc49 := NB142_165.out; have hcz50_0 : w48.cell? ⟨gb165, 0, none⟩ = some (.int .i64 0) := (blk_cell BK165.out 0).trans rfl; have hcz50_1 : w48.cell? ⟨gb165, 1, none⟩ = some (.int .u32 0) := (blk_cell BK165.out 1).trans rfl; have hfz50_0 := blk_frozen BK165.out 0; have hfz50_1 := blk_frozen BK165.out 1) | ((with_reducible refine gate_callee (f := 35) rfl ?_); refine goesL_ (some 122) rfl rfl Try.func35 (by kernel_rfl) rfl #[.string t160, .int .i64 (wrap64 (8 + (Int.tmod (wrap64 (a4)) 128))), .int .u32 a5] rfl (by (try simp only [List.map_toArray, List.map_cons, List.map_nil]); first | done | rfl | (simp only [List.length_drop, List.length_take]; rfl)) ?_; (with_reducible refine (chainmanref03_Turned.calls t160 (wrap64 (8 + (Int.tmod (wrap64 (a4)) 128))) a5 t166 t167 _ A41.out).mono ?_); rintro e w51 ⟨rfl, hb⟩; refine ⟨_, rfl, ?_⟩; have n0_ := Aside0.mk (blk_below (g := gb142) (o := .cells #[.int .i64 a3_0, .int .u32 a3_1] 46 (0, 0)) (by (with_reducible repeat (first | refine blk_drewN ?_ _ | refine blk_drew ?_ | refine blk_alloc ?_ _)); refine blk_far ?_ NB142_165.out _; (with_reducible repeat (first | refine blk_drewN ?_ _ | refine blk_drew ?_ | refine blk_alloc ?_ _)); refine blk_far ?_ NB142_165.out _; (with_reducible repeat (first | refine blk_drewN ?_ _ | refine blk_drew ?_ | refine blk_alloc ?_ _)); exact BK142.out) hb); have n1_ := Aside0.mk (blk_below (g := gb165) (o := .cells #[.int .i64 t162, .int .u32 t163] 46 (0, 0)) (by (with_reducible repeat (first | refine blk_drewN ?_ _ | refine blk_drew ?_ | refine blk_alloc ?_ _)); refine blk_put (cs := #[.int .i64 t162, .int .u32 0]) ?_ 1 _ rfl; (with_reducible repeat (first | refine blk_drewN ?_ _ | refine blk_drew ?_ | refine blk_alloc ?_ _)); refine blk_put (cs := #[.int .i64 0, .int .u32 0]) ?_ 0 _ rfl; (with_reducible repeat (first | refine blk_drewN ?_ _ | refine blk_drew ?_ | refine blk_alloc ?_ _)); exact BK165.out) hb); have n2_ := Aside0.mk (below_step (by repeat (first | (with_reducible first | exact HB.out | apply below_alloc | apply pw_below_drewN | apply below_drew1 | refine below_set ?_ GE142.out | refine below_set ?_ GE165.out) | exact HB.out)) hb); clear BK142; clear BK165; clear HB; have BK142 := n0_; have BK165 := n1_; have HB := n2_; clear n0_ n1_ n2_; (try clear hb); (try clear hb2); (try clear hk); (try clear hi)) | ((with_reducible refine gate_callee (f := 37) rfl ?_); refine goesL_ (some 127) rfl rfl Try.func37 (by kernel_rfl) rfl #[.string t166] rfl (by (try simp only [List.map_toArray, List.map_cons, List.map_nil]); first | done | rfl | (simp only [List.length_drop, List.length_take]; rfl)) ?_; (with_reducible refine (frame_GetEnd.calls kj34 t166 t168 t169 t170 _ A42.out).mono ?_); rintro e w52 ⟨rfl, hb⟩; refine ⟨_, rfl, ?_⟩; have n0_ := Aside0.mk (blk_below (g := gb142) (o := .cells #[.int .i64 a3_0, .int .u32 a3_1] 46 (0, 0)) (by (with_reducible repeat (first | refine blk_drewN ?_ _ | refine blk_drew ?_ | refine blk_alloc ?_ _)); exact BK142.out) hb); have n1_ := Aside0.mk (blk_below (g := gb165) (o := .cells #[.int .i64 t162, .int .u32 t163] 46 (0, 0)) (by (with_reducible repeat (first | refine blk_drewN ?_ _ | refine blk_drew ?_ | refine blk_alloc ?_ _)); exact BK165.out) hb); have n2_ := Aside0.mk (below_step (by repeat (first | (with_reducible first | exact HB.out | apply below_alloc | apply pw_below_drewN | apply below_drew1 | refine below_set ?_ GE142.out | refine below_set ?_ GE165.out) | exact HB.out)) hb); clear BK142; clear BK165; clear HB; have BK142 := n0_; have BK165 := n1_; have HB := n2_; clear n0_ n1_ n2_; (try clear hb); (try clear hb2); (try clear hk); (try clear hi)) | ((with_reducible refine gate_dst (N := 29) rfl ?_); (try (refine gate_guard (by rfl) ?_; dsimp only)); refine box_event ?hg (N := 29) ?hd (cs := #[.int .i64 0, .int .u32 0]) (t := 46) ?hr ?_; (case hd => rfl); (case hg => rfl); (case hr => first | (go_simp; done) | (go_simp; rfl)); intro gb171 hg w53 hbox hb; have n0_ := Aside0.mk (blk_below (g := gb142) (o := .cells #[.int .i64 a3_0, .int .u32 a3_1] 46 (0, 0)) (by (with_reducible repeat (first | refine blk_drewN ?_ _ | refine blk_drew ?_ | refine blk_alloc ?_ _)); exact BK142.out) hb); have n1_ := Aside0.mk (blk_below (g := gb165) (o := .cells #[.int .i64 t162, .int .u32 t163] 46 (0, 0)) (by (with_reducible repeat (first | refine blk_drewN ?_ _ | refine blk_drew ?_ | refine blk_alloc ?_ _)); exact BK165.out) hb); have n2_ := Aside0.mk (below_step (by repeat (first | (with_reducible first | exact HB.out | apply below_alloc | apply pw_below_drewN | apply below_drew1 | refine below_set ?_ GE142.out | refine below_set ?_ GE165.out) | exact HB.out)) hb); have n3_ := Aside0.mk (hbox); have n4_ := Aside0.mk ((by rw [hg]; exact (below_size (by repeat (first | (with_reducible first | exact HB.out | apply below_alloc | apply pw_below_drewN | apply below_drew1 | refine below_set ?_ GE142.out | refine below_set ?_ GE165.out) | exact HB.out))) : w.heap.size ≤ gb171)); have n5_ := Aside0.mk ((by rw [hg]; exact (below_size (by repeat (first | (with_reducible first | exact HB.out | apply below_alloc | apply pw_below_drewN | apply below_drew1 | refine below_set ?_ GE142.out | refine below_set ?_ GE165.out) | exact HB.out))) : w.heap.size ≤ gb171)); have n6_ := Aside0.mk ((by rw [hg]; exact Nat.ne_of_lt (blk_lt (g := gb142) (o := .cells #[.int .i64 a3_0, .int .u32 a3_1] 46 (0, 0)) (by (with_reducible repeat (first | refine blk_drewN ?_ _ | refine blk_drew ?_ | refine blk_alloc ?_ _)); exact BK142.out)) : gb142 ≠ gb171)); have n7_ := Aside0.mk ((by rw [hg]; exact Nat.ne_of_gt (blk_lt (g := gb142) (o := .cells #[.int .i64 a3_0, .int .u32 a3_1] 46 (0, 0)) (by (with_reducible repeat (first | refine blk_drewN ?_ _ | refine blk_drew ?_ | refine blk_alloc ?_ _)); exact BK142.out)) : gb171 ≠ gb142)); have n8_ := Aside0.mk ((by rw [hg]; exact Nat.ne_of_lt (blk_lt (g := gb165) (o := .cells #[.int .i64 t162, .int .u32 t163] 46 (0, 0)) (by (with_reducible repeat (first | refine blk_drewN ?_ _ | refine blk_drew ?_ | refine blk_alloc ?_ _)); exact BK165.out)) : gb165 ≠ gb171)); have n9_ := Aside0.mk ((by rw [hg]; exact Nat.ne_of_gt (blk_lt (g := gb165) (o := .cells #[.int .i64 t162, .int .u32 t163] 46 (0, 0)) (by (with_reducible repeat (first | refine blk_drewN ?_ _ | refine blk_drew ?_ | refine blk_alloc ?_ _)); exact BK165.out)) : gb171 ≠ gb165)); clear BK142; clear BK165; clear HB; have BK142 := n0_; have BK165 := n1_; have HB := n2_; have BK171 := n3_; have GW171 := n4_; have GE171 := n5_; have NB142_171 := n6_; have NB171_142 := n7_; have NB165_171 := n8_; have NB171_165 := n9_; clear n0_ n1_ n2_ n3_ n4_ n5_ n6_ n7_ n8_ n9_; clear hb hbox hg; have hnb54 := NB171_142.out; have hnc54 := NB142_171.out; have hnb55 := NB171_165.out; have hnc55 := NB165_171.out; have hcz56_0 : w53.cell? ⟨gb171, 0, none⟩ = some (.int .i64 0) := (blk_cell BK171.out 0).trans rfl; have hcz56_1 : w53.cell? ⟨gb171, 1, none⟩ = some (.int .u32 0) := (blk_cell BK171.out 1).trans rfl; have hfz56_0 := blk_frozen BK171.out 0; have hfz56_1 := blk_frozen BK171.out 1; have hcz57_0 : w53.cell? ⟨gb165, 0, none⟩ = some (.int .i64 t162) := (blk_cell BK165.out 0).trans rfl; have hcz57_1 : w53.cell? ⟨gb165, 1, none⟩ = some (.int .u32 t163) := (blk_cell BK165.out 1).trans rfl; have hfz57_0 := blk_frozen BK165.out 0; have hfz57_1 := blk_frozen BK165.out 1; have hcz58_0 : w53.cell? ⟨gb142, 0, none⟩ = some (.int .i64 a3_0) := (blk_cell BK142.out 0).trans rfl; have hcz58_1 : w53.cell? ⟨gb142, 1, none⟩ = some (.int .u32 a3_1) := (blk_cell BK142.out 1).trans rfl; have hfz58_0 := blk_frozen BK142.out 0; have hfz58_1 := blk_frozen BK142.out 1) | ((with_reducible refine gate_callee (f := 31) rfl ?_); refine goesL_ (some 144) rfl rfl Try.func31 (by kernel_rfl) rfl #[] rfl (by (try simp only [List.map_toArray, List.map_cons, List.map_nil]); first | done | rfl | (simp only [List.length_drop, List.length_take]; rfl)) ?_; (with_reducible refine (chainmanlaw05_awake.calls  t172 _ A46.out).mono ?_); rintro e w59 ⟨rfl, hb⟩; refine ⟨_, rfl, ?_⟩; have n0_ := Aside0.mk (blk_below (g := gb142) (o := .cells #[.int .i64 a3_0, .int .u32 a3_1] 46 (0, 0)) (by (with_reducible repeat (first | refine blk_drewN ?_ _ | refine blk_drew ?_ | refine blk_alloc ?_ _)); refine blk_far ?_ NB142_171.out _; (with_reducible repeat (first | refine blk_drewN ?_ _ | refine blk_drew ?_ | refine blk_alloc ?_ _)); refine blk_far ?_ NB142_171.out _; (with_reducible repeat (first | refine blk_drewN ?_ _ | refine blk_drew ?_ | refine blk_alloc ?_ _)); exact BK142.out) hb); have n1_ := Aside0.mk (blk_below (g := gb165) (o := .cells #[.int .i64 t162, .int .u32 t163] 46 (0, 0)) (by (with_reducible repeat (first | refine blk_drewN ?_ _ | refine blk_drew ?_ | refine blk_alloc ?_ _)); refine blk_far ?_ NB165_171.out _; (with_reducible repeat (first | refine blk_drewN ?_ _ | refine blk_drew ?_ | refine blk_alloc ?_ _)); refine blk_far ?_ NB165_171.out _; (with_reducible repeat (first | refine blk_drewN ?_ _ | refine blk_drew ?_ | refine blk_alloc ?_ _)); exact BK165.out) hb); have n2_ := Aside0.mk (blk_below (g := gb171) (o := .cells #[.int .i64 t168, .int .u32 t169] 46 (0, 0)) (by (with_reducible repeat (first | refine blk_drewN ?_ _ | refine blk_drew ?_ | refine blk_alloc ?_ _)); refine blk_put (cs := #[.int .i64 t168, .int .u32 0]) ?_ 1 _ rfl; (with_reducible repeat (first | refine blk_drewN ?_ _ | refine blk_drew ?_ | refine blk_alloc ?_ _)); refine blk_put (cs := #[.int .i64 0, .int .u32 0]) ?_ 0 _ rfl; (with_reducible repeat (first | refine blk_drewN ?_ _ | refine blk_drew ?_ | refine blk_alloc ?_ _)); exact BK171.out) hb); have n3_ := Aside0.mk (below_step (by repeat (first | (with_reducible first | exact HB.out | apply below_alloc | apply pw_below_drewN | apply below_drew1 | refine below_set ?_ GE142.out | refine below_set ?_ GE165.out | refine below_set ?_ GE171.out) | exact HB.out)) hb); clear BK142; clear BK165; clear BK171; clear HB; have BK142 := n0_; have BK165 := n1_; have BK171 := n2_; have HB := n3_; clear n0_ n1_ n2_ n3_; (try clear hb); (try clear hb2); (try clear hk); (try clear hi)))
                        go_ret
                        exact ⟨by first | rfl | (simp [errW_none, errW_some] <;> rfl) | (simp [*, errW_none, errW_some] <;> rfl), by repeat (first | (with_reducible first | exact HB.out | apply below_alloc | apply pw_below_drewN | apply below_drew1 | refine below_set ?_ GE142.out | refine below_set ?_ GE165.out | refine below_set ?_ GE171.out) | exact HB.out)⟩
                  · replace c43 := Bool.eq_false_iff.mpr c43
                    subst c43
                    have H1 : (none) = some r := by rw [if_neg (show ¬ (false = true) by decide)] at H; exact H
                    clear H
                    have H := H1
                    clear H1
                    exact absurd H (by simp)
                · replace c39 := Bool.eq_false_iff.mpr c39
                  subst c39
                  have H1 : ((chainmanlaw05_awake.f).bind fun t173 => (some t173)) = some r := by rw [if_neg (show ¬ (false = true) by decide)] at H; exact H
                  clear H
                  have H := H1
                  clear H1
                  replace H := Option.bind_eq_some_iff.mp H
                  obtain ⟨t173, A600, H⟩ := H
                  replace H : (some t173) = some r := H
                  have A60 := Aside0.mk A600
                  clear A600
                  obtain rfl := Option.some.inj H
                  go_wp2_with (first | ((with_reducible refine gate_callee (f := 31) rfl ?_); refine goesL_ (some 144) rfl rfl Try.func31 (by kernel_rfl) rfl #[] rfl (by (try simp only [List.map_toArray, List.map_cons, List.map_nil]); first | done | rfl | (simp only [List.length_drop, List.length_take]; rfl)) ?_; (with_reducible refine (chainmanlaw05_awake.calls  t173 _ A60.out).mono ?_); rintro e w61 ⟨rfl, hb⟩; refine ⟨_, rfl, ?_⟩; have n0_ := Aside0.mk (blk_below (g := gb142) (o := .cells #[.int .i64 a3_0, .int .u32 a3_1] 46 (0, 0)) (by (with_reducible repeat (first | refine blk_drewN ?_ _ | refine blk_drew ?_ | refine blk_alloc ?_ _)); exact BK142.out) hb); have n1_ := Aside0.mk (below_step (by repeat (first | (with_reducible first | exact HB.out | apply below_alloc | apply pw_below_drewN | apply below_drew1 | refine below_set ?_ GE142.out) | exact HB.out)) hb); clear BK142; clear HB; have BK142 := n0_; have HB := n1_; clear n0_ n1_; (try clear hb); (try clear hb2); (try clear hk); (try clear hi)))
                  go_ret
                  exact ⟨by first | rfl | (simp [errW_none, errW_some] <;> rfl) | (simp [*, errW_none, errW_some] <;> rfl), by repeat (first | (with_reducible first | exact HB.out | apply below_alloc | apply pw_below_drewN | apply below_drew1 | refine below_set ?_ GE142.out) | exact HB.out)⟩

/-- THE ONE PURE STATEMENT of chainmanlaw05_FrameBack. -/
def chainmanlaw05_FrameBack.Pure : Prop := ∀ (a0 : Int) (l1 : List ByteArray) (a2 : ByteArray) (a3_0 : Int) (a3_1 : Int) (a4 : Int) (a5 : Int), (Lit.int .i64 a0).wf = true → (l1.length ≤ maxLen ∧ ∀ y0_ ∈ l1, y0_.size ≤ maxLen) → a2.size ≤ 140737488351232 → (Lit.int .i64 a3_0).wf = true → (Lit.int .u32 a3_1).wf = true → (Lit.int .u16 a4).wf = true → (Lit.int .u32 a5).wf = true → ∃ k, chainmanlaw05_FrameBack.f k a0 l1 a2 a3_0 a3_1 a4 a5 = some true
theorem chainmanlaw05_FrameBack.walk (P : chainmanlaw05_FrameBack.Pure) (a0 : Int) (A1 : Option Addr) (c1 : Nat) (l1 : List ByteArray) (a2 : ByteArray) (a3_0 : Int) (a3_1 : Int) (a4 : Int) (a5 : Int) (w : World) (w0 : (Lit.int .i64 a0).wf = true) (hr1 : Kd.C Kd.string w A1 l1.length l1) (hc1 : l1.length ≤ c1) (w1 : (l1.length ≤ maxLen ∧ ∀ y0_ ∈ l1, y0_.size ≤ maxLen)) (w2 : a2.size ≤ 140737488351232) (w3_0 : (Lit.int .i64 a3_0).wf = true) (w3_1 : (Lit.int .u32 a3_1).wf = true) (w4 : (Lit.int .u16 a4).wf = true) (w5 : (Lit.int .u32 a5).wf = true) :
    Calls Try.prog 6 #[.int .i64 a0, .slice A1 l1.length c1, .string a2, .agg #[.int .i64 a3_0, .int .u32 a3_1], .int .u16 a4, .int .u32 a5] w fun e w' => e = .returned (.bool true) ∧ Below w.heap.size w w' := by
  obtain ⟨k, h⟩ := P a0 l1 a2 a3_0 a3_1 a4 a5 w0 w1 w2 w3_0 w3_1 w4 w5
  refine (chainmanlaw05_FrameBack.calls k a0 _ _ l1 a2 a3_0 a3_1 a4 a5 true w  hr1 hc1     h).mono ?_
  rintro e w' ⟨rfl, hd⟩
  exact ⟨rfl, hd⟩


end Go.Proofs.Ytmacpgkcokpgjaa.PFrameBack
