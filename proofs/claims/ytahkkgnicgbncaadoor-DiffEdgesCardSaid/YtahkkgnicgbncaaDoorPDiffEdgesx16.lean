/- The Go functions that the law reaches, and walks to them; printed by wip/tool/mkprint.py. -/
import Derived.Test.YtahkkgnicgbncaaDoorPDiffEdgesx0
import Derived.Test.YtahkkgnicgbncaaDoorPDiffEdgesx2
import Derived.Test.YtahkkgnicgbncaaDoorPDiffEdgesx9
import Derived.Test.YtahkkgnicgbncaaDoorPDiffEdgesx11
import Derived.Test.YtahkkgnicgbncaaDoorPDiffEdgesx13
import Derived.Test.YtahkkgnicgbncaaDoorPDiffEdgesx15
namespace Go.Proofs.YtahkkgnicgbncaaDoor.PDiffEdges
open Go.RowKit Go.Proofs.YtahkkgnicgbncaaDoorW.PrintWords Go.Proofs.YtahkkgnicgbncaaDoorW.PrintLast Go.Proofs.YtahkkgnicgbncaaDoorW.PrintMore
attribute [local go_sem] max2_int min2_int max_two min_two max_three min_three max_four min_four   -- for this text's walks alone
set_option linter.unusedVariables false
set_option linter.unusedSimpArgs false

/-! ### lw: function 4 -/
mutual
def lw.l0 : Nat → List (List (S41)) → Int → Option (Bool)
 | 0, _, _ => none
 | k + 1, x0, x3 => if x3 < (x0.length : Int) then (lw.j1 k x0 x3 (decide (x3 < 12))) else (lw.j1 k x0 x3 false)
def lw.j1 : Nat → List (List (S41)) → Int → Bool → Option (Bool)
 | 0, _, _, _ => none
 | k + 1, x0, x3, x15 => if x15 = true then (if 0 ≤ x3 then (if x3 < (x0.length : Int) then (if ((rd_L8 x0 x3).length : Int) > 12 then ((chainmanlaw50_awake.f k).bind fun t283 => (some t283)) else (lw.l0 k x0 (wrap64 (x3 + 1)))) else (none)) else (none)) else (if (x0.length : Int) > 12 then ((chainmanlaw50_awake.f k).bind fun t284 => (some t284)) else ((diff_Edges.f k x0).bind fun t285 => ((chainmanref50_Edges.f k x0).bind fun t288 => ((chainmanref30_SamePairs.f k t285 t288).bind fun t291 => (if t291 = true then ((chainmanref37_Clean.f k t285).bind fun t292 => (lw.j2 k x0 t285 (!t292))) else (lw.j2 k x0 t285 true))))))
def lw.j2 : Nat → List (List (S41)) → List (S33) → Bool → Option (Bool)
 | 0, _, _, _ => none
 | k + 1, x0, x4, x40 => if x40 = true then (none) else (lw.l1 k x0 x4 0 0)
def lw.l1 : Nat → List (List (S41)) → List (S33) → Int → Int → Option (Bool)
 | 0, _, _, _, _ => none
 | k + 1, x0, x4, x5, x6 => if x6 < (x0.length : Int) then ((chainmanref36_Clean.f k x0).bind fun t293 => (lw.j4 k x0 x4 x5 x6 t293)) else (lw.j4 k x0 x4 x5 x6 false)
def lw.j4 : Nat → List (List (S41)) → List (S33) → Int → Int → Bool → Option (Bool)
 | 0, _, _, _, _, _ => none
 | k + 1, x0, x4, x5, x6, x48 => if x48 = true then (lw.l2 k x0 x4 x5 x6 0) else (if (x4.length : Int) ≤ x5 then (if ((decide ((x4.length : Int) > 0)) == (decide (x5 > 0))) = true then ((chainmanlaw50_awake.f k).bind fun t294 => (some t294)) else (none)) else (none))
def lw.l2 : Nat → List (List (S41)) → List (S33) → Int → Int → Int → Option (Bool)
 | 0, _, _, _, _, _ => none
 | k + 1, x0, x4, x5, x6, x7 => if 0 ≤ x6 then (if x6 < (x0.length : Int) then (if x7 < ((rd_L8 x0 x6).length : Int) then (if 0 ≤ x7 then (if ((rd_T41 (rd_L8 x0 x6) x7).f1) = x6 then (lw.l2 k x0 x4 x5 x6 (wrap64 (x7 + 1))) else (lw.l2 k x0 x4 (wrap64 (x5 + 1)) x6 (wrap64 (x7 + 1)))) else (none)) else (lw.l1 k x0 x4 x5 (wrap64 (x6 + 1)))) else (none)) else (none)
end
def lw.f (k : Nat) (l0 : List (List (S41))) : Option (Bool) := lw.l0 k l0 0
theorem lw.mono_l : ∀ k, (∀ y0 y1, LeO (lw.l0 k y0 y1) (lw.l0 (k + 1) y0 y1)) ∧ (∀ y0 y1 y2, LeO (lw.j1 k y0 y1 y2) (lw.j1 (k + 1) y0 y1 y2)) ∧ (∀ y0 y1 y2, LeO (lw.j2 k y0 y1 y2) (lw.j2 (k + 1) y0 y1 y2)) ∧ (∀ y0 y1 y2 y3, LeO (lw.l1 k y0 y1 y2 y3) (lw.l1 (k + 1) y0 y1 y2 y3)) ∧ (∀ y0 y1 y2 y3 y4, LeO (lw.j4 k y0 y1 y2 y3 y4) (lw.j4 (k + 1) y0 y1 y2 y3 y4)) ∧ (∀ y0 y1 y2 y3 y4, LeO (lw.l2 k y0 y1 y2 y3 y4) (lw.l2 (k + 1) y0 y1 y2 y3 y4))
 | 0 => ⟨fun _ _ r h => by simp [lw.l0] at h, fun _ _ _ r h => by simp [lw.j1] at h, fun _ _ _ r h => by simp [lw.j2] at h, fun _ _ _ _ r h => by simp [lw.l1] at h, fun _ _ _ _ _ r h => by simp [lw.j4] at h, fun _ _ _ _ _ r h => by simp [lw.l2] at h⟩
 | k + 1 => by
  obtain ⟨ih0, ih1, ih2, ih3, ih4, ih5⟩ := lw.mono_l k
  refine ⟨?_, ?_, ?_, ?_, ?_, ?_⟩
  ·intro y0 y1
   unfold lw.l0
   repeat' first
   | (with_reducible exact ih0 _ _)
   | (with_reducible exact ih1 _ _ _)
   | (with_reducible exact ih2 _ _ _)
   | (with_reducible exact ih3 _ _ _ _)
   | (with_reducible exact ih4 _ _ _ _ _)
   | (with_reducible exact ih5 _ _ _ _ _)
   | (with_reducible exact chainmanlaw50_awake.mono _)
   | (with_reducible exact chainmanref30_SamePairs.mono _ _ _)
   | (with_reducible exact chainmanref36_Clean.mono _ _)
   | (with_reducible exact chainmanref37_Clean.mono _ _)
   | (with_reducible exact chainmanref50_Edges.mono _ _)
   | (with_reducible exact diff_Edges.mono _ _)
   | (with_reducible exact LeO.refl _)
   | (with_reducible exact LeO.none _)
   | (with_reducible refine LeO.ite ?_ ?_)
   | (with_reducible refine LeO.bind ?_ (fun _ => ?_))
   | exact ih0 _ _
   | exact ih1 _ _ _
   | exact ih2 _ _ _
   | exact ih3 _ _ _ _
   | exact ih4 _ _ _ _ _
   | exact ih5 _ _ _ _ _
   | exact chainmanlaw50_awake.mono _
   | exact chainmanref30_SamePairs.mono _ _ _
   | exact chainmanref36_Clean.mono _ _
   | exact chainmanref37_Clean.mono _ _
   | exact chainmanref50_Edges.mono _ _
   | exact diff_Edges.mono _ _
   | exact LeO.none _
   | refine LeO.ite ?_ ?_
   | refine LeO.bind ?_ (fun _ => ?_)
  ·intro y0 y1 y2
   unfold lw.j1
   repeat' first
   | (with_reducible exact ih0 _ _)
   | (with_reducible exact ih1 _ _ _)
   | (with_reducible exact ih2 _ _ _)
   | (with_reducible exact ih3 _ _ _ _)
   | (with_reducible exact ih4 _ _ _ _ _)
   | (with_reducible exact ih5 _ _ _ _ _)
   | (with_reducible exact chainmanlaw50_awake.mono _)
   | (with_reducible exact chainmanref30_SamePairs.mono _ _ _)
   | (with_reducible exact chainmanref36_Clean.mono _ _)
   | (with_reducible exact chainmanref37_Clean.mono _ _)
   | (with_reducible exact chainmanref50_Edges.mono _ _)
   | (with_reducible exact diff_Edges.mono _ _)
   | (with_reducible exact LeO.refl _)
   | (with_reducible exact LeO.none _)
   | (with_reducible refine LeO.ite ?_ ?_)
   | (with_reducible refine LeO.bind ?_ (fun _ => ?_))
   | exact ih0 _ _
   | exact ih1 _ _ _
   | exact ih2 _ _ _
   | exact ih3 _ _ _ _
   | exact ih4 _ _ _ _ _
   | exact ih5 _ _ _ _ _
   | exact chainmanlaw50_awake.mono _
   | exact chainmanref30_SamePairs.mono _ _ _
   | exact chainmanref36_Clean.mono _ _
   | exact chainmanref37_Clean.mono _ _
   | exact chainmanref50_Edges.mono _ _
   | exact diff_Edges.mono _ _
   | exact LeO.none _
   | refine LeO.ite ?_ ?_
   | refine LeO.bind ?_ (fun _ => ?_)
  ·intro y0 y1 y2
   unfold lw.j2
   repeat' first
   | (with_reducible exact ih0 _ _)
   | (with_reducible exact ih1 _ _ _)
   | (with_reducible exact ih2 _ _ _)
   | (with_reducible exact ih3 _ _ _ _)
   | (with_reducible exact ih4 _ _ _ _ _)
   | (with_reducible exact ih5 _ _ _ _ _)
   | (with_reducible exact chainmanlaw50_awake.mono _)
   | (with_reducible exact chainmanref30_SamePairs.mono _ _ _)
   | (with_reducible exact chainmanref36_Clean.mono _ _)
   | (with_reducible exact chainmanref37_Clean.mono _ _)
   | (with_reducible exact chainmanref50_Edges.mono _ _)
   | (with_reducible exact diff_Edges.mono _ _)
   | (with_reducible exact LeO.refl _)
   | (with_reducible exact LeO.none _)
   | (with_reducible refine LeO.ite ?_ ?_)
   | (with_reducible refine LeO.bind ?_ (fun _ => ?_))
   | exact ih0 _ _
   | exact ih1 _ _ _
   | exact ih2 _ _ _
   | exact ih3 _ _ _ _
   | exact ih4 _ _ _ _ _
   | exact ih5 _ _ _ _ _
   | exact chainmanlaw50_awake.mono _
   | exact chainmanref30_SamePairs.mono _ _ _
   | exact chainmanref36_Clean.mono _ _
   | exact chainmanref37_Clean.mono _ _
   | exact chainmanref50_Edges.mono _ _
   | exact diff_Edges.mono _ _
   | exact LeO.none _
   | refine LeO.ite ?_ ?_
   | refine LeO.bind ?_ (fun _ => ?_)
  ·intro y0 y1 y2 y3
   unfold lw.l1
   repeat' first
   | (with_reducible exact ih0 _ _)
   | (with_reducible exact ih1 _ _ _)
   | (with_reducible exact ih2 _ _ _)
   | (with_reducible exact ih3 _ _ _ _)
   | (with_reducible exact ih4 _ _ _ _ _)
   | (with_reducible exact ih5 _ _ _ _ _)
   | (with_reducible exact chainmanlaw50_awake.mono _)
   | (with_reducible exact chainmanref30_SamePairs.mono _ _ _)
   | (with_reducible exact chainmanref36_Clean.mono _ _)
   | (with_reducible exact chainmanref37_Clean.mono _ _)
   | (with_reducible exact chainmanref50_Edges.mono _ _)
   | (with_reducible exact diff_Edges.mono _ _)
   | (with_reducible exact LeO.refl _)
   | (with_reducible exact LeO.none _)
   | (with_reducible refine LeO.ite ?_ ?_)
   | (with_reducible refine LeO.bind ?_ (fun _ => ?_))
   | exact ih0 _ _
   | exact ih1 _ _ _
   | exact ih2 _ _ _
   | exact ih3 _ _ _ _
   | exact ih4 _ _ _ _ _
   | exact ih5 _ _ _ _ _
   | exact chainmanlaw50_awake.mono _
   | exact chainmanref30_SamePairs.mono _ _ _
   | exact chainmanref36_Clean.mono _ _
   | exact chainmanref37_Clean.mono _ _
   | exact chainmanref50_Edges.mono _ _
   | exact diff_Edges.mono _ _
   | exact LeO.none _
   | refine LeO.ite ?_ ?_
   | refine LeO.bind ?_ (fun _ => ?_)
  ·intro y0 y1 y2 y3 y4
   unfold lw.j4
   repeat' first
   | (with_reducible exact ih0 _ _)
   | (with_reducible exact ih1 _ _ _)
   | (with_reducible exact ih2 _ _ _)
   | (with_reducible exact ih3 _ _ _ _)
   | (with_reducible exact ih4 _ _ _ _ _)
   | (with_reducible exact ih5 _ _ _ _ _)
   | (with_reducible exact chainmanlaw50_awake.mono _)
   | (with_reducible exact chainmanref30_SamePairs.mono _ _ _)
   | (with_reducible exact chainmanref36_Clean.mono _ _)
   | (with_reducible exact chainmanref37_Clean.mono _ _)
   | (with_reducible exact chainmanref50_Edges.mono _ _)
   | (with_reducible exact diff_Edges.mono _ _)
   | (with_reducible exact LeO.refl _)
   | (with_reducible exact LeO.none _)
   | (with_reducible refine LeO.ite ?_ ?_)
   | (with_reducible refine LeO.bind ?_ (fun _ => ?_))
   | exact ih0 _ _
   | exact ih1 _ _ _
   | exact ih2 _ _ _
   | exact ih3 _ _ _ _
   | exact ih4 _ _ _ _ _
   | exact ih5 _ _ _ _ _
   | exact chainmanlaw50_awake.mono _
   | exact chainmanref30_SamePairs.mono _ _ _
   | exact chainmanref36_Clean.mono _ _
   | exact chainmanref37_Clean.mono _ _
   | exact chainmanref50_Edges.mono _ _
   | exact diff_Edges.mono _ _
   | exact LeO.none _
   | refine LeO.ite ?_ ?_
   | refine LeO.bind ?_ (fun _ => ?_)
  ·intro y0 y1 y2 y3 y4
   unfold lw.l2
   repeat' first
   | (with_reducible exact ih0 _ _)
   | (with_reducible exact ih1 _ _ _)
   | (with_reducible exact ih2 _ _ _)
   | (with_reducible exact ih3 _ _ _ _)
   | (with_reducible exact ih4 _ _ _ _ _)
   | (with_reducible exact ih5 _ _ _ _ _)
   | (with_reducible exact chainmanlaw50_awake.mono _)
   | (with_reducible exact chainmanref30_SamePairs.mono _ _ _)
   | (with_reducible exact chainmanref36_Clean.mono _ _)
   | (with_reducible exact chainmanref37_Clean.mono _ _)
   | (with_reducible exact chainmanref50_Edges.mono _ _)
   | (with_reducible exact diff_Edges.mono _ _)
   | (with_reducible exact LeO.refl _)
   | (with_reducible exact LeO.none _)
   | (with_reducible refine LeO.ite ?_ ?_)
   | (with_reducible refine LeO.bind ?_ (fun _ => ?_))
   | exact ih0 _ _
   | exact ih1 _ _ _
   | exact ih2 _ _ _
   | exact ih3 _ _ _ _
   | exact ih4 _ _ _ _ _
   | exact ih5 _ _ _ _ _
   | exact chainmanlaw50_awake.mono _
   | exact chainmanref30_SamePairs.mono _ _ _
   | exact chainmanref36_Clean.mono _ _
   | exact chainmanref37_Clean.mono _ _
   | exact chainmanref50_Edges.mono _ _
   | exact diff_Edges.mono _ _
   | exact LeO.none _
   | refine LeO.ite ?_ ?_
   | refine LeO.bind ?_ (fun _ => ?_)
theorem lw.mono : ∀ a0 k, LeO (lw.f k a0) (lw.f (k + 1) a0) := by
 intro a0 k
 obtain ⟨ih0, ih1, ih2, ih3, ih4, ih5⟩ := lw.mono_l k
 unfold lw.f
 repeat' first
   | (with_reducible exact ih0 _ _)
   | (with_reducible exact ih1 _ _ _)
   | (with_reducible exact ih2 _ _ _)
   | (with_reducible exact ih3 _ _ _ _)
   | (with_reducible exact ih4 _ _ _ _ _)
   | (with_reducible exact ih5 _ _ _ _ _)
   | (with_reducible exact chainmanlaw50_awake.mono _)
   | (with_reducible exact chainmanref30_SamePairs.mono _ _ _)
   | (with_reducible exact chainmanref36_Clean.mono _ _)
   | (with_reducible exact chainmanref37_Clean.mono _ _)
   | (with_reducible exact chainmanref50_Edges.mono _ _)
   | (with_reducible exact diff_Edges.mono _ _)
   | (with_reducible exact LeO.refl _)
   | (with_reducible exact LeO.none _)
   | (with_reducible refine LeO.ite ?_ ?_)
   | (with_reducible refine LeO.bind ?_ (fun _ => ?_))
   | exact ih0 _ _
   | exact ih1 _ _ _
   | exact ih2 _ _ _
   | exact ih3 _ _ _ _
   | exact ih4 _ _ _ _ _
   | exact ih5 _ _ _ _ _
   | exact chainmanlaw50_awake.mono _
   | exact chainmanref30_SamePairs.mono _ _ _
   | exact chainmanref36_Clean.mono _ _
   | exact chainmanref37_Clean.mono _ _
   | exact chainmanref50_Edges.mono _ _
   | exact diff_Edges.mono _ _
   | exact LeO.none _
   | refine LeO.ite ?_ ?_
   | refine LeO.bind ?_ (fun _ => ?_)
set_option maxHeartbeats 8000000 in
set_option maxRecDepth 100000 in
theorem lw.calls (k : Nat) (A0 : Option Addr) (c0 : Nat) (l0 : List (List (S41))) (r : Bool) (w : World) (hr0 : Kd.C (Kd.slice 41 k41) w A0 l0.length l0) (hc0 : l0.length ≤ c0) (h : lw.f k l0 = some r) :
  Calls Tryd.prog 4 #[.slice A0 l0.length c0] w fun e w' => e = .returned (.bool r) ∧ Below w.heap.size w w' := by
 have HR0 := Aside0.mk hr0
 have HC0 := Aside0.mk hc0
 clear hr0 hc0
 have HB := Aside0.mk (Below.refl w.heap.size w)
 have H : (lw.l0 k l0 0) = some r := h
 clear h
 have H' := Aside0.mk H
 clear H
 go_enter Tryd.func4, Tryd.ntmps4
 go_wp2
 go_loopg [3] k (fun kq v3 w' => ∃ (x3_1 : Int), v3 = .int .i64 x3_1 ∧ Aside0 (lw.l0 kq l0 x3_1 = some r) ∧ Aside0 (kq ≤ k) ∧ Aside0 (Below w.heap.size w w'))
 case atStart => exact ⟨(0), (by first | rfl | (simp; done) | (simp [*]; done)), H', ⟨Nat.le_refl _⟩, ⟨by repeat (first | exact HB.out | apply below_alloc | apply pw_below_drewN | apply below_drew1)⟩⟩
 case round =>
  clear H'
  obtain ⟨x3_1, rfl, HA, HK1, HB⟩ := hrel
  cases gk with
  | zero => exact absurd HA.out (by simp [lw.l0])
  | succ k1 =>
   have H := HA.out
   clear HA
   simp only [lw.l0] at H
   have HC2 := Aside0.mk H
   clear H
   go_upto_region 2 with (fail)
   go_cut [15] (fun v15 wc => ∃ (kq : Nat) (x15_1 : Bool), v15 = .bool x15_1 ∧ Aside0 (lw.j1 kq l0 x3_1 x15_1 = some r) ∧ Aside0 (kq ≤ k1) ∧ Aside0 (Below w.heap.size w wc))
   case first =>
    have H := HC2.out
    clear HC2
    by_cases c3 : x3_1 < (l0.length : Int)
    ·rw [if_pos c3] at H
     have c3b0 : decide (x3_1 < (l0.length : Int)) = true := decide_eq_true c3
     clear c3
     (first | rw [c3b0] | (simp only [i64_w, i32_w]; rw [c3b0]) | skip)
     have H' := Aside0.mk H
     clear H
     go_wp2
     go_meet
     case rel => exact ⟨_, (decide (x3_1 < 12)), (by first | rfl | (simp; done) | (simp [*]; done)), H', ⟨by have := HK1.out; first | omega | exact Nat.le_refl _⟩, ⟨by repeat (first | exact HB.out | apply below_alloc | apply pw_below_drewN | apply below_drew1)⟩⟩
    ·rw [if_neg c3] at H
     have c3b0 : decide (x3_1 < (l0.length : Int)) = false := decide_eq_false c3
     clear c3
     (first | rw [c3b0] | (simp only [i64_w, i32_w]; rw [c3b0]) | skip)
     have H' := Aside0.mk H
     clear H
     go_wp2
     go_meet
     case rel => exact ⟨_, (false), (by first | rfl | (simp; done) | (simp [*]; done)), H', ⟨by have := HK1.out; first | omega | exact Nat.le_refl _⟩, ⟨by repeat (first | exact HB.out | apply below_alloc | apply pw_below_drewN | apply below_drew1)⟩⟩
   case rest =>
    clear HC2
    try clear p2
    try clear c3
    try clear c3b0
    obtain ⟨kq, x15_1, rfl, HA, HJ1, HB⟩ := hcut
    cases kq with
    | zero => exact absurd HA.out (by simp [lw.j1])
    | succ kj1 =>
     have H := HA.out
     clear HA
     simp only [lw.j1] at H
     by_cases c4 : x15_1 = true
     ·subst c4
      have H1 : (if 0 ≤ x3_1 then (if x3_1 < (l0.length : Int) then (if ((rd_L8 l0 x3_1).length : Int) > 12 then ((chainmanlaw50_awake.f kj1).bind fun t283 => (some t283)) else (lw.l0 kj1 l0 (wrap64 (x3_1 + 1)))) else (none)) else (none)) = some r := by rw [if_pos rfl] at H; exact H
      clear H
      have H := H1
      clear H1
      by_cases c5 : 0 ≤ x3_1
      ·rw [if_pos c5] at H
       have c5b0 : decide (0 ≤ x3_1) = true := decide_eq_true c5
       clear c5
       by_cases c6 : x3_1 < (l0.length : Int)
       ·rw [if_pos c6] at H
        have c6b0 : decide (x3_1 < (l0.length : Int)) = true := decide_eq_true c6
        clear c6
        by_cases c7 : ((rd_L8 l0 x3_1).length : Int) > 12
        ·rw [if_pos c7] at H
         have c7b0 : decide (12 < ((rd_L8 l0 x3_1).length : Int)) = true := decide_eq_true c7
         have c7b1 : decide (12 < (rd_L8 l0 x3_1).length) = true := decide_eq_true (by omega)
         clear c7
         replace H := Option.bind_eq_some_iff.mp H
         obtain ⟨t283, A80, H⟩ := H
         replace H : (some t283) = some r := H
         have A8 := Aside0.mk A80
         clear A80
         obtain rfl := Option.some.inj H
         have p282 : 0 ≤ (x3_1 : Int) := of_decide_eq_true (by assumption)
         have q282 : x3_1 < (l0.length : Int) := of_decide_eq_true (by assumption)
         obtain ⟨ad282, A282_0, c282_0, e282, hx282_0, hl282_0, hi282_0⟩ := at_L8 HR0.out x3_1 p282 q282
         cases e282
         replace hx282_0 := (HB.out.cell (World.block_lt_of_cell? w _ hx282_0)).trans hx282_0
         have HR282_0 := Aside0.mk hi282_0
         have HC282_0 := Aside0.mk hl282_0
         clear hi282_0 hl282_0
         replace p282 := eq_true p282
         replace q282 := eq_true q282
         go_wp2_with (first | ((with_reducible refine gate_callee (f := 6) rfl ?_); refine goesL_ (some 24) rfl rfl Tryd.func6 (by kernel_rfl) rfl #[] rfl (by (try simp only [List.map_toArray, List.map_cons, List.map_nil]); first | done | rfl) ?_; (with_reducible refine (chainmanlaw50_awake.calls kj1  t283 _ A8.out).mono ?_); rintro e w9 ⟨rfl, hb⟩; refine ⟨_, rfl, ?_⟩; have n0_ := Aside0.mk (below_step (by repeat (first | exact HB.out | apply below_alloc | apply pw_below_drewN | apply below_drew1)) hb); clear HB; have HB := n0_; clear n0_; (try clear hb); (try clear hb2); (try clear hk); (try clear hi)))
         go_ret
         exact ⟨by first | rfl | (simp [errW_none, errW_some] <;> rfl) | (simp [*, errW_none, errW_some] <;> rfl), by repeat (first | exact HB.out | apply below_alloc | apply pw_below_drewN | apply below_drew1)⟩
        ·rw [if_neg c7] at H
         have c7b0 : decide (12 < ((rd_L8 l0 x3_1).length : Int)) = false := decide_eq_false c7
         have c7b1 : decide (12 < (rd_L8 l0 x3_1).length) = false := decide_eq_false (by omega)
         clear c7
         have H' := Aside0.mk H
         clear H
         have p282 : 0 ≤ (x3_1 : Int) := of_decide_eq_true (by assumption)
         have q282 : x3_1 < (l0.length : Int) := of_decide_eq_true (by assumption)
         obtain ⟨ad282, A282_0, c282_0, e282, hx282_0, hl282_0, hi282_0⟩ := at_L8 HR0.out x3_1 p282 q282
         cases e282
         replace hx282_0 := (HB.out.cell (World.block_lt_of_cell? w _ hx282_0)).trans hx282_0
         have HR282_0 := Aside0.mk hi282_0
         have HC282_0 := Aside0.mk hl282_0
         clear hi282_0 hl282_0
         replace p282 := eq_true p282
         replace q282 := eq_true q282
         go_wp2
         go_roundg kj1
         case measure => have := HK1.out; have := HJ1.out; omega
         case rel => exact ⟨(wrap64 (x3_1 + 1)), (by first | rfl | (simp; done) | (simp [*]; done)), H', ⟨by have := HK1.out; have := HJ1.out; omega⟩, ⟨by repeat (first | exact HB.out | apply below_alloc | apply pw_below_drewN | apply below_drew1)⟩⟩
       ·rw [if_neg c6] at H
        exact absurd H (by simp)
      ·rw [if_neg c5] at H
       exact absurd H (by simp)
     ·replace c4 := Bool.eq_false_iff.mpr c4
      subst c4
      have H1 : (if (l0.length : Int) > 12 then ((chainmanlaw50_awake.f kj1).bind fun t284 => (some t284)) else ((diff_Edges.f kj1 l0).bind fun t285 => ((chainmanref50_Edges.f kj1 l0).bind fun t288 => ((chainmanref30_SamePairs.f kj1 t285 t288).bind fun t291 => (if t291 = true then ((chainmanref37_Clean.f kj1 t285).bind fun t292 => (lw.j2 kj1 l0 t285 (!t292))) else (lw.j2 kj1 l0 t285 true)))))) = some r := by rw [if_neg (show ¬ (false = true) by decide)] at H; exact H
      clear H
      have H := H1
      clear H1
      by_cases c10 : (l0.length : Int) > 12
      ·rw [if_pos c10] at H
       have c10b0 : decide (12 < (l0.length : Int)) = true := decide_eq_true c10
       have c10b1 : decide (12 < l0.length) = true := decide_eq_true (by omega)
       clear c10
       replace H := Option.bind_eq_some_iff.mp H
       obtain ⟨t284, A110, H⟩ := H
       replace H : (some t284) = some r := H
       have A11 := Aside0.mk A110
       clear A110
       obtain rfl := Option.some.inj H
       go_wp2_with (first | ((with_reducible refine gate_callee (f := 6) rfl ?_); refine goesL_ (some 28) rfl rfl Tryd.func6 (by kernel_rfl) rfl #[] rfl (by (try simp only [List.map_toArray, List.map_cons, List.map_nil]); first | done | rfl) ?_; (with_reducible refine (chainmanlaw50_awake.calls kj1  t284 _ A11.out).mono ?_); rintro e w12 ⟨rfl, hb⟩; refine ⟨_, rfl, ?_⟩; have n0_ := Aside0.mk (below_step (by repeat (first | exact HB.out | apply below_alloc | apply pw_below_drewN | apply below_drew1)) hb); clear HB; have HB := n0_; clear n0_; (try clear hb); (try clear hb2); (try clear hk); (try clear hi)))
       go_ret
       exact ⟨by first | rfl | (simp [errW_none, errW_some] <;> rfl) | (simp [*, errW_none, errW_some] <;> rfl), by repeat (first | exact HB.out | apply below_alloc | apply pw_below_drewN | apply below_drew1)⟩
      ·rw [if_neg c10] at H
       have c10b0 : decide (12 < (l0.length : Int)) = false := decide_eq_false c10
       have c10b1 : decide (12 < l0.length) = false := decide_eq_false (by omega)
       clear c10
       replace H := Option.bind_eq_some_iff.mp H
       obtain ⟨t285, A130, H⟩ := H
       replace H : ((chainmanref50_Edges.f kj1 l0).bind fun t288 => ((chainmanref30_SamePairs.f kj1 t285 t288).bind fun t291 => (if t291 = true then ((chainmanref37_Clean.f kj1 t285).bind fun t292 => (lw.j2 kj1 l0 t285 (!t292))) else (lw.j2 kj1 l0 t285 true)))) = some r := H
       have A13 := Aside0.mk A130
       clear A130
       have HC14 := Aside0.mk H
       clear H
       go_upto_region 9 with (first | ((with_reducible refine gate_callee (f := 12) rfl ?_); refine goesL_ (some 30) rfl rfl Tryd.func12 (by kernel_rfl) rfl #[.slice A0 l0.length c0] rfl (by (try simp only [List.map_toArray, List.map_cons, List.map_nil]); first | done | rfl) ?_; (with_reducible refine (diff_Edges.calls kj1 _ _ l0 t285 _ ?side1 ?side2 A13.out).mono ?_); (case side1 => repeat (first | exact (Kd.C_below HR0.out HB.out) | (with_reducible refine Kd.C_alloc ?_ _) | (with_reducible refine Kd.C_drewN ?_ _) | (with_reducible refine Kd.C_drew ?_))); (case side2 => exact HC0.out); rintro e w15 ⟨v286, rfl, ho0, hb⟩; refine ⟨_, rfl, ?_⟩; have n0_ := Aside0.mk (Kd.R_lower ho0 (below_size (by repeat (first | exact HB.out | apply below_alloc | apply pw_below_drewN | apply below_drew1)))); have n1_ := Aside0.mk (below_step (by repeat (first | exact HB.out | apply below_alloc | apply pw_below_drewN | apply below_drew1)) hb); clear HB; have HO287 := n0_; have HB := n1_; clear n0_ n1_; (try clear hb); (try clear hb2); (try clear hk); (try clear hi); (try clear ho0)))
       (try simp only [Act.put, List.setIfInBounds_toArray, List.set_cons_zero, List.set_cons_succ])
       go_cut [40] (fun v40 wc => ∃ (kq : Nat) (x40_13 : Bool), v40 = .bool x40_13 ∧ Aside0 (lw.j2 kq l0 t285 x40_13 = some r) ∧ Aside0 (kq ≤ kj1) ∧ Aside0 (Kd.R k33 33 wc w.heap.size (fun _ => True) v286 t285) ∧ Aside0 (Below w.heap.size w wc))
       case first =>
        have H := HC14.out
        clear HC14
        replace H := Option.bind_eq_some_iff.mp H
        obtain ⟨t288, A160, H⟩ := H
        replace H : ((chainmanref30_SamePairs.f kj1 t285 t288).bind fun t291 => (if t291 = true then ((chainmanref37_Clean.f kj1 t285).bind fun t292 => (lw.j2 kj1 l0 t285 (!t292))) else (lw.j2 kj1 l0 t285 true))) = some r := H
        have A16 := Aside0.mk A160
        clear A160
        replace H := Option.bind_eq_some_iff.mp H
        obtain ⟨t291, A170, H⟩ := H
        replace H : (if t291 = true then ((chainmanref37_Clean.f kj1 t285).bind fun t292 => (lw.j2 kj1 l0 t285 (!t292))) else (lw.j2 kj1 l0 t285 true)) = some r := H
        have A17 := Aside0.mk A170
        clear A170
        by_cases c18 : t291 = true
        ·subst c18
         have H1 : ((chainmanref37_Clean.f kj1 t285).bind fun t292 => (lw.j2 kj1 l0 t285 (!t292))) = some r := by rw [if_pos rfl] at H; exact H
         clear H
         have H := H1
         clear H1
         replace H := Option.bind_eq_some_iff.mp H
         obtain ⟨t292, A190, H⟩ := H
         replace H : (lw.j2 kj1 l0 t285 (!t292)) = some r := H
         have A19 := Aside0.mk A190
         clear A190
         have H' := Aside0.mk H
         clear H
         go_wp2_with (first | ((with_reducible refine gate_callee (f := 13) rfl ?_); refine goesL_ (some 33) rfl rfl Tryd.func13 (by kernel_rfl) rfl #[.slice A0 l0.length c0] rfl (by (try simp only [List.map_toArray, List.map_cons, List.map_nil]); first | done | rfl) ?_; (with_reducible refine (chainmanref50_Edges.calls kj1 _ _ l0 t288 _ ?side1 ?side2 A16.out).mono ?_); (case side1 => repeat (first | exact (Kd.C_below HR0.out HB.out) | (with_reducible refine Kd.C_alloc ?_ _) | (with_reducible refine Kd.C_drewN ?_ _) | (with_reducible refine Kd.C_drew ?_))); (case side2 => exact HC0.out); rintro e w20 ⟨v289, rfl, ho0, hb⟩; refine ⟨_, rfl, ?_⟩; have n0_ := Aside0.mk (Kd.R_elder' (by (with_reducible repeat (first | apply Kd.R_alloc | apply Kd.R_drewN | apply Kd.R_drew)); exact HO287.out) (Kd.R_base ho0) hb); have n1_ := Aside0.mk (Kd.R_lower (Kd.R_new' ho0 (Kd.R_lt (by (with_reducible repeat (first | apply Kd.R_alloc | apply Kd.R_drewN | apply Kd.R_drew)); exact HO287.out))) (below_size (by repeat (first | exact HB.out | apply below_alloc | apply pw_below_drewN | apply below_drew1)))); have n2_ := Aside0.mk (below_step (by repeat (first | exact HB.out | apply below_alloc | apply pw_below_drewN | apply below_drew1)) hb); clear HO287; clear HB; have HO287 := n0_; have HO290 := n1_; have HB := n2_; clear n0_ n1_ n2_; (try clear hb); (try clear hb2); (try clear hk); (try clear hi); (try clear ho0); obtain ⟨Ao21, co21, eo21⟩ := Kd.R_slice HO287.out; subst eo21; obtain ⟨Ao22, co22, eo22⟩ := Kd.R_slice HO290.out; subst eo22) | ((with_reducible refine gate_callee (f := 10) rfl ?_); refine goesL_ (some 34) rfl rfl Tryd.func10 (by kernel_rfl) rfl #[.slice Ao21 t285.length co21, .slice Ao22 t288.length co22] rfl (by (try simp only [List.map_toArray, List.map_cons, List.map_nil]); first | done | rfl) ?_; (with_reducible refine (chainmanref30_SamePairs.calls kj1 _ _ t285 _ _ t288 true _ ?side1 ?side2 ?side3 ?side4 A17.out).mono ?_); (case side1 => repeat (first | exact (Kd.R_reads' HO287.out).2.2 | (with_reducible refine Kd.C_alloc ?_ _) | (with_reducible refine Kd.C_drewN ?_ _) | (with_reducible refine Kd.C_drew ?_))); (case side2 => exact (Kd.R_reads' HO287.out).2.1); (case side3 => repeat (first | exact (Kd.R_reads' HO290.out).2.2 | (with_reducible refine Kd.C_alloc ?_ _) | (with_reducible refine Kd.C_drewN ?_ _) | (with_reducible refine Kd.C_drew ?_))); (case side4 => exact (Kd.R_reads' HO290.out).2.1); rintro e w' ⟨rfl, ⟨nd, rfl⟩⟩; refine ⟨_, rfl, ?_⟩) | (go_at_call 10; refine calls_of_args (args' := #[.slice Ao21 t285.length co21, .slice Ao22 t288.length co22]) (by first | rfl) ?_; (with_reducible refine (chainmanref30_SamePairs.calls kj1 _ _ t285 _ _ t288 true _ ?side1 ?side2 ?side3 ?side4 A17.out).mono ?_); (case side1 => repeat (first | exact (Kd.R_reads' HO287.out).2.2 | (with_reducible refine Kd.C_alloc ?_ _) | (with_reducible refine Kd.C_drewN ?_ _) | (with_reducible refine Kd.C_drew ?_))); (case side2 => exact (Kd.R_reads' HO287.out).2.1); (case side3 => repeat (first | exact (Kd.R_reads' HO290.out).2.2 | (with_reducible refine Kd.C_alloc ?_ _) | (with_reducible refine Kd.C_drewN ?_ _) | (with_reducible refine Kd.C_drew ?_))); (case side4 => exact (Kd.R_reads' HO290.out).2.1); rintro e w' ⟨rfl, ⟨nd, rfl⟩⟩) | (go_at_call 5; (with_reducible refine (chainmanref37_Clean.calls kj1 _ _ t285 t292 _ ?side1 ?side2 A19.out).mono ?_); (case side1 => repeat (first | exact (Kd.R_reads' HO287.out).2.2 | (with_reducible refine Kd.C_alloc ?_ _) | (with_reducible refine Kd.C_drewN ?_ _) | (with_reducible refine Kd.C_drew ?_))); (case side2 => exact (Kd.R_reads' HO287.out).2.1); rintro e w23 ⟨rfl, hb⟩; have n0_ := Aside0.mk (Kd.R_below (by (with_reducible repeat (first | apply Kd.R_alloc | apply Kd.R_drewN | apply Kd.R_drew)); exact HO287.out) hb); have n1_ := Aside0.mk (Kd.R_below (by (with_reducible repeat (first | apply Kd.R_alloc | apply Kd.R_drewN | apply Kd.R_drew)); exact HO290.out) hb); have n2_ := Aside0.mk (below_step (by repeat (first | exact HB.out | apply below_alloc | apply pw_below_drewN | apply below_drew1)) hb); clear HO287; clear HO290; clear HB; have HO287 := n0_; have HO290 := n1_; have HB := n2_; clear n0_ n1_ n2_; (try clear hb); (try clear hb2); (try clear hk); (try clear hi)))
         go_meet
         case rel => exact ⟨_, (!t292), (by first | rfl | (simp; done) | (simp [*]; done)), H', ⟨by have := HK1.out; have := HJ1.out; first | omega | exact Nat.le_refl _⟩, ⟨by (with_reducible repeat (first | apply Kd.R_alloc | apply Kd.R_drewN | apply Kd.R_drew)); exact Kd.R_mono HO287.out (fun _ hk => trivial)⟩, ⟨by repeat (first | exact HB.out | apply below_alloc | apply pw_below_drewN | apply below_drew1)⟩⟩
        ·replace c18 := Bool.eq_false_iff.mpr c18
         subst c18
         have H1 : (lw.j2 kj1 l0 t285 true) = some r := by rw [if_neg (show ¬ (false = true) by decide)] at H; exact H
         clear H
         have H := H1
         clear H1
         have H' := Aside0.mk H
         clear H
         go_wp2_with (first | ((with_reducible refine gate_callee (f := 13) rfl ?_); refine goesL_ (some 33) rfl rfl Tryd.func13 (by kernel_rfl) rfl #[.slice A0 l0.length c0] rfl (by (try simp only [List.map_toArray, List.map_cons, List.map_nil]); first | done | rfl) ?_; (with_reducible refine (chainmanref50_Edges.calls kj1 _ _ l0 t288 _ ?side1 ?side2 A16.out).mono ?_); (case side1 => repeat (first | exact (Kd.C_below HR0.out HB.out) | (with_reducible refine Kd.C_alloc ?_ _) | (with_reducible refine Kd.C_drewN ?_ _) | (with_reducible refine Kd.C_drew ?_))); (case side2 => exact HC0.out); rintro e w24 ⟨v289, rfl, ho0, hb⟩; refine ⟨_, rfl, ?_⟩; have n0_ := Aside0.mk (Kd.R_elder' (by (with_reducible repeat (first | apply Kd.R_alloc | apply Kd.R_drewN | apply Kd.R_drew)); exact HO287.out) (Kd.R_base ho0) hb); have n1_ := Aside0.mk (Kd.R_lower (Kd.R_new' ho0 (Kd.R_lt (by (with_reducible repeat (first | apply Kd.R_alloc | apply Kd.R_drewN | apply Kd.R_drew)); exact HO287.out))) (below_size (by repeat (first | exact HB.out | apply below_alloc | apply pw_below_drewN | apply below_drew1)))); have n2_ := Aside0.mk (below_step (by repeat (first | exact HB.out | apply below_alloc | apply pw_below_drewN | apply below_drew1)) hb); clear HO287; clear HB; have HO287 := n0_; have HO290 := n1_; have HB := n2_; clear n0_ n1_ n2_; (try clear hb); (try clear hb2); (try clear hk); (try clear hi); (try clear ho0); obtain ⟨Ao25, co25, eo25⟩ := Kd.R_slice HO287.out; subst eo25; obtain ⟨Ao26, co26, eo26⟩ := Kd.R_slice HO290.out; subst eo26) | ((with_reducible refine gate_callee (f := 10) rfl ?_); refine goesL_ (some 34) rfl rfl Tryd.func10 (by kernel_rfl) rfl #[.slice Ao25 t285.length co25, .slice Ao26 t288.length co26] rfl (by (try simp only [List.map_toArray, List.map_cons, List.map_nil]); first | done | rfl) ?_; (with_reducible refine (chainmanref30_SamePairs.calls kj1 _ _ t285 _ _ t288 false _ ?side1 ?side2 ?side3 ?side4 A17.out).mono ?_); (case side1 => repeat (first | exact (Kd.R_reads' HO287.out).2.2 | (with_reducible refine Kd.C_alloc ?_ _) | (with_reducible refine Kd.C_drewN ?_ _) | (with_reducible refine Kd.C_drew ?_))); (case side2 => exact (Kd.R_reads' HO287.out).2.1); (case side3 => repeat (first | exact (Kd.R_reads' HO290.out).2.2 | (with_reducible refine Kd.C_alloc ?_ _) | (with_reducible refine Kd.C_drewN ?_ _) | (with_reducible refine Kd.C_drew ?_))); (case side4 => exact (Kd.R_reads' HO290.out).2.1); rintro e w' ⟨rfl, ⟨nd, rfl⟩⟩; refine ⟨_, rfl, ?_⟩) | (go_at_call 10; refine calls_of_args (args' := #[.slice Ao25 t285.length co25, .slice Ao26 t288.length co26]) (by first | rfl) ?_; (with_reducible refine (chainmanref30_SamePairs.calls kj1 _ _ t285 _ _ t288 false _ ?side1 ?side2 ?side3 ?side4 A17.out).mono ?_); (case side1 => repeat (first | exact (Kd.R_reads' HO287.out).2.2 | (with_reducible refine Kd.C_alloc ?_ _) | (with_reducible refine Kd.C_drewN ?_ _) | (with_reducible refine Kd.C_drew ?_))); (case side2 => exact (Kd.R_reads' HO287.out).2.1); (case side3 => repeat (first | exact (Kd.R_reads' HO290.out).2.2 | (with_reducible refine Kd.C_alloc ?_ _) | (with_reducible refine Kd.C_drewN ?_ _) | (with_reducible refine Kd.C_drew ?_))); (case side4 => exact (Kd.R_reads' HO290.out).2.1); rintro e w' ⟨rfl, ⟨nd, rfl⟩⟩))
         go_meet
         case rel => exact ⟨_, (true), (by first | rfl | (simp; done) | (simp [*]; done)), H', ⟨by have := HK1.out; have := HJ1.out; first | omega | exact Nat.le_refl _⟩, ⟨by (with_reducible repeat (first | apply Kd.R_alloc | apply Kd.R_drewN | apply Kd.R_drew)); exact Kd.R_mono HO287.out (fun _ hk => trivial)⟩, ⟨by repeat (first | exact HB.out | apply below_alloc | apply pw_below_drewN | apply below_drew1)⟩⟩
       case rest =>
        clear HC14
        try clear c1
        try clear c2
        try clear p2
        try clear q2
        try clear hx2
        try clear c3
        try clear c3b0
        try clear c4
        try clear c5
        try clear c5b0
        try clear c6
        try clear c6b0
        try clear p6
        try clear c7
        try clear c7b0
        try clear c7b1
        try clear c10
        try clear c10b0
        try clear c10b1
        try clear c12
        try clear c13
        try clear c18
        try clear hx282_0
        try clear p2
        try clear p282
        try clear q282
        obtain ⟨kq, x40_13, rfl, HA, HJ13, HO_4, HB⟩ := hcut
        cases kq with
        | zero => exact absurd HA.out (by simp [lw.j2])
        | succ kj13 =>
         have H := HA.out
         clear HA
         simp only [lw.j2] at H
         by_cases c27 : x40_13 = true
         ·subst c27
          have H1 : (none) = some r := by rw [if_pos rfl] at H; exact H
          clear H
          have H := H1
          clear H1
          exact absurd H (by simp)
         ·replace c27 := Bool.eq_false_iff.mpr c27
          subst c27
          have H1 : (lw.l1 kj13 l0 t285 0 0) = some r := by rw [if_neg (show ¬ (false = true) by decide)] at H; exact H
          clear H
          have H := H1
          clear H1
          have H' := Aside0.mk H
          clear H
          go_wp2
          go_loopg [5, 6] kj13 (fun kq v5 v6 w' => ∃ (x5_4 : Int) (x6_4 : Int), v5 = .int .i64 x5_4 ∧ v6 = .int .i64 x6_4 ∧ Aside0 (lw.l1 kq l0 t285 x5_4 x6_4 = some r) ∧ Aside0 (kq ≤ kj13) ∧ Aside0 (Kd.R k33 33 w' w.heap.size (fun _ => True) v286 t285) ∧ Aside0 (Below w.heap.size w w'))
          case atStart => exact ⟨(0), (0), (by first | rfl | (simp; done) | (simp [*]; done)), (by first | rfl | (simp; done) | (simp [*]; done)), H', ⟨Nat.le_refl _⟩, ⟨by (with_reducible repeat (first | apply Kd.R_alloc | apply Kd.R_drewN | apply Kd.R_drew)); exact HO_4.out⟩, ⟨by repeat (first | exact HB.out | apply below_alloc | apply pw_below_drewN | apply below_drew1)⟩⟩
          case round =>
           clear H'
           try clear c1
           try clear c2
           try clear p2
           try clear q2
           try clear hx2
           try clear c3
           try clear c3b0
           try clear c4
           try clear c5
           try clear c5b0
           try clear c6
           try clear c6b0
           try clear p6
           try clear c7
           try clear c7b0
           try clear c7b1
           try clear c10
           try clear c10b0
           try clear c10b1
           try clear c12
           try clear c13
           try clear c18
           try clear c27
           try clear hx282_0
           try clear p2
           try clear p282
           try clear p6
           try clear q2
           try clear q282
           obtain ⟨x5_4, x6_4, rfl, rfl, HA, HK4, HO_4, HB⟩ := hrel
           cases gk with
           | zero => exact absurd HA.out (by simp [lw.l1])
           | succ k4 =>
            have H := HA.out
            clear HA
            simp only [lw.l1] at H
            have HC28 := Aside0.mk H
            clear H
            go_upto_region 13 with (fail)
            go_cut [48] (fun v48 wc => ∃ (kq : Nat) (x48_27 : Bool), v48 = .bool x48_27 ∧ Aside0 (lw.j4 kq l0 t285 x5_4 x6_4 x48_27 = some r) ∧ Aside0 (kq ≤ k4) ∧ Aside0 (Kd.R k33 33 wc w.heap.size (fun _ => True) v286 t285) ∧ Aside0 (Below w.heap.size w wc))
            case first =>
             have H := HC28.out
             clear HC28
             by_cases c29 : x6_4 < (l0.length : Int)
             ·rw [if_pos c29] at H
              have c29b0 : decide (x6_4 < (l0.length : Int)) = true := decide_eq_true c29
              clear c29
              (first | rw [c29b0] | (simp only [i64_w, i32_w]; rw [c29b0]) | skip)
              replace H := Option.bind_eq_some_iff.mp H
              obtain ⟨t293, A300, H⟩ := H
              replace H : (lw.j4 k4 l0 t285 x5_4 x6_4 t293) = some r := H
              have A30 := Aside0.mk A300
              clear A300
              have H' := Aside0.mk H
              clear H
              go_wp2_with (first | (go_at_call 14; (with_reducible refine (chainmanref36_Clean.calls k4 _ _ l0 t293 _ ?side1 ?side2 A30.out).mono ?_); (case side1 => repeat (first | exact (Kd.C_below HR0.out HB.out) | (with_reducible refine Kd.C_alloc ?_ _) | (with_reducible refine Kd.C_drewN ?_ _) | (with_reducible refine Kd.C_drew ?_))); (case side2 => exact HC0.out); rintro e w31 ⟨rfl, hb⟩; have n0_ := Aside0.mk (Kd.R_below (by (with_reducible repeat (first | apply Kd.R_alloc | apply Kd.R_drewN | apply Kd.R_drew)); exact HO_4.out) hb); have n1_ := Aside0.mk (below_step (by repeat (first | exact HB.out | apply below_alloc | apply pw_below_drewN | apply below_drew1)) hb); clear HO_4; clear HB; have HO_4 := n0_; have HB := n1_; clear n0_ n1_; (try clear hb); (try clear hb2); (try clear hk); (try clear hi)))
              go_meet
              case rel => exact ⟨_, (t293), (by first | rfl | (simp; done) | (simp [*]; done)), H', ⟨by have := HK1.out; have := HJ1.out; have := HJ13.out; have := HK4.out; first | omega | exact Nat.le_refl _⟩, ⟨by (with_reducible repeat (first | apply Kd.R_alloc | apply Kd.R_drewN | apply Kd.R_drew)); exact HO_4.out⟩, ⟨by repeat (first | exact HB.out | apply below_alloc | apply pw_below_drewN | apply below_drew1)⟩⟩
             ·rw [if_neg c29] at H
              have c29b0 : decide (x6_4 < (l0.length : Int)) = false := decide_eq_false c29
              clear c29
              (first | rw [c29b0] | (simp only [i64_w, i32_w]; rw [c29b0]) | skip)
              have H' := Aside0.mk H
              clear H
              go_wp2
              go_meet
              case rel => exact ⟨_, (false), (by first | rfl | (simp; done) | (simp [*]; done)), H', ⟨by have := HK1.out; have := HJ1.out; have := HJ13.out; have := HK4.out; first | omega | exact Nat.le_refl _⟩, ⟨by (with_reducible repeat (first | apply Kd.R_alloc | apply Kd.R_drewN | apply Kd.R_drew)); exact HO_4.out⟩, ⟨by repeat (first | exact HB.out | apply below_alloc | apply pw_below_drewN | apply below_drew1)⟩⟩
            case rest =>
             clear HC28
             try clear c1
             try clear c2
             try clear p2
             try clear q2
             try clear hx2
             try clear c3
             try clear c3b0
             try clear c4
             try clear c5
             try clear c5b0
             try clear c6
             try clear c6b0
             try clear p6
             try clear c7
             try clear c7b0
             try clear c7b1
             try clear c10
             try clear c10b0
             try clear c10b1
             try clear c12
             try clear c13
             try clear c18
             try clear c27
             try clear c28
             try clear p28
             try clear q28
             try clear hx28
             try clear c29
             try clear c29b0
             try clear hx282_0
             try clear p2
             try clear p282
             try clear p6
             try clear q2
             try clear q282
             obtain ⟨kq, x48_27, rfl, HA, HJ27, HO_4, HB⟩ := hcut
             cases kq with
             | zero => exact absurd HA.out (by simp [lw.j4])
             | succ kj27 =>
              have H := HA.out
              clear HA
              simp only [lw.j4] at H
              by_cases c32 : x48_27 = true
              ·subst c32
               have H1 : (lw.l2 kj27 l0 t285 x5_4 x6_4 0) = some r := by rw [if_pos rfl] at H; exact H
               clear H
               have H := H1
               clear H1
               have H' := Aside0.mk H
               clear H
               go_wp2
               go_loopg [5, 7] kj27 (fun kq v5 v7 w' => ∃ (x5_6 : Int) (x7_6 : Int), v5 = .int .i64 x5_6 ∧ v7 = .int .i64 x7_6 ∧ Aside0 (lw.l2 kq l0 t285 x5_6 x6_4 x7_6 = some r) ∧ Aside0 (kq ≤ kj27) ∧ Aside0 (Kd.R k33 33 w' w.heap.size (fun _ => True) v286 t285) ∧ Aside0 (Below w.heap.size w w'))
               case atStart => exact ⟨(x5_4), (0), (by first | rfl | (simp; done) | (simp [*]; done)), (by first | rfl | (simp; done) | (simp [*]; done)), H', ⟨Nat.le_refl _⟩, ⟨by (with_reducible repeat (first | apply Kd.R_alloc | apply Kd.R_drewN | apply Kd.R_drew)); exact HO_4.out⟩, ⟨by repeat (first | exact HB.out | apply below_alloc | apply pw_below_drewN | apply below_drew1)⟩⟩
               case round =>
                clear H'
                try clear c1
                try clear c2
                try clear p2
                try clear q2
                try clear hx2
                try clear c3
                try clear c3b0
                try clear c4
                try clear c5
                try clear c5b0
                try clear c6
                try clear c6b0
                try clear p6
                try clear c7
                try clear c7b0
                try clear c7b1
                try clear c10
                try clear c10b0
                try clear c10b1
                try clear c12
                try clear c13
                try clear c18
                try clear c27
                try clear c28
                try clear p28
                try clear q28
                try clear hx28
                try clear c29
                try clear c29b0
                try clear c32
                try clear hx282_0
                try clear p2
                try clear p28
                try clear p282
                try clear p6
                try clear q2
                try clear q28
                try clear q282
                obtain ⟨x5_6, x7_6, rfl, rfl, HA, HK6, HO_4, HB⟩ := hrel
                cases gk with
                | zero => exact absurd HA.out (by simp [lw.l2])
                | succ k6 =>
                 have H := HA.out
                 clear HA
                 simp only [lw.l2] at H
                 by_cases c33 : 0 ≤ x6_4
                 ·rw [if_pos c33] at H
                  have c33b0 : decide (0 ≤ x6_4) = true := decide_eq_true c33
                  clear c33
                  by_cases c34 : x6_4 < (l0.length : Int)
                  ·rw [if_pos c34] at H
                   have c34b0 : decide (x6_4 < (l0.length : Int)) = true := decide_eq_true c34
                   clear c34
                   by_cases c35 : x7_6 < ((rd_L8 l0 x6_4).length : Int)
                   ·rw [if_pos c35] at H
                    have c35b0 : decide (x7_6 < ((rd_L8 l0 x6_4).length : Int)) = true := decide_eq_true c35
                    clear c35
                    by_cases c36 : 0 ≤ x7_6
                    ·rw [if_pos c36] at H
                     have c36b0 : decide (0 ≤ x7_6) = true := decide_eq_true c36
                     clear c36
                     by_cases c37 : ((rd_T41 (rd_L8 l0 x6_4) x7_6).f1) = x6_4
                     ·rw [if_pos c37] at H
                      have c37b0 : (((rd_T41 (rd_L8 l0 x6_4) x7_6).f1) == x6_4) = true := beq_iff_eq.mpr c37
                      have c37b1 : (((rd_T41 (rd_L8 l0 x6_4) x7_6).f1) != x6_4) = false := bne_eq_false_iff_eq.mpr c37
                      clear c37
                      have H' := Aside0.mk H
                      clear H
                      have p295 : 0 ≤ (x6_4 : Int) := of_decide_eq_true (by assumption)
                      have q295 : x6_4 < (l0.length : Int) := of_decide_eq_true (by assumption)
                      obtain ⟨ad295, A295_0, c295_0, e295, hx295_0, hl295_0, hi295_0⟩ := at_L8 HR0.out x6_4 p295 q295
                      cases e295
                      replace hx295_0 := (HB.out.cell (World.block_lt_of_cell? w _ hx295_0)).trans hx295_0
                      have HR295_0 := Aside0.mk hi295_0
                      have HC295_0 := Aside0.mk hl295_0
                      clear hi295_0 hl295_0
                      replace p295 := eq_true p295
                      replace q295 := eq_true q295
                      have p296 : 0 ≤ (x6_4 : Int) := of_decide_eq_true (by assumption)
                      have q296 : x6_4 < (l0.length : Int) := of_decide_eq_true (by assumption)
                      obtain ⟨ad296, A296_0, c296_0, e296, hx296_0, hl296_0, hi296_0⟩ := at_L8 HR0.out x6_4 p296 q296
                      obtain rfl : ad295 = ad296 := (by injection e296)
                      replace hx296_0 := (HB.out.cell (World.block_lt_of_cell? w _ hx296_0)).trans hx296_0
                      have HR296_0 := Aside0.mk hi296_0
                      have HC296_0 := Aside0.mk hl296_0
                      clear hi296_0 hl296_0
                      replace p296 := eq_true p296
                      replace q296 := eq_true q296
                      have ea_ := Option.some.inj (hx295_0.symm.trans hx296_0)
                      injection ea_ with ea_ en_ ec_
                      subst ea_
                      subst ec_
                      clear en_
                      have p297 : 0 ≤ (x7_6 : Int) := of_decide_eq_true (by assumption)
                      have q297 : x7_6 < ((rd_L8 l0 x6_4).length : Int) := of_decide_eq_true (by assumption)
                      obtain ⟨ad297, e297, hx297_0, hx297_1, hx297_2⟩ := at_T41 HR296_0.out x7_6 p297 q297
                      cases e297
                      replace hx297_0 := (HB.out.cell (World.block_lt_of_cell? w _ hx297_0)).trans hx297_0
                      replace hx297_1 := (HB.out.cell (World.block_lt_of_cell? w _ hx297_1)).trans hx297_1
                      replace hx297_2 := (HB.out.cell (World.block_lt_of_cell? w _ hx297_2)).trans hx297_2
                      replace p297 := eq_true p297
                      replace q297 := eq_true q297
                      go_wp2
                      go_roundg k6
                      case measure => have := HK1.out; have := HJ1.out; have := HJ13.out; have := HK4.out; have := HJ27.out; have := HK6.out; omega
                      case rel => exact ⟨(x5_6), (wrap64 (x7_6 + 1)), (by first | rfl | (simp; done) | (simp [*]; done)), (by first | rfl | (simp; done) | (simp [*]; done)), H', ⟨by have := HK1.out; have := HJ1.out; have := HJ13.out; have := HK4.out; have := HJ27.out; have := HK6.out; omega⟩, ⟨by (with_reducible repeat (first | apply Kd.R_alloc | apply Kd.R_drewN | apply Kd.R_drew)); exact HO_4.out⟩, ⟨by repeat (first | exact HB.out | apply below_alloc | apply pw_below_drewN | apply below_drew1)⟩⟩
                     ·rw [if_neg c37] at H
                      have c37b0 : (((rd_T41 (rd_L8 l0 x6_4) x7_6).f1) == x6_4) = false := beq_eq_false_iff_ne.mpr c37
                      have c37b1 : (((rd_T41 (rd_L8 l0 x6_4) x7_6).f1) != x6_4) = true := bne_iff_ne.mpr c37
                      have H' := Aside0.mk H
                      clear H
                      have p295 : 0 ≤ (x6_4 : Int) := of_decide_eq_true (by assumption)
                      have q295 : x6_4 < (l0.length : Int) := of_decide_eq_true (by assumption)
                      obtain ⟨ad295, A295_0, c295_0, e295, hx295_0, hl295_0, hi295_0⟩ := at_L8 HR0.out x6_4 p295 q295
                      cases e295
                      replace hx295_0 := (HB.out.cell (World.block_lt_of_cell? w _ hx295_0)).trans hx295_0
                      have HR295_0 := Aside0.mk hi295_0
                      have HC295_0 := Aside0.mk hl295_0
                      clear hi295_0 hl295_0
                      replace p295 := eq_true p295
                      replace q295 := eq_true q295
                      have p296 : 0 ≤ (x6_4 : Int) := of_decide_eq_true (by assumption)
                      have q296 : x6_4 < (l0.length : Int) := of_decide_eq_true (by assumption)
                      obtain ⟨ad296, A296_0, c296_0, e296, hx296_0, hl296_0, hi296_0⟩ := at_L8 HR0.out x6_4 p296 q296
                      obtain rfl : ad295 = ad296 := (by injection e296)
                      replace hx296_0 := (HB.out.cell (World.block_lt_of_cell? w _ hx296_0)).trans hx296_0
                      have HR296_0 := Aside0.mk hi296_0
                      have HC296_0 := Aside0.mk hl296_0
                      clear hi296_0 hl296_0
                      replace p296 := eq_true p296
                      replace q296 := eq_true q296
                      have ea_ := Option.some.inj (hx295_0.symm.trans hx296_0)
                      injection ea_ with ea_ en_ ec_
                      subst ea_
                      subst ec_
                      clear en_
                      have p297 : 0 ≤ (x7_6 : Int) := of_decide_eq_true (by assumption)
                      have q297 : x7_6 < ((rd_L8 l0 x6_4).length : Int) := of_decide_eq_true (by assumption)
                      obtain ⟨ad297, e297, hx297_0, hx297_1, hx297_2⟩ := at_T41 HR296_0.out x7_6 p297 q297
                      cases e297
                      replace hx297_0 := (HB.out.cell (World.block_lt_of_cell? w _ hx297_0)).trans hx297_0
                      replace hx297_1 := (HB.out.cell (World.block_lt_of_cell? w _ hx297_1)).trans hx297_1
                      replace hx297_2 := (HB.out.cell (World.block_lt_of_cell? w _ hx297_2)).trans hx297_2
                      replace p297 := eq_true p297
                      replace q297 := eq_true q297
                      go_wp2
                      go_roundg k6
                      case measure => have := HK1.out; have := HJ1.out; have := HJ13.out; have := HK4.out; have := HJ27.out; have := HK6.out; omega
                      case rel => exact ⟨(wrap64 (x5_6 + 1)), (wrap64 (x7_6 + 1)), (by first | rfl | (simp; done) | (simp [*]; done)), (by first | rfl | (simp; done) | (simp [*]; done)), H', ⟨by have := HK1.out; have := HJ1.out; have := HJ13.out; have := HK4.out; have := HJ27.out; have := HK6.out; omega⟩, ⟨by (with_reducible repeat (first | apply Kd.R_alloc | apply Kd.R_drewN | apply Kd.R_drew)); exact HO_4.out⟩, ⟨by repeat (first | exact HB.out | apply below_alloc | apply pw_below_drewN | apply below_drew1)⟩⟩
                    ·rw [if_neg c36] at H
                     exact absurd H (by simp)
                   ·rw [if_neg c35] at H
                    have c35b0 : decide (x7_6 < ((rd_L8 l0 x6_4).length : Int)) = false := decide_eq_false c35
                    clear c35
                    have H' := Aside0.mk H
                    clear H
                    have p295 : 0 ≤ (x6_4 : Int) := of_decide_eq_true (by assumption)
                    have q295 : x6_4 < (l0.length : Int) := of_decide_eq_true (by assumption)
                    obtain ⟨ad295, A295_0, c295_0, e295, hx295_0, hl295_0, hi295_0⟩ := at_L8 HR0.out x6_4 p295 q295
                    cases e295
                    replace hx295_0 := (HB.out.cell (World.block_lt_of_cell? w _ hx295_0)).trans hx295_0
                    have HR295_0 := Aside0.mk hi295_0
                    have HC295_0 := Aside0.mk hl295_0
                    clear hi295_0 hl295_0
                    replace p295 := eq_true p295
                    replace q295 := eq_true q295
                    go_wp2
                    go_roundg k6
                    case measure => have := HK1.out; have := HJ1.out; have := HJ13.out; have := HK4.out; have := HJ27.out; have := HK6.out; omega
                    case rel => exact ⟨(x5_6), (wrap64 (x6_4 + 1)), (by first | rfl | (simp; done) | (simp [*]; done)), (by first | rfl | (simp; done) | (simp [*]; done)), H', ⟨by have := HK1.out; have := HJ1.out; have := HJ13.out; have := HK4.out; have := HJ27.out; have := HK6.out; omega⟩, ⟨by (with_reducible repeat (first | apply Kd.R_alloc | apply Kd.R_drewN | apply Kd.R_drew)); exact HO_4.out⟩, ⟨by repeat (first | exact HB.out | apply below_alloc | apply pw_below_drewN | apply below_drew1)⟩⟩
                  ·rw [if_neg c34] at H
                   exact absurd H (by simp)
                 ·rw [if_neg c33] at H
                  exact absurd H (by simp)
              ·replace c32 := Bool.eq_false_iff.mpr c32
               subst c32
               have H1 : (if (t285.length : Int) ≤ x5_4 then (if ((decide ((t285.length : Int) > 0)) == (decide (x5_4 > 0))) = true then ((chainmanlaw50_awake.f kj27).bind fun t294 => (some t294)) else (none)) else (none)) = some r := by rw [if_neg (show ¬ (false = true) by decide)] at H; exact H
               clear H
               have H := H1
               clear H1
               by_cases c38 : (t285.length : Int) ≤ x5_4
               ·rw [if_pos c38] at H
                have c38b0 : decide ((t285.length : Int) ≤ x5_4) = true := decide_eq_true c38
                clear c38
                by_cases c39 : ((decide ((t285.length : Int) > 0)) == (decide (x5_4 > 0))) = true
                ·rw [if_pos c39] at H
                 have c39b0 : ((decide ((t285.length : Int) > 0)) == (decide (x5_4 > 0))) = true := c39
                 (try (have c39b1 : decide ((decide ((t285.length : Int) > 0)) = (decide (x5_4 > 0))) = true := by simpa using c39))
                 (try (have c39b2 : ((decide ((t285.length : Int) > 0)) == (decide (x5_4 > 0))) = true := by simpa using c39))
                 (try (have c39b3 := c39; simp at c39b3))
                 clear c39
                 replace H := Option.bind_eq_some_iff.mp H
                 obtain ⟨t294, A400, H⟩ := H
                 replace H : (some t294) = some r := H
                 have A40 := Aside0.mk A400
                 clear A400
                 obtain rfl := Option.some.inj H
                 obtain ⟨Ao41, co41, eo41⟩ := Kd.R_slice HO_4.out
                 subst eo41
                 go_wp2_with (first | (go_at_call 6; (with_reducible refine (chainmanlaw50_awake.calls kj27  t294 _ A40.out).mono ?_); rintro e w42 ⟨rfl, hb⟩; have n0_ := Aside0.mk (Kd.R_below (by (with_reducible repeat (first | apply Kd.R_alloc | apply Kd.R_drewN | apply Kd.R_drew)); exact HO_4.out) hb); have n1_ := Aside0.mk (below_step (by repeat (first | exact HB.out | apply below_alloc | apply pw_below_drewN | apply below_drew1)) hb); clear HO_4; clear HB; have HO_4 := n0_; have HB := n1_; clear n0_ n1_; (try clear hb); (try clear hb2); (try clear hk); (try clear hi)))
                 go_ret
                 exact ⟨by first | rfl | (simp [errW_none, errW_some] <;> rfl) | (simp [*, errW_none, errW_some] <;> rfl), by repeat (first | exact HB.out | apply below_alloc | apply pw_below_drewN | apply below_drew1)⟩
                ·rw [if_neg c39] at H
                 exact absurd H (by simp)
               ·rw [if_neg c38] at H
                exact absurd H (by simp)

/-- THE ONE PURE STATEMENT of lw. -/
def lw.Pure : Prop := ∀ (l0 : List (List (S41))), (l0.length ≤ maxLen ∧ ∀ y0_ ∈ l0, (y0_.length ≤ maxLen ∧ ∀ y1_ ∈ y0_, ((Lit.int .i64 y1_.f0).wf = true ∧ (Lit.int .i64 y1_.f1).wf = true ∧ True))) → ∃ k, lw.f k l0 = some true
theorem lw.walk (P : lw.Pure) (A0 : Option Addr) (c0 : Nat) (l0 : List (List (S41))) (w : World) (hr0 : Kd.C (Kd.slice 41 k41) w A0 l0.length l0) (hc0 : l0.length ≤ c0) (w0 : (l0.length ≤ maxLen ∧ ∀ y0_ ∈ l0, (y0_.length ≤ maxLen ∧ ∀ y1_ ∈ y0_, ((Lit.int .i64 y1_.f0).wf = true ∧ (Lit.int .i64 y1_.f1).wf = true ∧ True)))) :
  Calls Tryd.prog 4 #[.slice A0 l0.length c0] w fun e w' => e = .returned (.bool true) ∧ Below w.heap.size w w' := by
 obtain ⟨k, h⟩ := P l0 w0
 refine (lw.calls k _ _ l0 true w hr0 hc0 h).mono ?_
 rintro e w' ⟨rfl, hd⟩
 exact ⟨rfl, hd⟩


end Go.Proofs.YtahkkgnicgbncaaDoor.PDiffEdges
