/- The Go functions that the law reaches, and walks to them; printed by wip/tool/mkprint.py. -/
import Derived.Test.YtjjjafhchombcaaPModelExactx0
import Derived.Test.YtjjjafhchombcaaPModelExactx3
import Derived.Test.YtjjjafhchombcaaPModelExactx5
import Derived.Test.YtjjjafhchombcaaPModelExactx10
import Derived.Test.YtjjjafhchombcaaPModelExactx11
import Derived.Test.YtjjjafhchombcaaPModelExactx13
import Derived.Test.YtjjjafhchombcaaPModelExactx16
namespace Go.Proofs.Ytjjjafhchombcaa.PModelExact
open Go.RowKit Go.Proofs.YtjjjafhchombcaaW.PrintWords Go.Proofs.YtjjjafhchombcaaW.PrintLast Go.Proofs.YtjjjafhchombcaaW.PrintMore
attribute [local go_sem] max2_int min2_int max_two min_two max_three min_three max_four min_four   -- for this text's walks alone
set_option linter.unusedVariables false
set_option linter.unusedSimpArgs false

/-! ### chainmanref33_Hits: function 19 -/
mutual
def chainmanref33_Hits.l0 : Nat → List (List (S74)) → List (List (S74)) → Int → Int → Option (Int)
 | 0, _, _, _, _ => none
 | k + 1, x0, x1, x5, x6 => if x6 < (x0.length : Int) then (chainmanref33_Hits.j1 k x0 x1 x5 x6 (decide (x6 < (x1.length : Int)))) else (chainmanref33_Hits.j1 k x0 x1 x5 x6 false)
def chainmanref33_Hits.j1 : Nat → List (List (S74)) → List (List (S74)) → Int → Int → Bool → Option (Int)
 | 0, _, _, _, _, _ => none
 | k + 1, x0, x1, x5, x6, x17 => if x17 = true then (chainmanref33_Hits.l1 k x0 x1 x5 x6 0) else (some x5)
def chainmanref33_Hits.l1 : Nat → List (List (S74)) → List (List (S74)) → Int → Int → Int → Option (Int)
 | 0, _, _, _, _, _ => none
 | k + 1, x0, x1, x5, x6, x7 => if 0 ≤ x6 then (if x6 < (x0.length : Int) then (if x7 < ((rd_L7 x0 x6).length : Int) then (if x6 < (x1.length : Int) then (if 0 ≤ x7 then ((chainmanref12_Has.f k (rd_L7 x1 x6) ((rd_T74 (rd_L7 x0 x6) x7).f1)).bind fun t340 => (if t340 = true then (chainmanref33_Hits.l1 k x0 x1 (wrap64 (x5 + 1)) x6 (wrap64 (x7 + 1))) else (chainmanref33_Hits.l1 k x0 x1 x5 x6 (wrap64 (x7 + 1))))) else (none)) else (none)) else (chainmanref33_Hits.l0 k x0 x1 x5 (wrap64 (x6 + 1)))) else (none)) else (none)
end
def chainmanref33_Hits.f (k : Nat) (l0 : List (List (S74))) (l1 : List (List (S74))) : Option (Int) := chainmanref33_Hits.l0 k l0 l1 0 0
theorem chainmanref33_Hits.mono_l : ∀ k, (∀ y0 y1 y2 y3, LeO (chainmanref33_Hits.l0 k y0 y1 y2 y3) (chainmanref33_Hits.l0 (k + 1) y0 y1 y2 y3)) ∧ (∀ y0 y1 y2 y3 y4, LeO (chainmanref33_Hits.j1 k y0 y1 y2 y3 y4) (chainmanref33_Hits.j1 (k + 1) y0 y1 y2 y3 y4)) ∧ (∀ y0 y1 y2 y3 y4, LeO (chainmanref33_Hits.l1 k y0 y1 y2 y3 y4) (chainmanref33_Hits.l1 (k + 1) y0 y1 y2 y3 y4))
 | 0 => ⟨fun _ _ _ _ r h => by simp [chainmanref33_Hits.l0] at h, fun _ _ _ _ _ r h => by simp [chainmanref33_Hits.j1] at h, fun _ _ _ _ _ r h => by simp [chainmanref33_Hits.l1] at h⟩
 | k + 1 => by
  obtain ⟨ih0, ih1, ih2⟩ := chainmanref33_Hits.mono_l k
  refine ⟨?_, ?_, ?_⟩
  ·intro y0 y1 y2 y3
   unfold chainmanref33_Hits.l0
   repeat' first
   | (with_reducible exact ih0 _ _ _ _)
   | (with_reducible exact ih1 _ _ _ _ _)
   | (with_reducible exact ih2 _ _ _ _ _)
   | (with_reducible exact chainmanref12_Has.mono _ _ _)
   | (with_reducible exact LeO.refl _)
   | (with_reducible exact LeO.none _)
   | (with_reducible refine LeO.ite ?_ ?_)
   | (with_reducible refine LeO.bind ?_ (fun _ => ?_))
   | exact ih0 _ _ _ _
   | exact ih1 _ _ _ _ _
   | exact ih2 _ _ _ _ _
   | exact chainmanref12_Has.mono _ _ _
   | exact LeO.none _
   | refine LeO.ite ?_ ?_
   | refine LeO.bind ?_ (fun _ => ?_)
  ·intro y0 y1 y2 y3 y4
   unfold chainmanref33_Hits.j1
   repeat' first
   | (with_reducible exact ih0 _ _ _ _)
   | (with_reducible exact ih1 _ _ _ _ _)
   | (with_reducible exact ih2 _ _ _ _ _)
   | (with_reducible exact chainmanref12_Has.mono _ _ _)
   | (with_reducible exact LeO.refl _)
   | (with_reducible exact LeO.none _)
   | (with_reducible refine LeO.ite ?_ ?_)
   | (with_reducible refine LeO.bind ?_ (fun _ => ?_))
   | exact ih0 _ _ _ _
   | exact ih1 _ _ _ _ _
   | exact ih2 _ _ _ _ _
   | exact chainmanref12_Has.mono _ _ _
   | exact LeO.none _
   | refine LeO.ite ?_ ?_
   | refine LeO.bind ?_ (fun _ => ?_)
  ·intro y0 y1 y2 y3 y4
   unfold chainmanref33_Hits.l1
   repeat' first
   | (with_reducible exact ih0 _ _ _ _)
   | (with_reducible exact ih1 _ _ _ _ _)
   | (with_reducible exact ih2 _ _ _ _ _)
   | (with_reducible exact chainmanref12_Has.mono _ _ _)
   | (with_reducible exact LeO.refl _)
   | (with_reducible exact LeO.none _)
   | (with_reducible refine LeO.ite ?_ ?_)
   | (with_reducible refine LeO.bind ?_ (fun _ => ?_))
   | exact ih0 _ _ _ _
   | exact ih1 _ _ _ _ _
   | exact ih2 _ _ _ _ _
   | exact chainmanref12_Has.mono _ _ _
   | exact LeO.none _
   | refine LeO.ite ?_ ?_
   | refine LeO.bind ?_ (fun _ => ?_)
theorem chainmanref33_Hits.mono : ∀ a0 a1 k, LeO (chainmanref33_Hits.f k a0 a1) (chainmanref33_Hits.f (k + 1) a0 a1) := by
 intro a0 a1 k
 obtain ⟨ih0, ih1, ih2⟩ := chainmanref33_Hits.mono_l k
 unfold chainmanref33_Hits.f
 repeat' first
   | (with_reducible exact ih0 _ _ _ _)
   | (with_reducible exact ih1 _ _ _ _ _)
   | (with_reducible exact ih2 _ _ _ _ _)
   | (with_reducible exact chainmanref12_Has.mono _ _ _)
   | (with_reducible exact LeO.refl _)
   | (with_reducible exact LeO.none _)
   | (with_reducible refine LeO.ite ?_ ?_)
   | (with_reducible refine LeO.bind ?_ (fun _ => ?_))
   | exact ih0 _ _ _ _
   | exact ih1 _ _ _ _ _
   | exact ih2 _ _ _ _ _
   | exact chainmanref12_Has.mono _ _ _
   | exact LeO.none _
   | refine LeO.ite ?_ ?_
   | refine LeO.bind ?_ (fun _ => ?_)
set_option maxHeartbeats 8000000 in
set_option maxRecDepth 100000 in
theorem chainmanref33_Hits.calls (k : Nat) (A0 : Option Addr) (c0 : Nat) (l0 : List (List (S74))) (A1 : Option Addr) (c1 : Nat) (l1 : List (List (S74))) (r : Int) (w : World) (hr0 : Kd.C (Kd.slice 74 k74) w A0 l0.length l0) (hc0 : l0.length ≤ c0) (hr1 : Kd.C (Kd.slice 74 k74) w A1 l1.length l1) (hc1 : l1.length ≤ c1) (h : chainmanref33_Hits.f k l0 l1 = some r) :
  Calls Try.prog 19 #[.slice A0 l0.length c0, .slice A1 l1.length c1] w fun e w' => e = .returned (.int .i64 r) ∧ Drawn0 w w' := by
 have HR0 := Aside0.mk hr0
 have HC0 := Aside0.mk hc0
 clear hr0 hc0
 have HR1 := Aside0.mk hr1
 have HC1 := Aside0.mk hc1
 clear hr1 hc1
 have H : (chainmanref33_Hits.l0 k l0 l1 0 0) = some r := h
 clear h
 have H' := Aside0.mk H
 clear H
 go_enter Try.func19, Try.ntmps19
 go_wp2
 repeat (go_quiet (fail); try go_wp2)
 go_loopg [5, 6] k (fun kq v5 v6 w' => ∃ (x5_1 : Int) (x6_1 : Int), v5 = .int .i64 x5_1 ∧ v6 = .int .i64 x6_1 ∧ Aside0 (chainmanref33_Hits.l0 kq l0 l1 x5_1 x6_1 = some r) ∧ Aside0 (kq ≤ k) ∧ Drawn0 w w')
 case atStart => exact ⟨(0), (0), (by first | rfl | (simp; done) | (simp [*]; done)), (by first | rfl | (simp; done) | (simp [*]; done)), H', ⟨Nat.le_refl _⟩, by repeat (first | exact Drawn0.refl _ | apply Drawn0.step)⟩
 case round =>
  clear H'
  try clear c1
  try clear p2
  obtain ⟨x5_1, x6_1, rfl, rfl, HA, HK1, ⟨m1, rfl⟩⟩ := hrel
  cases gk with
  | zero => exact absurd HA.out (by simp [chainmanref33_Hits.l0])
  | succ k1 =>
   have H := HA.out
   clear HA
   simp only [chainmanref33_Hits.l0] at H
   have HC3 := Aside0.mk H
   clear H
   go_upto_region 3 with (fail)
   repeat (go_quiet (fail); go_upto_region 3 with (fail))
   go_cut [17] (fun v17 wc => ∃ (kq : Nat) (x17_2 : Bool), v17 = .bool x17_2 ∧ Aside0 (chainmanref33_Hits.j1 kq l0 l1 x5_1 x6_1 x17_2 = some r) ∧ Aside0 (kq ≤ k1) ∧ Drawn0 w wc)
   case first =>
    have H := HC3.out
    clear HC3
    by_cases c4 : x6_1 < (l0.length : Int)
    ·rw [if_pos c4] at H
     have c4b0 : decide (x6_1 < (l0.length : Int)) = true := decide_eq_true c4
     clear c4
     (first | rw [c4b0] | (simp only [i64_w, i32_w]; rw [c4b0]) | skip)
     have H' := Aside0.mk H
     clear H
     go_wp2
     repeat (go_quiet (fail); try go_wp2)
     go_meet
     case rel => exact ⟨_, (decide (x6_1 < (l1.length : Int))), (by first | rfl | (simp; done) | (simp [*]; done)), H', ⟨by have := HK1.out; first | omega | exact Nat.le_refl _⟩, by repeat (first | exact Drawn0.refl _ | apply Drawn0.step)⟩
    ·rw [if_neg c4] at H
     have c4b0 : decide (x6_1 < (l0.length : Int)) = false := decide_eq_false c4
     clear c4
     (first | rw [c4b0] | (simp only [i64_w, i32_w]; rw [c4b0]) | skip)
     have H' := Aside0.mk H
     clear H
     go_wp2
     repeat (go_quiet (fail); try go_wp2)
     go_meet
     case rel => exact ⟨_, (false), (by first | rfl | (simp; done) | (simp [*]; done)), H', ⟨by have := HK1.out; first | omega | exact Nat.le_refl _⟩, by repeat (first | exact Drawn0.refl _ | apply Drawn0.step)⟩
   case rest =>
    clear HC3
    try clear c1
    try clear p2
    try clear c4
    try clear c4b0
    try clear p2
    obtain ⟨kq, x17_2, rfl, HA, HJ2, ⟨mc2, rfl⟩⟩ := hcut
    cases kq with
    | zero => exact absurd HA.out (by simp [chainmanref33_Hits.j1])
    | succ kj2 =>
     have H := HA.out
     clear HA
     simp only [chainmanref33_Hits.j1] at H
     by_cases c5 : x17_2 = true
     ·subst c5
      have H1 : (chainmanref33_Hits.l1 kj2 l0 l1 x5_1 x6_1 0) = some r := by rw [if_pos rfl] at H; exact H
      clear H
      have H := H1
      clear H1
      have H' := Aside0.mk H
      clear H
      go_wp2
      repeat (go_quiet (fail); try go_wp2)
      go_loopg [5, 7] kj2 (fun kq v5 v7 w' => ∃ (x5_3 : Int) (x7_3 : Int), v5 = .int .i64 x5_3 ∧ v7 = .int .i64 x7_3 ∧ Aside0 (chainmanref33_Hits.l1 kq l0 l1 x5_3 x6_1 x7_3 = some r) ∧ Aside0 (kq ≤ kj2) ∧ Drawn0 w w')
      case atStart => exact ⟨(x5_1), (0), (by first | rfl | (simp; done) | (simp [*]; done)), (by first | rfl | (simp; done) | (simp [*]; done)), H', ⟨Nat.le_refl _⟩, by repeat (first | exact Drawn0.refl _ | apply Drawn0.step)⟩
      case round =>
       clear H'
       try clear c1
       try clear c2
       try clear p2
       try clear c4
       try clear c4b0
       try clear c5
       try clear p2
       obtain ⟨x5_3, x7_3, rfl, rfl, HA, HK3, ⟨m3, rfl⟩⟩ := hrel
       cases gk with
       | zero => exact absurd HA.out (by simp [chainmanref33_Hits.l1])
       | succ k3 =>
        have H := HA.out
        clear HA
        simp only [chainmanref33_Hits.l1] at H
        by_cases c6 : 0 ≤ x6_1
        ·rw [if_pos c6] at H
         have c6b0 : decide (0 ≤ x6_1) = true := decide_eq_true c6
         clear c6
         by_cases c7 : x6_1 < (l0.length : Int)
         ·rw [if_pos c7] at H
          have c7b0 : decide (x6_1 < (l0.length : Int)) = true := decide_eq_true c7
          clear c7
          by_cases c8 : x7_3 < ((rd_L7 l0 x6_1).length : Int)
          ·rw [if_pos c8] at H
           have c8b0 : decide (x7_3 < ((rd_L7 l0 x6_1).length : Int)) = true := decide_eq_true c8
           clear c8
           by_cases c9 : x6_1 < (l1.length : Int)
           ·rw [if_pos c9] at H
            have c9b0 : decide (x6_1 < (l1.length : Int)) = true := decide_eq_true c9
            clear c9
            by_cases c10 : 0 ≤ x7_3
            ·rw [if_pos c10] at H
             have c10b0 : decide (0 ≤ x7_3) = true := decide_eq_true c10
             clear c10
             replace H := Option.bind_eq_some_iff.mp H
             obtain ⟨t340, A110, H⟩ := H
             replace H : (if t340 = true then (chainmanref33_Hits.l1 k3 l0 l1 (wrap64 (x5_3 + 1)) x6_1 (wrap64 (x7_3 + 1))) else (chainmanref33_Hits.l1 k3 l0 l1 x5_3 x6_1 (wrap64 (x7_3 + 1)))) = some r := H
             have A11 := Aside0.mk A110
             clear A110
             by_cases c12 : t340 = true
             ·subst c12
              have H1 : (chainmanref33_Hits.l1 k3 l0 l1 (wrap64 (x5_3 + 1)) x6_1 (wrap64 (x7_3 + 1))) = some r := by rw [if_pos rfl] at H; exact H
              clear H
              have H := H1
              clear H1
              have H' := Aside0.mk H
              clear H
              have p336 : 0 ≤ (x6_1 : Int) := of_decide_eq_true (by assumption)
              have q336 : x6_1 < (l0.length : Int) := of_decide_eq_true (by assumption)
              obtain ⟨ad336, A336_0, c336_0, e336, hx336_0, hl336_0, hi336_0⟩ := at_L7 HR0.out x6_1 p336 q336
              cases e336
              have HR336_0 := Aside0.mk hi336_0
              have HC336_0 := Aside0.mk hl336_0
              clear hi336_0 hl336_0
              replace p336 := eq_true p336
              replace q336 := eq_true q336
              have p337 : 0 ≤ (x6_1 : Int) := of_decide_eq_true (by assumption)
              have q337 : x6_1 < (l1.length : Int) := of_decide_eq_true (by assumption)
              obtain ⟨ad337, A337_0, c337_0, e337, hx337_0, hl337_0, hi337_0⟩ := at_L7 HR1.out x6_1 p337 q337
              cases e337
              have HR337_0 := Aside0.mk hi337_0
              have HC337_0 := Aside0.mk hl337_0
              clear hi337_0 hl337_0
              replace p337 := eq_true p337
              replace q337 := eq_true q337
              have p338 : 0 ≤ (x6_1 : Int) := of_decide_eq_true (by assumption)
              have q338 : x6_1 < (l0.length : Int) := of_decide_eq_true (by assumption)
              obtain ⟨ad338, A338_0, c338_0, e338, hx338_0, hl338_0, hi338_0⟩ := at_L7 HR0.out x6_1 p338 q338
              obtain rfl : ad336 = ad338 := (by injection e338)
              have HR338_0 := Aside0.mk hi338_0
              have HC338_0 := Aside0.mk hl338_0
              clear hi338_0 hl338_0
              replace p338 := eq_true p338
              replace q338 := eq_true q338
              have ea_ := Option.some.inj (hx336_0.symm.trans hx338_0)
              injection ea_ with ea_ en_ ec_
              subst ea_
              subst ec_
              clear en_
              have p339 : 0 ≤ (x7_3 : Int) := of_decide_eq_true (by assumption)
              have q339 : x7_3 < ((rd_L7 l0 x6_1).length : Int) := of_decide_eq_true (by assumption)
              obtain ⟨ad339, e339, hx339_0, hx339_1, hx339_2⟩ := at_T74 HR338_0.out x7_3 p339 q339
              cases e339
              replace p339 := eq_true p339
              replace q339 := eq_true q339
              go_wp2_with (first | (go_at_call 63; (with_reducible refine (chainmanref12_Has.calls k3 _ _ (rd_L7 l1 x6_1) ((rd_T74 (rd_L7 l0 x6_1) x7_3).f1) true _ ?side1 ?side2 A11.out).mono ?_); (case side1 => repeat (first | exact HR337_0.out | (with_reducible first | refine Kd.C_alloc ?_ _ | refine Kd.C_drewN ?_ _ | refine Kd.C_drew ?_))); (case side2 => exact HC337_0.out); rintro e w' ⟨rfl, ⟨nd, rfl⟩⟩; (try first | exact ⟨rfl, _, World.drewN_drewN _ _ _⟩ | exact ⟨rfl, _, Eq.trans (World.drewN_drewN _ _ _) (congrArg (World.drewN _) (Nat.add_assoc _ _ _))⟩)))
              repeat (go_quiet (first | (go_at_call 63; (with_reducible refine (chainmanref12_Has.calls k3 _ _ (rd_L7 l1 x6_1) ((rd_T74 (rd_L7 l0 x6_1) x7_3).f1) true _ ?side1 ?side2 A11.out).mono ?_); (case side1 => repeat (first | exact HR337_0.out | (with_reducible first | refine Kd.C_alloc ?_ _ | refine Kd.C_drewN ?_ _ | refine Kd.C_drew ?_))); (case side2 => exact HC337_0.out); rintro e w' ⟨rfl, ⟨nd, rfl⟩⟩; (try first | exact ⟨rfl, _, World.drewN_drewN _ _ _⟩ | exact ⟨rfl, _, Eq.trans (World.drewN_drewN _ _ _) (congrArg (World.drewN _) (Nat.add_assoc _ _ _))⟩))); try go_wp2_with (first | (go_at_call 63; (with_reducible refine (chainmanref12_Has.calls k3 _ _ (rd_L7 l1 x6_1) ((rd_T74 (rd_L7 l0 x6_1) x7_3).f1) true _ ?side1 ?side2 A11.out).mono ?_); (case side1 => repeat (first | exact HR337_0.out | (with_reducible first | refine Kd.C_alloc ?_ _ | refine Kd.C_drewN ?_ _ | refine Kd.C_drew ?_))); (case side2 => exact HC337_0.out); rintro e w' ⟨rfl, ⟨nd, rfl⟩⟩; (try first | exact ⟨rfl, _, World.drewN_drewN _ _ _⟩ | exact ⟨rfl, _, Eq.trans (World.drewN_drewN _ _ _) (congrArg (World.drewN _) (Nat.add_assoc _ _ _))⟩))))
              go_roundg k3
              case measure => have := HK1.out; have := HJ2.out; have := HK3.out; omega
              case rel => exact ⟨(wrap64 (x5_3 + 1)), (wrap64 (x7_3 + 1)), (by first | rfl | (simp; done) | (simp [*]; done)), (by first | rfl | (simp; done) | (simp [*]; done)), H', ⟨by have := HK1.out; have := HJ2.out; have := HK3.out; omega⟩, by repeat (first | exact Drawn0.refl _ | apply Drawn0.step)⟩
             ·replace c12 := Bool.eq_false_iff.mpr c12
              subst c12
              have H1 : (chainmanref33_Hits.l1 k3 l0 l1 x5_3 x6_1 (wrap64 (x7_3 + 1))) = some r := by rw [if_neg (show ¬ (false = true) by decide)] at H; exact H
              clear H
              have H := H1
              clear H1
              have H' := Aside0.mk H
              clear H
              have p336 : 0 ≤ (x6_1 : Int) := of_decide_eq_true (by assumption)
              have q336 : x6_1 < (l0.length : Int) := of_decide_eq_true (by assumption)
              obtain ⟨ad336, A336_0, c336_0, e336, hx336_0, hl336_0, hi336_0⟩ := at_L7 HR0.out x6_1 p336 q336
              cases e336
              have HR336_0 := Aside0.mk hi336_0
              have HC336_0 := Aside0.mk hl336_0
              clear hi336_0 hl336_0
              replace p336 := eq_true p336
              replace q336 := eq_true q336
              have p337 : 0 ≤ (x6_1 : Int) := of_decide_eq_true (by assumption)
              have q337 : x6_1 < (l1.length : Int) := of_decide_eq_true (by assumption)
              obtain ⟨ad337, A337_0, c337_0, e337, hx337_0, hl337_0, hi337_0⟩ := at_L7 HR1.out x6_1 p337 q337
              cases e337
              have HR337_0 := Aside0.mk hi337_0
              have HC337_0 := Aside0.mk hl337_0
              clear hi337_0 hl337_0
              replace p337 := eq_true p337
              replace q337 := eq_true q337
              have p338 : 0 ≤ (x6_1 : Int) := of_decide_eq_true (by assumption)
              have q338 : x6_1 < (l0.length : Int) := of_decide_eq_true (by assumption)
              obtain ⟨ad338, A338_0, c338_0, e338, hx338_0, hl338_0, hi338_0⟩ := at_L7 HR0.out x6_1 p338 q338
              obtain rfl : ad336 = ad338 := (by injection e338)
              have HR338_0 := Aside0.mk hi338_0
              have HC338_0 := Aside0.mk hl338_0
              clear hi338_0 hl338_0
              replace p338 := eq_true p338
              replace q338 := eq_true q338
              have ea_ := Option.some.inj (hx336_0.symm.trans hx338_0)
              injection ea_ with ea_ en_ ec_
              subst ea_
              subst ec_
              clear en_
              have p339 : 0 ≤ (x7_3 : Int) := of_decide_eq_true (by assumption)
              have q339 : x7_3 < ((rd_L7 l0 x6_1).length : Int) := of_decide_eq_true (by assumption)
              obtain ⟨ad339, e339, hx339_0, hx339_1, hx339_2⟩ := at_T74 HR338_0.out x7_3 p339 q339
              cases e339
              replace p339 := eq_true p339
              replace q339 := eq_true q339
              go_wp2_with (first | (go_at_call 63; (with_reducible refine (chainmanref12_Has.calls k3 _ _ (rd_L7 l1 x6_1) ((rd_T74 (rd_L7 l0 x6_1) x7_3).f1) false _ ?side1 ?side2 A11.out).mono ?_); (case side1 => repeat (first | exact HR337_0.out | (with_reducible first | refine Kd.C_alloc ?_ _ | refine Kd.C_drewN ?_ _ | refine Kd.C_drew ?_))); (case side2 => exact HC337_0.out); rintro e w' ⟨rfl, ⟨nd, rfl⟩⟩; (try first | exact ⟨rfl, _, World.drewN_drewN _ _ _⟩ | exact ⟨rfl, _, Eq.trans (World.drewN_drewN _ _ _) (congrArg (World.drewN _) (Nat.add_assoc _ _ _))⟩)))
              repeat (go_quiet (first | (go_at_call 63; (with_reducible refine (chainmanref12_Has.calls k3 _ _ (rd_L7 l1 x6_1) ((rd_T74 (rd_L7 l0 x6_1) x7_3).f1) false _ ?side1 ?side2 A11.out).mono ?_); (case side1 => repeat (first | exact HR337_0.out | (with_reducible first | refine Kd.C_alloc ?_ _ | refine Kd.C_drewN ?_ _ | refine Kd.C_drew ?_))); (case side2 => exact HC337_0.out); rintro e w' ⟨rfl, ⟨nd, rfl⟩⟩; (try first | exact ⟨rfl, _, World.drewN_drewN _ _ _⟩ | exact ⟨rfl, _, Eq.trans (World.drewN_drewN _ _ _) (congrArg (World.drewN _) (Nat.add_assoc _ _ _))⟩))); try go_wp2_with (first | (go_at_call 63; (with_reducible refine (chainmanref12_Has.calls k3 _ _ (rd_L7 l1 x6_1) ((rd_T74 (rd_L7 l0 x6_1) x7_3).f1) false _ ?side1 ?side2 A11.out).mono ?_); (case side1 => repeat (first | exact HR337_0.out | (with_reducible first | refine Kd.C_alloc ?_ _ | refine Kd.C_drewN ?_ _ | refine Kd.C_drew ?_))); (case side2 => exact HC337_0.out); rintro e w' ⟨rfl, ⟨nd, rfl⟩⟩; (try first | exact ⟨rfl, _, World.drewN_drewN _ _ _⟩ | exact ⟨rfl, _, Eq.trans (World.drewN_drewN _ _ _) (congrArg (World.drewN _) (Nat.add_assoc _ _ _))⟩))))
              go_roundg k3
              case measure => have := HK1.out; have := HJ2.out; have := HK3.out; omega
              case rel => exact ⟨(x5_3), (wrap64 (x7_3 + 1)), (by first | rfl | (simp; done) | (simp [*]; done)), (by first | rfl | (simp; done) | (simp [*]; done)), H', ⟨by have := HK1.out; have := HJ2.out; have := HK3.out; omega⟩, by repeat (first | exact Drawn0.refl _ | apply Drawn0.step)⟩
            ·rw [if_neg c10] at H
             exact absurd H (by simp)
           ·rw [if_neg c9] at H
            exact absurd H (by simp)
          ·rw [if_neg c8] at H
           have c8b0 : decide (x7_3 < ((rd_L7 l0 x6_1).length : Int)) = false := decide_eq_false c8
           clear c8
           have H' := Aside0.mk H
           clear H
           have p336 : 0 ≤ (x6_1 : Int) := of_decide_eq_true (by assumption)
           have q336 : x6_1 < (l0.length : Int) := of_decide_eq_true (by assumption)
           obtain ⟨ad336, A336_0, c336_0, e336, hx336_0, hl336_0, hi336_0⟩ := at_L7 HR0.out x6_1 p336 q336
           cases e336
           have HR336_0 := Aside0.mk hi336_0
           have HC336_0 := Aside0.mk hl336_0
           clear hi336_0 hl336_0
           replace p336 := eq_true p336
           replace q336 := eq_true q336
           go_wp2
           repeat (go_quiet (fail); try go_wp2)
           go_roundg k3
           case measure => have := HK1.out; have := HJ2.out; have := HK3.out; omega
           case rel => exact ⟨(x5_3), (wrap64 (x6_1 + 1)), (by first | rfl | (simp; done) | (simp [*]; done)), (by first | rfl | (simp; done) | (simp [*]; done)), H', ⟨by have := HK1.out; have := HJ2.out; have := HK3.out; omega⟩, by repeat (first | exact Drawn0.refl _ | apply Drawn0.step)⟩
         ·rw [if_neg c7] at H
          exact absurd H (by simp)
        ·rw [if_neg c6] at H
         exact absurd H (by simp)
     ·replace c5 := Bool.eq_false_iff.mpr c5
      subst c5
      have H1 : (some x5_1) = some r := by rw [if_neg (show ¬ (false = true) by decide)] at H; exact H
      clear H
      have H := H1
      clear H1
      obtain rfl := Option.some.inj H
      go_wp2
      repeat (go_quiet (fail); try go_wp2)
      go_ret
      exact ⟨by first | rfl | (simp; done) | (simp [*]; done), by repeat (first | exact Drawn0.refl _ | apply Drawn0.step)⟩

/-! ### chainmanlaw33_ModelExact: function 3 -/
mutual
def chainmanlaw33_ModelExact.j0 : Nat → List (List Int) → Int → Int → List (List (S74)) → List (List (S74)) → Bool → Option (Bool)
 | 0, _, _, _, _, _, _ => none
 | k + 1, x0, x1, x2, x3, x4, x24 => if x24 = true then ((chainmanlaw33_awake.f k).bind fun t342 => (some t342)) else (chainmanlaw33_ModelExact.l0 k x0 x1 x2 x3 x4 0)
def chainmanlaw33_ModelExact.l0 : Nat → List (List Int) → Int → Int → List (List (S74)) → List (List (S74)) → Int → Option (Bool)
 | 0, _, _, _, _, _, _ => none
 | k + 1, x0, x1, x2, x3, x4, x11 => if x11 < (x3.length : Int) then (if 0 ≤ x11 then (if ((rd_L7 x3 x11).length : Int) > 20 then ((chainmanlaw33_awake.f k).bind fun t344 => (some t344)) else (if x11 < (x4.length : Int) then (if ((rd_L7 x4 x11).length : Int) > 20 then ((chainmanlaw33_awake.f k).bind fun t346 => (some t346)) else (chainmanlaw33_ModelExact.l0 k x0 x1 x2 x3 x4 (wrap64 (x11 + 1)))) else (chainmanlaw33_ModelExact.l0 k x0 x1 x2 x3 x4 (wrap64 (x11 + 1))))) else (none)) else ((model_Pairs.f k x0 x1).bind fun t347 => ((chainmanref33_Pairs.f k x0 x1).bind fun t350 => ((chainmanref30_SamePairs.f k t347 t350).bind fun t353 => (if t353 = true then ((model_Exact.f k x0 x2).bind fun t354 => ((chainmanref33_Exact.f k x0 x2).bind fun t357 => ((chainmanref12_SameAll.f k t354 t357).bind fun t360 => (if t360 = true then ((model_Hits.f k x3 x4).bind fun t361 => ((chainmanref33_Hits.f k x3 x4).bind fun t362 => (if t361 = t362 then ((chainmanlaw33_awake.f k).bind fun t363 => (some t363)) else (none)))) else (none))))) else (none)))))
end
def chainmanlaw33_ModelExact.f (k : Nat) (l0 : List (List Int)) (a1 : Int) (a2 : Int) (l3 : List (List (S74))) (l4 : List (List (S74))) : Option (Bool) := (chainmanlaw33_few.f k l0).bind fun t341 => (if t341 = true then (if (l3.length : Int) > 12 then (chainmanlaw33_ModelExact.j0 k l0 a1 a2 l3 l4 true) else (chainmanlaw33_ModelExact.j0 k l0 a1 a2 l3 l4 (decide ((l4.length : Int) > 12)))) else (chainmanlaw33_ModelExact.j0 k l0 a1 a2 l3 l4 true))
theorem chainmanlaw33_ModelExact.mono_l : ∀ k, (∀ y0 y1 y2 y3 y4 y5, LeO (chainmanlaw33_ModelExact.j0 k y0 y1 y2 y3 y4 y5) (chainmanlaw33_ModelExact.j0 (k + 1) y0 y1 y2 y3 y4 y5)) ∧ (∀ y0 y1 y2 y3 y4 y5, LeO (chainmanlaw33_ModelExact.l0 k y0 y1 y2 y3 y4 y5) (chainmanlaw33_ModelExact.l0 (k + 1) y0 y1 y2 y3 y4 y5))
 | 0 => ⟨fun _ _ _ _ _ _ r h => by simp [chainmanlaw33_ModelExact.j0] at h, fun _ _ _ _ _ _ r h => by simp [chainmanlaw33_ModelExact.l0] at h⟩
 | k + 1 => by
  obtain ⟨ih0, ih1⟩ := chainmanlaw33_ModelExact.mono_l k
  refine ⟨?_, ?_⟩
  ·intro y0 y1 y2 y3 y4 y5
   unfold chainmanlaw33_ModelExact.j0
   repeat' first
   | (with_reducible exact ih0 _ _ _ _ _ _)
   | (with_reducible exact ih1 _ _ _ _ _ _)
   | (with_reducible exact chainmanlaw33_awake.mono _)
   | (with_reducible exact chainmanlaw33_few.mono _ _)
   | (with_reducible exact chainmanref12_SameAll.mono _ _ _)
   | (with_reducible exact chainmanref30_SamePairs.mono _ _ _)
   | (with_reducible exact chainmanref33_Exact.mono _ _ _)
   | (with_reducible exact chainmanref33_Hits.mono _ _ _)
   | (with_reducible exact chainmanref33_Pairs.mono _ _ _)
   | (with_reducible exact model_Exact.mono _ _ _)
   | (with_reducible exact model_Hits.mono _ _ _)
   | (with_reducible exact model_Pairs.mono _ _ _)
   | (with_reducible exact LeO.refl _)
   | (with_reducible exact LeO.none _)
   | (with_reducible refine LeO.ite ?_ ?_)
   | (with_reducible refine LeO.bind ?_ (fun _ => ?_))
   | exact ih0 _ _ _ _ _ _
   | exact ih1 _ _ _ _ _ _
   | exact chainmanlaw33_awake.mono _
   | exact chainmanlaw33_few.mono _ _
   | exact chainmanref12_SameAll.mono _ _ _
   | exact chainmanref30_SamePairs.mono _ _ _
   | exact chainmanref33_Exact.mono _ _ _
   | exact chainmanref33_Hits.mono _ _ _
   | exact chainmanref33_Pairs.mono _ _ _
   | exact model_Exact.mono _ _ _
   | exact model_Hits.mono _ _ _
   | exact model_Pairs.mono _ _ _
   | exact LeO.none _
   | refine LeO.ite ?_ ?_
   | refine LeO.bind ?_ (fun _ => ?_)
  ·intro y0 y1 y2 y3 y4 y5
   unfold chainmanlaw33_ModelExact.l0
   repeat' first
   | (with_reducible exact ih0 _ _ _ _ _ _)
   | (with_reducible exact ih1 _ _ _ _ _ _)
   | (with_reducible exact chainmanlaw33_awake.mono _)
   | (with_reducible exact chainmanlaw33_few.mono _ _)
   | (with_reducible exact chainmanref12_SameAll.mono _ _ _)
   | (with_reducible exact chainmanref30_SamePairs.mono _ _ _)
   | (with_reducible exact chainmanref33_Exact.mono _ _ _)
   | (with_reducible exact chainmanref33_Hits.mono _ _ _)
   | (with_reducible exact chainmanref33_Pairs.mono _ _ _)
   | (with_reducible exact model_Exact.mono _ _ _)
   | (with_reducible exact model_Hits.mono _ _ _)
   | (with_reducible exact model_Pairs.mono _ _ _)
   | (with_reducible exact LeO.refl _)
   | (with_reducible exact LeO.none _)
   | (with_reducible refine LeO.ite ?_ ?_)
   | (with_reducible refine LeO.bind ?_ (fun _ => ?_))
   | exact ih0 _ _ _ _ _ _
   | exact ih1 _ _ _ _ _ _
   | exact chainmanlaw33_awake.mono _
   | exact chainmanlaw33_few.mono _ _
   | exact chainmanref12_SameAll.mono _ _ _
   | exact chainmanref30_SamePairs.mono _ _ _
   | exact chainmanref33_Exact.mono _ _ _
   | exact chainmanref33_Hits.mono _ _ _
   | exact chainmanref33_Pairs.mono _ _ _
   | exact model_Exact.mono _ _ _
   | exact model_Hits.mono _ _ _
   | exact model_Pairs.mono _ _ _
   | exact LeO.none _
   | refine LeO.ite ?_ ?_
   | refine LeO.bind ?_ (fun _ => ?_)
theorem chainmanlaw33_ModelExact.mono : ∀ a0 a1 a2 a3 a4 k, LeO (chainmanlaw33_ModelExact.f k a0 a1 a2 a3 a4) (chainmanlaw33_ModelExact.f (k + 1) a0 a1 a2 a3 a4) := by
 intro a0 a1 a2 a3 a4 k
 obtain ⟨ih0, ih1⟩ := chainmanlaw33_ModelExact.mono_l k
 unfold chainmanlaw33_ModelExact.f
 repeat' first
   | (with_reducible exact ih0 _ _ _ _ _ _)
   | (with_reducible exact ih1 _ _ _ _ _ _)
   | (with_reducible exact chainmanlaw33_awake.mono _)
   | (with_reducible exact chainmanlaw33_few.mono _ _)
   | (with_reducible exact chainmanref12_SameAll.mono _ _ _)
   | (with_reducible exact chainmanref30_SamePairs.mono _ _ _)
   | (with_reducible exact chainmanref33_Exact.mono _ _ _)
   | (with_reducible exact chainmanref33_Hits.mono _ _ _)
   | (with_reducible exact chainmanref33_Pairs.mono _ _ _)
   | (with_reducible exact model_Exact.mono _ _ _)
   | (with_reducible exact model_Hits.mono _ _ _)
   | (with_reducible exact model_Pairs.mono _ _ _)
   | (with_reducible exact LeO.refl _)
   | (with_reducible exact LeO.none _)
   | (with_reducible refine LeO.ite ?_ ?_)
   | (with_reducible refine LeO.bind ?_ (fun _ => ?_))
   | exact ih0 _ _ _ _ _ _
   | exact ih1 _ _ _ _ _ _
   | exact chainmanlaw33_awake.mono _
   | exact chainmanlaw33_few.mono _ _
   | exact chainmanref12_SameAll.mono _ _ _
   | exact chainmanref30_SamePairs.mono _ _ _
   | exact chainmanref33_Exact.mono _ _ _
   | exact chainmanref33_Hits.mono _ _ _
   | exact chainmanref33_Pairs.mono _ _ _
   | exact model_Exact.mono _ _ _
   | exact model_Hits.mono _ _ _
   | exact model_Pairs.mono _ _ _
   | exact LeO.none _
   | refine LeO.ite ?_ ?_
   | refine LeO.bind ?_ (fun _ => ?_)
set_option maxHeartbeats 8000000 in
set_option maxRecDepth 100000 in
theorem chainmanlaw33_ModelExact.calls (k : Nat) (A0 : Option Addr) (c0 : Nat) (l0 : List (List Int)) (a1 : Int) (a2 : Int) (A3 : Option Addr) (c3 : Nat) (l3 : List (List (S74))) (A4 : Option Addr) (c4 : Nat) (l4 : List (List (S74))) (r : Bool) (w : World) (hr0 : Kd.C (Kd.slice 3 (Kd.int .i64)) w A0 l0.length l0) (hc0 : l0.length ≤ c0) (hr3 : Kd.C (Kd.slice 74 k74) w A3 l3.length l3) (hc3 : l3.length ≤ c3) (hr4 : Kd.C (Kd.slice 74 k74) w A4 l4.length l4) (hc4 : l4.length ≤ c4) (h : chainmanlaw33_ModelExact.f k l0 a1 a2 l3 l4 = some r) :
  Calls Try.prog 3 #[.slice A0 l0.length c0, .int .i64 a1, .int .i64 a2, .slice A3 l3.length c3, .slice A4 l4.length c4] w fun e w' => e = .returned (.bool r) ∧ Below w.heap.size w w' := by
 have HR0 := Aside0.mk hr0
 have HC0 := Aside0.mk hc0
 clear hr0 hc0
 have HR3 := Aside0.mk hr3
 have HC3 := Aside0.mk hc3
 clear hr3 hc3
 have HR4 := Aside0.mk hr4
 have HC4 := Aside0.mk hc4
 clear hr4 hc4
 have HB := Aside0.mk (Below.refl w.heap.size w)
 have H : ((chainmanlaw33_few.f k l0).bind fun t341 => (if t341 = true then (if (l3.length : Int) > 12 then (chainmanlaw33_ModelExact.j0 k l0 a1 a2 l3 l4 true) else (chainmanlaw33_ModelExact.j0 k l0 a1 a2 l3 l4 (decide ((l4.length : Int) > 12)))) else (chainmanlaw33_ModelExact.j0 k l0 a1 a2 l3 l4 true))) = some r := h
 clear h
 have HC6 := Aside0.mk H
 clear H
 go_enter Try.func3, Try.ntmps3
 go_upto_region 1 with (fail)
 go_cut [24] (fun v24 wc => ∃ (kq : Nat) (x24_5 : Bool), v24 = .bool x24_5 ∧ Aside0 (chainmanlaw33_ModelExact.j0 kq l0 a1 a2 l3 l4 x24_5 = some r) ∧ Aside0 (kq ≤ k) ∧ Aside0 (Below w.heap.size w wc))
 case first =>
  have H := HC6.out
  clear HC6
  replace H := Option.bind_eq_some_iff.mp H
  obtain ⟨t341, A70, H⟩ := H
  replace H : (if t341 = true then (if (l3.length : Int) > 12 then (chainmanlaw33_ModelExact.j0 k l0 a1 a2 l3 l4 true) else (chainmanlaw33_ModelExact.j0 k l0 a1 a2 l3 l4 (decide ((l4.length : Int) > 12)))) else (chainmanlaw33_ModelExact.j0 k l0 a1 a2 l3 l4 true)) = some r := H
  have A7 := Aside0.mk A70
  clear A70
  by_cases c8 : t341 = true
  ·subst c8
   have H1 : (if (l3.length : Int) > 12 then (chainmanlaw33_ModelExact.j0 k l0 a1 a2 l3 l4 true) else (chainmanlaw33_ModelExact.j0 k l0 a1 a2 l3 l4 (decide ((l4.length : Int) > 12)))) = some r := by rw [if_pos rfl] at H; exact H
   clear H
   have H := H1
   clear H1
   by_cases c9 : (l3.length : Int) > 12
   ·rw [if_pos c9] at H
    have c9b0 : decide (12 < (l3.length : Int)) = true := decide_eq_true c9
    have c9b1 : decide (12 < l3.length) = true := decide_eq_true (by omega)
    clear c9
    (first | rw [c9b0] | (simp only [i64_w, i32_w]; rw [c9b0]) | skip)
    have H' := Aside0.mk H
    clear H
    go_wp2_with (first | ((with_reducible refine gate_callee (f := 10) rfl ?_); refine goesL_ (some 13) rfl rfl Try.func10 (by kernel_rfl) rfl #[.slice A0 l0.length c0] rfl (by (try simp only [List.map_toArray, List.map_cons, List.map_nil]); first | done | rfl) ?_; (with_reducible refine (chainmanlaw33_few.calls k _ _ l0 true _ ?side1 ?side2 A7.out).mono ?_); (case side1 => repeat (first | exact (Kd.C_below HR0.out HB.out) | (with_reducible first | refine Kd.C_alloc ?_ _ | refine Kd.C_drewN ?_ _ | refine Kd.C_drew ?_))); (case side2 => exact HC0.out); rintro e w' ⟨rfl, ⟨nd, rfl⟩⟩; refine ⟨_, rfl, ?_⟩))
    go_meet
    case rel => exact ⟨_, (true), (by first | rfl | (simp; done) | (simp [*]; done)), H', ⟨by first | omega | exact Nat.le_refl _⟩, ⟨by repeat (first | exact HB.out | apply below_alloc | apply pw_below_drewN | apply below_drew1)⟩⟩
   ·rw [if_neg c9] at H
    have c9b0 : decide (12 < (l3.length : Int)) = false := decide_eq_false c9
    have c9b1 : decide (12 < l3.length) = false := decide_eq_false (by omega)
    clear c9
    (first | rw [c9b0] | (simp only [i64_w, i32_w]; rw [c9b0]) | skip)
    have H' := Aside0.mk H
    clear H
    go_wp2_with (first | ((with_reducible refine gate_callee (f := 10) rfl ?_); refine goesL_ (some 13) rfl rfl Try.func10 (by kernel_rfl) rfl #[.slice A0 l0.length c0] rfl (by (try simp only [List.map_toArray, List.map_cons, List.map_nil]); first | done | rfl) ?_; (with_reducible refine (chainmanlaw33_few.calls k _ _ l0 true _ ?side1 ?side2 A7.out).mono ?_); (case side1 => repeat (first | exact (Kd.C_below HR0.out HB.out) | (with_reducible first | refine Kd.C_alloc ?_ _ | refine Kd.C_drewN ?_ _ | refine Kd.C_drew ?_))); (case side2 => exact HC0.out); rintro e w' ⟨rfl, ⟨nd, rfl⟩⟩; refine ⟨_, rfl, ?_⟩))
    go_meet
    case rel => exact ⟨_, (decide ((l4.length : Int) > 12)), (by first | rfl | (simp; done) | (simp [*]; done)), H', ⟨by first | omega | exact Nat.le_refl _⟩, ⟨by repeat (first | exact HB.out | apply below_alloc | apply pw_below_drewN | apply below_drew1)⟩⟩
  ·replace c8 := Bool.eq_false_iff.mpr c8
   subst c8
   have H1 : (chainmanlaw33_ModelExact.j0 k l0 a1 a2 l3 l4 true) = some r := by rw [if_neg (show ¬ (false = true) by decide)] at H; exact H
   clear H
   have H := H1
   clear H1
   have H' := Aside0.mk H
   clear H
   go_wp2_with (first | ((with_reducible refine gate_callee (f := 10) rfl ?_); refine goesL_ (some 13) rfl rfl Try.func10 (by kernel_rfl) rfl #[.slice A0 l0.length c0] rfl (by (try simp only [List.map_toArray, List.map_cons, List.map_nil]); first | done | rfl) ?_; (with_reducible refine (chainmanlaw33_few.calls k _ _ l0 false _ ?side1 ?side2 A7.out).mono ?_); (case side1 => repeat (first | exact (Kd.C_below HR0.out HB.out) | (with_reducible first | refine Kd.C_alloc ?_ _ | refine Kd.C_drewN ?_ _ | refine Kd.C_drew ?_))); (case side2 => exact HC0.out); rintro e w' ⟨rfl, ⟨nd, rfl⟩⟩; refine ⟨_, rfl, ?_⟩))
   go_meet
   case rel => exact ⟨_, (true), (by first | rfl | (simp; done) | (simp [*]; done)), H', ⟨by first | omega | exact Nat.le_refl _⟩, ⟨by repeat (first | exact HB.out | apply below_alloc | apply pw_below_drewN | apply below_drew1)⟩⟩
 case rest =>
  clear HC6
  try clear c1
  try clear p2
  try clear c3
  try clear c4
  try clear c8
  try clear c9
  try clear c9b0
  try clear c9b1
  obtain ⟨kq, x24_5, rfl, HA, HJ5, HB⟩ := hcut
  cases kq with
  | zero => exact absurd HA.out (by simp [chainmanlaw33_ModelExact.j0])
  | succ kj5 =>
   have H := HA.out
   clear HA
   simp only [chainmanlaw33_ModelExact.j0] at H
   by_cases c10 : x24_5 = true
   ·subst c10
    have H1 : ((chainmanlaw33_awake.f kj5).bind fun t342 => (some t342)) = some r := by rw [if_pos rfl] at H; exact H
    clear H
    have H := H1
    clear H1
    replace H := Option.bind_eq_some_iff.mp H
    obtain ⟨t342, A110, H⟩ := H
    replace H : (some t342) = some r := H
    have A11 := Aside0.mk A110
    clear A110
    obtain rfl := Option.some.inj H
    go_wp2_with (first | ((with_reducible refine gate_callee (f := 11) rfl ?_); refine goesL_ (some 25) rfl rfl Try.func11 (by kernel_rfl) rfl #[] rfl (by (try simp only [List.map_toArray, List.map_cons, List.map_nil]); first | done | rfl) ?_; (with_reducible refine (chainmanlaw33_awake.calls kj5  t342 _ A11.out).mono ?_); rintro e w12 ⟨rfl, hb⟩; refine ⟨_, rfl, ?_⟩; have n0_ := Aside0.mk (below_step (by repeat (first | exact HB.out | apply below_alloc | apply pw_below_drewN | apply below_drew1)) hb); clear HB; have HB := n0_; clear n0_; (try clear hb); (try clear hb2); (try clear hk); (try clear hi)))
    go_ret
    exact ⟨by first | rfl | (simp [errW_none, errW_some] <;> rfl) | (simp [*, errW_none, errW_some] <;> rfl), by repeat (first | exact HB.out | apply below_alloc | apply pw_below_drewN | apply below_drew1)⟩
   ·replace c10 := Bool.eq_false_iff.mpr c10
    subst c10
    have H1 : (chainmanlaw33_ModelExact.l0 kj5 l0 a1 a2 l3 l4 0) = some r := by rw [if_neg (show ¬ (false = true) by decide)] at H; exact H
    clear H
    have H := H1
    clear H1
    have H' := Aside0.mk H
    clear H
    go_wp2
    go_loopg [11] kj5 (fun kq v11 w' => ∃ (x11_2 : Int), v11 = .int .i64 x11_2 ∧ Aside0 (chainmanlaw33_ModelExact.l0 kq l0 a1 a2 l3 l4 x11_2 = some r) ∧ Aside0 (kq ≤ kj5) ∧ Aside0 (Below w.heap.size w w'))
    case atStart => exact ⟨(0), (by first | rfl | (simp; done) | (simp [*]; done)), H', ⟨Nat.le_refl _⟩, ⟨by repeat (first | exact HB.out | apply below_alloc | apply pw_below_drewN | apply below_drew1)⟩⟩
    case round =>
     clear H'
     try clear c1
     try clear p2
     try clear c3
     try clear c4
     try clear c8
     try clear c9
     try clear c9b0
     try clear c9b1
     try clear c10
     try clear c11
     try clear p2
     obtain ⟨x11_2, rfl, HA, HK2, HB⟩ := hrel
     cases gk with
     | zero => exact absurd HA.out (by simp [chainmanlaw33_ModelExact.l0])
     | succ k2 =>
      have H := HA.out
      clear HA
      simp only [chainmanlaw33_ModelExact.l0] at H
      by_cases c13 : x11_2 < (l3.length : Int)
      ·rw [if_pos c13] at H
       have c13b0 : decide (x11_2 < (l3.length : Int)) = true := decide_eq_true c13
       clear c13
       by_cases c14 : 0 ≤ x11_2
       ·rw [if_pos c14] at H
        have c14b0 : decide (0 ≤ x11_2) = true := decide_eq_true c14
        clear c14
        by_cases c15 : ((rd_L7 l3 x11_2).length : Int) > 20
        ·rw [if_pos c15] at H
         have c15b0 : decide (20 < ((rd_L7 l3 x11_2).length : Int)) = true := decide_eq_true c15
         have c15b1 : decide (20 < (rd_L7 l3 x11_2).length) = true := decide_eq_true (by omega)
         clear c15
         replace H := Option.bind_eq_some_iff.mp H
         obtain ⟨t344, A160, H⟩ := H
         replace H : (some t344) = some r := H
         have A16 := Aside0.mk A160
         clear A160
         obtain rfl := Option.some.inj H
         have p343 : 0 ≤ (x11_2 : Int) := of_decide_eq_true (by assumption)
         have q343 : x11_2 < (l3.length : Int) := of_decide_eq_true (by assumption)
         obtain ⟨ad343, A343_0, c343_0, e343, hx343_0, hl343_0, hi343_0⟩ := at_L7 HR3.out x11_2 p343 q343
         cases e343
         replace hx343_0 := (HB.out.cell (World.block_lt_of_cell? w _ hx343_0)).trans hx343_0
         have HR343_0 := Aside0.mk hi343_0
         have HC343_0 := Aside0.mk hl343_0
         clear hi343_0 hl343_0
         replace p343 := eq_true p343
         replace q343 := eq_true q343
         go_wp2_with (first | ((with_reducible refine gate_callee (f := 11) rfl ?_); refine goesL_ (some 52) rfl rfl Try.func11 (by kernel_rfl) rfl #[] rfl (by (try simp only [List.map_toArray, List.map_cons, List.map_nil]); first | done | rfl) ?_; (with_reducible refine (chainmanlaw33_awake.calls k2  t344 _ A16.out).mono ?_); rintro e w17 ⟨rfl, hb⟩; refine ⟨_, rfl, ?_⟩; have n0_ := Aside0.mk (below_step (by repeat (first | exact HB.out | apply below_alloc | apply pw_below_drewN | apply below_drew1)) hb); clear HB; have HB := n0_; clear n0_; (try clear hb); (try clear hb2); (try clear hk); (try clear hi)))
         go_ret
         exact ⟨by first | rfl | (simp [errW_none, errW_some] <;> rfl) | (simp [*, errW_none, errW_some] <;> rfl), by repeat (first | exact HB.out | apply below_alloc | apply pw_below_drewN | apply below_drew1)⟩
        ·rw [if_neg c15] at H
         have c15b0 : decide (20 < ((rd_L7 l3 x11_2).length : Int)) = false := decide_eq_false c15
         have c15b1 : decide (20 < (rd_L7 l3 x11_2).length) = false := decide_eq_false (by omega)
         clear c15
         by_cases c18 : x11_2 < (l4.length : Int)
         ·rw [if_pos c18] at H
          have c18b0 : decide (x11_2 < (l4.length : Int)) = true := decide_eq_true c18
          clear c18
          by_cases c19 : ((rd_L7 l4 x11_2).length : Int) > 20
          ·rw [if_pos c19] at H
           have c19b0 : decide (20 < ((rd_L7 l4 x11_2).length : Int)) = true := decide_eq_true c19
           have c19b1 : decide (20 < (rd_L7 l4 x11_2).length) = true := decide_eq_true (by omega)
           clear c19
           replace H := Option.bind_eq_some_iff.mp H
           obtain ⟨t346, A200, H⟩ := H
           replace H : (some t346) = some r := H
           have A20 := Aside0.mk A200
           clear A200
           obtain rfl := Option.some.inj H
           have p343 : 0 ≤ (x11_2 : Int) := of_decide_eq_true (by assumption)
           have q343 : x11_2 < (l3.length : Int) := of_decide_eq_true (by assumption)
           obtain ⟨ad343, A343_0, c343_0, e343, hx343_0, hl343_0, hi343_0⟩ := at_L7 HR3.out x11_2 p343 q343
           cases e343
           replace hx343_0 := (HB.out.cell (World.block_lt_of_cell? w _ hx343_0)).trans hx343_0
           have HR343_0 := Aside0.mk hi343_0
           have HC343_0 := Aside0.mk hl343_0
           clear hi343_0 hl343_0
           replace p343 := eq_true p343
           replace q343 := eq_true q343
           have p345 : 0 ≤ (x11_2 : Int) := of_decide_eq_true (by assumption)
           have q345 : x11_2 < (l4.length : Int) := of_decide_eq_true (by assumption)
           obtain ⟨ad345, A345_0, c345_0, e345, hx345_0, hl345_0, hi345_0⟩ := at_L7 HR4.out x11_2 p345 q345
           cases e345
           replace hx345_0 := (HB.out.cell (World.block_lt_of_cell? w _ hx345_0)).trans hx345_0
           have HR345_0 := Aside0.mk hi345_0
           have HC345_0 := Aside0.mk hl345_0
           clear hi345_0 hl345_0
           replace p345 := eq_true p345
           replace q345 := eq_true q345
           go_wp2_with (first | ((with_reducible refine gate_callee (f := 11) rfl ?_); refine goesL_ (some 52) rfl rfl Try.func11 (by kernel_rfl) rfl #[] rfl (by (try simp only [List.map_toArray, List.map_cons, List.map_nil]); first | done | rfl) ?_; (with_reducible refine (chainmanlaw33_awake.calls k2  t346 _ A20.out).mono ?_); rintro e w21 ⟨rfl, hb⟩; refine ⟨_, rfl, ?_⟩; have n0_ := Aside0.mk (below_step (by repeat (first | exact HB.out | apply below_alloc | apply pw_below_drewN | apply below_drew1)) hb); clear HB; have HB := n0_; clear n0_; (try clear hb); (try clear hb2); (try clear hk); (try clear hi)))
           go_ret
           exact ⟨by first | rfl | (simp [errW_none, errW_some] <;> rfl) | (simp [*, errW_none, errW_some] <;> rfl), by repeat (first | exact HB.out | apply below_alloc | apply pw_below_drewN | apply below_drew1)⟩
          ·rw [if_neg c19] at H
           have c19b0 : decide (20 < ((rd_L7 l4 x11_2).length : Int)) = false := decide_eq_false c19
           have c19b1 : decide (20 < (rd_L7 l4 x11_2).length) = false := decide_eq_false (by omega)
           clear c19
           have H' := Aside0.mk H
           clear H
           have p343 : 0 ≤ (x11_2 : Int) := of_decide_eq_true (by assumption)
           have q343 : x11_2 < (l3.length : Int) := of_decide_eq_true (by assumption)
           obtain ⟨ad343, A343_0, c343_0, e343, hx343_0, hl343_0, hi343_0⟩ := at_L7 HR3.out x11_2 p343 q343
           cases e343
           replace hx343_0 := (HB.out.cell (World.block_lt_of_cell? w _ hx343_0)).trans hx343_0
           have HR343_0 := Aside0.mk hi343_0
           have HC343_0 := Aside0.mk hl343_0
           clear hi343_0 hl343_0
           replace p343 := eq_true p343
           replace q343 := eq_true q343
           have p345 : 0 ≤ (x11_2 : Int) := of_decide_eq_true (by assumption)
           have q345 : x11_2 < (l4.length : Int) := of_decide_eq_true (by assumption)
           obtain ⟨ad345, A345_0, c345_0, e345, hx345_0, hl345_0, hi345_0⟩ := at_L7 HR4.out x11_2 p345 q345
           cases e345
           replace hx345_0 := (HB.out.cell (World.block_lt_of_cell? w _ hx345_0)).trans hx345_0
           have HR345_0 := Aside0.mk hi345_0
           have HC345_0 := Aside0.mk hl345_0
           clear hi345_0 hl345_0
           replace p345 := eq_true p345
           replace q345 := eq_true q345
           go_wp2
           go_roundg k2
           case measure => have := HJ5.out; have := HK2.out; omega
           case rel => exact ⟨(wrap64 (x11_2 + 1)), (by first | rfl | (simp; done) | (simp [*]; done)), H', ⟨by have := HJ5.out; have := HK2.out; omega⟩, ⟨by repeat (first | exact HB.out | apply below_alloc | apply pw_below_drewN | apply below_drew1)⟩⟩
         ·rw [if_neg c18] at H
          have c18b0 : decide (x11_2 < (l4.length : Int)) = false := decide_eq_false c18
          clear c18
          have H' := Aside0.mk H
          clear H
          have p343 : 0 ≤ (x11_2 : Int) := of_decide_eq_true (by assumption)
          have q343 : x11_2 < (l3.length : Int) := of_decide_eq_true (by assumption)
          obtain ⟨ad343, A343_0, c343_0, e343, hx343_0, hl343_0, hi343_0⟩ := at_L7 HR3.out x11_2 p343 q343
          cases e343
          replace hx343_0 := (HB.out.cell (World.block_lt_of_cell? w _ hx343_0)).trans hx343_0
          have HR343_0 := Aside0.mk hi343_0
          have HC343_0 := Aside0.mk hl343_0
          clear hi343_0 hl343_0
          replace p343 := eq_true p343
          replace q343 := eq_true q343
          go_wp2
          go_roundg k2
          case measure => have := HJ5.out; have := HK2.out; omega
          case rel => exact ⟨(wrap64 (x11_2 + 1)), (by first | rfl | (simp; done) | (simp [*]; done)), H', ⟨by have := HJ5.out; have := HK2.out; omega⟩, ⟨by repeat (first | exact HB.out | apply below_alloc | apply pw_below_drewN | apply below_drew1)⟩⟩
       ·rw [if_neg c14] at H
        exact absurd H (by simp)
      ·rw [if_neg c13] at H
       have c13b0 : decide (x11_2 < (l3.length : Int)) = false := decide_eq_false c13
       clear c13
       replace H := Option.bind_eq_some_iff.mp H
       obtain ⟨t347, A220, H⟩ := H
       replace H : ((chainmanref33_Pairs.f k2 l0 a1).bind fun t350 => ((chainmanref30_SamePairs.f k2 t347 t350).bind fun t353 => (if t353 = true then ((model_Exact.f k2 l0 a2).bind fun t354 => ((chainmanref33_Exact.f k2 l0 a2).bind fun t357 => ((chainmanref12_SameAll.f k2 t354 t357).bind fun t360 => (if t360 = true then ((model_Hits.f k2 l3 l4).bind fun t361 => ((chainmanref33_Hits.f k2 l3 l4).bind fun t362 => (if t361 = t362 then ((chainmanlaw33_awake.f k2).bind fun t363 => (some t363)) else (none)))) else (none))))) else (none)))) = some r := H
       have A22 := Aside0.mk A220
       clear A220
       replace H := Option.bind_eq_some_iff.mp H
       obtain ⟨t350, A230, H⟩ := H
       replace H : ((chainmanref30_SamePairs.f k2 t347 t350).bind fun t353 => (if t353 = true then ((model_Exact.f k2 l0 a2).bind fun t354 => ((chainmanref33_Exact.f k2 l0 a2).bind fun t357 => ((chainmanref12_SameAll.f k2 t354 t357).bind fun t360 => (if t360 = true then ((model_Hits.f k2 l3 l4).bind fun t361 => ((chainmanref33_Hits.f k2 l3 l4).bind fun t362 => (if t361 = t362 then ((chainmanlaw33_awake.f k2).bind fun t363 => (some t363)) else (none)))) else (none))))) else (none))) = some r := H
       have A23 := Aside0.mk A230
       clear A230
       replace H := Option.bind_eq_some_iff.mp H
       obtain ⟨t353, A240, H⟩ := H
       replace H : (if t353 = true then ((model_Exact.f k2 l0 a2).bind fun t354 => ((chainmanref33_Exact.f k2 l0 a2).bind fun t357 => ((chainmanref12_SameAll.f k2 t354 t357).bind fun t360 => (if t360 = true then ((model_Hits.f k2 l3 l4).bind fun t361 => ((chainmanref33_Hits.f k2 l3 l4).bind fun t362 => (if t361 = t362 then ((chainmanlaw33_awake.f k2).bind fun t363 => (some t363)) else (none)))) else (none))))) else (none)) = some r := H
       have A24 := Aside0.mk A240
       clear A240
       by_cases c25 : t353 = true
       ·subst c25
        have H1 : ((model_Exact.f k2 l0 a2).bind fun t354 => ((chainmanref33_Exact.f k2 l0 a2).bind fun t357 => ((chainmanref12_SameAll.f k2 t354 t357).bind fun t360 => (if t360 = true then ((model_Hits.f k2 l3 l4).bind fun t361 => ((chainmanref33_Hits.f k2 l3 l4).bind fun t362 => (if t361 = t362 then ((chainmanlaw33_awake.f k2).bind fun t363 => (some t363)) else (none)))) else (none))))) = some r := by rw [if_pos rfl] at H; exact H
        clear H
        have H := H1
        clear H1
        replace H := Option.bind_eq_some_iff.mp H
        obtain ⟨t354, A260, H⟩ := H
        replace H : ((chainmanref33_Exact.f k2 l0 a2).bind fun t357 => ((chainmanref12_SameAll.f k2 t354 t357).bind fun t360 => (if t360 = true then ((model_Hits.f k2 l3 l4).bind fun t361 => ((chainmanref33_Hits.f k2 l3 l4).bind fun t362 => (if t361 = t362 then ((chainmanlaw33_awake.f k2).bind fun t363 => (some t363)) else (none)))) else (none)))) = some r := H
        have A26 := Aside0.mk A260
        clear A260
        replace H := Option.bind_eq_some_iff.mp H
        obtain ⟨t357, A270, H⟩ := H
        replace H : ((chainmanref12_SameAll.f k2 t354 t357).bind fun t360 => (if t360 = true then ((model_Hits.f k2 l3 l4).bind fun t361 => ((chainmanref33_Hits.f k2 l3 l4).bind fun t362 => (if t361 = t362 then ((chainmanlaw33_awake.f k2).bind fun t363 => (some t363)) else (none)))) else (none))) = some r := H
        have A27 := Aside0.mk A270
        clear A270
        replace H := Option.bind_eq_some_iff.mp H
        obtain ⟨t360, A280, H⟩ := H
        replace H : (if t360 = true then ((model_Hits.f k2 l3 l4).bind fun t361 => ((chainmanref33_Hits.f k2 l3 l4).bind fun t362 => (if t361 = t362 then ((chainmanlaw33_awake.f k2).bind fun t363 => (some t363)) else (none)))) else (none)) = some r := H
        have A28 := Aside0.mk A280
        clear A280
        by_cases c29 : t360 = true
        ·subst c29
         have H1 : ((model_Hits.f k2 l3 l4).bind fun t361 => ((chainmanref33_Hits.f k2 l3 l4).bind fun t362 => (if t361 = t362 then ((chainmanlaw33_awake.f k2).bind fun t363 => (some t363)) else (none)))) = some r := by rw [if_pos rfl] at H; exact H
         clear H
         have H := H1
         clear H1
         replace H := Option.bind_eq_some_iff.mp H
         obtain ⟨t361, A300, H⟩ := H
         replace H : ((chainmanref33_Hits.f k2 l3 l4).bind fun t362 => (if t361 = t362 then ((chainmanlaw33_awake.f k2).bind fun t363 => (some t363)) else (none))) = some r := H
         have A30 := Aside0.mk A300
         clear A300
         replace H := Option.bind_eq_some_iff.mp H
         obtain ⟨t362, A310, H⟩ := H
         replace H : (if t361 = t362 then ((chainmanlaw33_awake.f k2).bind fun t363 => (some t363)) else (none)) = some r := H
         have A31 := Aside0.mk A310
         clear A310
         by_cases c32 : t361 = t362
         ·rw [if_pos c32] at H
          have c32b0 : (t361 == t362) = true := beq_iff_eq.mpr c32
          have c32b1 : (t361 != t362) = false := bne_eq_false_iff_eq.mpr c32
          clear c32
          replace H := Option.bind_eq_some_iff.mp H
          obtain ⟨t363, A330, H⟩ := H
          replace H : (some t363) = some r := H
          have A33 := Aside0.mk A330
          clear A330
          obtain rfl := Option.some.inj H
          go_wp2_with (first | ((with_reducible refine gate_callee (f := 13) rfl ?_); refine goesL_ (some 55) rfl rfl Try.func13 (by kernel_rfl) rfl #[.slice A0 l0.length c0, .int .i64 a1] rfl (by (try simp only [List.map_toArray, List.map_cons, List.map_nil]); first | done | rfl) ?_; (with_reducible refine (model_Pairs.calls k2 _ _ l0 a1 t347 _ ?side1 ?side2 A22.out).mono ?_); (case side1 => repeat (first | exact (Kd.C_below HR0.out HB.out) | (with_reducible first | refine Kd.C_alloc ?_ _ | refine Kd.C_drewN ?_ _ | refine Kd.C_drew ?_))); (case side2 => exact HC0.out); rintro e w34 ⟨v348, rfl, ho0, hb⟩; refine ⟨_, rfl, ?_⟩; have n0_ := Aside0.mk (Kd.R_lower ho0 (below_size (by repeat (first | exact HB.out | apply below_alloc | apply pw_below_drewN | apply below_drew1)))); have n1_ := Aside0.mk (below_step (by repeat (first | exact HB.out | apply below_alloc | apply pw_below_drewN | apply below_drew1)) hb); clear HB; have HO349 := n0_; have HB := n1_; clear n0_ n1_; (try clear hb); (try clear hb2); (try clear hk); (try clear hi); (try clear ho0)) | ((with_reducible refine gate_callee (f := 14) rfl ?_); refine goesL_ (some 58) rfl rfl Try.func14 (by kernel_rfl) rfl #[.slice A0 l0.length c0, .int .i64 a1] rfl (by (try simp only [List.map_toArray, List.map_cons, List.map_nil]); first | done | rfl) ?_; (with_reducible refine (chainmanref33_Pairs.calls k2 _ _ l0 a1 t350 _ ?side1 ?side2 A23.out).mono ?_); (case side1 => repeat (first | exact (Kd.C_below HR0.out HB.out) | (with_reducible first | refine Kd.C_alloc ?_ _ | refine Kd.C_drewN ?_ _ | refine Kd.C_drew ?_))); (case side2 => exact HC0.out); rintro e w35 ⟨v351, rfl, ho0, hb⟩; refine ⟨_, rfl, ?_⟩; have n0_ := Aside0.mk (Kd.R_elder' (by (with_reducible repeat (first | apply Kd.R_alloc | apply Kd.R_drewN | apply Kd.R_drew)); exact HO349.out) (Kd.R_base ho0) hb); have n1_ := Aside0.mk (Kd.R_lower (Kd.R_new' ho0 (Kd.R_lt (by (with_reducible repeat (first | apply Kd.R_alloc | apply Kd.R_drewN | apply Kd.R_drew)); exact HO349.out))) (below_size (by repeat (first | exact HB.out | apply below_alloc | apply pw_below_drewN | apply below_drew1)))); have n2_ := Aside0.mk (below_step (by repeat (first | exact HB.out | apply below_alloc | apply pw_below_drewN | apply below_drew1)) hb); clear HO349; clear HB; have HO349 := n0_; have HO352 := n1_; have HB := n2_; clear n0_ n1_ n2_; (try clear hb); (try clear hb2); (try clear hk); (try clear hi); (try clear ho0); obtain ⟨Ao36, co36, eo36⟩ := Kd.R_slice HO349.out; subst eo36; obtain ⟨Ao37, co37, eo37⟩ := Kd.R_slice HO352.out; subst eo37) | ((with_reducible refine gate_callee (f := 12) rfl ?_); refine goesL_ (some 59) rfl rfl Try.func12 (by kernel_rfl) rfl #[.slice Ao36 t347.length co36, .slice Ao37 t350.length co37] rfl (by (try simp only [List.map_toArray, List.map_cons, List.map_nil]); first | done | rfl) ?_; (with_reducible refine (chainmanref30_SamePairs.calls k2 _ _ t347 _ _ t350 true _ ?side1 ?side2 ?side3 ?side4 A24.out).mono ?_); (case side1 => repeat (first | exact (Kd.R_reads' HO349.out).2.2 | (with_reducible first | refine Kd.C_alloc ?_ _ | refine Kd.C_drewN ?_ _ | refine Kd.C_drew ?_))); (case side2 => exact (Kd.R_reads' HO349.out).2.1); (case side3 => repeat (first | exact (Kd.R_reads' HO352.out).2.2 | (with_reducible first | refine Kd.C_alloc ?_ _ | refine Kd.C_drewN ?_ _ | refine Kd.C_drew ?_))); (case side4 => exact (Kd.R_reads' HO352.out).2.1); rintro e w' ⟨rfl, ⟨nd, rfl⟩⟩; refine ⟨_, rfl, ?_⟩) | (go_at_call 16; (with_reducible refine (model_Exact.calls k2 _ _ l0 a2 t354 _ ?side1 ?side2 A26.out).mono ?_); (case side1 => repeat (first | exact (Kd.C_below HR0.out (by repeat (first | exact HB.out | apply below_alloc | apply pw_below_drewN | apply below_drew1))) | (with_reducible first | refine Kd.C_alloc ?_ _ | refine Kd.C_drewN ?_ _ | refine Kd.C_drew ?_))); (case side2 => exact HC0.out); rintro e w38 ⟨v355, rfl, ho0, hb⟩; have n0_ := Aside0.mk (Kd.R_below (by (with_reducible repeat (first | apply Kd.R_alloc | apply Kd.R_drewN | apply Kd.R_drew)); exact HO349.out) hb); have n1_ := Aside0.mk (Kd.R_below (by (with_reducible repeat (first | apply Kd.R_alloc | apply Kd.R_drewN | apply Kd.R_drew)); exact HO352.out) hb); have n2_ := Aside0.mk (Kd.N_lower (Kd.N_mono (ok' := fun k_ => some k_ ≠ (.slice Ao36 t347.length co36 : Value).ownBlock ∧ some k_ ≠ (.slice Ao37 t350.length co37 : Value).ownBlock) ho0 (fun k_ hk_ => ⟨(Kd.fresh' (Kd.R_lt (by (with_reducible repeat (first | apply Kd.R_alloc | apply Kd.R_drewN | apply Kd.R_drew)); exact HO349.out)) k_ hk_), (Kd.fresh' (Kd.R_lt (by (with_reducible repeat (first | apply Kd.R_alloc | apply Kd.R_drewN | apply Kd.R_drew)); exact HO352.out)) k_ hk_)⟩)) (below_size (by repeat (first | exact HB.out | apply below_alloc | apply pw_below_drewN | apply below_drew1)))); have n3_ := Aside0.mk (below_step (by repeat (first | exact HB.out | apply below_alloc | apply pw_below_drewN | apply below_drew1)) hb); clear HO349; clear HO352; clear HB; have HO349 := n0_; have HO352 := n1_; have HO356 := n2_; have HB := n3_; clear n0_ n1_ n2_ n3_; (try clear hb); (try clear hb2); (try clear hk); (try clear hi); (try clear ho0)) | (go_at_call 17; (with_reducible refine (chainmanref33_Exact.calls k2 _ _ l0 a2 t357 _ ?side1 ?side2 A27.out).mono ?_); (case side1 => repeat (first | exact (Kd.C_below HR0.out HB.out) | (with_reducible first | refine Kd.C_alloc ?_ _ | refine Kd.C_drewN ?_ _ | refine Kd.C_drew ?_))); (case side2 => exact HC0.out); rintro e w39 ⟨v358, rfl, ho0, hb⟩; have n0_ := Aside0.mk (Kd.R_below (by (with_reducible repeat (first | apply Kd.R_alloc | apply Kd.R_drewN | apply Kd.R_drew)); exact HO349.out) hb); have n1_ := Aside0.mk (Kd.R_below (by (with_reducible repeat (first | apply Kd.R_alloc | apply Kd.R_drewN | apply Kd.R_drew)); exact HO352.out) hb); have n2_ := Aside0.mk (Kd.N_elder' (by (with_reducible repeat (first | apply Kd.N_alloc | apply Kd.N_drewN | apply Kd.N_drew)); exact HO356.out) (by first | exact Kd.N_base ho0 | exact Kd.S_base ho0) hb); have n3_ := Aside0.mk (Kd.N_lower (Kd.N_mono (ok' := fun k_ => some k_ ≠ (.slice Ao36 t347.length co36 : Value).ownBlock ∧ some k_ ≠ (.slice Ao37 t350.length co37 : Value).ownBlock ∧ some k_ ≠ (v355 : Value).ownBlock) ho0 (fun k_ hk_ => ⟨(Kd.fresh' (Kd.R_lt (by (with_reducible repeat (first | apply Kd.R_alloc | apply Kd.R_drewN | apply Kd.R_drew)); exact HO349.out)) k_ hk_), (Kd.fresh' (Kd.R_lt (by (with_reducible repeat (first | apply Kd.R_alloc | apply Kd.R_drewN | apply Kd.R_drew)); exact HO352.out)) k_ hk_), (Kd.fresh' (Kd.N_lt (by (with_reducible repeat (first | apply Kd.N_alloc | apply Kd.N_drewN | apply Kd.N_drew)); exact HO356.out)) k_ hk_)⟩)) (below_size (by repeat (first | exact HB.out | apply below_alloc | apply pw_below_drewN | apply below_drew1)))); have n4_ := Aside0.mk (below_step (by repeat (first | exact HB.out | apply below_alloc | apply pw_below_drewN | apply below_drew1)) hb); clear HO349; clear HO352; clear HO356; clear HB; have HO349 := n0_; have HO352 := n1_; have HO356 := n2_; have HO359 := n3_; have HB := n4_; clear n0_ n1_ n2_ n3_ n4_; (try clear hb); (try clear hb2); (try clear hk); (try clear hi); (try clear ho0); obtain ⟨Ao40, co40, eo40⟩ := Kd.N_slice HO356.out; subst eo40; obtain ⟨Ao41, co41, eo41⟩ := Kd.N_slice HO359.out; subst eo41) | (go_at_call 15; (with_reducible refine (chainmanref12_SameAll.calls k2 _ _ t354 _ _ t357 true _ ?side1 ?side2 ?side3 ?side4 A28.out).mono ?_); (case side1 => repeat (first | exact (Kd.N_reads' HO356.out).2.2 | (with_reducible first | refine Kd.C_alloc ?_ _ | refine Kd.C_drewN ?_ _ | refine Kd.C_drew ?_))); (case side2 => exact (Kd.N_reads' HO356.out).2.1); (case side3 => repeat (first | exact (Kd.N_reads' HO359.out).2.2 | (with_reducible first | refine Kd.C_alloc ?_ _ | refine Kd.C_drewN ?_ _ | refine Kd.C_drew ?_))); (case side4 => exact (Kd.N_reads' HO359.out).2.1); rintro e w' ⟨rfl, ⟨nd, rfl⟩⟩) | (go_at_call 18; (with_reducible refine (model_Hits.calls k2 _ _ l3 _ _ l4 t361 _ ?side1 ?side2 ?side3 ?side4 A30.out).mono ?_); (case side1 => repeat (first | exact (Kd.C_below HR3.out (by repeat (first | exact HB.out | apply below_alloc | apply pw_below_drewN | apply below_drew1))) | (with_reducible first | refine Kd.C_alloc ?_ _ | refine Kd.C_drewN ?_ _ | refine Kd.C_drew ?_))); (case side2 => exact HC3.out); (case side3 => repeat (first | exact (Kd.C_below HR4.out (by repeat (first | exact HB.out | apply below_alloc | apply pw_below_drewN | apply below_drew1))) | (with_reducible first | refine Kd.C_alloc ?_ _ | refine Kd.C_drewN ?_ _ | refine Kd.C_drew ?_))); (case side4 => exact HC4.out); rintro e w42 ⟨rfl, hb⟩; have n0_ := Aside0.mk (Kd.R_below (by (with_reducible repeat (first | apply Kd.R_alloc | apply Kd.R_drewN | apply Kd.R_drew)); exact HO349.out) hb); have n1_ := Aside0.mk (Kd.R_below (by (with_reducible repeat (first | apply Kd.R_alloc | apply Kd.R_drewN | apply Kd.R_drew)); exact HO352.out) hb); have n2_ := Aside0.mk (Kd.N_below (by (with_reducible repeat (first | apply Kd.N_alloc | apply Kd.N_drewN | apply Kd.N_drew)); exact HO356.out) hb); have n3_ := Aside0.mk (Kd.N_below (by (with_reducible repeat (first | apply Kd.N_alloc | apply Kd.N_drewN | apply Kd.N_drew)); exact HO359.out) hb); have n4_ := Aside0.mk (below_step (by repeat (first | exact HB.out | apply below_alloc | apply pw_below_drewN | apply below_drew1)) hb); clear HO349; clear HO352; clear HO356; clear HO359; clear HB; have HO349 := n0_; have HO352 := n1_; have HO356 := n2_; have HO359 := n3_; have HB := n4_; clear n0_ n1_ n2_ n3_ n4_; (try clear hb); (try clear hb2); (try clear hk); (try clear hi)) | (go_at_call 19; (with_reducible refine (chainmanref33_Hits.calls k2 _ _ l3 _ _ l4 t362 _ ?side1 ?side2 ?side3 ?side4 A31.out).mono ?_); (case side1 => repeat (first | exact (Kd.C_below HR3.out HB.out) | (with_reducible first | refine Kd.C_alloc ?_ _ | refine Kd.C_drewN ?_ _ | refine Kd.C_drew ?_))); (case side2 => exact HC3.out); (case side3 => repeat (first | exact (Kd.C_below HR4.out HB.out) | (with_reducible first | refine Kd.C_alloc ?_ _ | refine Kd.C_drewN ?_ _ | refine Kd.C_drew ?_))); (case side4 => exact HC4.out); rintro e w' ⟨rfl, ⟨nd, rfl⟩⟩) | (go_at_call 11; (with_reducible refine (chainmanlaw33_awake.calls k2  t363 _ A33.out).mono ?_); rintro e w43 ⟨rfl, hb⟩; have n0_ := Aside0.mk (Kd.R_below (by (with_reducible repeat (first | apply Kd.R_alloc | apply Kd.R_drewN | apply Kd.R_drew)); exact HO349.out) hb); have n1_ := Aside0.mk (Kd.R_below (by (with_reducible repeat (first | apply Kd.R_alloc | apply Kd.R_drewN | apply Kd.R_drew)); exact HO352.out) hb); have n2_ := Aside0.mk (Kd.N_below (by (with_reducible repeat (first | apply Kd.N_alloc | apply Kd.N_drewN | apply Kd.N_drew)); exact HO356.out) hb); have n3_ := Aside0.mk (Kd.N_below (by (with_reducible repeat (first | apply Kd.N_alloc | apply Kd.N_drewN | apply Kd.N_drew)); exact HO359.out) hb); have n4_ := Aside0.mk (below_step (by repeat (first | exact HB.out | apply below_alloc | apply pw_below_drewN | apply below_drew1)) hb); clear HO349; clear HO352; clear HO356; clear HO359; clear HB; have HO349 := n0_; have HO352 := n1_; have HO356 := n2_; have HO359 := n3_; have HB := n4_; clear n0_ n1_ n2_ n3_ n4_; (try clear hb); (try clear hb2); (try clear hk); (try clear hi)))
          go_ret
          exact ⟨by first | rfl | (simp [errW_none, errW_some] <;> rfl) | (simp [*, errW_none, errW_some] <;> rfl), by repeat (first | exact HB.out | apply below_alloc | apply pw_below_drewN | apply below_drew1)⟩
         ·rw [if_neg c32] at H
          exact absurd H (by simp)
        ·replace c29 := Bool.eq_false_iff.mpr c29
         subst c29
         have H1 : (none) = some r := by rw [if_neg (show ¬ (false = true) by decide)] at H; exact H
         clear H
         have H := H1
         clear H1
         exact absurd H (by simp)
       ·replace c25 := Bool.eq_false_iff.mpr c25
        subst c25
        have H1 : (none) = some r := by rw [if_neg (show ¬ (false = true) by decide)] at H; exact H
        clear H
        have H := H1
        clear H1
        exact absurd H (by simp)

/-- THE ONE PURE STATEMENT of chainmanlaw33_ModelExact. -/
def chainmanlaw33_ModelExact.Pure : Prop := ∀ (l0 : List (List Int)) (a1 : Int) (a2 : Int) (l3 : List (List (S74))) (l4 : List (List (S74))), (l0.length ≤ maxLen ∧ ∀ y0_ ∈ l0, (y0_.length ≤ maxLen ∧ ∀ y1_ ∈ y0_, (Lit.int .i64 y1_).wf = true)) → (Lit.int .i64 a1).wf = true → (Lit.int .i64 a2).wf = true → (l3.length ≤ maxLen ∧ ∀ y0_ ∈ l3, (y0_.length ≤ maxLen ∧ ∀ y1_ ∈ y0_, ((Lit.int .i64 y1_.f0).wf = true ∧ (Lit.int .i64 y1_.f1).wf = true ∧ True))) → (l4.length ≤ maxLen ∧ ∀ y0_ ∈ l4, (y0_.length ≤ maxLen ∧ ∀ y1_ ∈ y0_, ((Lit.int .i64 y1_.f0).wf = true ∧ (Lit.int .i64 y1_.f1).wf = true ∧ True))) → ∃ k, chainmanlaw33_ModelExact.f k l0 a1 a2 l3 l4 = some true
theorem chainmanlaw33_ModelExact.walk (P : chainmanlaw33_ModelExact.Pure) (A0 : Option Addr) (c0 : Nat) (l0 : List (List Int)) (a1 : Int) (a2 : Int) (A3 : Option Addr) (c3 : Nat) (l3 : List (List (S74))) (A4 : Option Addr) (c4 : Nat) (l4 : List (List (S74))) (w : World) (hr0 : Kd.C (Kd.slice 3 (Kd.int .i64)) w A0 l0.length l0) (hc0 : l0.length ≤ c0) (w0 : (l0.length ≤ maxLen ∧ ∀ y0_ ∈ l0, (y0_.length ≤ maxLen ∧ ∀ y1_ ∈ y0_, (Lit.int .i64 y1_).wf = true))) (w1 : (Lit.int .i64 a1).wf = true) (w2 : (Lit.int .i64 a2).wf = true) (hr3 : Kd.C (Kd.slice 74 k74) w A3 l3.length l3) (hc3 : l3.length ≤ c3) (w3 : (l3.length ≤ maxLen ∧ ∀ y0_ ∈ l3, (y0_.length ≤ maxLen ∧ ∀ y1_ ∈ y0_, ((Lit.int .i64 y1_.f0).wf = true ∧ (Lit.int .i64 y1_.f1).wf = true ∧ True)))) (hr4 : Kd.C (Kd.slice 74 k74) w A4 l4.length l4) (hc4 : l4.length ≤ c4) (w4 : (l4.length ≤ maxLen ∧ ∀ y0_ ∈ l4, (y0_.length ≤ maxLen ∧ ∀ y1_ ∈ y0_, ((Lit.int .i64 y1_.f0).wf = true ∧ (Lit.int .i64 y1_.f1).wf = true ∧ True)))) :
  Calls Try.prog 3 #[.slice A0 l0.length c0, .int .i64 a1, .int .i64 a2, .slice A3 l3.length c3, .slice A4 l4.length c4] w fun e w' => e = .returned (.bool true) ∧ Below w.heap.size w w' := by
 obtain ⟨k, h⟩ := P l0 a1 a2 l3 l4 w0 w1 w2 w3 w4
 refine (chainmanlaw33_ModelExact.calls k _ _ l0 a1 a2 _ _ l3 _ _ l4 true w hr0 hc0   hr3 hc3 hr4 hc4 h).mono ?_
 rintro e w' ⟨rfl, hd⟩
 exact ⟨rfl, hd⟩


end Go.Proofs.Ytjjjafhchombcaa.PModelExact
