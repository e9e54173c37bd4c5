/- The Go functions that the law reaches, and walks to them; printed by wip/tool/mkprint.py. -/
import Derived.Test.YtjjjafhchombcaaPModelExactx0
namespace Go.Proofs.Ytjjjafhchombcaa.PModelExact
open Go.RowKit Go.Proofs.YtjjjafhchombcaaW.PrintWords Go.Proofs.YtjjjafhchombcaaW.PrintLast Go.Proofs.YtjjjafhchombcaaW.PrintMore
attribute [local go_sem] max2_int min2_int max_two min_two max_three min_three max_four min_four   -- for this text's walks alone
set_option linter.unusedVariables false
set_option linter.unusedSimpArgs false

/-! ### chainmanref10_Right: function 45 -/
mutual
def chainmanref10_Right.l0 : Nat → List (List Int) → Int → Option (Bool)
 | 0, _, _ => none
 | k + 1, x0, x3 => if x3 < (x0.length : Int) then (chainmanref10_Right.j1 k x0 x3 (decide (x3 ≤ 1048576))) else (chainmanref10_Right.j1 k x0 x3 false)
def chainmanref10_Right.j1 : Nat → List (List Int) → Int → Bool → Option (Bool)
 | 0, _, _, _ => none
 | k + 1, x0, x3, x12 => if x12 = true then (if 0 ≤ x3 then (if x3 < (x0.length : Int) then (if ((rd_L1 x0 x3).length : Int) < 1 then (chainmanref10_Right.j2 k x0 x3 true) else (if ((rd_L1 x0 x3).length : Int) > 4096 then (chainmanref10_Right.j2 k x0 x3 true) else (if 0 < (x0.length : Int) then (chainmanref10_Right.j2 k x0 x3 (((rd_L1 x0 x3).length : Int) != ((rd_L1 x0 0).length : Int))) else (none)))) else (none)) else (none)) else (if (x0.length : Int) ≥ 1 then (some (decide ((x0.length : Int) ≤ 1048576))) else (some false))
def chainmanref10_Right.j2 : Nat → List (List Int) → Int → Bool → Option (Bool)
 | 0, _, _, _ => none
 | k + 1, x0, x3, x40 => if x40 = true then (some false) else (chainmanref10_Right.l1 k x0 x3 0)
def chainmanref10_Right.l1 : Nat → List (List Int) → Int → Int → Option (Bool)
 | 0, _, _, _ => none
 | k + 1, x0, x3, x4 => if 0 ≤ x3 then (if x3 < (x0.length : Int) then (if x4 < ((rd_L1 x0 x3).length : Int) then (if 0 ≤ x4 then (if (rd (rd_L1 x0 x3) x4) ≤ (-16777216) then (some false) else (if (rd (rd_L1 x0 x3) x4) ≥ 16777216 then (some false) else (chainmanref10_Right.l1 k x0 x3 (wrap64 (x4 + 1))))) else (none)) else (chainmanref10_Right.l0 k x0 (wrap64 (x3 + 1)))) else (none)) else (none)
end
def chainmanref10_Right.f (k : Nat) (l0 : List (List Int)) : Option (Bool) := chainmanref10_Right.l0 k l0 0
theorem chainmanref10_Right.mono_l : ∀ k, (∀ y0 y1, LeO (chainmanref10_Right.l0 k y0 y1) (chainmanref10_Right.l0 (k + 1) y0 y1)) ∧ (∀ y0 y1 y2, LeO (chainmanref10_Right.j1 k y0 y1 y2) (chainmanref10_Right.j1 (k + 1) y0 y1 y2)) ∧ (∀ y0 y1 y2, LeO (chainmanref10_Right.j2 k y0 y1 y2) (chainmanref10_Right.j2 (k + 1) y0 y1 y2)) ∧ (∀ y0 y1 y2, LeO (chainmanref10_Right.l1 k y0 y1 y2) (chainmanref10_Right.l1 (k + 1) y0 y1 y2))
 | 0 => ⟨fun _ _ r h => by simp [chainmanref10_Right.l0] at h, fun _ _ _ r h => by simp [chainmanref10_Right.j1] at h, fun _ _ _ r h => by simp [chainmanref10_Right.j2] at h, fun _ _ _ r h => by simp [chainmanref10_Right.l1] at h⟩
 | k + 1 => by
  obtain ⟨ih0, ih1, ih2, ih3⟩ := chainmanref10_Right.mono_l k
  refine ⟨?_, ?_, ?_, ?_⟩
  ·intro y0 y1
   unfold chainmanref10_Right.l0
   repeat' first
   | (with_reducible exact ih0 _ _)
   | (with_reducible exact ih1 _ _ _)
   | (with_reducible exact ih2 _ _ _)
   | (with_reducible exact ih3 _ _ _)
   | (with_reducible exact LeO.refl _)
   | (with_reducible exact LeO.none _)
   | (with_reducible refine LeO.ite ?_ ?_)
   | (with_reducible refine LeO.bind ?_ (fun _ => ?_))
   | exact ih0 _ _
   | exact ih1 _ _ _
   | exact ih2 _ _ _
   | exact ih3 _ _ _
   | exact LeO.none _
   | refine LeO.ite ?_ ?_
   | refine LeO.bind ?_ (fun _ => ?_)
  ·intro y0 y1 y2
   unfold chainmanref10_Right.j1
   repeat' first
   | (with_reducible exact ih0 _ _)
   | (with_reducible exact ih1 _ _ _)
   | (with_reducible exact ih2 _ _ _)
   | (with_reducible exact ih3 _ _ _)
   | (with_reducible exact LeO.refl _)
   | (with_reducible exact LeO.none _)
   | (with_reducible refine LeO.ite ?_ ?_)
   | (with_reducible refine LeO.bind ?_ (fun _ => ?_))
   | exact ih0 _ _
   | exact ih1 _ _ _
   | exact ih2 _ _ _
   | exact ih3 _ _ _
   | exact LeO.none _
   | refine LeO.ite ?_ ?_
   | refine LeO.bind ?_ (fun _ => ?_)
  ·intro y0 y1 y2
   unfold chainmanref10_Right.j2
   repeat' first
   | (with_reducible exact ih0 _ _)
   | (with_reducible exact ih1 _ _ _)
   | (with_reducible exact ih2 _ _ _)
   | (with_reducible exact ih3 _ _ _)
   | (with_reducible exact LeO.refl _)
   | (with_reducible exact LeO.none _)
   | (with_reducible refine LeO.ite ?_ ?_)
   | (with_reducible refine LeO.bind ?_ (fun _ => ?_))
   | exact ih0 _ _
   | exact ih1 _ _ _
   | exact ih2 _ _ _
   | exact ih3 _ _ _
   | exact LeO.none _
   | refine LeO.ite ?_ ?_
   | refine LeO.bind ?_ (fun _ => ?_)
  ·intro y0 y1 y2
   unfold chainmanref10_Right.l1
   repeat' first
   | (with_reducible exact ih0 _ _)
   | (with_reducible exact ih1 _ _ _)
   | (with_reducible exact ih2 _ _ _)
   | (with_reducible exact ih3 _ _ _)
   | (with_reducible exact LeO.refl _)
   | (with_reducible exact LeO.none _)
   | (with_reducible refine LeO.ite ?_ ?_)
   | (with_reducible refine LeO.bind ?_ (fun _ => ?_))
   | exact ih0 _ _
   | exact ih1 _ _ _
   | exact ih2 _ _ _
   | exact ih3 _ _ _
   | exact LeO.none _
   | refine LeO.ite ?_ ?_
   | refine LeO.bind ?_ (fun _ => ?_)
theorem chainmanref10_Right.mono : ∀ a0 k, LeO (chainmanref10_Right.f k a0) (chainmanref10_Right.f (k + 1) a0) := by
 intro a0 k
 obtain ⟨ih0, ih1, ih2, ih3⟩ := chainmanref10_Right.mono_l k
 unfold chainmanref10_Right.f
 repeat' first
   | (with_reducible exact ih0 _ _)
   | (with_reducible exact ih1 _ _ _)
   | (with_reducible exact ih2 _ _ _)
   | (with_reducible exact ih3 _ _ _)
   | (with_reducible exact LeO.refl _)
   | (with_reducible exact LeO.none _)
   | (with_reducible refine LeO.ite ?_ ?_)
   | (with_reducible refine LeO.bind ?_ (fun _ => ?_))
   | exact ih0 _ _
   | exact ih1 _ _ _
   | exact ih2 _ _ _
   | exact ih3 _ _ _
   | exact LeO.none _
   | refine LeO.ite ?_ ?_
   | refine LeO.bind ?_ (fun _ => ?_)
set_option maxHeartbeats 8000000 in
set_option maxRecDepth 100000 in
theorem chainmanref10_Right.calls (k : Nat) (A0 : Option Addr) (c0 : Nat) (l0 : List (List Int)) (r : Bool) (w : World) (hr0 : Kd.C (Kd.slice 3 (Kd.int .i64)) w A0 l0.length l0) (hc0 : l0.length ≤ c0) (h : chainmanref10_Right.f k l0 = some r) :
  Calls Try.prog 45 #[.slice A0 l0.length c0] w fun e w' => e = .returned (.bool r) ∧ Drawn0 w w' := by
 have HR0 := Aside0.mk hr0
 have HC0 := Aside0.mk hc0
 clear hr0 hc0
 have H : (chainmanref10_Right.l0 k l0 0) = some r := h
 clear h
 have H' := Aside0.mk H
 clear H
 go_enter Try.func45, Try.ntmps45
 go_wp2
 repeat (go_quiet (fail); try go_wp2)
 go_loopg [3] k (fun kq v3 w' => ∃ (x3_1 : Int), v3 = .int .i64 x3_1 ∧ Aside0 (chainmanref10_Right.l0 kq l0 x3_1 = some r) ∧ Aside0 (kq ≤ k) ∧ Drawn0 w w')
 case atStart => exact ⟨(0), (by first | rfl | (simp; done) | (simp [*]; done)), H', ⟨Nat.le_refl _⟩, by repeat (first | exact Drawn0.refl _ | apply Drawn0.step)⟩
 case round =>
  clear H'
  obtain ⟨x3_1, rfl, HA, HK1, ⟨m1, rfl⟩⟩ := hrel
  cases gk with
  | zero => exact absurd HA.out (by simp [chainmanref10_Right.l0])
  | succ k1 =>
   have H := HA.out
   clear HA
   simp only [chainmanref10_Right.l0] at H
   have HC2 := Aside0.mk H
   clear H
   go_upto_region 2 with (fail)
   repeat (go_quiet (fail); go_upto_region 2 with (fail))
   go_cut [12] (fun v12 wc => ∃ (kq : Nat) (x12_1 : Bool), v12 = .bool x12_1 ∧ Aside0 (chainmanref10_Right.j1 kq l0 x3_1 x12_1 = some r) ∧ Aside0 (kq ≤ k1) ∧ Drawn0 w wc)
   case first =>
    have H := HC2.out
    clear HC2
    by_cases c3 : x3_1 < (l0.length : Int)
    ·rw [if_pos c3] at H
     have c3b0 : decide (x3_1 < (l0.length : Int)) = true := decide_eq_true c3
     clear c3
     (first | rw [c3b0] | (simp only [i64_w, i32_w]; rw [c3b0]) | skip)
     have H' := Aside0.mk H
     clear H
     go_wp2
     repeat (go_quiet (fail); try go_wp2)
     go_meet
     case rel => exact ⟨_, (decide (x3_1 ≤ 1048576)), (by first | rfl | (simp; done) | (simp [*]; done)), H', ⟨by have := HK1.out; first | omega | exact Nat.le_refl _⟩, by repeat (first | exact Drawn0.refl _ | apply Drawn0.step)⟩
    ·rw [if_neg c3] at H
     have c3b0 : decide (x3_1 < (l0.length : Int)) = false := decide_eq_false c3
     clear c3
     (first | rw [c3b0] | (simp only [i64_w, i32_w]; rw [c3b0]) | skip)
     have H' := Aside0.mk H
     clear H
     go_wp2
     repeat (go_quiet (fail); try go_wp2)
     go_meet
     case rel => exact ⟨_, (false), (by first | rfl | (simp; done) | (simp [*]; done)), H', ⟨by have := HK1.out; first | omega | exact Nat.le_refl _⟩, by repeat (first | exact Drawn0.refl _ | apply Drawn0.step)⟩
   case rest =>
    clear HC2
    try clear p2
    try clear c3
    try clear c3b0
    obtain ⟨kq, x12_1, rfl, HA, HJ1, ⟨mc1, rfl⟩⟩ := hcut
    cases kq with
    | zero => exact absurd HA.out (by simp [chainmanref10_Right.j1])
    | succ kj1 =>
     have H := HA.out
     clear HA
     simp only [chainmanref10_Right.j1] at H
     by_cases c4 : x12_1 = true
     ·subst c4
      have H1 : (if 0 ≤ x3_1 then (if x3_1 < (l0.length : Int) then (if ((rd_L1 l0 x3_1).length : Int) < 1 then (chainmanref10_Right.j2 kj1 l0 x3_1 true) else (if ((rd_L1 l0 x3_1).length : Int) > 4096 then (chainmanref10_Right.j2 kj1 l0 x3_1 true) else (if 0 < (l0.length : Int) then (chainmanref10_Right.j2 kj1 l0 x3_1 (((rd_L1 l0 x3_1).length : Int) != ((rd_L1 l0 0).length : Int))) else (none)))) else (none)) else (none)) = some r := by rw [if_pos rfl] at H; exact H
      clear H
      have H := H1
      clear H1
      have HC5 := Aside0.mk H
      clear H
      go_upto_region 4 with (fail)
      repeat (go_quiet (fail); go_upto_region 4 with (fail))
      go_cut [40] (fun v40 wc => ∃ (kq : Nat) (x40_4 : Bool), v40 = .bool x40_4 ∧ Aside0 (chainmanref10_Right.j2 kq l0 x3_1 x40_4 = some r) ∧ Aside0 (kq ≤ kj1) ∧ Drawn0 w wc)
      case first =>
       have H := HC5.out
       clear HC5
       by_cases c6 : 0 ≤ x3_1
       ·rw [if_pos c6] at H
        have c6b0 : decide (0 ≤ x3_1) = true := decide_eq_true c6
        clear c6
        (first | rw [c6b0] | (simp only [i64_w, i32_w]; rw [c6b0]) | skip)
        by_cases c7 : x3_1 < (l0.length : Int)
        ·rw [if_pos c7] at H
         have c7b0 : decide (x3_1 < (l0.length : Int)) = true := decide_eq_true c7
         clear c7
         by_cases c8 : ((rd_L1 l0 x3_1).length : Int) < 1
         ·rw [if_pos c8] at H
          have c8b0 : decide (((rd_L1 l0 x3_1).length : Int) < 1) = true := decide_eq_true c8
          have c8b1 : decide ((rd_L1 l0 x3_1).length < 1) = true := decide_eq_true (by omega)
          clear c8
          have H' := Aside0.mk H
          clear H
          have p225 : 0 ≤ (x3_1 : Int) := of_decide_eq_true (by assumption)
          have q225 : x3_1 < (l0.length : Int) := of_decide_eq_true (by assumption)
          obtain ⟨ad225, A225_0, c225_0, e225, hx225_0, hl225_0, hi225_0⟩ := at_L1 HR0.out x3_1 p225 q225
          cases e225
          have HR225_0 := Aside0.mk hi225_0
          have HC225_0 := Aside0.mk hl225_0
          clear hi225_0 hl225_0
          replace p225 := eq_true p225
          replace q225 := eq_true q225
          go_wp2
          repeat (go_quiet (fail); try go_wp2)
          go_meet
          case rel => exact ⟨_, (true), (by first | rfl | (simp; done) | (simp [*]; done)), H', ⟨by have := HK1.out; have := HJ1.out; first | omega | exact Nat.le_refl _⟩, by repeat (first | exact Drawn0.refl _ | apply Drawn0.step)⟩
         ·rw [if_neg c8] at H
          have c8b0 : decide (((rd_L1 l0 x3_1).length : Int) < 1) = false := decide_eq_false c8
          have c8b1 : decide ((rd_L1 l0 x3_1).length < 1) = false := decide_eq_false (by omega)
          clear c8
          by_cases c9 : ((rd_L1 l0 x3_1).length : Int) > 4096
          ·rw [if_pos c9] at H
           have c9b0 : decide (4096 < ((rd_L1 l0 x3_1).length : Int)) = true := decide_eq_true c9
           have c9b1 : decide (4096 < (rd_L1 l0 x3_1).length) = true := decide_eq_true (by omega)
           clear c9
           have H' := Aside0.mk H
           clear H
           have p225 : 0 ≤ (x3_1 : Int) := of_decide_eq_true (by assumption)
           have q225 : x3_1 < (l0.length : Int) := of_decide_eq_true (by assumption)
           obtain ⟨ad225, A225_0, c225_0, e225, hx225_0, hl225_0, hi225_0⟩ := at_L1 HR0.out x3_1 p225 q225
           cases e225
           have HR225_0 := Aside0.mk hi225_0
           have HC225_0 := Aside0.mk hl225_0
           clear hi225_0 hl225_0
           replace p225 := eq_true p225
           replace q225 := eq_true q225
           have p226 : 0 ≤ (x3_1 : Int) := of_decide_eq_true (by assumption)
           have q226 : x3_1 < (l0.length : Int) := of_decide_eq_true (by assumption)
           obtain ⟨ad226, A226_0, c226_0, e226, hx226_0, hl226_0, hi226_0⟩ := at_L1 HR0.out x3_1 p226 q226
           obtain rfl : ad225 = ad226 := (by injection e226)
           have HR226_0 := Aside0.mk hi226_0
           have HC226_0 := Aside0.mk hl226_0
           clear hi226_0 hl226_0
           replace p226 := eq_true p226
           replace q226 := eq_true q226
           have ea_ := Option.some.inj (hx225_0.symm.trans hx226_0)
           injection ea_ with ea_ en_ ec_
           subst ea_
           subst ec_
           clear en_
           go_wp2
           repeat (go_quiet (fail); try go_wp2)
           go_meet
           case rel => exact ⟨_, (true), (by first | rfl | (simp; done) | (simp [*]; done)), H', ⟨by have := HK1.out; have := HJ1.out; first | omega | exact Nat.le_refl _⟩, by repeat (first | exact Drawn0.refl _ | apply Drawn0.step)⟩
          ·rw [if_neg c9] at H
           have c9b0 : decide (4096 < ((rd_L1 l0 x3_1).length : Int)) = false := decide_eq_false c9
           have c9b1 : decide (4096 < (rd_L1 l0 x3_1).length) = false := decide_eq_false (by omega)
           clear c9
           by_cases c10 : 0 < (l0.length : Int)
           ·rw [if_pos c10] at H
            have c10b0 : decide (0 < (l0.length : Int)) = true := decide_eq_true c10
            have c10b1 : decide (0 < l0.length) = true := decide_eq_true (by omega)
            clear c10
            have H' := Aside0.mk H
            clear H
            have p225 : 0 ≤ (x3_1 : Int) := of_decide_eq_true (by assumption)
            have q225 : x3_1 < (l0.length : Int) := of_decide_eq_true (by assumption)
            obtain ⟨ad225, A225_0, c225_0, e225, hx225_0, hl225_0, hi225_0⟩ := at_L1 HR0.out x3_1 p225 q225
            cases e225
            have HR225_0 := Aside0.mk hi225_0
            have HC225_0 := Aside0.mk hl225_0
            clear hi225_0 hl225_0
            replace p225 := eq_true p225
            replace q225 := eq_true q225
            have p226 : 0 ≤ (x3_1 : Int) := of_decide_eq_true (by assumption)
            have q226 : x3_1 < (l0.length : Int) := of_decide_eq_true (by assumption)
            obtain ⟨ad226, A226_0, c226_0, e226, hx226_0, hl226_0, hi226_0⟩ := at_L1 HR0.out x3_1 p226 q226
            obtain rfl : ad225 = ad226 := (by injection e226)
            have HR226_0 := Aside0.mk hi226_0
            have HC226_0 := Aside0.mk hl226_0
            clear hi226_0 hl226_0
            replace p226 := eq_true p226
            replace q226 := eq_true q226
            have ea_ := Option.some.inj (hx225_0.symm.trans hx226_0)
            injection ea_ with ea_ en_ ec_
            subst ea_
            subst ec_
            clear en_
            have p227 : 0 ≤ (x3_1 : Int) := of_decide_eq_true (by assumption)
            have q227 : x3_1 < (l0.length : Int) := of_decide_eq_true (by assumption)
            obtain ⟨ad227, A227_0, c227_0, e227, hx227_0, hl227_0, hi227_0⟩ := at_L1 HR0.out x3_1 p227 q227
            obtain rfl : ad225 = ad227 := (by injection e227)
            have HR227_0 := Aside0.mk hi227_0
            have HC227_0 := Aside0.mk hl227_0
            clear hi227_0 hl227_0
            replace p227 := eq_true p227
            replace q227 := eq_true q227
            have ea_ := Option.some.inj (hx225_0.symm.trans hx227_0)
            injection ea_ with ea_ en_ ec_
            subst ea_
            subst ec_
            clear en_
            have p228 : 0 ≤ (0 : Int) := (by omega)
            have q228 : 0 < (l0.length : Int) := of_decide_eq_true (by assumption)
            obtain ⟨ad228, A228_0, c228_0, e228, hx228_0, hl228_0, hi228_0⟩ := at_L1 HR0.out 0 p228 q228
            obtain rfl : ad225 = ad228 := (by injection e228)
            have qi228 : (0 < l0.length) = True := eq_true (by omega)
            (try rw [show ((0 : Int)).toNat = 0 from rfl] at hx228_0)
            (try rw [Addr.add_zero'] at hx228_0)
            have HR228_0 := Aside0.mk hi228_0
            have HC228_0 := Aside0.mk hl228_0
            clear hi228_0 hl228_0
            replace p228 := eq_true p228
            replace q228 := eq_true q228
            go_wp2
            repeat (go_quiet (fail); try go_wp2)
            go_meet
            case rel => exact ⟨_, ((((rd_L1 l0 x3_1).length : Int) != ((rd_L1 l0 0).length : Int))), (by first | rfl | (simp; done) | (simp [*]; done)), H', ⟨by have := HK1.out; have := HJ1.out; first | omega | exact Nat.le_refl _⟩, by repeat (first | exact Drawn0.refl _ | apply Drawn0.step)⟩
           ·rw [if_neg c10] at H
            exact absurd H (by simp)
        ·rw [if_neg c7] at H
         exact absurd H (by simp)
       ·rw [if_neg c6] at H
        exact absurd H (by simp)
      case rest =>
       clear HC5
       try clear c1
       try clear c2
       try clear p2
       try clear q2
       try clear hx2
       try clear qi2
       try clear c3
       try clear c3b0
       try clear c4
       try clear c6
       try clear c6b0
       try clear c7
       try clear c7b0
       try clear c8
       try clear c8b0
       try clear c8b1
       try clear c9
       try clear c9b0
       try clear c9b1
       try clear c10
       try clear c10b0
       try clear c10b1
       try clear hx225_0
       try clear hx226_0
       try clear hx227_0
       try clear hx228_0
       try clear p2
       try clear p225
       try clear p226
       try clear p227
       try clear p228
       try clear q225
       try clear q226
       try clear q227
       try clear q228
       obtain ⟨kq, x40_4, rfl, HA, HJ4, ⟨mc4, rfl⟩⟩ := hcut
       cases kq with
       | zero => exact absurd HA.out (by simp [chainmanref10_Right.j2])
       | succ kj4 =>
        have H := HA.out
        clear HA
        simp only [chainmanref10_Right.j2] at H
        by_cases c11 : x40_4 = true
        ·subst c11
         have H1 : (some false) = some r := by rw [if_pos rfl] at H; exact H
         clear H
         have H := H1
         clear H1
         obtain rfl := Option.some.inj H
         go_wp2
         repeat (go_quiet (fail); try go_wp2)
         go_ret
         exact ⟨by first | rfl | (simp; done) | (simp [*]; done), by repeat (first | exact Drawn0.refl _ | apply Drawn0.step)⟩
        ·replace c11 := Bool.eq_false_iff.mpr c11
         subst c11
         have H1 : (chainmanref10_Right.l1 kj4 l0 x3_1 0) = some r := by rw [if_neg (show ¬ (false = true) by decide)] at H; exact H
         clear H
         have H := H1
         clear H1
         have H' := Aside0.mk H
         clear H
         go_wp2
         repeat (go_quiet (fail); try go_wp2)
         go_loopg [4] kj4 (fun kq v4 w' => ∃ (x4_4 : Int), v4 = .int .i64 x4_4 ∧ Aside0 (chainmanref10_Right.l1 kq l0 x3_1 x4_4 = some r) ∧ Aside0 (kq ≤ kj4) ∧ Drawn0 w w')
         case atStart => exact ⟨(0), (by first | rfl | (simp; done) | (simp [*]; done)), H', ⟨Nat.le_refl _⟩, by repeat (first | exact Drawn0.refl _ | apply Drawn0.step)⟩
         case round =>
          clear H'
          try clear c1
          try clear c2
          try clear p2
          try clear q2
          try clear hx2
          try clear qi2
          try clear c3
          try clear c3b0
          try clear c4
          try clear c6
          try clear c6b0
          try clear c7
          try clear c7b0
          try clear c8
          try clear c8b0
          try clear c8b1
          try clear c9
          try clear c9b0
          try clear c9b1
          try clear c10
          try clear c10b0
          try clear c10b1
          try clear c11
          try clear hx225_0
          try clear hx226_0
          try clear hx227_0
          try clear hx228_0
          try clear p2
          try clear p225
          try clear p226
          try clear p227
          try clear p228
          try clear q2
          try clear q225
          try clear q226
          try clear q227
          try clear q228
          obtain ⟨x4_4, rfl, HA, HK4, ⟨m4, rfl⟩⟩ := hrel
          cases gk with
          | zero => exact absurd HA.out (by simp [chainmanref10_Right.l1])
          | succ k4 =>
           have H := HA.out
           clear HA
           simp only [chainmanref10_Right.l1] at H
           by_cases c12 : 0 ≤ x3_1
           ·rw [if_pos c12] at H
            have c12b0 : decide (0 ≤ x3_1) = true := decide_eq_true c12
            clear c12
            by_cases c13 : x3_1 < (l0.length : Int)
            ·rw [if_pos c13] at H
             have c13b0 : decide (x3_1 < (l0.length : Int)) = true := decide_eq_true c13
             clear c13
             by_cases c14 : x4_4 < ((rd_L1 l0 x3_1).length : Int)
             ·rw [if_pos c14] at H
              have c14b0 : decide (x4_4 < ((rd_L1 l0 x3_1).length : Int)) = true := decide_eq_true c14
              clear c14
              by_cases c15 : 0 ≤ x4_4
              ·rw [if_pos c15] at H
               have c15b0 : decide (0 ≤ x4_4) = true := decide_eq_true c15
               clear c15
               by_cases c16 : (rd (rd_L1 l0 x3_1) x4_4) ≤ (-16777216)
               ·rw [if_pos c16] at H
                have c16b0 : decide ((rd (rd_L1 l0 x3_1) x4_4) ≤ (-16777216)) = true := decide_eq_true c16
                clear c16
                obtain rfl := Option.some.inj H
                have p229 : 0 ≤ (x3_1 : Int) := of_decide_eq_true (by assumption)
                have q229 : x3_1 < (l0.length : Int) := of_decide_eq_true (by assumption)
                obtain ⟨ad229, A229_0, c229_0, e229, hx229_0, hl229_0, hi229_0⟩ := at_L1 HR0.out x3_1 p229 q229
                cases e229
                have HR229_0 := Aside0.mk hi229_0
                have HC229_0 := Aside0.mk hl229_0
                clear hi229_0 hl229_0
                replace p229 := eq_true p229
                replace q229 := eq_true q229
                have p230 : 0 ≤ (x3_1 : Int) := of_decide_eq_true (by assumption)
                have q230 : x3_1 < (l0.length : Int) := of_decide_eq_true (by assumption)
                obtain ⟨ad230, A230_0, c230_0, e230, hx230_0, hl230_0, hi230_0⟩ := at_L1 HR0.out x3_1 p230 q230
                obtain rfl : ad229 = ad230 := (by injection e230)
                have HR230_0 := Aside0.mk hi230_0
                have HC230_0 := Aside0.mk hl230_0
                clear hi230_0 hl230_0
                replace p230 := eq_true p230
                replace q230 := eq_true q230
                have ea_ := Option.some.inj (hx229_0.symm.trans hx230_0)
                injection ea_ with ea_ en_ ec_
                subst ea_
                subst ec_
                clear en_
                have p231 : 0 ≤ (x4_4 : Int) := of_decide_eq_true (by assumption)
                have q231 : x4_4 < ((rd_L1 l0 x3_1).length : Int) := of_decide_eq_true (by assumption)
                obtain ⟨ad231, e231, hx231_0⟩ := Kd.at_int HR230_0.out x4_4 p231 q231
                cases e231
                replace p231 := eq_true p231
                replace q231 := eq_true q231
                go_wp2
                repeat (go_quiet (fail); try go_wp2)
                go_ret
                exact ⟨by first | rfl | (simp; done) | (simp [*]; done), by repeat (first | exact Drawn0.refl _ | apply Drawn0.step)⟩
               ·rw [if_neg c16] at H
                have c16b0 : decide ((rd (rd_L1 l0 x3_1) x4_4) ≤ (-16777216)) = false := decide_eq_false c16
                clear c16
                by_cases c17 : (rd (rd_L1 l0 x3_1) x4_4) ≥ 16777216
                ·rw [if_pos c17] at H
                 have c17b0 : decide (16777216 ≤ (rd (rd_L1 l0 x3_1) x4_4)) = true := decide_eq_true c17
                 clear c17
                 obtain rfl := Option.some.inj H
                 have p229 : 0 ≤ (x3_1 : Int) := of_decide_eq_true (by assumption)
                 have q229 : x3_1 < (l0.length : Int) := of_decide_eq_true (by assumption)
                 obtain ⟨ad229, A229_0, c229_0, e229, hx229_0, hl229_0, hi229_0⟩ := at_L1 HR0.out x3_1 p229 q229
                 cases e229
                 have HR229_0 := Aside0.mk hi229_0
                 have HC229_0 := Aside0.mk hl229_0
                 clear hi229_0 hl229_0
                 replace p229 := eq_true p229
                 replace q229 := eq_true q229
                 have p230 : 0 ≤ (x3_1 : Int) := of_decide_eq_true (by assumption)
                 have q230 : x3_1 < (l0.length : Int) := of_decide_eq_true (by assumption)
                 obtain ⟨ad230, A230_0, c230_0, e230, hx230_0, hl230_0, hi230_0⟩ := at_L1 HR0.out x3_1 p230 q230
                 obtain rfl : ad229 = ad230 := (by injection e230)
                 have HR230_0 := Aside0.mk hi230_0
                 have HC230_0 := Aside0.mk hl230_0
                 clear hi230_0 hl230_0
                 replace p230 := eq_true p230
                 replace q230 := eq_true q230
                 have ea_ := Option.some.inj (hx229_0.symm.trans hx230_0)
                 injection ea_ with ea_ en_ ec_
                 subst ea_
                 subst ec_
                 clear en_
                 have p231 : 0 ≤ (x4_4 : Int) := of_decide_eq_true (by assumption)
                 have q231 : x4_4 < ((rd_L1 l0 x3_1).length : Int) := of_decide_eq_true (by assumption)
                 obtain ⟨ad231, e231, hx231_0⟩ := Kd.at_int HR230_0.out x4_4 p231 q231
                 cases e231
                 replace p231 := eq_true p231
                 replace q231 := eq_true q231
                 have p232 : 0 ≤ (x3_1 : Int) := of_decide_eq_true (by assumption)
                 have q232 : x3_1 < (l0.length : Int) := of_decide_eq_true (by assumption)
                 obtain ⟨ad232, A232_0, c232_0, e232, hx232_0, hl232_0, hi232_0⟩ := at_L1 HR0.out x3_1 p232 q232
                 obtain rfl : ad229 = ad232 := (by injection e232)
                 have HR232_0 := Aside0.mk hi232_0
                 have HC232_0 := Aside0.mk hl232_0
                 clear hi232_0 hl232_0
                 replace p232 := eq_true p232
                 replace q232 := eq_true q232
                 have ea_ := Option.some.inj (hx229_0.symm.trans hx232_0)
                 injection ea_ with ea_ en_ ec_
                 subst ea_
                 subst ec_
                 clear en_
                 have p233 : 0 ≤ (x4_4 : Int) := of_decide_eq_true (by assumption)
                 have q233 : x4_4 < ((rd_L1 l0 x3_1).length : Int) := of_decide_eq_true (by assumption)
                 obtain ⟨ad233, e233, hx233_0⟩ := Kd.at_int HR232_0.out x4_4 p233 q233
                 cases e233
                 replace p233 := eq_true p233
                 replace q233 := eq_true q233
                 go_wp2
                 repeat (go_quiet (fail); try go_wp2)
                 go_ret
                 exact ⟨by first | rfl | (simp; done) | (simp [*]; done), by repeat (first | exact Drawn0.refl _ | apply Drawn0.step)⟩
                ·rw [if_neg c17] at H
                 have c17b0 : decide (16777216 ≤ (rd (rd_L1 l0 x3_1) x4_4)) = false := decide_eq_false c17
                 clear c17
                 have H' := Aside0.mk H
                 clear H
                 have p229 : 0 ≤ (x3_1 : Int) := of_decide_eq_true (by assumption)
                 have q229 : x3_1 < (l0.length : Int) := of_decide_eq_true (by assumption)
                 obtain ⟨ad229, A229_0, c229_0, e229, hx229_0, hl229_0, hi229_0⟩ := at_L1 HR0.out x3_1 p229 q229
                 cases e229
                 have HR229_0 := Aside0.mk hi229_0
                 have HC229_0 := Aside0.mk hl229_0
                 clear hi229_0 hl229_0
                 replace p229 := eq_true p229
                 replace q229 := eq_true q229
                 have p230 : 0 ≤ (x3_1 : Int) := of_decide_eq_true (by assumption)
                 have q230 : x3_1 < (l0.length : Int) := of_decide_eq_true (by assumption)
                 obtain ⟨ad230, A230_0, c230_0, e230, hx230_0, hl230_0, hi230_0⟩ := at_L1 HR0.out x3_1 p230 q230
                 obtain rfl : ad229 = ad230 := (by injection e230)
                 have HR230_0 := Aside0.mk hi230_0
                 have HC230_0 := Aside0.mk hl230_0
                 clear hi230_0 hl230_0
                 replace p230 := eq_true p230
                 replace q230 := eq_true q230
                 have ea_ := Option.some.inj (hx229_0.symm.trans hx230_0)
                 injection ea_ with ea_ en_ ec_
                 subst ea_
                 subst ec_
                 clear en_
                 have p231 : 0 ≤ (x4_4 : Int) := of_decide_eq_true (by assumption)
                 have q231 : x4_4 < ((rd_L1 l0 x3_1).length : Int) := of_decide_eq_true (by assumption)
                 obtain ⟨ad231, e231, hx231_0⟩ := Kd.at_int HR230_0.out x4_4 p231 q231
                 cases e231
                 replace p231 := eq_true p231
                 replace q231 := eq_true q231
                 have p232 : 0 ≤ (x3_1 : Int) := of_decide_eq_true (by assumption)
                 have q232 : x3_1 < (l0.length : Int) := of_decide_eq_true (by assumption)
                 obtain ⟨ad232, A232_0, c232_0, e232, hx232_0, hl232_0, hi232_0⟩ := at_L1 HR0.out x3_1 p232 q232
                 obtain rfl : ad229 = ad232 := (by injection e232)
                 have HR232_0 := Aside0.mk hi232_0
                 have HC232_0 := Aside0.mk hl232_0
                 clear hi232_0 hl232_0
                 replace p232 := eq_true p232
                 replace q232 := eq_true q232
                 have ea_ := Option.some.inj (hx229_0.symm.trans hx232_0)
                 injection ea_ with ea_ en_ ec_
                 subst ea_
                 subst ec_
                 clear en_
                 have p233 : 0 ≤ (x4_4 : Int) := of_decide_eq_true (by assumption)
                 have q233 : x4_4 < ((rd_L1 l0 x3_1).length : Int) := of_decide_eq_true (by assumption)
                 obtain ⟨ad233, e233, hx233_0⟩ := Kd.at_int HR232_0.out x4_4 p233 q233
                 cases e233
                 replace p233 := eq_true p233
                 replace q233 := eq_true q233
                 go_wp2
                 repeat (go_quiet (fail); try go_wp2)
                 go_roundg k4
                 case measure => have := HK1.out; have := HJ1.out; have := HJ4.out; have := HK4.out; omega
                 case rel => exact ⟨(wrap64 (x4_4 + 1)), (by first | rfl | (simp; done) | (simp [*]; done)), H', ⟨by have := HK1.out; have := HJ1.out; have := HJ4.out; have := HK4.out; omega⟩, by repeat (first | exact Drawn0.refl _ | apply Drawn0.step)⟩
              ·rw [if_neg c15] at H
               exact absurd H (by simp)
             ·rw [if_neg c14] at H
              have c14b0 : decide (x4_4 < ((rd_L1 l0 x3_1).length : Int)) = false := decide_eq_false c14
              clear c14
              have H' := Aside0.mk H
              clear H
              have p229 : 0 ≤ (x3_1 : Int) := of_decide_eq_true (by assumption)
              have q229 : x3_1 < (l0.length : Int) := of_decide_eq_true (by assumption)
              obtain ⟨ad229, A229_0, c229_0, e229, hx229_0, hl229_0, hi229_0⟩ := at_L1 HR0.out x3_1 p229 q229
              cases e229
              have HR229_0 := Aside0.mk hi229_0
              have HC229_0 := Aside0.mk hl229_0
              clear hi229_0 hl229_0
              replace p229 := eq_true p229
              replace q229 := eq_true q229
              go_wp2
              repeat (go_quiet (fail); try go_wp2)
              go_roundg k4
              case measure => have := HK1.out; have := HJ1.out; have := HJ4.out; have := HK4.out; omega
              case rel => exact ⟨(wrap64 (x3_1 + 1)), (by first | rfl | (simp; done) | (simp [*]; done)), H', ⟨by have := HK1.out; have := HJ1.out; have := HJ4.out; have := HK4.out; omega⟩, by repeat (first | exact Drawn0.refl _ | apply Drawn0.step)⟩
            ·rw [if_neg c13] at H
             exact absurd H (by simp)
           ·rw [if_neg c12] at H
            exact absurd H (by simp)
     ·replace c4 := Bool.eq_false_iff.mpr c4
      subst c4
      have H1 : (if (l0.length : Int) ≥ 1 then (some (decide ((l0.length : Int) ≤ 1048576))) else (some false)) = some r := by rw [if_neg (show ¬ (false = true) by decide)] at H; exact H
      clear H
      have H := H1
      clear H1
      by_cases c18 : (l0.length : Int) ≥ 1
      ·rw [if_pos c18] at H
       have c18b0 : decide (1 ≤ (l0.length : Int)) = true := decide_eq_true c18
       have c18b1 : decide (1 ≤ l0.length) = true := decide_eq_true (by omega)
       clear c18
       obtain rfl := Option.some.inj H
       go_wp2
       repeat (go_quiet (fail); try go_wp2)
       go_ret
       exact ⟨by first | rfl | (simp; done) | (simp [*]; done), by repeat (first | exact Drawn0.refl _ | apply Drawn0.step)⟩
      ·rw [if_neg c18] at H
       have c18b0 : decide (1 ≤ (l0.length : Int)) = false := decide_eq_false c18
       have c18b1 : decide (1 ≤ l0.length) = false := decide_eq_false (by omega)
       clear c18
       obtain rfl := Option.some.inj H
       go_wp2
       repeat (go_quiet (fail); try go_wp2)
       go_ret
       exact ⟨by first | rfl | (simp; done) | (simp [*]; done), by repeat (first | exact Drawn0.refl _ | apply Drawn0.step)⟩

/-! ### chainmanref11_Right: function 39 -/
mutual
def chainmanref11_Right.l0 : Nat → List Int → Int → Option (Bool)
 | 0, _, _ => none
 | k + 1, x0, x3 => if x3 < (x0.length : Int) then (chainmanref11_Right.j1 k x0 x3 (decide (x3 ≤ 4096))) else (chainmanref11_Right.j1 k x0 x3 false)
def chainmanref11_Right.j1 : Nat → List Int → Int → Bool → Option (Bool)
 | 0, _, _, _ => none
 | k + 1, x0, x3, x11 => if x11 = true then (if 0 ≤ x3 then (if x3 < (x0.length : Int) then (if (rd x0 x3) ≤ (-16777216) then (some false) else (if (rd x0 x3) ≥ 16777216 then (some false) else (chainmanref11_Right.l0 k x0 (wrap64 (x3 + 1))))) else (none)) else (none)) else (if (x0.length : Int) ≥ 1 then (some (decide ((x0.length : Int) ≤ 4096))) else (some false))
end
def chainmanref11_Right.f (k : Nat) (l0 : List Int) : Option (Bool) := chainmanref11_Right.l0 k l0 0
theorem chainmanref11_Right.mono_l : ∀ k, (∀ y0 y1, LeO (chainmanref11_Right.l0 k y0 y1) (chainmanref11_Right.l0 (k + 1) y0 y1)) ∧ (∀ y0 y1 y2, LeO (chainmanref11_Right.j1 k y0 y1 y2) (chainmanref11_Right.j1 (k + 1) y0 y1 y2))
 | 0 => ⟨fun _ _ r h => by simp [chainmanref11_Right.l0] at h, fun _ _ _ r h => by simp [chainmanref11_Right.j1] at h⟩
 | k + 1 => by
  obtain ⟨ih0, ih1⟩ := chainmanref11_Right.mono_l k
  refine ⟨?_, ?_⟩
  ·intro y0 y1
   unfold chainmanref11_Right.l0
   repeat' first
   | (with_reducible exact ih0 _ _)
   | (with_reducible exact ih1 _ _ _)
   | (with_reducible exact LeO.refl _)
   | (with_reducible exact LeO.none _)
   | (with_reducible refine LeO.ite ?_ ?_)
   | (with_reducible refine LeO.bind ?_ (fun _ => ?_))
   | exact ih0 _ _
   | exact ih1 _ _ _
   | exact LeO.none _
   | refine LeO.ite ?_ ?_
   | refine LeO.bind ?_ (fun _ => ?_)
  ·intro y0 y1 y2
   unfold chainmanref11_Right.j1
   repeat' first
   | (with_reducible exact ih0 _ _)
   | (with_reducible exact ih1 _ _ _)
   | (with_reducible exact LeO.refl _)
   | (with_reducible exact LeO.none _)
   | (with_reducible refine LeO.ite ?_ ?_)
   | (with_reducible refine LeO.bind ?_ (fun _ => ?_))
   | exact ih0 _ _
   | exact ih1 _ _ _
   | exact LeO.none _
   | refine LeO.ite ?_ ?_
   | refine LeO.bind ?_ (fun _ => ?_)
theorem chainmanref11_Right.mono : ∀ a0 k, LeO (chainmanref11_Right.f k a0) (chainmanref11_Right.f (k + 1) a0) := by
 intro a0 k
 obtain ⟨ih0, ih1⟩ := chainmanref11_Right.mono_l k
 unfold chainmanref11_Right.f
 repeat' first
   | (with_reducible exact ih0 _ _)
   | (with_reducible exact ih1 _ _ _)
   | (with_reducible exact LeO.refl _)
   | (with_reducible exact LeO.none _)
   | (with_reducible refine LeO.ite ?_ ?_)
   | (with_reducible refine LeO.bind ?_ (fun _ => ?_))
   | exact ih0 _ _
   | exact ih1 _ _ _
   | exact LeO.none _
   | refine LeO.ite ?_ ?_
   | refine LeO.bind ?_ (fun _ => ?_)
set_option maxHeartbeats 8000000 in
set_option maxRecDepth 100000 in
theorem chainmanref11_Right.calls (k : Nat) (A0 : Option Addr) (c0 : Nat) (l0 : List Int) (r : Bool) (w : World) (hr0 : Kd.C (Kd.int .i64) w A0 l0.length l0) (hc0 : l0.length ≤ c0) (h : chainmanref11_Right.f k l0 = some r) :
  Calls Try.prog 39 #[.slice A0 l0.length c0] w fun e w' => e = .returned (.bool r) ∧ Drawn0 w w' := by
 have HR0 := Aside0.mk hr0
 have HC0 := Aside0.mk hc0
 clear hr0 hc0
 have H : (chainmanref11_Right.l0 k l0 0) = some r := h
 clear h
 have H' := Aside0.mk H
 clear H
 go_enter Try.func39, Try.ntmps39
 go_wp2
 go_loopg [3] k (fun kq v3 w' => ∃ (x3_1 : Int), v3 = .int .i64 x3_1 ∧ Aside0 (chainmanref11_Right.l0 kq l0 x3_1 = some r) ∧ Aside0 (kq ≤ k) ∧ Drawn0 w w')
 case atStart => exact ⟨(0), (by first | rfl | (simp; done) | (simp [*]; done)), H', ⟨Nat.le_refl _⟩, by repeat (first | exact Drawn0.refl _ | apply Drawn0.step)⟩
 case round =>
  clear H'
  obtain ⟨x3_1, rfl, HA, HK1, ⟨m1, rfl⟩⟩ := hrel
  cases gk with
  | zero => exact absurd HA.out (by simp [chainmanref11_Right.l0])
  | succ k1 =>
   have H := HA.out
   clear HA
   simp only [chainmanref11_Right.l0] at H
   have HC2 := Aside0.mk H
   clear H
   go_upto_region 2 with (fail)
   go_cut [11] (fun v11 wc => ∃ (kq : Nat) (x11_1 : Bool), v11 = .bool x11_1 ∧ Aside0 (chainmanref11_Right.j1 kq l0 x3_1 x11_1 = some r) ∧ Aside0 (kq ≤ k1) ∧ Drawn0 w wc)
   case first =>
    have H := HC2.out
    clear HC2
    by_cases c3 : x3_1 < (l0.length : Int)
    ·rw [if_pos c3] at H
     have c3b0 : decide (x3_1 < (l0.length : Int)) = true := decide_eq_true c3
     clear c3
     (first | rw [c3b0] | (simp only [i64_w, i32_w]; rw [c3b0]) | skip)
     have H' := Aside0.mk H
     clear H
     go_wp2
     go_meet
     case rel => exact ⟨_, (decide (x3_1 ≤ 4096)), (by first | rfl | (simp; done) | (simp [*]; done)), H', ⟨by have := HK1.out; first | omega | exact Nat.le_refl _⟩, by repeat (first | exact Drawn0.refl _ | apply Drawn0.step)⟩
    ·rw [if_neg c3] at H
     have c3b0 : decide (x3_1 < (l0.length : Int)) = false := decide_eq_false c3
     clear c3
     (first | rw [c3b0] | (simp only [i64_w, i32_w]; rw [c3b0]) | skip)
     have H' := Aside0.mk H
     clear H
     go_wp2
     go_meet
     case rel => exact ⟨_, (false), (by first | rfl | (simp; done) | (simp [*]; done)), H', ⟨by have := HK1.out; first | omega | exact Nat.le_refl _⟩, by repeat (first | exact Drawn0.refl _ | apply Drawn0.step)⟩
   case rest =>
    clear HC2
    try clear p2
    try clear c3
    try clear c3b0
    obtain ⟨kq, x11_1, rfl, HA, HJ1, ⟨mc1, rfl⟩⟩ := hcut
    cases kq with
    | zero => exact absurd HA.out (by simp [chainmanref11_Right.j1])
    | succ kj1 =>
     have H := HA.out
     clear HA
     simp only [chainmanref11_Right.j1] at H
     by_cases c4 : x11_1 = true
     ·subst c4
      have H1 : (if 0 ≤ x3_1 then (if x3_1 < (l0.length : Int) then (if (rd l0 x3_1) ≤ (-16777216) then (some false) else (if (rd l0 x3_1) ≥ 16777216 then (some false) else (chainmanref11_Right.l0 kj1 l0 (wrap64 (x3_1 + 1))))) else (none)) else (none)) = some r := by rw [if_pos rfl] at H; exact H
      clear H
      have H := H1
      clear H1
      by_cases c5 : 0 ≤ x3_1
      ·rw [if_pos c5] at H
       have c5b0 : decide (0 ≤ x3_1) = true := decide_eq_true c5
       clear c5
       by_cases c6 : x3_1 < (l0.length : Int)
       ·rw [if_pos c6] at H
        have c6b0 : decide (x3_1 < (l0.length : Int)) = true := decide_eq_true c6
        clear c6
        by_cases c7 : (rd l0 x3_1) ≤ (-16777216)
        ·rw [if_pos c7] at H
         have c7b0 : decide ((rd l0 x3_1) ≤ (-16777216)) = true := decide_eq_true c7
         clear c7
         obtain rfl := Option.some.inj H
         have p234 : 0 ≤ (x3_1 : Int) := of_decide_eq_true (by assumption)
         have q234 : x3_1 < (l0.length : Int) := of_decide_eq_true (by assumption)
         obtain ⟨ad234, e234, hx234_0⟩ := Kd.at_int HR0.out x3_1 p234 q234
         cases e234
         replace p234 := eq_true p234
         replace q234 := eq_true q234
         go_wp2
         go_ret
         exact ⟨by first | rfl | (simp; done) | (simp [*]; done), by repeat (first | exact Drawn0.refl _ | apply Drawn0.step)⟩
        ·rw [if_neg c7] at H
         have c7b0 : decide ((rd l0 x3_1) ≤ (-16777216)) = false := decide_eq_false c7
         clear c7
         by_cases c8 : (rd l0 x3_1) ≥ 16777216
         ·rw [if_pos c8] at H
          have c8b0 : decide (16777216 ≤ (rd l0 x3_1)) = true := decide_eq_true c8
          clear c8
          obtain rfl := Option.some.inj H
          have p234 : 0 ≤ (x3_1 : Int) := of_decide_eq_true (by assumption)
          have q234 : x3_1 < (l0.length : Int) := of_decide_eq_true (by assumption)
          obtain ⟨ad234, e234, hx234_0⟩ := Kd.at_int HR0.out x3_1 p234 q234
          cases e234
          replace p234 := eq_true p234
          replace q234 := eq_true q234
          have p235 : 0 ≤ (x3_1 : Int) := of_decide_eq_true (by assumption)
          have q235 : x3_1 < (l0.length : Int) := of_decide_eq_true (by assumption)
          obtain ⟨ad235, e235, hx235_0⟩ := Kd.at_int HR0.out x3_1 p235 q235
          obtain rfl : ad234 = ad235 := (by injection e235)
          replace p235 := eq_true p235
          replace q235 := eq_true q235
          go_wp2
          go_ret
          exact ⟨by first | rfl | (simp; done) | (simp [*]; done), by repeat (first | exact Drawn0.refl _ | apply Drawn0.step)⟩
         ·rw [if_neg c8] at H
          have c8b0 : decide (16777216 ≤ (rd l0 x3_1)) = false := decide_eq_false c8
          clear c8
          have H' := Aside0.mk H
          clear H
          have p234 : 0 ≤ (x3_1 : Int) := of_decide_eq_true (by assumption)
          have q234 : x3_1 < (l0.length : Int) := of_decide_eq_true (by assumption)
          obtain ⟨ad234, e234, hx234_0⟩ := Kd.at_int HR0.out x3_1 p234 q234
          cases e234
          replace p234 := eq_true p234
          replace q234 := eq_true q234
          have p235 : 0 ≤ (x3_1 : Int) := of_decide_eq_true (by assumption)
          have q235 : x3_1 < (l0.length : Int) := of_decide_eq_true (by assumption)
          obtain ⟨ad235, e235, hx235_0⟩ := Kd.at_int HR0.out x3_1 p235 q235
          obtain rfl : ad234 = ad235 := (by injection e235)
          replace p235 := eq_true p235
          replace q235 := eq_true q235
          go_wp2
          go_roundg kj1
          case measure => have := HK1.out; have := HJ1.out; omega
          case rel => exact ⟨(wrap64 (x3_1 + 1)), (by first | rfl | (simp; done) | (simp [*]; done)), H', ⟨by have := HK1.out; have := HJ1.out; omega⟩, by repeat (first | exact Drawn0.refl _ | apply Drawn0.step)⟩
       ·rw [if_neg c6] at H
        exact absurd H (by simp)
      ·rw [if_neg c5] at H
       exact absurd H (by simp)
     ·replace c4 := Bool.eq_false_iff.mpr c4
      subst c4
      have H1 : (if (l0.length : Int) ≥ 1 then (some (decide ((l0.length : Int) ≤ 4096))) else (some false)) = some r := by rw [if_neg (show ¬ (false = true) by decide)] at H; exact H
      clear H
      have H := H1
      clear H1
      by_cases c9 : (l0.length : Int) ≥ 1
      ·rw [if_pos c9] at H
       have c9b0 : decide (1 ≤ (l0.length : Int)) = true := decide_eq_true c9
       have c9b1 : decide (1 ≤ l0.length) = true := decide_eq_true (by omega)
       clear c9
       obtain rfl := Option.some.inj H
       go_wp2
       go_ret
       exact ⟨by first | rfl | (simp; done) | (simp [*]; done), by repeat (first | exact Drawn0.refl _ | apply Drawn0.step)⟩
      ·rw [if_neg c9] at H
       have c9b0 : decide (1 ≤ (l0.length : Int)) = false := decide_eq_false c9
       have c9b1 : decide (1 ≤ l0.length) = false := decide_eq_false (by omega)
       clear c9
       obtain rfl := Option.some.inj H
       go_wp2
       go_ret
       exact ⟨by first | rfl | (simp; done) | (simp [*]; done), by repeat (first | exact Drawn0.refl _ | apply Drawn0.step)⟩

end Go.Proofs.Ytjjjafhchombcaa.PModelExact
