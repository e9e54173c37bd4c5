/- The Go functions that the law reaches, as plain Lean functions, and proofs that the calls of the machine come to them, or the row of the law over them, for every input that the row speaks of; written by a program of this session (wip/tool/mkprint.py) out of the translation and of hand-made templates. -/
import Derived.Test.YtmacpgkcokpgjaaPManifestTellsx0
import Derived.Test.YtmacpgkcokpgjaaPManifestTellsx10
namespace Go.Proofs.Ytmacpgkcokpgjaa.PManifestTells
open Go.RowKit Go.Proofs.YtmacpgkcokpgjaaW.PrintWords Go.Proofs.YtmacpgkcokpgjaaW.PrintLast Go.Proofs.YtmacpgkcokpgjaaW.PrintMore
attribute [local go_sem] max2_int min2_int max_two min_two max_three min_three max_four min_four   -- for this text's walks alone
set_option linter.unusedVariables false
set_option linter.unusedSimpArgs false

/-! ### chainmanref02_Get: function 109 -/
mutual
def chainmanref02_Get.j0 : Nat → ByteArray → Int → Int → Bool → Option (Int × Bool)
  | 0, _, _, _, _ => none
  | k + 1, x0, x1, x2, x33 => if x33 = true then (some (0, false)) else (chainmanref02_Get.l0 k x0 x1 x2 0 0)
def chainmanref02_Get.l0 : Nat → ByteArray → Int → Int → Int → Int → Option (Int × Bool)
  | 0, _, _, _, _, _ => none
  | k + 1, x0, x1, x2, x8, x9 => if x9 < x2 then (if x8 ≥ 36028797018963968 then (some (0, false)) else (if 0 ≤ (wrap64 (x1 + x9)) then (if (wrap64 (x1 + x9)) < (x0.size : Int) then (chainmanref02_Get.l0 k x0 x1 x2 (wrap64 ((wrap64 (x8 * 256)) + (wrap64 (bt x0 (wrap64 (x1 + x9)))))) (wrap64 (x9 + 1))) else (none)) else (none))) else (some (x8, true))
end
def chainmanref02_Get.f (k : Nat) (a0 : ByteArray) (a1 : Int) (a2 : Int) : Option (Int × Bool) := if a2 < 1 then (chainmanref02_Get.j0 k a0 a1 a2 true) else (if a2 > 8 then (chainmanref02_Get.j0 k a0 a1 a2 true) else (if a1 < 0 then (chainmanref02_Get.j0 k a0 a1 a2 true) else (if a1 > (a0.size : Int) then (chainmanref02_Get.j0 k a0 a1 a2 true) else (chainmanref02_Get.j0 k a0 a1 a2 (decide (a2 > (wrap64 ((a0.size : Int) - a1))))))))
theorem chainmanref02_Get.mono_l : ∀ k, (∀ y0 y1 y2 y3, LeO (chainmanref02_Get.j0 k y0 y1 y2 y3) (chainmanref02_Get.j0 (k + 1) y0 y1 y2 y3)) ∧ (∀ y0 y1 y2 y3 y4, LeO (chainmanref02_Get.l0 k y0 y1 y2 y3 y4) (chainmanref02_Get.l0 (k + 1) y0 y1 y2 y3 y4))
  | 0 => ⟨fun _ _ _ _ r h => by simp [chainmanref02_Get.j0] at h, fun _ _ _ _ _ r h => by simp [chainmanref02_Get.l0] at h⟩
  | k + 1 => by
    obtain ⟨ih0, ih1⟩ := chainmanref02_Get.mono_l k
    refine ⟨?_, ?_⟩
    · intro y0 y1 y2 y3
      unfold chainmanref02_Get.j0
      repeat' first
      | (with_reducible exact ih0 _ _ _ _)
      | (with_reducible exact ih1 _ _ _ _ _)
      | (with_reducible exact LeO.refl _)
      | (with_reducible exact LeO.none _)
      | (with_reducible refine LeO.ite ?_ ?_)
      | (with_reducible refine LeO.bind ?_ (fun _ => ?_))
      | exact ih0 _ _ _ _
      | exact ih1 _ _ _ _ _
      | exact LeO.none _
      | refine LeO.ite ?_ ?_
      | refine LeO.bind ?_ (fun _ => ?_)
    · intro y0 y1 y2 y3 y4
      unfold chainmanref02_Get.l0
      repeat' first
      | (with_reducible exact ih0 _ _ _ _)
      | (with_reducible exact ih1 _ _ _ _ _)
      | (with_reducible exact LeO.refl _)
      | (with_reducible exact LeO.none _)
      | (with_reducible refine LeO.ite ?_ ?_)
      | (with_reducible refine LeO.bind ?_ (fun _ => ?_))
      | exact ih0 _ _ _ _
      | exact ih1 _ _ _ _ _
      | exact LeO.none _
      | refine LeO.ite ?_ ?_
      | refine LeO.bind ?_ (fun _ => ?_)
theorem chainmanref02_Get.mono : ∀ a0 a1 a2 k, LeO (chainmanref02_Get.f k a0 a1 a2) (chainmanref02_Get.f (k + 1) a0 a1 a2) := by
  intro a0 a1 a2 k
  obtain ⟨ih0, ih1⟩ := chainmanref02_Get.mono_l k
  unfold chainmanref02_Get.f
  repeat' first
      | (with_reducible exact ih0 _ _ _ _)
      | (with_reducible exact ih1 _ _ _ _ _)
      | (with_reducible exact LeO.refl _)
      | (with_reducible exact LeO.none _)
      | (with_reducible refine LeO.ite ?_ ?_)
      | (with_reducible refine LeO.bind ?_ (fun _ => ?_))
      | exact ih0 _ _ _ _
      | exact ih1 _ _ _ _ _
      | exact LeO.none _
      | refine LeO.ite ?_ ?_
      | refine LeO.bind ?_ (fun _ => ?_)
set_option maxHeartbeats 8000000 in
set_option maxRecDepth 100000 in
theorem chainmanref02_Get.calls (k : Nat) (a0 : ByteArray) (a1 : Int) (a2 : Int) (r1 : Int) (r2 : Bool) (w : World) (h : chainmanref02_Get.f k a0 a1 a2 = some (r1, r2)) :
    Calls Try.prog 109 #[.string a0, .int .i64 a1, .int .i64 a2] w fun e w' => e = .returned (.tuple #[.int .i64 r1, .bool r2]) ∧ Drawn0 w w' := by
  have H : (if a2 < 1 then (chainmanref02_Get.j0 k a0 a1 a2 true) else (if a2 > 8 then (chainmanref02_Get.j0 k a0 a1 a2 true) else (if a1 < 0 then (chainmanref02_Get.j0 k a0 a1 a2 true) else (if a1 > (a0.size : Int) then (chainmanref02_Get.j0 k a0 a1 a2 true) else (chainmanref02_Get.j0 k a0 a1 a2 (decide (a2 > (wrap64 ((a0.size : Int) - a1))))))))) = some (r1, r2) := h
  clear h
  have HC4 := Aside0.mk H
  clear H
  go_enter Try.func109, Try.ntmps109
  go_upto_region 1 with (fail)
  go_cut [33] (fun v33 wc => ∃ (kq : Nat) (x33_3 : Bool), v33 = .bool x33_3 ∧ Aside0 (chainmanref02_Get.j0 kq a0 a1 a2 x33_3 = some (r1, r2)) ∧ Aside0 (kq ≤ k) ∧ Drawn0 w wc)
  case first =>
    have H := HC4.out
    clear HC4
    by_cases c5 : a2 < 1
    · rw [if_pos c5] at H
      have c5b0 : decide (a2 < 1) = true := decide_eq_true c5
      clear c5
      (first | rw [c5b0] | (simp only [i64_w, i32_w]; rw [c5b0]) | skip)
      have H' := Aside0.mk H
      clear H
      go_wp2
      go_meet
      case rel => exact ⟨_, (true), (by first | rfl | (simp; done) | (simp [*]; done)), H', ⟨by first | omega | exact Nat.le_refl _⟩, by repeat (first | exact Drawn0.refl _ | apply Drawn0.step)⟩
    · rw [if_neg c5] at H
      have c5b0 : decide (a2 < 1) = false := decide_eq_false c5
      clear c5
      (first | rw [c5b0] | (simp only [i64_w, i32_w]; rw [c5b0]) | skip)
      by_cases c6 : a2 > 8
      · rw [if_pos c6] at H
        have c6b0 : decide (8 < a2) = true := decide_eq_true c6
        clear c6
        have H' := Aside0.mk H
        clear H
        go_wp2
        go_meet
        case rel => exact ⟨_, (true), (by first | rfl | (simp; done) | (simp [*]; done)), H', ⟨by first | omega | exact Nat.le_refl _⟩, by repeat (first | exact Drawn0.refl _ | apply Drawn0.step)⟩
      · rw [if_neg c6] at H
        have c6b0 : decide (8 < a2) = false := decide_eq_false c6
        clear c6
        by_cases c7 : a1 < 0
        · rw [if_pos c7] at H
          have c7b0 : decide (a1 < 0) = true := decide_eq_true c7
          clear c7
          have H' := Aside0.mk H
          clear H
          go_wp2
          go_meet
          case rel => exact ⟨_, (true), (by first | rfl | (simp; done) | (simp [*]; done)), H', ⟨by first | omega | exact Nat.le_refl _⟩, by repeat (first | exact Drawn0.refl _ | apply Drawn0.step)⟩
        · rw [if_neg c7] at H
          have c7b0 : decide (a1 < 0) = false := decide_eq_false c7
          clear c7
          by_cases c8 : a1 > (a0.size : Int)
          · rw [if_pos c8] at H
            have c8b0 : decide ((a0.size : Int) < a1) = true := decide_eq_true c8
            clear c8
            have H' := Aside0.mk H
            clear H
            go_wp2
            go_meet
            case rel => exact ⟨_, (true), (by first | rfl | (simp; done) | (simp [*]; done)), H', ⟨by first | omega | exact Nat.le_refl _⟩, by repeat (first | exact Drawn0.refl _ | apply Drawn0.step)⟩
          · rw [if_neg c8] at H
            have c8b0 : decide ((a0.size : Int) < a1) = false := decide_eq_false c8
            clear c8
            have H' := Aside0.mk H
            clear H
            go_wp2
            go_meet
            case rel => exact ⟨_, (decide (a2 > (wrap64 ((a0.size : Int) - a1)))), (by first | rfl | (simp; done) | (simp [*]; done)), H', ⟨by first | omega | exact Nat.le_refl _⟩, by repeat (first | exact Drawn0.refl _ | apply Drawn0.step)⟩
  case rest =>
    clear HC4
    try clear c1
    try clear p2
    try clear c5
    try clear c5b0
    try clear c6
    try clear c6b0
    try clear p6
    try clear c7
    try clear c7b0
    try clear c8
    try clear c8b0
    obtain ⟨kq, x33_3, rfl, HA, HJ3, ⟨mc3, rfl⟩⟩ := hcut
    cases kq with
    | zero => exact absurd HA.out (by simp [chainmanref02_Get.j0])
    | succ kj3 =>
      have H := HA.out
      clear HA
      simp only [chainmanref02_Get.j0] at H
      by_cases c9 : x33_3 = true
      · subst c9
        have H1 : (some (0, false)) = some (r1, r2) := by rw [if_pos rfl] at H; exact H
        clear H
        have H := H1
        clear H1
        simp only [Option.some.injEq, Prod.mk.injEq] at H
        obtain ⟨rfl, rfl⟩ := H
        go_wp2
        go_ret2
        exact ⟨by first | rfl | (simp; done) | (simp [*]; done), by repeat (first | exact Drawn0.refl _ | apply Drawn0.step)⟩
      · replace c9 := Bool.eq_false_iff.mpr c9
        subst c9
        have H1 : (chainmanref02_Get.l0 kj3 a0 a1 a2 0 0) = some (r1, r2) := by rw [if_neg (show ¬ (false = true) by decide)] at H; exact H
        clear H
        have H := H1
        clear H1
        have H' := Aside0.mk H
        clear H
        go_wp2
        go_loopg [8, 9] kj3 (fun kq v8 v9 w' => ∃ (x8_2 : Int) (x9_2 : Int), v8 = .int .i64 x8_2 ∧ v9 = .int .i64 x9_2 ∧ Aside0 (chainmanref02_Get.l0 kq a0 a1 a2 x8_2 x9_2 = some (r1, r2)) ∧ Aside0 (kq ≤ kj3) ∧ Drawn0 w w')
        case atStart => exact ⟨(0), (0), (by first | rfl | (simp; done) | (simp [*]; done)), (by first | rfl | (simp; done) | (simp [*]; done)), H', ⟨Nat.le_refl _⟩, by repeat (first | exact Drawn0.refl _ | apply Drawn0.step)⟩
        case round =>
          clear H'
          try clear c1
          try clear p2
          try clear c3
          try clear c5
          try clear c5b0
          try clear c6
          try clear c6b0
          try clear p6
          try clear c7
          try clear c7b0
          try clear c8
          try clear c8b0
          try clear c9
          try clear p2
          try clear p6
          obtain ⟨x8_2, x9_2, rfl, rfl, HA, HK2, ⟨m2, rfl⟩⟩ := hrel
          cases gk with
          | zero => exact absurd HA.out (by simp [chainmanref02_Get.l0])
          | succ k2 =>
            have H := HA.out
            clear HA
            simp only [chainmanref02_Get.l0] at H
            by_cases c10 : x9_2 < a2
            · rw [if_pos c10] at H
              have c10b0 : decide (x9_2 < a2) = true := decide_eq_true c10
              clear c10
              by_cases c11 : x8_2 ≥ 36028797018963968
              · rw [if_pos c11] at H
                have c11b0 : decide (36028797018963968 ≤ x8_2) = true := decide_eq_true c11
                clear c11
                simp only [Option.some.injEq, Prod.mk.injEq] at H
                obtain ⟨rfl, rfl⟩ := H
                go_wp2
                go_ret2
                exact ⟨by first | rfl | (simp; done) | (simp [*]; done), by repeat (first | exact Drawn0.refl _ | apply Drawn0.step)⟩
              · rw [if_neg c11] at H
                have c11b0 : decide (36028797018963968 ≤ x8_2) = false := decide_eq_false c11
                clear c11
                obtain ⟨ji12, hji12⟩ : ∃ j_ : Int, (wrap64 (a1 + x9_2)) = j_ := ⟨_, rfl⟩
                replace H : (if 0 ≤ (ji12) then (if (ji12) < (a0.size : Int) then (chainmanref02_Get.l0 k2 a0 a1 a2 (wrap64 ((wrap64 (x8_2 * 256)) + (wrap64 (bt a0 (ji12))))) (wrap64 (x9_2 + 1))) else (none)) else (none)) = some (r1, r2) := by first | (rw [hji12] at H; exact H) | (simp only [hji12] at H ⊢; exact H)
                have hji12w : (IntKind.i64.wrap (a1 + x9_2)) = ji12 := (i64_w _).trans hji12
                by_cases c13 : 0 ≤ (ji12)
                · rw [if_pos c13] at H
                  have c13b0 : decide (0 ≤ (ji12)) = true := decide_eq_true c13
                  clear c13
                  by_cases c14 : (ji12) < (a0.size : Int)
                  · rw [if_pos c14] at H
                    have c14b0 : decide ((ji12) < (a0.size : Int)) = true := decide_eq_true c14
                    clear c14
                    have H' := Aside0.mk H
                    clear H
                    have p15 : 0 ≤ ((ji12) : Int) := of_decide_eq_true (by first | (with_reducible assumption) | assumption)
                    have q15 : (ji12) < (a0.size : Int) := of_decide_eq_true (by first | (with_reducible assumption) | assumption)
                    have hx15 := bt_at a0 (ji12)
                    replace p15 := eq_true p15
                    replace q15 := eq_true q15
                    go_wp2
                    go_roundg k2
                    case measure => have := HJ3.out; have := HK2.out; omega
                    case rel => exact ⟨(wrap64 ((wrap64 (x8_2 * 256)) + (wrap64 (bt a0 (ji12))))), (wrap64 (x9_2 + 1)), (by first | rfl | (simp; done) | (simp only [← hji12] <;> (first | rfl | simp)) | (simp [*]; done)), (by first | rfl | (simp; done) | (simp [*]; done)), H', ⟨by have := HJ3.out; have := HK2.out; omega⟩, by repeat (first | exact Drawn0.refl _ | apply Drawn0.step)⟩
                  · rw [if_neg c14] at H
                    exact absurd H (by simp)
                · rw [if_neg c13] at H
                  exact absurd H (by simp)
            · rw [if_neg c10] at H
              have c10b0 : decide (x9_2 < a2) = false := decide_eq_false c10
              clear c10
              simp only [Option.some.injEq, Prod.mk.injEq] at H
              obtain ⟨rfl, rfl⟩ := H
              go_wp2
              go_ret2
              exact ⟨by first | rfl | (simp; done) | (simp [*]; done), by repeat (first | exact Drawn0.refl _ | apply Drawn0.step)⟩

/-! ### chainmanref19_Get: function 68 -/
mutual
def chainmanref19_Get.l0 : Nat → ByteArray → Int → Int → Int → Int → List (S82) → Option (Int × Int × (List (S82)) × Bool)
  | 0, _, _, _, _, _, _ => none
  | k + 1, x0, x9, x10, x158000, x158001, x158002 => if 8 < (x0.size : Int) then (if x10 < (wrap64 (bt x0 8)) then (chainmanref19_Get.j1 k x0 x9 x10 (decide (x10 < 17)) x158000 x158001 x158002) else (chainmanref19_Get.j1 k x0 x9 x10 false x158000 x158001 x158002)) else (none)
def chainmanref19_Get.j1 : Nat → ByteArray → Int → Int → Bool → Int → Int → List (S82) → Option (Int × Int × (List (S82)) × Bool)
  | 0, _, _, _, _, _, _, _ => none
  | k + 1, x0, x9, x10, x49, x158000, x158001, x158002 => if x49 = true then ((chainmanref02_Get.f k x0 x9 1).bind fun bt164 => (if bt164.2 = true then (chainmanref19_Get.j2 k x0 x9 x10 bt164.1 (decide ((wrap64 ((wrap64 ((wrap64 (x9 + 1)) + bt164.1)) + 13)) > (x0.size : Int))) x158000 x158001 x158002) else (chainmanref19_Get.j2 k x0 x9 x10 bt164.1 true x158000 x158001 x158002))) else ((chainmanref19_Put.f k x158000 x158001 x158002).bind fun bt162 => (if bt162.2 = true then (if bt162.1.toList = x0.toList then (some (x158000, x158001, x158002, true)) else (some (0, 0, ([] : List (S82)), false))) else (some (0, 0, ([] : List (S82)), false))))
def chainmanref19_Get.j2 : Nat → ByteArray → Int → Int → Int → Bool → Int → Int → List (S82) → Option (Int × Int × (List (S82)) × Bool)
  | 0, _, _, _, _, _, _, _, _ => none
  | k + 1, x0, x9, x10, x11, x69, x158000, x158001, x158002 => if x69 = true then (some (0, 0, ([] : List (S82)), false)) else (if 0 ≤ (wrap64 (x9 + 1)) then (if (wrap64 (x9 + 1)) ≤ (wrap64 ((wrap64 (x9 + 1)) + x11)) then (if (wrap64 ((wrap64 (x9 + 1)) + x11)) ≤ (x0.size : Int) then ((chainmanref02_Get.f k x0 (wrap64 ((wrap64 (x9 + 1)) + x11)) 1).bind fun bt167 => ((chainmanref02_Get.f k x0 (wrap64 ((wrap64 ((wrap64 (x9 + 1)) + x11)) + 1)) 8).bind fun bt169 => ((chainmanref02_Get.f k x0 (wrap64 ((wrap64 ((wrap64 (x9 + 1)) + x11)) + 9)) 4).bind fun bt171 => (if bt169.2 = true then (if x158002.length < 3518437208883 then (chainmanref19_Get.l0 k x0 (wrap64 ((wrap64 ((wrap64 (x9 + 1)) + x11)) + 13)) (wrap64 (x10 + 1)) x158000 x158001 (x158002 ++ [(⟨x0.extract ((wrap64 (x9 + 1)) : Int).toNat ((wrap64 ((wrap64 (x9 + 1)) + x11)) : Int).toNat, bt167.1, bt169.1, (bt171.1) % 4294967296⟩ : S82)])) else (none)) else (some (0, 0, ([] : List (S82)), false)))))) else (none)) else (none)) else (none))
end
def chainmanref19_Get.f (k : Nat) (a0 : ByteArray) : Option (Int × Int × (List (S82)) × Bool) := if (a0.size : Int) < 13 then (some (0, 0, ([] : List (S82)), false)) else ((chainmanref02_Get.f k a0 4 2).bind fun bt158 => ((chainmanref02_Get.f k a0 6 2).bind fun bt160 => (chainmanref19_Get.l0 k a0 9 0 bt158.1 bt160.1 ([] : List (S82)))))
theorem chainmanref19_Get.mono_l : ∀ k, (∀ y0 y1 y2 y3 y4 y5, LeO (chainmanref19_Get.l0 k y0 y1 y2 y3 y4 y5) (chainmanref19_Get.l0 (k + 1) y0 y1 y2 y3 y4 y5)) ∧ (∀ y0 y1 y2 y3 y4 y5 y6, LeO (chainmanref19_Get.j1 k y0 y1 y2 y3 y4 y5 y6) (chainmanref19_Get.j1 (k + 1) y0 y1 y2 y3 y4 y5 y6)) ∧ (∀ y0 y1 y2 y3 y4 y5 y6 y7, LeO (chainmanref19_Get.j2 k y0 y1 y2 y3 y4 y5 y6 y7) (chainmanref19_Get.j2 (k + 1) y0 y1 y2 y3 y4 y5 y6 y7))
  | 0 => ⟨fun _ _ _ _ _ _ r h => by simp [chainmanref19_Get.l0] at h, fun _ _ _ _ _ _ _ r h => by simp [chainmanref19_Get.j1] at h, fun _ _ _ _ _ _ _ _ r h => by simp [chainmanref19_Get.j2] at h⟩
  | k + 1 => by
    obtain ⟨ih0, ih1, ih2⟩ := chainmanref19_Get.mono_l k
    refine ⟨?_, ?_, ?_⟩
    · intro y0 y1 y2 y3 y4 y5
      unfold chainmanref19_Get.l0
      repeat' first
      | (with_reducible exact ih0 _ _ _ _ _ _)
      | (with_reducible exact ih1 _ _ _ _ _ _ _)
      | (with_reducible exact ih2 _ _ _ _ _ _ _ _)
      | (with_reducible exact chainmanref02_Get.mono _ _ _ _)
      | (with_reducible exact chainmanref19_Put.mono _ _ _ _)
      | (with_reducible exact LeO.refl _)
      | (with_reducible exact LeO.none _)
      | (with_reducible refine LeO.ite ?_ ?_)
      | (with_reducible refine LeO.bind ?_ (fun _ => ?_))
      | exact ih0 _ _ _ _ _ _
      | exact ih1 _ _ _ _ _ _ _
      | exact ih2 _ _ _ _ _ _ _ _
      | exact chainmanref02_Get.mono _ _ _ _
      | exact chainmanref19_Put.mono _ _ _ _
      | exact LeO.none _
      | refine LeO.ite ?_ ?_
      | refine LeO.bind ?_ (fun _ => ?_)
    · intro y0 y1 y2 y3 y4 y5 y6
      unfold chainmanref19_Get.j1
      repeat' first
      | (with_reducible exact ih0 _ _ _ _ _ _)
      | (with_reducible exact ih1 _ _ _ _ _ _ _)
      | (with_reducible exact ih2 _ _ _ _ _ _ _ _)
      | (with_reducible exact chainmanref02_Get.mono _ _ _ _)
      | (with_reducible exact chainmanref19_Put.mono _ _ _ _)
      | (with_reducible exact LeO.refl _)
      | (with_reducible exact LeO.none _)
      | (with_reducible refine LeO.ite ?_ ?_)
      | (with_reducible refine LeO.bind ?_ (fun _ => ?_))
      | exact ih0 _ _ _ _ _ _
      | exact ih1 _ _ _ _ _ _ _
      | exact ih2 _ _ _ _ _ _ _ _
      | exact chainmanref02_Get.mono _ _ _ _
      | exact chainmanref19_Put.mono _ _ _ _
      | exact LeO.none _
      | refine LeO.ite ?_ ?_
      | refine LeO.bind ?_ (fun _ => ?_)
    · intro y0 y1 y2 y3 y4 y5 y6 y7
      unfold chainmanref19_Get.j2
      repeat' first
      | (with_reducible exact ih0 _ _ _ _ _ _)
      | (with_reducible exact ih1 _ _ _ _ _ _ _)
      | (with_reducible exact ih2 _ _ _ _ _ _ _ _)
      | (with_reducible exact chainmanref02_Get.mono _ _ _ _)
      | (with_reducible exact chainmanref19_Put.mono _ _ _ _)
      | (with_reducible exact LeO.refl _)
      | (with_reducible exact LeO.none _)
      | (with_reducible refine LeO.ite ?_ ?_)
      | (with_reducible refine LeO.bind ?_ (fun _ => ?_))
      | exact ih0 _ _ _ _ _ _
      | exact ih1 _ _ _ _ _ _ _
      | exact ih2 _ _ _ _ _ _ _ _
      | exact chainmanref02_Get.mono _ _ _ _
      | exact chainmanref19_Put.mono _ _ _ _
      | exact LeO.none _
      | refine LeO.ite ?_ ?_
      | refine LeO.bind ?_ (fun _ => ?_)
theorem chainmanref19_Get.mono : ∀ a0 k, LeO (chainmanref19_Get.f k a0) (chainmanref19_Get.f (k + 1) a0) := by
  intro a0 k
  obtain ⟨ih0, ih1, ih2⟩ := chainmanref19_Get.mono_l k
  unfold chainmanref19_Get.f
  repeat' first
      | (with_reducible exact ih0 _ _ _ _ _ _)
      | (with_reducible exact ih1 _ _ _ _ _ _ _)
      | (with_reducible exact ih2 _ _ _ _ _ _ _ _)
      | (with_reducible exact chainmanref02_Get.mono _ _ _ _)
      | (with_reducible exact chainmanref19_Put.mono _ _ _ _)
      | (with_reducible exact LeO.refl _)
      | (with_reducible exact LeO.none _)
      | (with_reducible refine LeO.ite ?_ ?_)
      | (with_reducible refine LeO.bind ?_ (fun _ => ?_))
      | exact ih0 _ _ _ _ _ _
      | exact ih1 _ _ _ _ _ _ _
      | exact ih2 _ _ _ _ _ _ _ _
      | exact chainmanref02_Get.mono _ _ _ _
      | exact chainmanref19_Put.mono _ _ _ _
      | exact LeO.none _
      | refine LeO.ite ?_ ?_
      | refine LeO.bind ?_ (fun _ => ?_)
set_option maxHeartbeats 8000000 in
set_option maxRecDepth 100000 in
theorem chainmanref19_Get.calls (k : Nat) (a0 : ByteArray) (r1 : Int) (r2 : Int) (r3 : List (S82)) (r4 : Bool) (w : World) (h : chainmanref19_Get.f k a0 = some (r1, r2, r3, r4)) :
    Calls Try.prog 68 #[.string a0] w fun e w' => ∃ v2_ : Value, e = .returned (.tuple #[.agg #[.int .i64 r1, .int .i64 r2, v2_], .bool r4]) ∧ Kd.R k82 82 w' w.heap.size (fun _ => True) v2_ r3 ∧ Below w.heap.size w w' := by
  have hu80 := Try.underlying80
  have hu82 := Try.underlying82
  have HB := Aside0.mk (Below.refl w.heap.size w)
  have H : (if (a0.size : Int) < 13 then (some (0, 0, ([] : List (S82)), false)) else ((chainmanref02_Get.f k a0 4 2).bind fun bt158 => ((chainmanref02_Get.f k a0 6 2).bind fun bt160 => (chainmanref19_Get.l0 k a0 9 0 bt158.1 bt160.1 ([] : List (S82)))))) = some (r1, r2, r3, r4) := h
  clear h
  by_cases c2 : (a0.size : Int) < 13
  · rw [if_pos c2] at H
    have c2b0 : decide ((a0.size : Int) < 13) = true := decide_eq_true c2
    have c2b1 : decide (a0.size < 13) = true := decide_eq_true (by omega)
    clear c2
    simp only [Option.some.injEq, Prod.mk.injEq] at H
    obtain ⟨rfl, rfl, rfl, rfl⟩ := H
    go_enter Try.func68, Try.ntmps68
    go_wp2_with (first | ((with_reducible refine gate_dst (N := 2) rfl ?_); (try (refine gate_guard (by rfl) ?_; dsimp only)); refine box_event ?hg (N := 2) ?hd (cs := #[.int .i64 0, .int .i64 0, .slice none 0 0]) (t := 80) ?hr ?_; (case hd => rfl); (case hg => rfl); (case hr => first | (go_simp; done) | (go_simp; rfl)); intro gb156 hg w3 hbox hb; have n0_ := Aside0.mk (below_step (by repeat (first | (with_reducible first | exact HB.out | apply below_alloc | apply pw_below_drewN | apply below_drew1) | exact HB.out)) hb); have n1_ := Aside0.mk (hbox); have n2_ := Aside0.mk ((by rw [hg]; exact (below_size (by repeat (first | (with_reducible first | exact HB.out | apply below_alloc | apply pw_below_drewN | apply below_drew1) | exact HB.out))) : w.heap.size ≤ gb156)); have n3_ := Aside0.mk ((by rw [hg]; exact (below_size (by repeat (first | (with_reducible first | exact HB.out | apply below_alloc | apply pw_below_drewN | apply below_drew1) | exact HB.out))) : w.heap.size ≤ gb156)); clear HB; have HB := n0_; have BK156 := n1_; have GW156 := n2_; have GE156 := n3_; clear n0_ n1_ n2_ n3_; clear hb hbox hg; have hcz4_0 : w3.cell? ⟨gb156, 0, none⟩ = some (.int .i64 0) := (blk_cell BK156.out 0).trans rfl; have hcz4_1 : w3.cell? ⟨gb156, 1, none⟩ = some (.int .i64 0) := (blk_cell BK156.out 1).trans rfl; have hcz4_2 : w3.cell? ⟨gb156, 2, none⟩ = some (.slice none 0 0) := (blk_cell BK156.out 2).trans rfl; have hfz4_0 := blk_frozen BK156.out 0; have hfz4_1 := blk_frozen BK156.out 1; have hfz4_2 := blk_frozen BK156.out 2))
    refine bodyPost_ret (results_ct rfl _ _ gb156 80 #[.int .i64 0, .int .i64 0, .slice none 0 0] (0, 0) _ rfl (by (with_reducible repeat (first | refine blk_drewN ?_ _ | refine blk_drew ?_ | refine blk_alloc ?_ _)); refine blk_put (cs := #[.int .i64 0, .int .i64 0, .slice none 0 0]) ?_ 2 _ rfl; (with_reducible repeat (first | refine blk_drewN ?_ _ | refine blk_drew ?_ | refine blk_alloc ?_ _)); refine blk_put (cs := #[.int .i64 0, .int .i64 0, .slice none 0 0]) ?_ 1 _ rfl; (with_reducible repeat (first | refine blk_drewN ?_ _ | refine blk_drew ?_ | refine blk_alloc ?_ _)); refine blk_put (cs := #[.int .i64 0, .int .i64 0, .slice none 0 0]) ?_ 0 _ rfl; (with_reducible repeat (first | refine blk_drewN ?_ _ | refine blk_drew ?_ | refine blk_alloc ?_ _)); exact BK156.out) Try.underlying80 rfl (by kernel_rfl)) rfl ?_
    exact ⟨_, by first | rfl | (simp [errW_none, errW_some] <;> rfl) | (simp [*, errW_none, errW_some] <;> rfl), by first | exact Kd.R_nil _ _ _ _ _ | exact Kd.N_nil _ _ _ _ _ | exact Kd.V_nil _ _ _ _ _ | exact Kd.Q_nil _ _ _ _ _ | exact Kd.S_nil _ _ _ _ _, by repeat (first | (with_reducible first | exact HB.out | apply below_alloc | apply pw_below_drewN | apply below_drew1 | refine below_set ?_ GE156.out) | exact HB.out)⟩
  · rw [if_neg c2] at H
    have c2b0 : decide ((a0.size : Int) < 13) = false := decide_eq_false c2
    have c2b1 : decide (a0.size < 13) = false := decide_eq_false (by omega)
    clear c2
    replace H := Option.bind_eq_some_iff.mp H
    obtain ⟨⟨t158, t159⟩, A50, H⟩ := H
    replace H : ((chainmanref02_Get.f k a0 6 2).bind fun bt160 => (chainmanref19_Get.l0 k a0 9 0 t158 bt160.1 ([] : List (S82)))) = some (r1, r2, r3, r4) := H
    have A5 := Aside0.mk A50
    clear A50
    replace H := Option.bind_eq_some_iff.mp H
    obtain ⟨⟨t160, t161⟩, A60, H⟩ := H
    replace H : (chainmanref19_Get.l0 k a0 9 0 t158 t160 ([] : List (S82))) = some (r1, r2, r3, r4) := H
    have A6 := Aside0.mk A60
    clear A60
    have H' := Aside0.mk H
    clear H
    go_enter Try.func68, Try.ntmps68
    go_wp2_with (first | ((with_reducible refine gate_dst (N := 2) rfl ?_); (try (refine gate_guard (by rfl) ?_; dsimp only)); refine box_event ?hg (N := 2) ?hd (cs := #[.int .i64 0, .int .i64 0, .slice none 0 0]) (t := 80) ?hr ?_; (case hd => rfl); (case hg => rfl); (case hr => first | (go_simp; done) | (go_simp; rfl)); intro gb156 hg w7 hbox hb; have n0_ := Aside0.mk (below_step (by repeat (first | (with_reducible first | exact HB.out | apply below_alloc | apply pw_below_drewN | apply below_drew1) | exact HB.out)) hb); have n1_ := Aside0.mk (hbox); have n2_ := Aside0.mk ((by rw [hg]; exact (below_size (by repeat (first | (with_reducible first | exact HB.out | apply below_alloc | apply pw_below_drewN | apply below_drew1) | exact HB.out))) : w.heap.size ≤ gb156)); have n3_ := Aside0.mk ((by rw [hg]; exact (below_size (by repeat (first | (with_reducible first | exact HB.out | apply below_alloc | apply pw_below_drewN | apply below_drew1) | exact HB.out))) : w.heap.size ≤ gb156)); clear HB; have HB := n0_; have BK156 := n1_; have GW156 := n2_; have GE156 := n3_; clear n0_ n1_ n2_ n3_; clear hb hbox hg) | ((with_reducible refine gate_dst (N := 4) rfl ?_); (try (refine gate_guard (by rfl) ?_; dsimp only)); refine box_event ?hg (N := 4) ?hd (cs := #[.int .i64 0, .int .i64 0, .slice none 0 0]) (t := 80) ?hr ?_; (case hd => rfl); (case hg => rfl); (case hr => first | (go_simp; done) | (go_simp; rfl)); intro gb157 hg w8 hbox hb; have n0_ := Aside0.mk (blk_below (g := gb156) (o := .cells #[.int .i64 0, .int .i64 0, .slice none 0 0] 80 (0, 0)) (by (with_reducible repeat (first | refine blk_drewN ?_ _ | refine blk_drew ?_ | refine blk_alloc ?_ _)); exact BK156.out) hb); have n1_ := Aside0.mk (below_step (by repeat (first | (with_reducible first | exact HB.out | apply below_alloc | apply pw_below_drewN | apply below_drew1 | refine below_set ?_ GE156.out) | exact HB.out)) hb); have n2_ := Aside0.mk (hbox); have n3_ := Aside0.mk ((by rw [hg]; exact (below_size (by repeat (first | (with_reducible first | exact HB.out | apply below_alloc | apply pw_below_drewN | apply below_drew1 | refine below_set ?_ GE156.out) | exact HB.out))) : w.heap.size ≤ gb157)); have n4_ := Aside0.mk ((by rw [hg]; exact (below_size (by repeat (first | (with_reducible first | exact HB.out | apply below_alloc | apply pw_below_drewN | apply below_drew1 | refine below_set ?_ GE156.out) | exact HB.out))) : w.heap.size ≤ gb157)); have n5_ := Aside0.mk ((by rw [hg]; exact Nat.ne_of_lt (blk_lt (g := gb156) (o := .cells #[.int .i64 0, .int .i64 0, .slice none 0 0] 80 (0, 0)) (by (with_reducible repeat (first | refine blk_drewN ?_ _ | refine blk_drew ?_ | refine blk_alloc ?_ _)); exact BK156.out)) : gb156 ≠ gb157)); have n6_ := Aside0.mk ((by rw [hg]; exact Nat.ne_of_gt (blk_lt (g := gb156) (o := .cells #[.int .i64 0, .int .i64 0, .slice none 0 0] 80 (0, 0)) (by (with_reducible repeat (first | refine blk_drewN ?_ _ | refine blk_drew ?_ | refine blk_alloc ?_ _)); exact BK156.out)) : gb157 ≠ gb156)); clear BK156; clear HB; have BK156 := n0_; have HB := n1_; have BK157 := n2_; have GW157 := n3_; have GE157 := n4_; have NB156_157 := n5_; have NB157_156 := n6_; clear n0_ n1_ n2_ n3_ n4_ n5_ n6_; clear hb hbox hg; have hnb9 := NB157_156.out; have hnc9 := NB156_157.out; have hcz10_0 : w8.cell? ⟨gb157, 0, none⟩ = some (.int .i64 0) := (blk_cell BK157.out 0).trans rfl; have hcz10_1 : w8.cell? ⟨gb157, 1, none⟩ = some (.int .i64 0) := (blk_cell BK157.out 1).trans rfl; have hcz10_2 : w8.cell? ⟨gb157, 2, none⟩ = some (.slice none 0 0) := (blk_cell BK157.out 2).trans rfl; have hfz10_0 := blk_frozen BK157.out 0; have hfz10_1 := blk_frozen BK157.out 1; have hfz10_2 := blk_frozen BK157.out 2) | ((with_reducible refine gate_callee (f := 109) rfl ?_); refine goesL_ (some 29) rfl rfl Try.func109 (by kernel_rfl) rfl #[.string a0, .int .i64 4, .int .i64 2] rfl (by (try simp only [List.map_toArray, List.map_cons, List.map_nil]); first | done | rfl | (simp only [List.length_drop, List.length_take]; rfl)) ?_; (with_reducible refine (chainmanref02_Get.calls k a0 4 2 t158 t159 _ A5.out).mono ?_); rintro e w' ⟨rfl, ⟨nd, rfl⟩⟩; refine ⟨_, rfl, ?_⟩) | (go_at_call 109; refine calls_of_args (args' := #[.string a0, .int .i64 4, .int .i64 2]) (by first | rfl) ?_; (with_reducible refine (chainmanref02_Get.calls k a0 4 2 t158 t159 _ A5.out).mono ?_); rintro e w' ⟨rfl, ⟨nd, rfl⟩⟩) | ((with_reducible refine gate_callee (f := 109) rfl ?_); refine goesL_ (some 34) rfl rfl Try.func109 (by kernel_rfl) rfl #[.string a0, .int .i64 6, .int .i64 2] rfl (by (try simp only [List.map_toArray, List.map_cons, List.map_nil]); first | done | rfl | (simp only [List.length_drop, List.length_take]; rfl)) ?_; (with_reducible refine (chainmanref02_Get.calls k a0 6 2 t160 t161 _ A6.out).mono ?_); rintro e w' ⟨rfl, ⟨nd, rfl⟩⟩; refine ⟨_, rfl, ?_⟩) | (go_at_call 109; refine calls_of_args (args' := #[.string a0, .int .i64 6, .int .i64 2]) (by first | rfl) ?_; (with_reducible refine (chainmanref02_Get.calls k a0 6 2 t160 t161 _ A6.out).mono ?_); rintro e w' ⟨rfl, ⟨nd, rfl⟩⟩))
    go_loopg [9, 10] k (fun kq v9 v10 w' => ∃ (x9_1 : Int) (x10_1 : Int) (x157000_1 : Int) (x157001_1 : Int) (x158002_1 : List (S82)) (u158002 : Value), v9 = .int .i64 x9_1 ∧ v10 = .int .i64 x10_1 ∧ Aside0 (chainmanref19_Get.l0 kq a0 x9_1 x10_1 t158 t160 x158002_1 = some (r1, r2, r3, r4)) ∧ Aside0 (kq ≤ k) ∧ Aside0 (Kd.R k82 82 w' w.heap.size (fun _ => True) u158002 x158002_1) ∧ Aside0 (w'.heap[gb156]? = some (.cells #[.int .i64 x157000_1, .int .i64 x157001_1, (.slice none 0 0)] 80 (0, 0))) ∧ Aside0 (w'.heap[gb157]? = some (.cells #[.int .i64 t158, .int .i64 t160, u158002] 80 (0, 0))) ∧ Aside0 (Below w.heap.size w w'))
    case atStart => exact ⟨(9), (0), (0), (0), (([] : List (S82))), (.slice none 0 0), (by first | rfl | (simp; done) | (simp [*]; done)), (by first | rfl | (simp; done) | (simp [*]; done)), H', ⟨Nat.le_refl _⟩, ⟨by first | exact Kd.R_nil _ _ _ _ _ | exact Kd.N_nil _ _ _ _ _ | exact Kd.V_nil _ _ _ _ _ | exact Kd.Q_nil _ _ _ _ _ | exact Kd.S_nil _ _ _ _ _⟩, ⟨by (with_reducible repeat (first | refine blk_drewN ?_ _ | refine blk_drew ?_ | refine blk_alloc ?_ _)); refine blk_far ?_ NB156_157.out _; (with_reducible repeat (first | refine blk_drewN ?_ _ | refine blk_drew ?_ | refine blk_alloc ?_ _)); refine blk_far ?_ NB156_157.out _; (with_reducible repeat (first | refine blk_drewN ?_ _ | refine blk_drew ?_ | refine blk_alloc ?_ _)); refine blk_far ?_ NB156_157.out _; (with_reducible repeat (first | refine blk_drewN ?_ _ | refine blk_drew ?_ | refine blk_alloc ?_ _)); refine blk_far ?_ NB156_157.out _; (with_reducible repeat (first | refine blk_drewN ?_ _ | refine blk_drew ?_ | refine blk_alloc ?_ _)); refine blk_far ?_ NB156_157.out _; (with_reducible repeat (first | refine blk_drewN ?_ _ | refine blk_drew ?_ | refine blk_alloc ?_ _)); exact BK156.out⟩, ⟨by (with_reducible repeat (first | refine blk_drewN ?_ _ | refine blk_drew ?_ | refine blk_alloc ?_ _)); refine blk_put (cs := #[.int .i64 t158, .int .i64 0, .slice none 0 0]) ?_ 1 _ rfl; (with_reducible repeat (first | refine blk_drewN ?_ _ | refine blk_drew ?_ | refine blk_alloc ?_ _)); refine blk_put (cs := #[.int .i64 0, .int .i64 0, .slice none 0 0]) ?_ 0 _ rfl; (with_reducible repeat (first | refine blk_drewN ?_ _ | refine blk_drew ?_ | refine blk_alloc ?_ _)); refine blk_put (cs := #[.int .i64 0, .int .i64 0, .slice none 0 0]) ?_ 2 _ rfl; (with_reducible repeat (first | refine blk_drewN ?_ _ | refine blk_drew ?_ | refine blk_alloc ?_ _)); refine blk_put (cs := #[.int .i64 0, .int .i64 0, .slice none 0 0]) ?_ 1 _ rfl; (with_reducible repeat (first | refine blk_drewN ?_ _ | refine blk_drew ?_ | refine blk_alloc ?_ _)); refine blk_put (cs := #[.int .i64 0, .int .i64 0, .slice none 0 0]) ?_ 0 _ rfl; (with_reducible repeat (first | refine blk_drewN ?_ _ | refine blk_drew ?_ | refine blk_alloc ?_ _)); exact BK157.out⟩, ⟨by repeat (first | (with_reducible first | exact HB.out | apply below_alloc | apply pw_below_drewN | apply below_drew1 | refine below_set ?_ GE156.out | refine below_set ?_ GE157.out) | exact HB.out)⟩⟩
    case round =>
      clear H'
      try clear c1
      try clear c2
      try clear c2b0
      try clear c2b1
      try clear p2
      try clear c6
      try clear c9
      try clear c10
      try clear hcz10_0
      try clear hcz10_1
      try clear hcz10_2
      try clear hcz4_0
      try clear hcz4_1
      try clear hcz4_2
      try clear hfz10_0
      try clear hfz10_1
      try clear hfz10_2
      try clear hfz4_0
      try clear hfz4_1
      try clear hfz4_2
      obtain ⟨x9_1, x10_1, x157000_1, x157001_1, x158002_1, u158002, rfl, rfl, HA, HK1, HO_158002, BK156, BK157, HB⟩ := hrel
      cases gk with
      | zero => exact absurd HA.out (by simp [chainmanref19_Get.l0])
      | succ k1 =>
        have H := HA.out
        clear HA
        simp only [chainmanref19_Get.l0] at H
        have HC11 := Aside0.mk H
        clear H
        go_upto_region 10 with (fail)
        go_cut [49] (fun v49 wc => ∃ (kq : Nat) (x49_10 : Bool), v49 = .bool x49_10 ∧ Aside0 (chainmanref19_Get.j1 kq a0 x9_1 x10_1 x49_10 t158 t160 x158002_1 = some (r1, r2, r3, r4)) ∧ Aside0 (kq ≤ k1) ∧ Aside0 (Kd.R k82 82 wc w.heap.size (fun _ => True) u158002 x158002_1) ∧ Aside0 (wc.heap[gb156]? = some (.cells #[.int .i64 x157000_1, .int .i64 x157001_1, (.slice none 0 0)] 80 (0, 0))) ∧ Aside0 (wc.heap[gb157]? = some (.cells #[.int .i64 t158, .int .i64 t160, u158002] 80 (0, 0))) ∧ Aside0 (Below w.heap.size w wc))
        case first =>
          have H := HC11.out
          clear HC11
          by_cases c12 : 8 < (a0.size : Int)
          · rw [if_pos c12] at H
            have c12b0 : decide (8 < (a0.size : Int)) = true := decide_eq_true c12
            have c12b1 : decide (8 < a0.size) = true := decide_eq_true (by omega)
            clear c12
            (first | rw [c12b0] | (simp only [i64_w, i32_w]; rw [c12b0]) | skip)
            by_cases c14 : x10_1 < (wrap64 (bt a0 8))
            · rw [if_pos c14] at H
              have c14b0 : decide (x10_1 < (wrap64 (bt a0 8))) = true := decide_eq_true c14
              clear c14
              have H' := Aside0.mk H
              clear H
              have p13 : 0 ≤ (8 : Int) := (by omega)
              have q13 : 8 < a0.size := (by have : (8 : Int) < (a0.size : Int) := of_decide_eq_true (by first | (with_reducible assumption) | assumption); omega)
              have hx13 : ∀ h : 8 < a0.size, ((a0[8]'h).toNat : Int) = bt a0 8 := bt_at a0 8
              clear p13
              have qi13 : (8 < (a0.size : Int)) = True := eq_true (of_decide_eq_true (by first | (with_reducible assumption) | assumption))
              replace q13 := eq_true q13
              go_wp2
              go_meet
              case rel => exact ⟨_, (decide (x10_1 < 17)), (by first | rfl | (simp; done) | (simp [*]; done)), H', ⟨by have := HK1.out; first | omega | exact Nat.le_refl _⟩, ⟨by (with_reducible repeat (first | apply Kd.R_alloc | apply Kd.R_drewN | apply Kd.R_drew)); exact HO_158002.out⟩, ⟨by (with_reducible repeat (first | refine blk_drewN ?_ _ | refine blk_drew ?_ | refine blk_alloc ?_ _)); exact BK156.out⟩, ⟨by (with_reducible repeat (first | refine blk_drewN ?_ _ | refine blk_drew ?_ | refine blk_alloc ?_ _)); exact BK157.out⟩, ⟨by repeat (first | (with_reducible first | exact HB.out | apply below_alloc | apply pw_below_drewN | apply below_drew1 | refine below_set ?_ GE156.out | refine below_set ?_ GE157.out) | exact HB.out)⟩⟩
            · rw [if_neg c14] at H
              have c14b0 : decide (x10_1 < (wrap64 (bt a0 8))) = false := decide_eq_false c14
              clear c14
              have H' := Aside0.mk H
              clear H
              have p13 : 0 ≤ (8 : Int) := (by omega)
              have q13 : 8 < a0.size := (by have : (8 : Int) < (a0.size : Int) := of_decide_eq_true (by first | (with_reducible assumption) | assumption); omega)
              have hx13 : ∀ h : 8 < a0.size, ((a0[8]'h).toNat : Int) = bt a0 8 := bt_at a0 8
              clear p13
              have qi13 : (8 < (a0.size : Int)) = True := eq_true (of_decide_eq_true (by first | (with_reducible assumption) | assumption))
              replace q13 := eq_true q13
              go_wp2
              go_meet
              case rel => exact ⟨_, (false), (by first | rfl | (simp; done) | (simp [*]; done)), H', ⟨by have := HK1.out; first | omega | exact Nat.le_refl _⟩, ⟨by (with_reducible repeat (first | apply Kd.R_alloc | apply Kd.R_drewN | apply Kd.R_drew)); exact HO_158002.out⟩, ⟨by (with_reducible repeat (first | refine blk_drewN ?_ _ | refine blk_drew ?_ | refine blk_alloc ?_ _)); exact BK156.out⟩, ⟨by (with_reducible repeat (first | refine blk_drewN ?_ _ | refine blk_drew ?_ | refine blk_alloc ?_ _)); exact BK157.out⟩, ⟨by repeat (first | (with_reducible first | exact HB.out | apply below_alloc | apply pw_below_drewN | apply below_drew1 | refine below_set ?_ GE156.out | refine below_set ?_ GE157.out) | exact HB.out)⟩⟩
          · rw [if_neg c12] at H
            exact absurd H (by simp)
        case rest =>
          clear HC11
          try clear c1
          try clear p1
          try clear q1
          try clear hx1
          try clear qi1
          try clear c2
          try clear c2b0
          try clear c2b1
          try clear p2
          try clear c6
          try clear p6
          try clear c9
          try clear c10
          try clear c12
          try clear c12b0
          try clear c12b1
          try clear p13
          try clear q13
          try clear hx13
          try clear qi13
          try clear c14
          try clear c14b0
          try clear hcz10_0
          try clear hcz10_1
          try clear hcz10_2
          try clear hcz4_0
          try clear hcz4_1
          try clear hcz4_2
          try clear hfz10_0
          try clear hfz10_1
          try clear hfz10_2
          try clear hfz4_0
          try clear hfz4_1
          try clear hfz4_2
          try clear p13
          try clear p2
          try clear q13
          obtain ⟨kq, x49_10, rfl, HA, HJ10, HO_158002, BK156, BK157, HB⟩ := hcut
          cases kq with
          | zero => exact absurd HA.out (by simp [chainmanref19_Get.j1])
          | succ kj10 =>
            have H := HA.out
            clear HA
            simp only [chainmanref19_Get.j1] at H
            by_cases c15 : x49_10 = true
            · subst c15
              have H1 : ((chainmanref02_Get.f kj10 a0 x9_1 1).bind fun bt164 => (if bt164.2 = true then (chainmanref19_Get.j2 kj10 a0 x9_1 x10_1 bt164.1 (decide ((wrap64 ((wrap64 ((wrap64 (x9_1 + 1)) + bt164.1)) + 13)) > (a0.size : Int))) t158 t160 x158002_1) else (chainmanref19_Get.j2 kj10 a0 x9_1 x10_1 bt164.1 true t158 t160 x158002_1))) = some (r1, r2, r3, r4) := by rw [if_pos rfl] at H; exact H
              clear H
              have H := H1
              clear H1
              replace H := Option.bind_eq_some_iff.mp H
              obtain ⟨⟨t164, t165⟩, A160, H⟩ := H
              replace H : (if t165 = true then (chainmanref19_Get.j2 kj10 a0 x9_1 x10_1 t164 (decide ((wrap64 ((wrap64 ((wrap64 (x9_1 + 1)) + t164)) + 13)) > (a0.size : Int))) t158 t160 x158002_1) else (chainmanref19_Get.j2 kj10 a0 x9_1 x10_1 t164 true t158 t160 x158002_1)) = some (r1, r2, r3, r4) := H
              have A16 := Aside0.mk A160
              clear A160
              have HC17 := Aside0.mk H
              clear H
              go_upto_region 13 with (first | ((with_reducible refine gate_callee (f := 109) rfl ?_); refine goesL_ (some 55) rfl rfl Try.func109 (by kernel_rfl) rfl #[.string a0, .int .i64 x9_1, .int .i64 1] rfl (by (try simp only [List.map_toArray, List.map_cons, List.map_nil]); first | done | rfl | (simp only [List.length_drop, List.length_take]; rfl)) ?_; (with_reducible refine (chainmanref02_Get.calls kj10 a0 x9_1 1 t164 t165 _ A16.out).mono ?_); rintro e w' ⟨rfl, ⟨nd, rfl⟩⟩; refine ⟨_, rfl, ?_⟩) | (go_at_call 109; refine calls_of_args (args' := #[.string a0, .int .i64 x9_1, .int .i64 1]) (by first | rfl) ?_; (with_reducible refine (chainmanref02_Get.calls kj10 a0 x9_1 1 t164 t165 _ A16.out).mono ?_); rintro e w' ⟨rfl, ⟨nd, rfl⟩⟩))
              (try simp only [Act.put, List.setIfInBounds_toArray, List.set_cons_zero, List.set_cons_succ])
              go_cut [69] (fun v69 wc => ∃ (kq : Nat) (x69_16 : Bool), v69 = .bool x69_16 ∧ Aside0 (chainmanref19_Get.j2 kq a0 x9_1 x10_1 t164 x69_16 t158 t160 x158002_1 = some (r1, r2, r3, r4)) ∧ Aside0 (kq ≤ kj10) ∧ Aside0 (Kd.R k82 82 wc w.heap.size (fun _ => True) u158002 x158002_1) ∧ Aside0 (wc.heap[gb156]? = some (.cells #[.int .i64 x157000_1, .int .i64 x157001_1, (.slice none 0 0)] 80 (0, 0))) ∧ Aside0 (wc.heap[gb157]? = some (.cells #[.int .i64 t158, .int .i64 t160, u158002] 80 (0, 0))) ∧ Aside0 (Below w.heap.size w wc))
              case first =>
                have H := HC17.out
                clear HC17
                by_cases c18 : t165 = true
                · subst c18
                  have H1 : (chainmanref19_Get.j2 kj10 a0 x9_1 x10_1 t164 (decide ((wrap64 ((wrap64 ((wrap64 (x9_1 + 1)) + t164)) + 13)) > (a0.size : Int))) t158 t160 x158002_1) = some (r1, r2, r3, r4) := by rw [if_pos rfl] at H; exact H
                  clear H
                  have H := H1
                  clear H1
                  have H' := Aside0.mk H
                  clear H
                  go_wp2
                  go_meet
                  case rel => exact ⟨_, (decide ((wrap64 ((wrap64 ((wrap64 (x9_1 + 1)) + t164)) + 13)) > (a0.size : Int))), (by first | rfl | (simp; done) | (simp [*]; done)), H', ⟨by have := HK1.out; have := HJ10.out; first | omega | exact Nat.le_refl _⟩, ⟨by (with_reducible repeat (first | apply Kd.R_alloc | apply Kd.R_drewN | apply Kd.R_drew)); exact HO_158002.out⟩, ⟨by (with_reducible repeat (first | refine blk_drewN ?_ _ | refine blk_drew ?_ | refine blk_alloc ?_ _)); exact BK156.out⟩, ⟨by (with_reducible repeat (first | refine blk_drewN ?_ _ | refine blk_drew ?_ | refine blk_alloc ?_ _)); exact BK157.out⟩, ⟨by repeat (first | (with_reducible first | exact HB.out | apply below_alloc | apply pw_below_drewN | apply below_drew1 | refine below_set ?_ GE156.out | refine below_set ?_ GE157.out) | exact HB.out)⟩⟩
                · replace c18 := Bool.eq_false_iff.mpr c18
                  subst c18
                  have H1 : (chainmanref19_Get.j2 kj10 a0 x9_1 x10_1 t164 true t158 t160 x158002_1) = some (r1, r2, r3, r4) := by rw [if_neg (show ¬ (false = true) by decide)] at H; exact H
                  clear H
                  have H := H1
                  clear H1
                  have H' := Aside0.mk H
                  clear H
                  go_wp2
                  go_meet
                  case rel => exact ⟨_, (true), (by first | rfl | (simp; done) | (simp [*]; done)), H', ⟨by have := HK1.out; have := HJ10.out; first | omega | exact Nat.le_refl _⟩, ⟨by (with_reducible repeat (first | apply Kd.R_alloc | apply Kd.R_drewN | apply Kd.R_drew)); exact HO_158002.out⟩, ⟨by (with_reducible repeat (first | refine blk_drewN ?_ _ | refine blk_drew ?_ | refine blk_alloc ?_ _)); exact BK156.out⟩, ⟨by (with_reducible repeat (first | refine blk_drewN ?_ _ | refine blk_drew ?_ | refine blk_alloc ?_ _)); exact BK157.out⟩, ⟨by repeat (first | (with_reducible first | exact HB.out | apply below_alloc | apply pw_below_drewN | apply below_drew1 | refine below_set ?_ GE156.out | refine below_set ?_ GE157.out) | exact HB.out)⟩⟩
              case rest =>
                clear HC17
                try clear c1
                try clear p1
                try clear q1
                try clear hx1
                try clear qi1
                try clear c2
                try clear c2b0
                try clear c2b1
                try clear p2
                try clear c6
                try clear p6
                try clear c9
                try clear c10
                try clear c12
                try clear c12b0
                try clear c12b1
                try clear p13
                try clear q13
                try clear hx13
                try clear qi13
                try clear c14
                try clear c14b0
                try clear c15
                try clear c18
                try clear hcz10_0
                try clear hcz10_1
                try clear hcz10_2
                try clear hcz4_0
                try clear hcz4_1
                try clear hcz4_2
                try clear hfz10_0
                try clear hfz10_1
                try clear hfz10_2
                try clear hfz4_0
                try clear hfz4_1
                try clear hfz4_2
                try clear p1
                try clear p13
                try clear p2
                try clear p6
                try clear q1
                try clear q13
                obtain ⟨kq, x69_16, rfl, HA, HJ16, HO_158002, BK156, BK157, HB⟩ := hcut
                cases kq with
                | zero => exact absurd HA.out (by simp [chainmanref19_Get.j2])
                | succ kj16 =>
                  have H := HA.out
                  clear HA
                  simp only [chainmanref19_Get.j2] at H
                  by_cases c19 : x69_16 = true
                  · subst c19
                    have H1 : (some (0, 0, ([] : List (S82)), false)) = some (r1, r2, r3, r4) := by rw [if_pos rfl] at H; exact H
                    clear H
                    have H := H1
                    clear H1
                    simp only [Option.some.injEq, Prod.mk.injEq] at H
                    obtain ⟨rfl, rfl, rfl, rfl⟩ := H
                    have hnb20 := NB156_157.out
                    have hnc20 := NB157_156.out
                    have hcz21_0 : wc.cell? ⟨gb156, 0, none⟩ = some (.int .i64 x157000_1) := (blk_cell BK156.out 0).trans rfl
                    have hcz21_1 : wc.cell? ⟨gb156, 1, none⟩ = some (.int .i64 x157001_1) := (blk_cell BK156.out 1).trans rfl
                    have hcz21_2 : wc.cell? ⟨gb156, 2, none⟩ = some (.slice none 0 0) := (blk_cell BK156.out 2).trans rfl
                    have hfz21_0 := blk_frozen BK156.out 0
                    have hfz21_1 := blk_frozen BK156.out 1
                    have hfz21_2 := blk_frozen BK156.out 2
                    go_wp2
                    refine bodyPost_ret (results_ct rfl _ _ gb156 80 #[.int .i64 0, .int .i64 0, .slice none 0 0] (0, 0) _ rfl (by (with_reducible repeat (first | refine blk_drewN ?_ _ | refine blk_drew ?_ | refine blk_alloc ?_ _)); refine blk_put (cs := #[.int .i64 0, .int .i64 0, .slice none 0 0]) ?_ 2 _ rfl; (with_reducible repeat (first | refine blk_drewN ?_ _ | refine blk_drew ?_ | refine blk_alloc ?_ _)); refine blk_put (cs := #[.int .i64 0, .int .i64 x157001_1, .slice none 0 0]) ?_ 1 _ rfl; (with_reducible repeat (first | refine blk_drewN ?_ _ | refine blk_drew ?_ | refine blk_alloc ?_ _)); refine blk_put (cs := #[.int .i64 x157000_1, .int .i64 x157001_1, .slice none 0 0]) ?_ 0 _ rfl; (with_reducible repeat (first | refine blk_drewN ?_ _ | refine blk_drew ?_ | refine blk_alloc ?_ _)); exact BK156.out) Try.underlying80 rfl (by kernel_rfl)) rfl ?_
                    exact ⟨_, by first | rfl | (simp [errW_none, errW_some] <;> rfl) | (simp [*, errW_none, errW_some] <;> rfl), by first | exact Kd.R_nil _ _ _ _ _ | exact Kd.N_nil _ _ _ _ _ | exact Kd.V_nil _ _ _ _ _ | exact Kd.Q_nil _ _ _ _ _ | exact Kd.S_nil _ _ _ _ _, by repeat (first | (with_reducible first | exact HB.out | apply below_alloc | apply pw_below_drewN | apply below_drew1 | refine below_set ?_ GE156.out | refine below_set ?_ GE157.out) | exact HB.out)⟩
                  · replace c19 := Bool.eq_false_iff.mpr c19
                    subst c19
                    have H1 : (if 0 ≤ (wrap64 (x9_1 + 1)) then (if (wrap64 (x9_1 + 1)) ≤ (wrap64 ((wrap64 (x9_1 + 1)) + t164)) then (if (wrap64 ((wrap64 (x9_1 + 1)) + t164)) ≤ (a0.size : Int) then ((chainmanref02_Get.f kj16 a0 (wrap64 ((wrap64 (x9_1 + 1)) + t164)) 1).bind fun bt167 => ((chainmanref02_Get.f kj16 a0 (wrap64 ((wrap64 ((wrap64 (x9_1 + 1)) + t164)) + 1)) 8).bind fun bt169 => ((chainmanref02_Get.f kj16 a0 (wrap64 ((wrap64 ((wrap64 (x9_1 + 1)) + t164)) + 9)) 4).bind fun bt171 => (if bt169.2 = true then (if x158002_1.length < 3518437208883 then (chainmanref19_Get.l0 kj16 a0 (wrap64 ((wrap64 ((wrap64 (x9_1 + 1)) + t164)) + 13)) (wrap64 (x10_1 + 1)) t158 t160 (x158002_1 ++ [(⟨a0.extract ((wrap64 (x9_1 + 1)) : Int).toNat ((wrap64 ((wrap64 (x9_1 + 1)) + t164)) : Int).toNat, bt167.1, bt169.1, (bt171.1) % 4294967296⟩ : S82)])) else (none)) else (some (0, 0, ([] : List (S82)), false)))))) else (none)) else (none)) else (none)) = some (r1, r2, r3, r4) := by rw [if_neg (show ¬ (false = true) by decide)] at H; exact H
                    clear H
                    have H := H1
                    clear H1
                    obtain ⟨ji22, hji22⟩ : ∃ j_ : Int, (wrap64 (x9_1 + 1)) = j_ := ⟨_, rfl⟩
                    replace H : (if 0 ≤ (ji22) then (if (ji22) ≤ (wrap64 ((ji22) + t164)) then (if (wrap64 ((ji22) + t164)) ≤ (a0.size : Int) then ((chainmanref02_Get.f kj16 a0 (wrap64 ((ji22) + t164)) 1).bind fun bt167 => ((chainmanref02_Get.f kj16 a0 (wrap64 ((wrap64 ((ji22) + t164)) + 1)) 8).bind fun bt169 => ((chainmanref02_Get.f kj16 a0 (wrap64 ((wrap64 ((ji22) + t164)) + 9)) 4).bind fun bt171 => (if bt169.2 = true then (if x158002_1.length < 3518437208883 then (chainmanref19_Get.l0 kj16 a0 (wrap64 ((wrap64 ((ji22) + t164)) + 13)) (wrap64 (x10_1 + 1)) t158 t160 (x158002_1 ++ [(⟨a0.extract ((ji22) : Int).toNat ((wrap64 ((ji22) + t164)) : Int).toNat, bt167.1, bt169.1, (bt171.1) % 4294967296⟩ : S82)])) else (none)) else (some (0, 0, ([] : List (S82)), false)))))) else (none)) else (none)) else (none)) = some (r1, r2, r3, r4) := by first | (rw [hji22] at H; exact H) | (simp only [hji22] at H ⊢; exact H)
                    have hji22w : (IntKind.i64.wrap (x9_1 + 1)) = ji22 := (i64_w _).trans hji22
                    by_cases c23 : 0 ≤ (ji22)
                    · rw [if_pos c23] at H
                      have c23b0 := eq_true c23
                      have c23b1 : decide (0 ≤ (ji22)) = true := decide_eq_true c23
                      clear c23
                      by_cases c24 : (ji22) ≤ (wrap64 ((ji22) + t164))
                      · rw [if_pos c24] at H
                        have c24b0 := eq_true c24
                        have c24b1 : decide ((ji22) ≤ (wrap64 ((ji22) + t164))) = true := decide_eq_true c24
                        by_cases c25 : (wrap64 ((ji22) + t164)) ≤ (a0.size : Int)
                        · rw [if_pos c25] at H
                          have c25b0 := eq_true c25
                          have c25b1 : decide ((wrap64 ((ji22) + t164)) ≤ (a0.size : Int)) = true := decide_eq_true c25
                          replace H := Option.bind_eq_some_iff.mp H
                          obtain ⟨⟨t167, t168⟩, A260, H⟩ := H
                          replace H : ((chainmanref02_Get.f kj16 a0 (wrap64 ((wrap64 ((ji22) + t164)) + 1)) 8).bind fun bt169 => ((chainmanref02_Get.f kj16 a0 (wrap64 ((wrap64 ((ji22) + t164)) + 9)) 4).bind fun bt171 => (if bt169.2 = true then (if x158002_1.length < 3518437208883 then (chainmanref19_Get.l0 kj16 a0 (wrap64 ((wrap64 ((ji22) + t164)) + 13)) (wrap64 (x10_1 + 1)) t158 t160 (x158002_1 ++ [(⟨a0.extract ((ji22) : Int).toNat ((wrap64 ((ji22) + t164)) : Int).toNat, t167, bt169.1, (bt171.1) % 4294967296⟩ : S82)])) else (none)) else (some (0, 0, ([] : List (S82)), false))))) = some (r1, r2, r3, r4) := H
                          have A26 := Aside0.mk A260
                          clear A260
                          replace H := Option.bind_eq_some_iff.mp H
                          obtain ⟨⟨t169, t170⟩, A270, H⟩ := H
                          replace H : ((chainmanref02_Get.f kj16 a0 (wrap64 ((wrap64 ((ji22) + t164)) + 9)) 4).bind fun bt171 => (if t170 = true then (if x158002_1.length < 3518437208883 then (chainmanref19_Get.l0 kj16 a0 (wrap64 ((wrap64 ((ji22) + t164)) + 13)) (wrap64 (x10_1 + 1)) t158 t160 (x158002_1 ++ [(⟨a0.extract ((ji22) : Int).toNat ((wrap64 ((ji22) + t164)) : Int).toNat, t167, t169, (bt171.1) % 4294967296⟩ : S82)])) else (none)) else (some (0, 0, ([] : List (S82)), false)))) = some (r1, r2, r3, r4) := H
                          have A27 := Aside0.mk A270
                          clear A270
                          replace H := Option.bind_eq_some_iff.mp H
                          obtain ⟨⟨t171, t172⟩, A280, H⟩ := H
                          replace H : (if t170 = true then (if x158002_1.length < 3518437208883 then (chainmanref19_Get.l0 kj16 a0 (wrap64 ((wrap64 ((ji22) + t164)) + 13)) (wrap64 (x10_1 + 1)) t158 t160 (x158002_1 ++ [(⟨a0.extract ((ji22) : Int).toNat ((wrap64 ((ji22) + t164)) : Int).toNat, t167, t169, (t171) % 4294967296⟩ : S82)])) else (none)) else (some (0, 0, ([] : List (S82)), false))) = some (r1, r2, r3, r4) := H
                          have A28 := Aside0.mk A280
                          clear A280
                          by_cases c29 : t170 = true
                          · subst c29
                            have H1 : (if x158002_1.length < 3518437208883 then (chainmanref19_Get.l0 kj16 a0 (wrap64 ((wrap64 ((ji22) + t164)) + 13)) (wrap64 (x10_1 + 1)) t158 t160 (x158002_1 ++ [(⟨a0.extract ((ji22) : Int).toNat ((wrap64 ((ji22) + t164)) : Int).toNat, t167, t169, (t171) % 4294967296⟩ : S82)])) else (none)) = some (r1, r2, r3, r4) := by rw [if_pos rfl] at H; exact H
                            clear H
                            have H := H1
                            clear H1
                            by_cases c30 : x158002_1.length < 3518437208883
                            · rw [if_pos c30] at H
                              have LMc30 := Aside0.mk c30
                              clear c30
                              obtain ⟨y173, hy173⟩ : ∃ y_ : List (S82), y_ = (x158002_1 ++ [(⟨a0.extract ((ji22) : Int).toNat ((wrap64 ((ji22) + t164)) : Int).toNat, t167, t169, (t171) % 4294967296⟩ : S82)]) := ⟨_, rfl⟩
                              replace H : (chainmanref19_Get.l0 kj16 a0 (wrap64 ((wrap64 ((ji22) + t164)) + 13)) (wrap64 (x10_1 + 1)) t158 t160 y173) = some (r1, r2, r3, r4) := by first | (rw [hy173]; with_reducible exact H) | (have H2_ := (Option.bind_some _ _).symm.trans H; rw [hy173]; with_reducible exact H2_) | (have H2_ := (Option.bind_some _ _).symm.trans H; with_reducible exact H2_) | with_reducible exact H | (rw [hy173]; exact H) | exact H
                              have Ny173 := Aside0.mk hy173
                              clear hy173
                              have H' := Aside0.mk H
                              clear H
                              go_upto_region 25 with (first | ((with_reducible refine gate_dst (N := 13) rfl ?_); (try (refine gate_guard (by rfl) ?_; dsimp only)); refine box_event ?hg (N := 13) ?hd (cs := #[.string (⟨#[]⟩ : ByteArray), .int .i64 0, .int .i64 0, .int .u32 0]) (t := 82) ?hr ?_; (case hd => rfl); (case hg => rfl); (case hr => first | (go_simp; done) | (go_simp; rfl)); intro gb166 hg w31 hbox hb; have n0_ := Aside0.mk (Kd.R_below (Kd.R_elderB (by (with_reducible repeat (first | apply Kd.R_alloc | apply Kd.R_drewN | apply Kd.R_drew)); exact HO_158002.out) gb166 (Nat.le_of_eq hg.symm)) hb); have n1_ := Aside0.mk (blk_below (g := gb156) (o := .cells #[.int .i64 x157000_1, .int .i64 x157001_1, .slice none 0 0] 80 (0, 0)) (by (with_reducible repeat (first | refine blk_drewN ?_ _ | refine blk_drew ?_ | refine blk_alloc ?_ _)); exact BK156.out) hb); have n2_ := Aside0.mk (blk_below (g := gb157) (o := .cells #[.int .i64 t158, .int .i64 t160, u158002] 80 (0, 0)) (by (with_reducible repeat (first | refine blk_drewN ?_ _ | refine blk_drew ?_ | refine blk_alloc ?_ _)); exact BK157.out) hb); have n3_ := Aside0.mk (below_step (by repeat (first | (with_reducible first | exact HB.out | apply below_alloc | apply pw_below_drewN | apply below_drew1 | refine below_set ?_ GE156.out | refine below_set ?_ GE157.out) | exact HB.out)) hb); have n4_ := Aside0.mk (hbox); have n5_ := Aside0.mk ((by rw [hg]; exact (below_size (by repeat (first | (with_reducible first | exact HB.out | apply below_alloc | apply pw_below_drewN | apply below_drew1 | refine below_set ?_ GE156.out | refine below_set ?_ GE157.out) | exact HB.out))) : w.heap.size ≤ gb166)); have n6_ := Aside0.mk ((by rw [hg]; exact (below_size (by repeat (first | (with_reducible first | exact HB.out | apply below_alloc | apply pw_below_drewN | apply below_drew1 | refine below_set ?_ GE156.out | refine below_set ?_ GE157.out) | exact HB.out))) : w.heap.size ≤ gb166)); have n7_ := Aside0.mk ((by rw [hg]; exact Nat.ne_of_lt (blk_lt (g := gb156) (o := .cells #[.int .i64 x157000_1, .int .i64 x157001_1, .slice none 0 0] 80 (0, 0)) (by (with_reducible repeat (first | refine blk_drewN ?_ _ | refine blk_drew ?_ | refine blk_alloc ?_ _)); exact BK156.out)) : gb156 ≠ gb166)); have n8_ := Aside0.mk ((by rw [hg]; exact Nat.ne_of_gt (blk_lt (g := gb156) (o := .cells #[.int .i64 x157000_1, .int .i64 x157001_1, .slice none 0 0] 80 (0, 0)) (by (with_reducible repeat (first | refine blk_drewN ?_ _ | refine blk_drew ?_ | refine blk_alloc ?_ _)); exact BK156.out)) : gb166 ≠ gb156)); have n9_ := Aside0.mk ((by rw [hg]; exact Nat.ne_of_lt (blk_lt (g := gb157) (o := .cells #[.int .i64 t158, .int .i64 t160, u158002] 80 (0, 0)) (by (with_reducible repeat (first | refine blk_drewN ?_ _ | refine blk_drew ?_ | refine blk_alloc ?_ _)); exact BK157.out)) : gb157 ≠ gb166)); have n10_ := Aside0.mk ((by rw [hg]; exact Nat.ne_of_gt (blk_lt (g := gb157) (o := .cells #[.int .i64 t158, .int .i64 t160, u158002] 80 (0, 0)) (by (with_reducible repeat (first | refine blk_drewN ?_ _ | refine blk_drew ?_ | refine blk_alloc ?_ _)); exact BK157.out)) : gb166 ≠ gb157)); clear HO_158002; clear BK156; clear BK157; clear HB; have HO_158002 := n0_; have BK156 := n1_; have BK157 := n2_; have HB := n3_; have BK166 := n4_; have GW166 := n5_; have GE166 := n6_; have NB156_166 := n7_; have NB166_156 := n8_; have NB157_166 := n9_; have NB166_157 := n10_; clear n0_ n1_ n2_ n3_ n4_ n5_ n6_ n7_ n8_ n9_ n10_; clear hb hbox hg; have hnb32 := NB166_156.out; have hnc32 := NB156_166.out; have hnb33 := NB166_157.out; have hnc33 := NB157_166.out; have hcz34_0 : w31.cell? ⟨gb166, 0, none⟩ = some (.string (⟨#[]⟩ : ByteArray)) := (blk_cell BK166.out 0).trans rfl; have hcz34_1 : w31.cell? ⟨gb166, 1, none⟩ = some (.int .i64 0) := (blk_cell BK166.out 1).trans rfl; have hcz34_2 : w31.cell? ⟨gb166, 2, none⟩ = some (.int .i64 0) := (blk_cell BK166.out 2).trans rfl; have hcz34_3 : w31.cell? ⟨gb166, 3, none⟩ = some (.int .u32 0) := (blk_cell BK166.out 3).trans rfl; have hfz34_0 := blk_frozen BK166.out 0; have hfz34_1 := blk_frozen BK166.out 1; have hfz34_2 := blk_frozen BK166.out 2; have hfz34_3 := blk_frozen BK166.out 3) | ((with_reducible refine gate_callee (f := 109) rfl ?_); refine goesL_ (some 87) rfl rfl Try.func109 (by kernel_rfl) rfl #[.string a0, .int .i64 (wrap64 ((ji22) + t164)), .int .i64 1] rfl (by (try simp only [List.map_toArray, List.map_cons, List.map_nil]); first | done | (simp only [hji22]; rfl) | rfl | (simp only [List.length_drop, List.length_take]; rfl)) ?_; (with_reducible refine (chainmanref02_Get.calls kj16 a0 (wrap64 ((ji22) + t164)) 1 t167 t168 _ A26.out).mono ?_); rintro e w' ⟨rfl, ⟨nd, rfl⟩⟩; refine ⟨_, rfl, ?_⟩) | (go_at_call 109; refine calls_of_args (args' := #[.string a0, .int .i64 (wrap64 ((ji22) + t164)), .int .i64 1]) (by first | (simp only [hji22]; rfl) | rfl) ?_; (with_reducible refine (chainmanref02_Get.calls kj16 a0 (wrap64 ((ji22) + t164)) 1 t167 t168 _ A26.out).mono ?_); rintro e w' ⟨rfl, ⟨nd, rfl⟩⟩) | ((with_reducible refine gate_callee (f := 109) rfl ?_); refine goesL_ (some 94) rfl rfl Try.func109 (by kernel_rfl) rfl #[.string a0, .int .i64 (wrap64 ((wrap64 ((ji22) + t164)) + 1)), .int .i64 8] rfl (by (try simp only [List.map_toArray, List.map_cons, List.map_nil]); first | done | (simp only [hji22]; rfl) | rfl | (simp only [List.length_drop, List.length_take]; rfl)) ?_; (with_reducible refine (chainmanref02_Get.calls kj16 a0 (wrap64 ((wrap64 ((ji22) + t164)) + 1)) 8 t169 true _ A27.out).mono ?_); rintro e w' ⟨rfl, ⟨nd, rfl⟩⟩; refine ⟨_, rfl, ?_⟩) | (go_at_call 109; refine calls_of_args (args' := #[.string a0, .int .i64 (wrap64 ((wrap64 ((ji22) + t164)) + 1)), .int .i64 8]) (by first | (simp only [hji22]; rfl) | rfl) ?_; (with_reducible refine (chainmanref02_Get.calls kj16 a0 (wrap64 ((wrap64 ((ji22) + t164)) + 1)) 8 t169 true _ A27.out).mono ?_); rintro e w' ⟨rfl, ⟨nd, rfl⟩⟩) | ((with_reducible refine gate_callee (f := 109) rfl ?_); refine goesL_ (some 101) rfl rfl Try.func109 (by kernel_rfl) rfl #[.string a0, .int .i64 (wrap64 ((wrap64 ((ji22) + t164)) + 9)), .int .i64 4] rfl (by (try simp only [List.map_toArray, List.map_cons, List.map_nil]); first | done | (simp only [hji22]; rfl) | rfl | (simp only [List.length_drop, List.length_take]; rfl)) ?_; (with_reducible refine (chainmanref02_Get.calls kj16 a0 (wrap64 ((wrap64 ((ji22) + t164)) + 9)) 4 t171 t172 _ A28.out).mono ?_); rintro e w' ⟨rfl, ⟨nd, rfl⟩⟩; refine ⟨_, rfl, ?_⟩; have hnb35 := NB157_156.out; have hnc35 := NB156_157.out; have hcz36_0 : w31.cell? ⟨gb157, 0, none⟩ = some (.int .i64 t158) := (blk_cell BK157.out 0).trans rfl; have hcz36_1 : w31.cell? ⟨gb157, 1, none⟩ = some (.int .i64 t160) := (blk_cell BK157.out 1).trans rfl; have hcz36_2 : w31.cell? ⟨gb157, 2, none⟩ = some (u158002) := (blk_cell BK157.out 2).trans rfl; have hfz36_0 := blk_frozen BK157.out 0; have hfz36_1 := blk_frozen BK157.out 1; have hfz36_2 := blk_frozen BK157.out 2) | (go_at_call 109; refine calls_of_args (args' := #[.string a0, .int .i64 (wrap64 ((wrap64 ((ji22) + t164)) + 9)), .int .i64 4]) (by first | (simp only [hji22]; rfl) | rfl) ?_; (with_reducible refine (chainmanref02_Get.calls kj16 a0 (wrap64 ((wrap64 ((ji22) + t164)) + 9)) 4 t171 t172 _ A28.out).mono ?_); rintro e w' ⟨rfl, ⟨nd, rfl⟩⟩))
                              refine (fun h => h _ rfl : (∀ W8, W8 = _ → Code.wp _ _ _ _ W8) → Code.wp _ _ _ _ _) ?_
                              intro W8 hW8
                              have z0_ := Aside0.mk (show W8.heap[gb156]? = some (.cells #[.int .i64 x157000_1, .int .i64 x157001_1, .slice none 0 0] 80 (0, 0)) by rw [hW8]; exact (by (with_reducible repeat (first | refine blk_drewN ?_ _ | refine blk_drew ?_ | refine blk_alloc ?_ _)); refine blk_far ?_ NB156_166.out _; (with_reducible repeat (first | refine blk_drewN ?_ _ | refine blk_drew ?_ | refine blk_alloc ?_ _)); refine blk_far ?_ NB156_166.out _; (with_reducible repeat (first | refine blk_drewN ?_ _ | refine blk_drew ?_ | refine blk_alloc ?_ _)); refine blk_far ?_ NB156_166.out _; (with_reducible repeat (first | refine blk_drewN ?_ _ | refine blk_drew ?_ | refine blk_alloc ?_ _)); refine blk_far ?_ NB156_166.out _; (with_reducible repeat (first | refine blk_drewN ?_ _ | refine blk_drew ?_ | refine blk_alloc ?_ _)); refine blk_far ?_ NB156_166.out _; (with_reducible repeat (first | refine blk_drewN ?_ _ | refine blk_drew ?_ | refine blk_alloc ?_ _)); refine blk_far ?_ NB156_166.out _; (with_reducible repeat (first | refine blk_drewN ?_ _ | refine blk_drew ?_ | refine blk_alloc ?_ _)); refine blk_far ?_ NB156_166.out _; (with_reducible repeat (first | refine blk_drewN ?_ _ | refine blk_drew ?_ | refine blk_alloc ?_ _)); exact BK156.out))
                              have z1_ := Aside0.mk (show W8.heap[gb157]? = some (.cells #[.int .i64 t158, .int .i64 t160, u158002] 80 (0, 0)) by rw [hW8]; exact (by (with_reducible repeat (first | refine blk_drewN ?_ _ | refine blk_drew ?_ | refine blk_alloc ?_ _)); refine blk_far ?_ NB157_166.out _; (with_reducible repeat (first | refine blk_drewN ?_ _ | refine blk_drew ?_ | refine blk_alloc ?_ _)); refine blk_far ?_ NB157_166.out _; (with_reducible repeat (first | refine blk_drewN ?_ _ | refine blk_drew ?_ | refine blk_alloc ?_ _)); refine blk_far ?_ NB157_166.out _; (with_reducible repeat (first | refine blk_drewN ?_ _ | refine blk_drew ?_ | refine blk_alloc ?_ _)); refine blk_far ?_ NB157_166.out _; (with_reducible repeat (first | refine blk_drewN ?_ _ | refine blk_drew ?_ | refine blk_alloc ?_ _)); refine blk_far ?_ NB157_166.out _; (with_reducible repeat (first | refine blk_drewN ?_ _ | refine blk_drew ?_ | refine blk_alloc ?_ _)); refine blk_far ?_ NB157_166.out _; (with_reducible repeat (first | refine blk_drewN ?_ _ | refine blk_drew ?_ | refine blk_alloc ?_ _)); refine blk_far ?_ NB157_166.out _; (with_reducible repeat (first | refine blk_drewN ?_ _ | refine blk_drew ?_ | refine blk_alloc ?_ _)); exact BK157.out))
                              have z2_ := Aside0.mk (show W8.heap[gb166]? = some (.cells #[.string (a0.extract ((ji22) : Int).toNat ((wrap64 ((ji22) + t164)) : Int).toNat), .int .i64 t167, .int .i64 t169, .int .u32 ((t171) % 4294967296)] 82 (0, 0)) by rw [hW8]; exact (by (with_reducible repeat (first | refine blk_drewN ?_ _ | refine blk_drew ?_ | refine blk_alloc ?_ _)); refine blk_put (cs := #[.string (a0.extract ((ji22) : Int).toNat ((wrap64 ((ji22) + t164)) : Int).toNat), .int .i64 t167, .int .i64 t169, .int .u32 0]) ?_ 3 _ rfl; (with_reducible repeat (first | refine blk_drewN ?_ _ | refine blk_drew ?_ | refine blk_alloc ?_ _)); refine blk_put (cs := #[.string (a0.extract ((ji22) : Int).toNat ((wrap64 ((ji22) + t164)) : Int).toNat), .int .i64 t167, .int .i64 0, .int .u32 0]) ?_ 2 _ rfl; (with_reducible repeat (first | refine blk_drewN ?_ _ | refine blk_drew ?_ | refine blk_alloc ?_ _)); refine blk_put (cs := #[.string (a0.extract ((ji22) : Int).toNat ((wrap64 ((ji22) + t164)) : Int).toNat), .int .i64 0, .int .i64 0, .int .u32 0]) ?_ 1 _ rfl; (with_reducible repeat (first | refine blk_drewN ?_ _ | refine blk_drew ?_ | refine blk_alloc ?_ _)); refine blk_put (cs := #[.string (a0.extract ((ji22) : Int).toNat ((wrap64 ((ji22) + t164)) : Int).toNat), .int .i64 0, .int .i64 0, .int .u32 0]) ?_ 3 _ rfl; (with_reducible repeat (first | refine blk_drewN ?_ _ | refine blk_drew ?_ | refine blk_alloc ?_ _)); refine blk_put (cs := #[.string (a0.extract ((ji22) : Int).toNat ((wrap64 ((ji22) + t164)) : Int).toNat), .int .i64 0, .int .i64 0, .int .u32 0]) ?_ 2 _ rfl; (with_reducible repeat (first | refine blk_drewN ?_ _ | refine blk_drew ?_ | refine blk_alloc ?_ _)); refine blk_put (cs := #[.string (a0.extract ((ji22) : Int).toNat ((wrap64 ((ji22) + t164)) : Int).toNat), .int .i64 0, .int .i64 0, .int .u32 0]) ?_ 1 _ rfl; (with_reducible repeat (first | refine blk_drewN ?_ _ | refine blk_drew ?_ | refine blk_alloc ?_ _)); refine blk_put (cs := #[.string (⟨#[]⟩ : ByteArray), .int .i64 0, .int .i64 0, .int .u32 0]) ?_ 0 _ rfl; (with_reducible repeat (first | refine blk_drewN ?_ _ | refine blk_drew ?_ | refine blk_alloc ?_ _)); exact BK166.out))
                              have zO_ := Aside0.mk (show Kd.R k82 82 W8 w.heap.size (fun k_ => k_ ≠ gb166) u158002 x158002_1 by rw [hW8]; (repeat (with_reducible refine Kd.R_drewN ?_ _)); refine Kd.R_far (p := ⟨gb166, 3, none⟩) ?_ (fun _ hk => hk) _; (repeat (with_reducible refine Kd.R_drewN ?_ _)); refine Kd.R_far (p := ⟨gb166, 2, none⟩) ?_ (fun _ hk => hk) _; (repeat (with_reducible refine Kd.R_drewN ?_ _)); refine Kd.R_far (p := ⟨gb166, 1, none⟩) ?_ (fun _ hk => hk) _; (repeat (with_reducible refine Kd.R_drewN ?_ _)); refine Kd.R_far (p := ⟨gb166, 3, none⟩) ?_ (fun _ hk => hk) _; (repeat (with_reducible refine Kd.R_drewN ?_ _)); refine Kd.R_far (p := ⟨gb166, 2, none⟩) ?_ (fun _ hk => hk) _; (repeat (with_reducible refine Kd.R_drewN ?_ _)); refine Kd.R_far (p := ⟨gb166, 1, none⟩) ?_ (fun _ hk => hk) _; (repeat (with_reducible refine Kd.R_drewN ?_ _)); refine Kd.R_far (p := ⟨gb166, 0, none⟩) ?_ (fun _ hk => hk) _; exact Kd.R_mono HO_158002.out (fun _ hk => hk.2))
                              have zB_ := Aside0.mk (show Below w.heap.size w W8 by rw [hW8]; exact (by repeat (first | (with_reducible first | exact HB.out | apply below_alloc | apply pw_below_drewN | apply below_drew1 | refine below_set ?_ GE156.out | refine below_set ?_ GE157.out | refine below_set ?_ GE166.out) | exact HB.out)))
                              clear hW8 HO_158002 HB BK156 BK157 BK166
                              (try clear hcz34_0); (try clear hcz34_1); (try clear hcz34_2); (try clear hcz34_3); (try clear hcz36_0); (try clear hcz36_1); (try clear hcz36_2); (try clear hfz34_0); (try clear hfz34_1); (try clear hfz34_2); (try clear hfz34_3); (try clear hfz36_0); (try clear hfz36_1); (try clear hfz36_2); (try clear hnb32); (try clear hnb33); (try clear hnb35); (try clear hnc32); (try clear hnc33); (try clear hnc35)
                              have BK156 := z0_
                              have BK157 := z1_
                              have BK166 := z2_
                              have HO_158002 := zO_
                              have HB := zB_
                              clear zO_ zB_ z0_ z1_ z2_
                              have y157_0 : W8.cell? ⟨gb157, 0, none⟩ = some (.int .i64 t158) := (blk_cell BK157.out 0).trans rfl
                              have y157_1 : W8.cell? ⟨gb157, 1, none⟩ = some (.int .i64 t160) := (blk_cell BK157.out 1).trans rfl
                              have y157_2 : W8.cell? ⟨gb157, 2, none⟩ = some (u158002) := (blk_cell BK157.out 2).trans rfl
                              have y166_0 : W8.cell? ⟨gb166, 0, none⟩ = some (.string (a0.extract ((ji22) : Int).toNat ((wrap64 ((ji22) + t164)) : Int).toNat)) := (blk_cell BK166.out 0).trans rfl
                              have y166_1 : W8.cell? ⟨gb166, 1, none⟩ = some (.int .i64 t167) := (blk_cell BK166.out 1).trans rfl
                              have y166_2 : W8.cell? ⟨gb166, 2, none⟩ = some (.int .i64 t169) := (blk_cell BK166.out 2).trans rfl
                              have y166_3 : W8.cell? ⟨gb166, 3, none⟩ = some (.int .u32 ((t171) % 4294967296)) := (blk_cell BK166.out 3).trans rfl
                              go_wp2_with (first | ((with_reducible refine gate_builtin (b := .append) (xs := #[.tmp 115, .tmp 117]) rfl ?_); (try (refine gate_guard (by rfl) ?_; dsimp only)); at_builtin; refine Kd.R_append k82 (w0 := w) w.heap.size rfl (.tmp 115) (.tmp 117) 78 82 (.agg #[(.string ⟨#[]⟩), (.int .i64 0), (.int .i64 0), (.int .u32 0)]) 40 rfl Try.underlying78 info82 rfl (by decide) (by omega) u158002 x158002_1 (⟨a0.extract ((ji22) : Int).toNat ((wrap64 ((ji22) + t164)) : Int).toNat, t167, t169, (t171) % 4294967296⟩ : S82) [.string (a0.extract ((ji22) : Int).toNat ((wrap64 ((ji22) + t164)) : Int).toNat), .int .i64 t167, .int .i64 t169, .int .u32 ((t171) % 4294967296)] (fun k_ => k_ ≠ gb166) (fun _ => False) rfl (by first | (go_simp; done) | (go_simp; rfl)) ?aP (fun _ hk => hk.elim) ?aF ?aO ?aB ?aS ?aL ?_; (case aP => exact k82_mkM _ _ _ (⟨a0.extract ((ji22) : Int).toNat ((wrap64 ((ji22) + t164)) : Int).toNat, t167, t169, (t171) % 4294967296⟩ : S82)); (case aB => exact HB.out); (case aF => exact (fun k_ hk => Kd.freshB (g := gb166) (o := .cells #[.string (a0.extract ((ji22) : Int).toNat ((wrap64 ((ji22) + t164)) : Int).toNat), .int .i64 t167, .int .i64 t169, .int .u32 ((t171) % 4294967296)] 82 (0, 0)) BK166.out k_ hk)); (case aO => exact HO_158002.out); (case aS => exact (below_size HB.out)); (case aL => have := LMc30.out; omega); intro v174 w37 ho hb hg hat; (clear y157_0 y157_1 y157_2 y166_0 y166_1 y166_2 y166_3); rw [← Ny173.out] at ho; have n0_ := Aside0.mk (blk_grown (g := gb156) (o := .cells #[.int .i64 x157000_1, .int .i64 x157001_1, .slice none 0 0] 80 (0, 0)) BK156.out hg (Kd.R_ne HO_158002.out BK156.out (by decide))); have n1_ := Aside0.mk (blk_grown (g := gb157) (o := .cells #[.int .i64 t158, .int .i64 t160, u158002] 80 (0, 0)) BK157.out hg (Kd.R_ne HO_158002.out BK157.out (by decide))); have n2_ := Aside0.mk (blk_grown (g := gb166) (o := .cells #[.string (a0.extract ((ji22) : Int).toNat ((wrap64 ((ji22) + t164)) : Int).toNat), .int .i64 t167, .int .i64 t169, .int .u32 ((t171) % 4294967296)] 82 (0, 0)) BK166.out hg (Kd.R_away HO_158002.out (fun _ hk => hk))); have n3_ := Aside0.mk (hb); have n4_ := Aside0.mk (ho); clear BK156; clear BK157; clear BK166; clear HB; clear HO_158002; have BK156 := n0_; have BK157 := n1_; have BK166 := n2_; have HB := n3_; have HO175 := n4_; clear n0_ n1_ n2_ n3_ n4_; clear ho hb hg hat; obtain ⟨Ao38, co38, eo38⟩ := Kd.R_slice HO175.out; subst eo38; have hcz39_0 : w37.cell? ⟨gb157, 0, none⟩ = some (.int .i64 t158) := (blk_cell BK157.out 0).trans rfl; have hcz39_1 : w37.cell? ⟨gb157, 1, none⟩ = some (.int .i64 t160) := (blk_cell BK157.out 1).trans rfl; have hcz39_2 : w37.cell? ⟨gb157, 2, none⟩ = some (u158002) := (blk_cell BK157.out 2).trans rfl; have hfz39_0 := blk_frozen BK157.out 0; have hfz39_1 := blk_frozen BK157.out 1; have hfz39_2 := blk_frozen BK157.out 2))
                              go_roundg kj16
                              case measure => have := HK1.out; have := HJ10.out; have := HJ16.out; omega
                              case rel => exact ⟨(wrap64 ((wrap64 ((ji22) + t164)) + 13)), (wrap64 (x10_1 + 1)), (x157000_1), (x157001_1), (y173), (.slice Ao38 y173.length co38), (by first | rfl | (simp; done) | (simp only [← hji22] <;> (first | rfl | simp)) | (simp [*]; done)), (by first | rfl | (simp; done) | (simp [*]; done)), H', ⟨by have := HK1.out; have := HJ10.out; have := HJ16.out; omega⟩, ⟨by (with_reducible repeat (first | apply Kd.R_alloc | apply Kd.R_drewN | apply Kd.R_drew)); exact Kd.R_mono (Kd.R_far (p := ⟨gb157, 2, none⟩) (Kd.R_types HO175.out BK157.out (by decide)) (fun _ hk => hk.2) (.slice Ao38 y173.length co38)) (fun _ hk => trivial)⟩, ⟨by (with_reducible repeat (first | refine blk_drewN ?_ _ | refine blk_drew ?_ | refine blk_alloc ?_ _)); refine blk_far ?_ NB156_157.out _; (with_reducible repeat (first | refine blk_drewN ?_ _ | refine blk_drew ?_ | refine blk_alloc ?_ _)); exact BK156.out⟩, ⟨by (with_reducible repeat (first | refine blk_drewN ?_ _ | refine blk_drew ?_ | refine blk_alloc ?_ _)); refine blk_put (cs := #[.int .i64 t158, .int .i64 t160, u158002]) ?_ 2 _ rfl; (with_reducible repeat (first | refine blk_drewN ?_ _ | refine blk_drew ?_ | refine blk_alloc ?_ _)); exact BK157.out⟩, ⟨by repeat (first | (with_reducible first | exact HB.out | apply below_alloc | apply pw_below_drewN | apply below_drew1 | refine below_set ?_ GE156.out | refine below_set ?_ GE157.out | refine below_set ?_ GE166.out) | exact HB.out)⟩⟩
                            · rw [if_neg c30] at H
                              exact absurd H (by simp)
                          · replace c29 := Bool.eq_false_iff.mpr c29
                            subst c29
                            have H1 : (some (0, 0, ([] : List (S82)), false)) = some (r1, r2, r3, r4) := by rw [if_neg (show ¬ (false = true) by decide)] at H; exact H
                            clear H
                            have H := H1
                            clear H1
                            simp only [Option.some.injEq, Prod.mk.injEq] at H
                            obtain ⟨rfl, rfl, rfl, rfl⟩ := H
                            go_wp2_with (first | ((with_reducible refine gate_dst (N := 13) rfl ?_); (try (refine gate_guard (by rfl) ?_; dsimp only)); refine box_event ?hg (N := 13) ?hd (cs := #[.string (⟨#[]⟩ : ByteArray), .int .i64 0, .int .i64 0, .int .u32 0]) (t := 82) ?hr ?_; (case hd => rfl); (case hg => rfl); (case hr => first | (go_simp; done) | (go_simp; rfl)); intro gb166 hg w40 hbox hb; have n0_ := Aside0.mk (Kd.R_below (Kd.R_elderB (by (with_reducible repeat (first | apply Kd.R_alloc | apply Kd.R_drewN | apply Kd.R_drew)); exact HO_158002.out) gb166 (Nat.le_of_eq hg.symm)) hb); have n1_ := Aside0.mk (blk_below (g := gb156) (o := .cells #[.int .i64 x157000_1, .int .i64 x157001_1, .slice none 0 0] 80 (0, 0)) (by (with_reducible repeat (first | refine blk_drewN ?_ _ | refine blk_drew ?_ | refine blk_alloc ?_ _)); exact BK156.out) hb); have n2_ := Aside0.mk (blk_below (g := gb157) (o := .cells #[.int .i64 t158, .int .i64 t160, u158002] 80 (0, 0)) (by (with_reducible repeat (first | refine blk_drewN ?_ _ | refine blk_drew ?_ | refine blk_alloc ?_ _)); exact BK157.out) hb); have n3_ := Aside0.mk (below_step (by repeat (first | (with_reducible first | exact HB.out | apply below_alloc | apply pw_below_drewN | apply below_drew1 | refine below_set ?_ GE156.out | refine below_set ?_ GE157.out) | exact HB.out)) hb); have n4_ := Aside0.mk (hbox); have n5_ := Aside0.mk ((by rw [hg]; exact (below_size (by repeat (first | (with_reducible first | exact HB.out | apply below_alloc | apply pw_below_drewN | apply below_drew1 | refine below_set ?_ GE156.out | refine below_set ?_ GE157.out) | exact HB.out))) : w.heap.size ≤ gb166)); have n6_ := Aside0.mk ((by rw [hg]; exact (below_size (by repeat (first | (with_reducible first | exact HB.out | apply below_alloc | apply pw_below_drewN | apply below_drew1 | refine below_set ?_ GE156.out | refine below_set ?_ GE157.out) | exact HB.out))) : w.heap.size ≤ gb166)); have n7_ := Aside0.mk ((by rw [hg]; exact Nat.ne_of_lt (blk_lt (g := gb156) (o := .cells #[.int .i64 x157000_1, .int .i64 x157001_1, .slice none 0 0] 80 (0, 0)) (by (with_reducible repeat (first | refine blk_drewN ?_ _ | refine blk_drew ?_ | refine blk_alloc ?_ _)); exact BK156.out)) : gb156 ≠ gb166)); have n8_ := Aside0.mk ((by rw [hg]; exact Nat.ne_of_gt (blk_lt (g := gb156) (o := .cells #[.int .i64 x157000_1, .int .i64 x157001_1, .slice none 0 0] 80 (0, 0)) (by (with_reducible repeat (first | refine blk_drewN ?_ _ | refine blk_drew ?_ | refine blk_alloc ?_ _)); exact BK156.out)) : gb166 ≠ gb156)); have n9_ := Aside0.mk ((by rw [hg]; exact Nat.ne_of_lt (blk_lt (g := gb157) (o := .cells #[.int .i64 t158, .int .i64 t160, u158002] 80 (0, 0)) (by (with_reducible repeat (first | refine blk_drewN ?_ _ | refine blk_drew ?_ | refine blk_alloc ?_ _)); exact BK157.out)) : gb157 ≠ gb166)); have n10_ := Aside0.mk ((by rw [hg]; exact Nat.ne_of_gt (blk_lt (g := gb157) (o := .cells #[.int .i64 t158, .int .i64 t160, u158002] 80 (0, 0)) (by (with_reducible repeat (first | refine blk_drewN ?_ _ | refine blk_drew ?_ | refine blk_alloc ?_ _)); exact BK157.out)) : gb166 ≠ gb157)); clear HO_158002; clear BK156; clear BK157; clear HB; have HO_158002 := n0_; have BK156 := n1_; have BK157 := n2_; have HB := n3_; have BK166 := n4_; have GW166 := n5_; have GE166 := n6_; have NB156_166 := n7_; have NB166_156 := n8_; have NB157_166 := n9_; have NB166_157 := n10_; clear n0_ n1_ n2_ n3_ n4_ n5_ n6_ n7_ n8_ n9_ n10_; clear hb hbox hg; have hnb41 := NB166_156.out; have hnc41 := NB156_166.out; have hnb42 := NB166_157.out; have hnc42 := NB157_166.out; have hcz43_0 : w40.cell? ⟨gb166, 0, none⟩ = some (.string (⟨#[]⟩ : ByteArray)) := (blk_cell BK166.out 0).trans rfl; have hcz43_1 : w40.cell? ⟨gb166, 1, none⟩ = some (.int .i64 0) := (blk_cell BK166.out 1).trans rfl; have hcz43_2 : w40.cell? ⟨gb166, 2, none⟩ = some (.int .i64 0) := (blk_cell BK166.out 2).trans rfl; have hcz43_3 : w40.cell? ⟨gb166, 3, none⟩ = some (.int .u32 0) := (blk_cell BK166.out 3).trans rfl; have hfz43_0 := blk_frozen BK166.out 0; have hfz43_1 := blk_frozen BK166.out 1; have hfz43_2 := blk_frozen BK166.out 2; have hfz43_3 := blk_frozen BK166.out 3) | ((with_reducible refine gate_callee (f := 109) rfl ?_); refine goesL_ (some 87) rfl rfl Try.func109 (by kernel_rfl) rfl #[.string a0, .int .i64 (wrap64 ((ji22) + t164)), .int .i64 1] rfl (by (try simp only [List.map_toArray, List.map_cons, List.map_nil]); first | done | (simp only [hji22]; rfl) | rfl | (simp only [List.length_drop, List.length_take]; rfl)) ?_; (with_reducible refine (chainmanref02_Get.calls kj16 a0 (wrap64 ((ji22) + t164)) 1 t167 t168 _ A26.out).mono ?_); rintro e w' ⟨rfl, ⟨nd, rfl⟩⟩; refine ⟨_, rfl, ?_⟩) | (go_at_call 109; refine calls_of_args (args' := #[.string a0, .int .i64 (wrap64 ((ji22) + t164)), .int .i64 1]) (by first | (simp only [hji22]; rfl) | rfl) ?_; (with_reducible refine (chainmanref02_Get.calls kj16 a0 (wrap64 ((ji22) + t164)) 1 t167 t168 _ A26.out).mono ?_); rintro e w' ⟨rfl, ⟨nd, rfl⟩⟩) | ((with_reducible refine gate_callee (f := 109) rfl ?_); refine goesL_ (some 94) rfl rfl Try.func109 (by kernel_rfl) rfl #[.string a0, .int .i64 (wrap64 ((wrap64 ((ji22) + t164)) + 1)), .int .i64 8] rfl (by (try simp only [List.map_toArray, List.map_cons, List.map_nil]); first | done | (simp only [hji22]; rfl) | rfl | (simp only [List.length_drop, List.length_take]; rfl)) ?_; (with_reducible refine (chainmanref02_Get.calls kj16 a0 (wrap64 ((wrap64 ((ji22) + t164)) + 1)) 8 t169 false _ A27.out).mono ?_); rintro e w' ⟨rfl, ⟨nd, rfl⟩⟩; refine ⟨_, rfl, ?_⟩) | (go_at_call 109; refine calls_of_args (args' := #[.string a0, .int .i64 (wrap64 ((wrap64 ((ji22) + t164)) + 1)), .int .i64 8]) (by first | (simp only [hji22]; rfl) | rfl) ?_; (with_reducible refine (chainmanref02_Get.calls kj16 a0 (wrap64 ((wrap64 ((ji22) + t164)) + 1)) 8 t169 false _ A27.out).mono ?_); rintro e w' ⟨rfl, ⟨nd, rfl⟩⟩) | ((with_reducible refine gate_callee (f := 109) rfl ?_); refine goesL_ (some 101) rfl rfl Try.func109 (by kernel_rfl) rfl #[.string a0, .int .i64 (wrap64 ((wrap64 ((ji22) + t164)) + 9)), .int .i64 4] rfl (by (try simp only [List.map_toArray, List.map_cons, List.map_nil]); first | done | (simp only [hji22]; rfl) | rfl | (simp only [List.length_drop, List.length_take]; rfl)) ?_; (with_reducible refine (chainmanref02_Get.calls kj16 a0 (wrap64 ((wrap64 ((ji22) + t164)) + 9)) 4 t171 t172 _ A28.out).mono ?_); rintro e w' ⟨rfl, ⟨nd, rfl⟩⟩; refine ⟨_, rfl, ?_⟩; have hnb44 := NB156_157.out; have hnc44 := NB157_156.out; have hcz45_0 : w40.cell? ⟨gb156, 0, none⟩ = some (.int .i64 x157000_1) := (blk_cell BK156.out 0).trans rfl; have hcz45_1 : w40.cell? ⟨gb156, 1, none⟩ = some (.int .i64 x157001_1) := (blk_cell BK156.out 1).trans rfl; have hcz45_2 : w40.cell? ⟨gb156, 2, none⟩ = some (.slice none 0 0) := (blk_cell BK156.out 2).trans rfl; have hfz45_0 := blk_frozen BK156.out 0; have hfz45_1 := blk_frozen BK156.out 1; have hfz45_2 := blk_frozen BK156.out 2) | (go_at_call 109; refine calls_of_args (args' := #[.string a0, .int .i64 (wrap64 ((wrap64 ((ji22) + t164)) + 9)), .int .i64 4]) (by first | (simp only [hji22]; rfl) | rfl) ?_; (with_reducible refine (chainmanref02_Get.calls kj16 a0 (wrap64 ((wrap64 ((ji22) + t164)) + 9)) 4 t171 t172 _ A28.out).mono ?_); rintro e w' ⟨rfl, ⟨nd, rfl⟩⟩))
                            refine bodyPost_ret (results_ct rfl _ _ gb156 80 #[.int .i64 0, .int .i64 0, .slice none 0 0] (0, 0) _ rfl (by (with_reducible repeat (first | refine blk_drewN ?_ _ | refine blk_drew ?_ | refine blk_alloc ?_ _)); refine blk_put (cs := #[.int .i64 0, .int .i64 0, .slice none 0 0]) ?_ 2 _ rfl; (with_reducible repeat (first | refine blk_drewN ?_ _ | refine blk_drew ?_ | refine blk_alloc ?_ _)); refine blk_put (cs := #[.int .i64 0, .int .i64 x157001_1, .slice none 0 0]) ?_ 1 _ rfl; (with_reducible repeat (first | refine blk_drewN ?_ _ | refine blk_drew ?_ | refine blk_alloc ?_ _)); refine blk_put (cs := #[.int .i64 x157000_1, .int .i64 x157001_1, .slice none 0 0]) ?_ 0 _ rfl; (with_reducible repeat (first | refine blk_drewN ?_ _ | refine blk_drew ?_ | refine blk_alloc ?_ _)); refine blk_far ?_ NB156_166.out _; (with_reducible repeat (first | refine blk_drewN ?_ _ | refine blk_drew ?_ | refine blk_alloc ?_ _)); refine blk_far ?_ NB156_166.out _; (with_reducible repeat (first | refine blk_drewN ?_ _ | refine blk_drew ?_ | refine blk_alloc ?_ _)); refine blk_far ?_ NB156_166.out _; (with_reducible repeat (first | refine blk_drewN ?_ _ | refine blk_drew ?_ | refine blk_alloc ?_ _)); refine blk_far ?_ NB156_166.out _; (with_reducible repeat (first | refine blk_drewN ?_ _ | refine blk_drew ?_ | refine blk_alloc ?_ _)); exact BK156.out) Try.underlying80 rfl (by kernel_rfl)) rfl ?_
                            exact ⟨_, by first | rfl | (simp [errW_none, errW_some] <;> rfl) | (simp only [← hji22]; first | rfl | (simp [errW_none, errW_some] <;> rfl)) | (simp [*, errW_none, errW_some] <;> rfl), by first | exact Kd.R_nil _ _ _ _ _ | exact Kd.N_nil _ _ _ _ _ | exact Kd.V_nil _ _ _ _ _ | exact Kd.Q_nil _ _ _ _ _ | exact Kd.S_nil _ _ _ _ _, by repeat (first | (with_reducible first | exact HB.out | apply below_alloc | apply pw_below_drewN | apply below_drew1 | refine below_set ?_ GE156.out | refine below_set ?_ GE157.out | refine below_set ?_ GE166.out) | exact HB.out)⟩
                        · rw [if_neg c25] at H
                          exact absurd H (by simp)
                      · rw [if_neg c24] at H
                        exact absurd H (by simp)
                    · rw [if_neg c23] at H
                      exact absurd H (by simp)
            · replace c15 := Bool.eq_false_iff.mpr c15
              subst c15
              have H1 : ((chainmanref19_Put.f kj10 t158 t160 x158002_1).bind fun bt162 => (if bt162.2 = true then (if bt162.1.toList = a0.toList then (some (t158, t160, x158002_1, true)) else (some (0, 0, ([] : List (S82)), false))) else (some (0, 0, ([] : List (S82)), false)))) = some (r1, r2, r3, r4) := by rw [if_neg (show ¬ (false = true) by decide)] at H; exact H
              clear H
              have H := H1
              clear H1
              replace H := Option.bind_eq_some_iff.mp H
              obtain ⟨⟨t162, t163⟩, A460, H⟩ := H
              replace H : (if t163 = true then (if t162.toList = a0.toList then (some (t158, t160, x158002_1, true)) else (some (0, 0, ([] : List (S82)), false))) else (some (0, 0, ([] : List (S82)), false))) = some (r1, r2, r3, r4) := H
              have A46 := Aside0.mk A460
              clear A460
              by_cases c47 : t163 = true
              · subst c47
                have H1 : (if t162.toList = a0.toList then (some (t158, t160, x158002_1, true)) else (some (0, 0, ([] : List (S82)), false))) = some (r1, r2, r3, r4) := by rw [if_pos rfl] at H; exact H
                clear H
                have H := H1
                clear H1
                by_cases c48 : t162.toList = a0.toList
                · rw [if_pos c48] at H
                  have c48b0 : (t162.toList == a0.toList) = true := beq_iff_eq.mpr c48
                  have c48b1 : (t162.toList != a0.toList) = false := bne_eq_false_iff_eq.mpr c48
                  clear c48
                  simp only [Option.some.injEq, Prod.mk.injEq] at H
                  obtain ⟨rfl, rfl, rfl, rfl⟩ := H
                  have hnb49 := NB157_156.out
                  have hnc49 := NB156_157.out
                  have hcz50_0 : wc.cell? ⟨gb157, 0, none⟩ = some (.int .i64 t158) := (blk_cell BK157.out 0).trans rfl
                  have hcz50_1 : wc.cell? ⟨gb157, 1, none⟩ = some (.int .i64 t160) := (blk_cell BK157.out 1).trans rfl
                  have hcz50_2 : wc.cell? ⟨gb157, 2, none⟩ = some (u158002) := (blk_cell BK157.out 2).trans rfl
                  have hfz50_0 := blk_frozen BK157.out 0
                  have hfz50_1 := blk_frozen BK157.out 1
                  have hfz50_2 := blk_frozen BK157.out 2
                  obtain ⟨Ao51, co51, eo51⟩ := Kd.R_slice HO_158002.out
                  subst eo51
                  go_wp2_with (first | ((with_reducible refine gate_callee (f := 67) rfl ?_); refine goesL_ (some 124) rfl rfl Try.func67 (by kernel_rfl) rfl #[.agg #[.int .i64 t158, .int .i64 t160, .slice Ao51 x158002_1.length co51]] rfl (by (try simp only [List.map_toArray, List.map_cons, List.map_nil]); first | done | rfl | (simp only [List.length_drop, List.length_take]; rfl)) ?_; (with_reducible refine (chainmanref19_Put.calls kj10 t158 t160 _ _ x158002_1 t162 true _ ?side1 ?side2 A46.out).mono ?_); (case side1 => repeat (first | exact (Kd.R_reads' HO_158002.out).2.2 | (with_reducible refine Kd.C_alloc ?_ _) | (with_reducible refine Kd.C_drewN ?_ _) | (with_reducible refine Kd.C_drew ?_))); (case side2 => exact (Kd.R_reads' HO_158002.out).2.1); rintro e w52 ⟨rfl, hb⟩; refine ⟨_, rfl, ?_⟩; have n0_ := Aside0.mk (Kd.R_below (by (with_reducible repeat (first | apply Kd.R_alloc | apply Kd.R_drewN | apply Kd.R_drew)); exact HO_158002.out) hb); have n1_ := Aside0.mk (blk_below (g := gb156) (o := .cells #[.int .i64 x157000_1, .int .i64 x157001_1, .slice none 0 0] 80 (0, 0)) (by (with_reducible repeat (first | refine blk_drewN ?_ _ | refine blk_drew ?_ | refine blk_alloc ?_ _)); exact BK156.out) hb); have n2_ := Aside0.mk (blk_below (g := gb157) (o := .cells #[.int .i64 t158, .int .i64 t160, .slice Ao51 x158002_1.length co51] 80 (0, 0)) (by (with_reducible repeat (first | refine blk_drewN ?_ _ | refine blk_drew ?_ | refine blk_alloc ?_ _)); exact BK157.out) hb); have n3_ := Aside0.mk (below_step (by repeat (first | (with_reducible first | exact HB.out | apply below_alloc | apply pw_below_drewN | apply below_drew1 | refine below_set ?_ GE156.out | refine below_set ?_ GE157.out) | exact HB.out)) hb); clear HO_158002; clear BK156; clear BK157; clear HB; have HO_158002 := n0_; have BK156 := n1_; have BK157 := n2_; have HB := n3_; clear n0_ n1_ n2_ n3_; (try clear hb); (try clear hb2); (try clear hk); (try clear hi); have hcz53_0 : w52.cell? ⟨gb157, 0, none⟩ = some (.int .i64 t158) := (blk_cell BK157.out 0).trans rfl; have hcz53_1 : w52.cell? ⟨gb157, 1, none⟩ = some (.int .i64 t160) := (blk_cell BK157.out 1).trans rfl; have hcz53_2 : w52.cell? ⟨gb157, 2, none⟩ = some (.slice Ao51 x158002_1.length co51) := (blk_cell BK157.out 2).trans rfl; have hfz53_0 := blk_frozen BK157.out 0; have hfz53_1 := blk_frozen BK157.out 1; have hfz53_2 := blk_frozen BK157.out 2; have hcz54_0 : w52.cell? ⟨gb156, 0, none⟩ = some (.int .i64 x157000_1) := (blk_cell BK156.out 0).trans rfl; have hcz54_1 : w52.cell? ⟨gb156, 1, none⟩ = some (.int .i64 x157001_1) := (blk_cell BK156.out 1).trans rfl; have hcz54_2 : w52.cell? ⟨gb156, 2, none⟩ = some (.slice none 0 0) := (blk_cell BK156.out 2).trans rfl; have hfz54_0 := blk_frozen BK156.out 0; have hfz54_1 := blk_frozen BK156.out 1; have hfz54_2 := blk_frozen BK156.out 2))
                  refine bodyPost_ret (results_ct rfl _ _ gb156 80 #[.int .i64 t158, .int .i64 t160, .slice Ao51 x158002_1.length co51] (0, 0) _ rfl (by (with_reducible repeat (first | refine blk_drewN ?_ _ | refine blk_drew ?_ | refine blk_alloc ?_ _)); refine blk_put (cs := #[.int .i64 t158, .int .i64 t160, .slice none 0 0]) ?_ 2 _ rfl; (with_reducible repeat (first | refine blk_drewN ?_ _ | refine blk_drew ?_ | refine blk_alloc ?_ _)); refine blk_put (cs := #[.int .i64 t158, .int .i64 x157001_1, .slice none 0 0]) ?_ 1 _ rfl; (with_reducible repeat (first | refine blk_drewN ?_ _ | refine blk_drew ?_ | refine blk_alloc ?_ _)); refine blk_put (cs := #[.int .i64 x157000_1, .int .i64 x157001_1, .slice none 0 0]) ?_ 0 _ rfl; (with_reducible repeat (first | refine blk_drewN ?_ _ | refine blk_drew ?_ | refine blk_alloc ?_ _)); exact BK156.out) Try.underlying80 rfl (by kernel_rfl)) rfl ?_
                  exact ⟨_, by first | rfl | (simp [errW_none, errW_some] <;> rfl) | (simp [*, errW_none, errW_some] <;> rfl), by (with_reducible repeat (first | apply Kd.R_alloc | apply Kd.R_drewN | apply Kd.R_drew)); (first | (refine Kd.R_mono ?_ ?_; (with_reducible repeat (first | apply Kd.R_alloc | apply Kd.R_drewN | apply Kd.R_drew)); refine Kd.R_far (p := ⟨gb156, 2, none⟩) ?_ ?_ _; (with_reducible repeat (first | apply Kd.R_alloc | apply Kd.R_drewN | apply Kd.R_drew)); refine Kd.R_far (p := ⟨gb156, 1, none⟩) ?_ ?_ _; (with_reducible repeat (first | apply Kd.R_alloc | apply Kd.R_drewN | apply Kd.R_drew)); refine Kd.R_far (p := ⟨gb156, 0, none⟩) ?_ ?_ _; (with_reducible repeat (first | apply Kd.R_alloc | apply Kd.R_drewN | apply Kd.R_drew)); exact (Kd.R_types HO_158002.out BK156.out (by decide)); exact (fun _ hk => hk.2); exact (fun _ hk => hk.2); exact (fun _ hk => hk.2); exact (fun _ hk => trivial)) | exact Kd.R_mono (Kd.R_far (p := ⟨gb156, 2, none⟩) (Kd.R_far (p := ⟨gb156, 1, none⟩) (Kd.R_far (p := ⟨gb156, 0, none⟩) (Kd.R_types HO_158002.out BK156.out (by decide)) (fun _ hk => hk.2) (.int .i64 t158)) (fun _ hk => hk.2) (.int .i64 t160)) (fun _ hk => hk.2) (.slice Ao51 x158002_1.length co51)) (fun _ hk => trivial)), by repeat (first | (with_reducible first | exact HB.out | apply below_alloc | apply pw_below_drewN | apply below_drew1 | refine below_set ?_ GE156.out | refine below_set ?_ GE157.out) | exact HB.out)⟩
                · rw [if_neg c48] at H
                  have c48b0 : (t162.toList == a0.toList) = false := beq_eq_false_iff_ne.mpr c48
                  have c48b1 : (t162.toList != a0.toList) = true := bne_iff_ne.mpr c48
                  simp only [Option.some.injEq, Prod.mk.injEq] at H
                  obtain ⟨rfl, rfl, rfl, rfl⟩ := H
                  have hnb55 := NB157_156.out
                  have hnc55 := NB156_157.out
                  have hcz56_0 : wc.cell? ⟨gb157, 0, none⟩ = some (.int .i64 t158) := (blk_cell BK157.out 0).trans rfl
                  have hcz56_1 : wc.cell? ⟨gb157, 1, none⟩ = some (.int .i64 t160) := (blk_cell BK157.out 1).trans rfl
                  have hcz56_2 : wc.cell? ⟨gb157, 2, none⟩ = some (u158002) := (blk_cell BK157.out 2).trans rfl
                  have hfz56_0 := blk_frozen BK157.out 0
                  have hfz56_1 := blk_frozen BK157.out 1
                  have hfz56_2 := blk_frozen BK157.out 2
                  obtain ⟨Ao57, co57, eo57⟩ := Kd.R_slice HO_158002.out
                  subst eo57
                  go_wp2_with (first | ((with_reducible refine gate_callee (f := 67) rfl ?_); refine goesL_ (some 124) rfl rfl Try.func67 (by kernel_rfl) rfl #[.agg #[.int .i64 t158, .int .i64 t160, .slice Ao57 x158002_1.length co57]] rfl (by (try simp only [List.map_toArray, List.map_cons, List.map_nil]); first | done | rfl | (simp only [List.length_drop, List.length_take]; rfl)) ?_; (with_reducible refine (chainmanref19_Put.calls kj10 t158 t160 _ _ x158002_1 t162 true _ ?side1 ?side2 A46.out).mono ?_); (case side1 => repeat (first | exact (Kd.R_reads' HO_158002.out).2.2 | (with_reducible refine Kd.C_alloc ?_ _) | (with_reducible refine Kd.C_drewN ?_ _) | (with_reducible refine Kd.C_drew ?_))); (case side2 => exact (Kd.R_reads' HO_158002.out).2.1); rintro e w58 ⟨rfl, hb⟩; refine ⟨_, rfl, ?_⟩; have n0_ := Aside0.mk (Kd.R_below (by (with_reducible repeat (first | apply Kd.R_alloc | apply Kd.R_drewN | apply Kd.R_drew)); exact HO_158002.out) hb); have n1_ := Aside0.mk (blk_below (g := gb156) (o := .cells #[.int .i64 x157000_1, .int .i64 x157001_1, .slice none 0 0] 80 (0, 0)) (by (with_reducible repeat (first | refine blk_drewN ?_ _ | refine blk_drew ?_ | refine blk_alloc ?_ _)); exact BK156.out) hb); have n2_ := Aside0.mk (blk_below (g := gb157) (o := .cells #[.int .i64 t158, .int .i64 t160, .slice Ao57 x158002_1.length co57] 80 (0, 0)) (by (with_reducible repeat (first | refine blk_drewN ?_ _ | refine blk_drew ?_ | refine blk_alloc ?_ _)); exact BK157.out) hb); have n3_ := Aside0.mk (below_step (by repeat (first | (with_reducible first | exact HB.out | apply below_alloc | apply pw_below_drewN | apply below_drew1 | refine below_set ?_ GE156.out | refine below_set ?_ GE157.out) | exact HB.out)) hb); clear HO_158002; clear BK156; clear BK157; clear HB; have HO_158002 := n0_; have BK156 := n1_; have BK157 := n2_; have HB := n3_; clear n0_ n1_ n2_ n3_; (try clear hb); (try clear hb2); (try clear hk); (try clear hi); have hcz59_0 : w58.cell? ⟨gb156, 0, none⟩ = some (.int .i64 x157000_1) := (blk_cell BK156.out 0).trans rfl; have hcz59_1 : w58.cell? ⟨gb156, 1, none⟩ = some (.int .i64 x157001_1) := (blk_cell BK156.out 1).trans rfl; have hcz59_2 : w58.cell? ⟨gb156, 2, none⟩ = some (.slice none 0 0) := (blk_cell BK156.out 2).trans rfl; have hfz59_0 := blk_frozen BK156.out 0; have hfz59_1 := blk_frozen BK156.out 1; have hfz59_2 := blk_frozen BK156.out 2))
                  refine bodyPost_ret (results_ct rfl _ _ gb156 80 #[.int .i64 0, .int .i64 0, .slice none 0 0] (0, 0) _ rfl (by (with_reducible repeat (first | refine blk_drewN ?_ _ | refine blk_drew ?_ | refine blk_alloc ?_ _)); refine blk_put (cs := #[.int .i64 0, .int .i64 0, .slice none 0 0]) ?_ 2 _ rfl; (with_reducible repeat (first | refine blk_drewN ?_ _ | refine blk_drew ?_ | refine blk_alloc ?_ _)); refine blk_put (cs := #[.int .i64 0, .int .i64 x157001_1, .slice none 0 0]) ?_ 1 _ rfl; (with_reducible repeat (first | refine blk_drewN ?_ _ | refine blk_drew ?_ | refine blk_alloc ?_ _)); refine blk_put (cs := #[.int .i64 x157000_1, .int .i64 x157001_1, .slice none 0 0]) ?_ 0 _ rfl; (with_reducible repeat (first | refine blk_drewN ?_ _ | refine blk_drew ?_ | refine blk_alloc ?_ _)); exact BK156.out) Try.underlying80 rfl (by kernel_rfl)) rfl ?_
                  exact ⟨_, by first | rfl | (simp [errW_none, errW_some] <;> rfl) | (simp [*, errW_none, errW_some] <;> rfl), by first | exact Kd.R_nil _ _ _ _ _ | exact Kd.N_nil _ _ _ _ _ | exact Kd.V_nil _ _ _ _ _ | exact Kd.Q_nil _ _ _ _ _ | exact Kd.S_nil _ _ _ _ _, by repeat (first | (with_reducible first | exact HB.out | apply below_alloc | apply pw_below_drewN | apply below_drew1 | refine below_set ?_ GE156.out | refine below_set ?_ GE157.out) | exact HB.out)⟩
              · replace c47 := Bool.eq_false_iff.mpr c47
                subst c47
                have H1 : (some (0, 0, ([] : List (S82)), false)) = some (r1, r2, r3, r4) := by rw [if_neg (show ¬ (false = true) by decide)] at H; exact H
                clear H
                have H := H1
                clear H1
                simp only [Option.some.injEq, Prod.mk.injEq] at H
                obtain ⟨rfl, rfl, rfl, rfl⟩ := H
                have hnb60 := NB157_156.out
                have hnc60 := NB156_157.out
                have hcz61_0 : wc.cell? ⟨gb157, 0, none⟩ = some (.int .i64 t158) := (blk_cell BK157.out 0).trans rfl
                have hcz61_1 : wc.cell? ⟨gb157, 1, none⟩ = some (.int .i64 t160) := (blk_cell BK157.out 1).trans rfl
                have hcz61_2 : wc.cell? ⟨gb157, 2, none⟩ = some (u158002) := (blk_cell BK157.out 2).trans rfl
                have hfz61_0 := blk_frozen BK157.out 0
                have hfz61_1 := blk_frozen BK157.out 1
                have hfz61_2 := blk_frozen BK157.out 2
                obtain ⟨Ao62, co62, eo62⟩ := Kd.R_slice HO_158002.out
                subst eo62
                go_wp2_with (first | ((with_reducible refine gate_callee (f := 67) rfl ?_); refine goesL_ (some 124) rfl rfl Try.func67 (by kernel_rfl) rfl #[.agg #[.int .i64 t158, .int .i64 t160, .slice Ao62 x158002_1.length co62]] rfl (by (try simp only [List.map_toArray, List.map_cons, List.map_nil]); first | done | rfl | (simp only [List.length_drop, List.length_take]; rfl)) ?_; (with_reducible refine (chainmanref19_Put.calls kj10 t158 t160 _ _ x158002_1 t162 false _ ?side1 ?side2 A46.out).mono ?_); (case side1 => repeat (first | exact (Kd.R_reads' HO_158002.out).2.2 | (with_reducible refine Kd.C_alloc ?_ _) | (with_reducible refine Kd.C_drewN ?_ _) | (with_reducible refine Kd.C_drew ?_))); (case side2 => exact (Kd.R_reads' HO_158002.out).2.1); rintro e w63 ⟨rfl, hb⟩; refine ⟨_, rfl, ?_⟩; have n0_ := Aside0.mk (Kd.R_below (by (with_reducible repeat (first | apply Kd.R_alloc | apply Kd.R_drewN | apply Kd.R_drew)); exact HO_158002.out) hb); have n1_ := Aside0.mk (blk_below (g := gb156) (o := .cells #[.int .i64 x157000_1, .int .i64 x157001_1, .slice none 0 0] 80 (0, 0)) (by (with_reducible repeat (first | refine blk_drewN ?_ _ | refine blk_drew ?_ | refine blk_alloc ?_ _)); exact BK156.out) hb); have n2_ := Aside0.mk (blk_below (g := gb157) (o := .cells #[.int .i64 t158, .int .i64 t160, .slice Ao62 x158002_1.length co62] 80 (0, 0)) (by (with_reducible repeat (first | refine blk_drewN ?_ _ | refine blk_drew ?_ | refine blk_alloc ?_ _)); exact BK157.out) hb); have n3_ := Aside0.mk (below_step (by repeat (first | (with_reducible first | exact HB.out | apply below_alloc | apply pw_below_drewN | apply below_drew1 | refine below_set ?_ GE156.out | refine below_set ?_ GE157.out) | exact HB.out)) hb); clear HO_158002; clear BK156; clear BK157; clear HB; have HO_158002 := n0_; have BK156 := n1_; have BK157 := n2_; have HB := n3_; clear n0_ n1_ n2_ n3_; (try clear hb); (try clear hb2); (try clear hk); (try clear hi); have hcz64_0 : w63.cell? ⟨gb156, 0, none⟩ = some (.int .i64 x157000_1) := (blk_cell BK156.out 0).trans rfl; have hcz64_1 : w63.cell? ⟨gb156, 1, none⟩ = some (.int .i64 x157001_1) := (blk_cell BK156.out 1).trans rfl; have hcz64_2 : w63.cell? ⟨gb156, 2, none⟩ = some (.slice none 0 0) := (blk_cell BK156.out 2).trans rfl; have hfz64_0 := blk_frozen BK156.out 0; have hfz64_1 := blk_frozen BK156.out 1; have hfz64_2 := blk_frozen BK156.out 2))
                refine bodyPost_ret (results_ct rfl _ _ gb156 80 #[.int .i64 0, .int .i64 0, .slice none 0 0] (0, 0) _ rfl (by (with_reducible repeat (first | refine blk_drewN ?_ _ | refine blk_drew ?_ | refine blk_alloc ?_ _)); refine blk_put (cs := #[.int .i64 0, .int .i64 0, .slice none 0 0]) ?_ 2 _ rfl; (with_reducible repeat (first | refine blk_drewN ?_ _ | refine blk_drew ?_ | refine blk_alloc ?_ _)); refine blk_put (cs := #[.int .i64 0, .int .i64 x157001_1, .slice none 0 0]) ?_ 1 _ rfl; (with_reducible repeat (first | refine blk_drewN ?_ _ | refine blk_drew ?_ | refine blk_alloc ?_ _)); refine blk_put (cs := #[.int .i64 x157000_1, .int .i64 x157001_1, .slice none 0 0]) ?_ 0 _ rfl; (with_reducible repeat (first | refine blk_drewN ?_ _ | refine blk_drew ?_ | refine blk_alloc ?_ _)); exact BK156.out) Try.underlying80 rfl (by kernel_rfl)) rfl ?_
                exact ⟨_, by first | rfl | (simp [errW_none, errW_some] <;> rfl) | (simp [*, errW_none, errW_some] <;> rfl), by first | exact Kd.R_nil _ _ _ _ _ | exact Kd.N_nil _ _ _ _ _ | exact Kd.V_nil _ _ _ _ _ | exact Kd.Q_nil _ _ _ _ _ | exact Kd.S_nil _ _ _ _ _, by repeat (first | (with_reducible first | exact HB.out | apply below_alloc | apply pw_below_drewN | apply below_drew1 | refine below_set ?_ GE156.out | refine below_set ?_ GE157.out) | exact HB.out)⟩

end Go.Proofs.Ytmacpgkcokpgjaa.PManifestTells
