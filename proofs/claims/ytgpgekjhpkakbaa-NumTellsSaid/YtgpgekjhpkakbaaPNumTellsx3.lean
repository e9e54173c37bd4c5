/- The Go functions that the law reaches, as plain Lean functions, and proofs that the calls of the machine come to them, or the row of the law over them, for every input that the row speaks of; written by a program of this session (wip/tool/mkprint.py) out of the translation and of hand-made templates. -/
import Derived.Test.YtgpgekjhpkakbaaPNumTellsx0
import Derived.Test.YtgpgekjhpkakbaaPNumTellsx1
import Derived.Test.YtgpgekjhpkakbaaPNumTellsx2
namespace Go.Proofs.Ytgpgekjhpkakbaa.PNumTells
open Go.RowKit Go.Proofs.YtgpgekjhpkakbaaW.PrintWords Go.Proofs.YtgpgekjhpkakbaaW.PrintLast Go.Proofs.YtgpgekjhpkakbaaW.PrintMore
attribute [local go_sem] max2_int min2_int max_two min_two max_three min_three max_four min_four   -- for this text's walks alone
set_option linter.unusedVariables false
set_option linter.unusedSimpArgs false

/-! ### chainmanref01_Root: function 40 -/
mutual
def chainmanref01_Root.j0 : Nat → Int → Bool → Option (Int)
  | 0, _, _ => none
  | k + 1, x0, x11 => if x11 = true then (some 0) else (chainmanref01_Root.l0 k x0 0 31)
def chainmanref01_Root.l0 : Nat → Int → Int → Int → Option (Int)
  | 0, _, _, _ => none
  | k + 1, x0, x3, x4 => if x4 ≥ 0 then (if 0 ≤ x4 then (if (wrap64 (x3 + (shl .i64 1 x4))) ≤ 2147483648 then (if (wrap64 ((wrap64 (x3 + (shl .i64 1 x4))) * (wrap64 (x3 + (shl .i64 1 x4))))) ≤ x0 then (chainmanref01_Root.l0 k x0 (wrap64 (x3 + (shl .i64 1 x4))) (wrap64 (x4 - 1))) else (chainmanref01_Root.l0 k x0 x3 (wrap64 (x4 - 1)))) else (chainmanref01_Root.l0 k x0 x3 (wrap64 (x4 - 1)))) else (none)) else (some x3)
end
def chainmanref01_Root.f (k : Nat) (a0 : Int) : Option (Int) := if a0 < 0 then (chainmanref01_Root.j0 k a0 true) else (chainmanref01_Root.j0 k a0 (decide (a0 > 4611686018427387904)))
theorem chainmanref01_Root.mono_l : ∀ k, (∀ y0 y1, LeO (chainmanref01_Root.j0 k y0 y1) (chainmanref01_Root.j0 (k + 1) y0 y1)) ∧ (∀ y0 y1 y2, LeO (chainmanref01_Root.l0 k y0 y1 y2) (chainmanref01_Root.l0 (k + 1) y0 y1 y2))
  | 0 => ⟨fun _ _ r h => by simp [chainmanref01_Root.j0] at h, fun _ _ _ r h => by simp [chainmanref01_Root.l0] at h⟩
  | k + 1 => by
    obtain ⟨ih0, ih1⟩ := chainmanref01_Root.mono_l k
    refine ⟨?_, ?_⟩
    · intro y0 y1
      unfold chainmanref01_Root.j0
      repeat' first
      | (with_reducible exact ih0 _ _)
      | (with_reducible exact ih1 _ _ _)
      | (with_reducible exact LeO.refl _)
      | (with_reducible exact LeO.none _)
      | (with_reducible refine LeO.ite ?_ ?_)
      | (with_reducible refine LeO.bind ?_ (fun _ => ?_))
      | exact ih0 _ _
      | exact ih1 _ _ _
      | exact LeO.none _
      | refine LeO.ite ?_ ?_
      | refine LeO.bind ?_ (fun _ => ?_)
    · intro y0 y1 y2
      unfold chainmanref01_Root.l0
      repeat' first
      | (with_reducible exact ih0 _ _)
      | (with_reducible exact ih1 _ _ _)
      | (with_reducible exact LeO.refl _)
      | (with_reducible exact LeO.none _)
      | (with_reducible refine LeO.ite ?_ ?_)
      | (with_reducible refine LeO.bind ?_ (fun _ => ?_))
      | exact ih0 _ _
      | exact ih1 _ _ _
      | exact LeO.none _
      | refine LeO.ite ?_ ?_
      | refine LeO.bind ?_ (fun _ => ?_)
theorem chainmanref01_Root.mono : ∀ a0 k, LeO (chainmanref01_Root.f k a0) (chainmanref01_Root.f (k + 1) a0) := by
  intro a0 k
  obtain ⟨ih0, ih1⟩ := chainmanref01_Root.mono_l k
  unfold chainmanref01_Root.f
  repeat' first
      | (with_reducible exact ih0 _ _)
      | (with_reducible exact ih1 _ _ _)
      | (with_reducible exact LeO.refl _)
      | (with_reducible exact LeO.none _)
      | (with_reducible refine LeO.ite ?_ ?_)
      | (with_reducible refine LeO.bind ?_ (fun _ => ?_))
      | exact ih0 _ _
      | exact ih1 _ _ _
      | exact LeO.none _
      | refine LeO.ite ?_ ?_
      | refine LeO.bind ?_ (fun _ => ?_)
set_option maxHeartbeats 8000000 in
set_option maxRecDepth 100000 in
theorem chainmanref01_Root.calls (k : Nat) (a0 : Int) (r : Int) (w : World) (h : chainmanref01_Root.f k a0 = some r) :
    Calls Try.prog 40 #[.int .i64 a0] w fun e w' => e = .returned (.int .i64 r) ∧ Drawn0 w w' := by
  have H : (if a0 < 0 then (chainmanref01_Root.j0 k a0 true) else (chainmanref01_Root.j0 k a0 (decide (a0 > 4611686018427387904)))) = some r := h
  clear h
  have HC2 := Aside0.mk H
  clear H
  go_enter Try.func40, Try.ntmps40
  go_upto_region 1 with (fail)
  go_cut [11] (fun v11 wc => ∃ (kq : Nat) (x11_1 : Bool), v11 = .bool x11_1 ∧ Aside0 (chainmanref01_Root.j0 kq a0 x11_1 = some r) ∧ Aside0 (kq ≤ k) ∧ Drawn0 w wc)
  case first =>
    have H := HC2.out
    clear HC2
    by_cases c3 : a0 < 0
    · rw [if_pos c3] at H
      have c3b0 : decide (a0 < 0) = true := decide_eq_true c3
      clear c3
      (first | rw [c3b0] | (simp only [i64_w, i32_w]; rw [c3b0]) | skip)
      have H' := Aside0.mk H
      clear H
      go_wp2
      go_meet
      case rel => exact ⟨_, (true), (by first | rfl | (simp; done) | (simp [*]; done)), H', ⟨by first | omega | exact Nat.le_refl _⟩, by repeat (first | exact Drawn0.refl _ | apply Drawn0.step)⟩
    · rw [if_neg c3] at H
      have c3b0 : decide (a0 < 0) = false := decide_eq_false c3
      clear c3
      (first | rw [c3b0] | (simp only [i64_w, i32_w]; rw [c3b0]) | skip)
      have H' := Aside0.mk H
      clear H
      go_wp2
      go_meet
      case rel => exact ⟨_, (decide (a0 > 4611686018427387904)), (by first | rfl | (simp; done) | (simp [*]; done)), H', ⟨by first | omega | exact Nat.le_refl _⟩, by repeat (first | exact Drawn0.refl _ | apply Drawn0.step)⟩
  case rest =>
    clear HC2
    try clear p2
    try clear c3
    try clear c3b0
    obtain ⟨kq, x11_1, rfl, HA, HJ1, ⟨mc1, rfl⟩⟩ := hcut
    cases kq with
    | zero => exact absurd HA.out (by simp [chainmanref01_Root.j0])
    | succ kj1 =>
      have H := HA.out
      clear HA
      simp only [chainmanref01_Root.j0] at H
      by_cases c4 : x11_1 = true
      · subst c4
        have H1 : (some 0) = some r := by rw [if_pos rfl] at H; exact H
        clear H
        have H := H1
        clear H1
        obtain rfl := Option.some.inj H
        go_wp2
        go_ret
        exact ⟨by first | rfl | (simp; done) | (simp [*]; done), by repeat (first | exact Drawn0.refl _ | apply Drawn0.step)⟩
      · replace c4 := Bool.eq_false_iff.mpr c4
        subst c4
        have H1 : (chainmanref01_Root.l0 kj1 a0 0 31) = some r := by rw [if_neg (show ¬ (false = true) by decide)] at H; exact H
        clear H
        have H := H1
        clear H1
        have H' := Aside0.mk H
        clear H
        go_wp2
        go_loopg [3, 4] kj1 (fun kq v3 v4 w' => ∃ (x3_2 : Int) (x4_2 : Int), v3 = .int .i64 x3_2 ∧ v4 = .int .i64 x4_2 ∧ Aside0 (chainmanref01_Root.l0 kq a0 x3_2 x4_2 = some r) ∧ Aside0 (kq ≤ kj1) ∧ Drawn0 w w')
        case atStart => exact ⟨(0), (31), (by first | rfl | (simp; done) | (simp [*]; done)), (by first | rfl | (simp; done) | (simp [*]; done)), H', ⟨Nat.le_refl _⟩, by repeat (first | exact Drawn0.refl _ | apply Drawn0.step)⟩
        case round =>
          clear H'
          try clear c1
          try clear p2
          try clear c3
          try clear c3b0
          try clear c4
          try clear p2
          obtain ⟨x3_2, x4_2, rfl, rfl, HA, HK2, ⟨m2, rfl⟩⟩ := hrel
          cases gk with
          | zero => exact absurd HA.out (by simp [chainmanref01_Root.l0])
          | succ k2 =>
            have H := HA.out
            clear HA
            simp only [chainmanref01_Root.l0] at H
            by_cases c5 : x4_2 ≥ 0
            · rw [if_pos c5] at H
              have c5b0 : decide (0 ≤ x4_2) = true := decide_eq_true c5
              clear c5
              by_cases c6 : 0 ≤ x4_2
              · rw [if_pos c6] at H
                have c6b0 := eq_true c6
                have c6b1 : decide (0 ≤ x4_2) = true := decide_eq_true c6
                clear c6
                obtain ⟨ji7, hji7⟩ : ∃ j_ : Int, (shl .i64 1 x4_2) = j_ := ⟨_, rfl⟩
                replace H : (if (wrap64 (x3_2 + (ji7))) ≤ 2147483648 then (if (wrap64 ((wrap64 (x3_2 + (ji7))) * (wrap64 (x3_2 + (ji7))))) ≤ a0 then (chainmanref01_Root.l0 k2 a0 (wrap64 (x3_2 + (ji7))) (wrap64 (x4_2 - 1))) else (chainmanref01_Root.l0 k2 a0 x3_2 (wrap64 (x4_2 - 1)))) else (chainmanref01_Root.l0 k2 a0 x3_2 (wrap64 (x4_2 - 1)))) = some r := by first | (rw [hji7] at H; exact H) | (simp only [hji7] at H ⊢; exact H)
                have hji7_ : (IntKind.i64.wrap (1 * 2 ^ min x4_2.toNat 64)) = ji7 := hji7
                have hji7z : x4_2 ≤ 64 → (IntKind.i64.wrap (1 * 2 ^ x4_2.toNat)) = ji7 := shl_small hji7
                have hji7u : (IntKind.i64.wrap (2 ^ min x4_2.toNat 64)) = ji7 := by have h_ := hji7_; rw [Int.one_mul] at h_; exact h_
                have hji7v : x4_2 ≤ 64 → (IntKind.i64.wrap (2 ^ x4_2.toNat)) = ji7 := fun hle_ => by have h_ := hji7z hle_; rw [Int.one_mul] at h_; exact h_
                have hji7y : (wrap64 (1 * 2 ^ min x4_2.toNat 64)) = ji7 := (i64_w _).symm.trans hji7_
                have hji7x : x4_2 ≤ 64 → (wrap64 (1 * 2 ^ x4_2.toNat)) = ji7 := fun h_ => (i64_w _).symm.trans (hji7z h_)
                by_cases c8 : (wrap64 (x3_2 + (ji7))) ≤ 2147483648
                · rw [if_pos c8] at H
                  have c8b0 : decide ((wrap64 (x3_2 + (ji7))) ≤ 2147483648) = true := decide_eq_true c8
                  clear c8
                  by_cases c9 : (wrap64 ((wrap64 (x3_2 + (ji7))) * (wrap64 (x3_2 + (ji7))))) ≤ a0
                  · rw [if_pos c9] at H
                    have c9b0 : decide ((wrap64 ((wrap64 (x3_2 + (ji7))) * (wrap64 (x3_2 + (ji7))))) ≤ a0) = true := decide_eq_true c9
                    clear c9
                    have H' := Aside0.mk H
                    clear H
                    go_wp2
                    go_roundg k2
                    case measure => have := HJ1.out; have := HK2.out; omega
                    case rel => exact ⟨(wrap64 (x3_2 + (ji7))), (wrap64 (x4_2 - 1)), (by first | rfl | (simp; done) | (simp only [← hji7] <;> (first | rfl | simp)) | (simp [*]; done)), (by first | rfl | (simp; done) | (simp [*]; done)), H', ⟨by have := HJ1.out; have := HK2.out; omega⟩, by repeat (first | exact Drawn0.refl _ | apply Drawn0.step)⟩
                  · rw [if_neg c9] at H
                    have c9b0 : decide ((wrap64 ((wrap64 (x3_2 + (ji7))) * (wrap64 (x3_2 + (ji7))))) ≤ a0) = false := decide_eq_false c9
                    clear c9
                    have H' := Aside0.mk H
                    clear H
                    go_wp2
                    go_roundg k2
                    case measure => have := HJ1.out; have := HK2.out; omega
                    case rel => exact ⟨(x3_2), (wrap64 (x4_2 - 1)), (by first | rfl | (simp; done) | (simp [*]; done)), (by first | rfl | (simp; done) | (simp [*]; done)), H', ⟨by have := HJ1.out; have := HK2.out; omega⟩, by repeat (first | exact Drawn0.refl _ | apply Drawn0.step)⟩
                · rw [if_neg c8] at H
                  have c8b0 : decide ((wrap64 (x3_2 + (ji7))) ≤ 2147483648) = false := decide_eq_false c8
                  clear c8
                  have H' := Aside0.mk H
                  clear H
                  go_wp2
                  go_roundg k2
                  case measure => have := HJ1.out; have := HK2.out; omega
                  case rel => exact ⟨(x3_2), (wrap64 (x4_2 - 1)), (by first | rfl | (simp; done) | (simp [*]; done)), (by first | rfl | (simp; done) | (simp [*]; done)), H', ⟨by have := HJ1.out; have := HK2.out; omega⟩, by repeat (first | exact Drawn0.refl _ | apply Drawn0.step)⟩
              · rw [if_neg c6] at H
                exact absurd H (by simp)
            · rw [if_neg c5] at H
              have c5b0 : decide (0 ≤ x4_2) = false := decide_eq_false c5
              clear c5
              obtain rfl := Option.some.inj H
              go_wp2
              go_ret
              exact ⟨by first | rfl | (simp; done) | (simp [*]; done), by repeat (first | exact Drawn0.refl _ | apply Drawn0.step)⟩

/-! ### chainmanlaw01_NumTells: function 7 -/
def chainmanlaw01_NumTells.f (k : Nat) (a0 : Int) (a1 : Int) (a2 : Int) : Option (Bool) := (num_Floor.f a0 a1).bind fun t129 => ((chainmanref01_Floor.f a0 a1).bind fun t130 => (if t129 = t130 then ((num_Rest.f a0 a1).bind fun t131 => ((chainmanref01_Rest.f a0 a1).bind fun t132 => (if t131 = t132 then ((num_Ceil.f k a0 a1).bind fun t133 => ((chainmanref01_Ceil.f a0 a1).bind fun t134 => (if t133 = t134 then ((num_Hold.f k a0 a1 a2).bind fun t135 => ((chainmanref01_Hold.f a0 a1 a2).bind fun t136 => (if t135 = t136 then ((num_Add.f k a0 a1 a2).bind fun t137 => ((chainmanref01_Add.f k a0 a1 a2).bind fun t138 => (if t137 = t138 then ((num_Mul.f k a0 a1 a2).bind fun t139 => ((chainmanref01_Mul.f k a0 a1 a2).bind fun t140 => (if t139 = t140 then ((num_Root.f k a0).bind fun t141 => ((chainmanref01_Root.f k a0).bind fun t142 => (if t141 = t142 then ((chainmanlaw01_awake.f k).bind fun t143 => (some t143)) else (none)))) else (none)))) else (none)))) else (none)))) else (none)))) else (none)))) else (none)))
theorem chainmanlaw01_NumTells.mono : ∀ a0 a1 a2 k, LeO (chainmanlaw01_NumTells.f k a0 a1 a2) (chainmanlaw01_NumTells.f (k + 1) a0 a1 a2) := by
  intro a0 a1 a2 k
  unfold chainmanlaw01_NumTells.f
  repeat' first
      | (with_reducible exact chainmanlaw01_awake.mono _)
      | (with_reducible exact chainmanref01_Add.mono _ _ _ _)
      | (with_reducible exact chainmanref01_Mul.mono _ _ _ _)
      | (with_reducible exact chainmanref01_Root.mono _ _)
      | (with_reducible exact num_Add.mono _ _ _ _)
      | (with_reducible exact num_Ceil.mono _ _ _)
      | (with_reducible exact num_Hold.mono _ _ _ _)
      | (with_reducible exact num_Mul.mono _ _ _ _)
      | (with_reducible exact num_Root.mono _ _)
      | (with_reducible exact LeO.refl _)
      | (with_reducible exact LeO.none _)
      | (with_reducible refine LeO.ite ?_ ?_)
      | (with_reducible refine LeO.bind ?_ (fun _ => ?_))
      | exact chainmanlaw01_awake.mono _
      | exact chainmanref01_Add.mono _ _ _ _
      | exact chainmanref01_Mul.mono _ _ _ _
      | exact chainmanref01_Root.mono _ _
      | exact num_Add.mono _ _ _ _
      | exact num_Ceil.mono _ _ _
      | exact num_Hold.mono _ _ _ _
      | exact num_Mul.mono _ _ _ _
      | exact num_Root.mono _ _
      | exact LeO.none _
      | refine LeO.ite ?_ ?_
      | refine LeO.bind ?_ (fun _ => ?_)
set_option maxHeartbeats 8000000 in
set_option maxRecDepth 100000 in
theorem chainmanlaw01_NumTells.calls (k : Nat) (a0 : Int) (a1 : Int) (a2 : Int) (r : Bool) (w : World) (h : chainmanlaw01_NumTells.f k a0 a1 a2 = some r) :
    Calls Try.prog 7 #[.int .i64 a0, .int .i64 a1, .int .i64 a2] w fun e w' => e = .returned (.bool r) ∧ Below w.heap.size w w' := by
  have HB := Aside0.mk (Below.refl w.heap.size w)
  have H : ((num_Floor.f a0 a1).bind fun t129 => ((chainmanref01_Floor.f a0 a1).bind fun t130 => (if t129 = t130 then ((num_Rest.f a0 a1).bind fun t131 => ((chainmanref01_Rest.f a0 a1).bind fun t132 => (if t131 = t132 then ((num_Ceil.f k a0 a1).bind fun t133 => ((chainmanref01_Ceil.f a0 a1).bind fun t134 => (if t133 = t134 then ((num_Hold.f k a0 a1 a2).bind fun t135 => ((chainmanref01_Hold.f a0 a1 a2).bind fun t136 => (if t135 = t136 then ((num_Add.f k a0 a1 a2).bind fun t137 => ((chainmanref01_Add.f k a0 a1 a2).bind fun t138 => (if t137 = t138 then ((num_Mul.f k a0 a1 a2).bind fun t139 => ((chainmanref01_Mul.f k a0 a1 a2).bind fun t140 => (if t139 = t140 then ((num_Root.f k a0).bind fun t141 => ((chainmanref01_Root.f k a0).bind fun t142 => (if t141 = t142 then ((chainmanlaw01_awake.f k).bind fun t143 => (some t143)) else (none)))) else (none)))) else (none)))) else (none)))) else (none)))) else (none)))) else (none)))) = some r := h
  clear h
  replace H := Option.bind_eq_some_iff.mp H
  obtain ⟨t129, A40, H⟩ := H
  replace H : ((chainmanref01_Floor.f a0 a1).bind fun t130 => (if t129 = t130 then ((num_Rest.f a0 a1).bind fun t131 => ((chainmanref01_Rest.f a0 a1).bind fun t132 => (if t131 = t132 then ((num_Ceil.f k a0 a1).bind fun t133 => ((chainmanref01_Ceil.f a0 a1).bind fun t134 => (if t133 = t134 then ((num_Hold.f k a0 a1 a2).bind fun t135 => ((chainmanref01_Hold.f a0 a1 a2).bind fun t136 => (if t135 = t136 then ((num_Add.f k a0 a1 a2).bind fun t137 => ((chainmanref01_Add.f k a0 a1 a2).bind fun t138 => (if t137 = t138 then ((num_Mul.f k a0 a1 a2).bind fun t139 => ((chainmanref01_Mul.f k a0 a1 a2).bind fun t140 => (if t139 = t140 then ((num_Root.f k a0).bind fun t141 => ((chainmanref01_Root.f k a0).bind fun t142 => (if t141 = t142 then ((chainmanlaw01_awake.f k).bind fun t143 => (some t143)) else (none)))) else (none)))) else (none)))) else (none)))) else (none)))) else (none)))) else (none))) = some r := H
  have A4 := Aside0.mk A40
  clear A40
  replace H := Option.bind_eq_some_iff.mp H
  obtain ⟨t130, A50, H⟩ := H
  replace H : (if t129 = t130 then ((num_Rest.f a0 a1).bind fun t131 => ((chainmanref01_Rest.f a0 a1).bind fun t132 => (if t131 = t132 then ((num_Ceil.f k a0 a1).bind fun t133 => ((chainmanref01_Ceil.f a0 a1).bind fun t134 => (if t133 = t134 then ((num_Hold.f k a0 a1 a2).bind fun t135 => ((chainmanref01_Hold.f a0 a1 a2).bind fun t136 => (if t135 = t136 then ((num_Add.f k a0 a1 a2).bind fun t137 => ((chainmanref01_Add.f k a0 a1 a2).bind fun t138 => (if t137 = t138 then ((num_Mul.f k a0 a1 a2).bind fun t139 => ((chainmanref01_Mul.f k a0 a1 a2).bind fun t140 => (if t139 = t140 then ((num_Root.f k a0).bind fun t141 => ((chainmanref01_Root.f k a0).bind fun t142 => (if t141 = t142 then ((chainmanlaw01_awake.f k).bind fun t143 => (some t143)) else (none)))) else (none)))) else (none)))) else (none)))) else (none)))) else (none)))) else (none)) = some r := H
  have A5 := Aside0.mk A50
  clear A50
  by_cases c6 : t129 = t130
  · rw [if_pos c6] at H
    have c6b0 : (t129 == t130) = true := beq_iff_eq.mpr c6
    have c6b1 : (t129 != t130) = false := bne_eq_false_iff_eq.mpr c6
    clear c6
    replace H := Option.bind_eq_some_iff.mp H
    obtain ⟨t131, A70, H⟩ := H
    replace H : ((chainmanref01_Rest.f a0 a1).bind fun t132 => (if t131 = t132 then ((num_Ceil.f k a0 a1).bind fun t133 => ((chainmanref01_Ceil.f a0 a1).bind fun t134 => (if t133 = t134 then ((num_Hold.f k a0 a1 a2).bind fun t135 => ((chainmanref01_Hold.f a0 a1 a2).bind fun t136 => (if t135 = t136 then ((num_Add.f k a0 a1 a2).bind fun t137 => ((chainmanref01_Add.f k a0 a1 a2).bind fun t138 => (if t137 = t138 then ((num_Mul.f k a0 a1 a2).bind fun t139 => ((chainmanref01_Mul.f k a0 a1 a2).bind fun t140 => (if t139 = t140 then ((num_Root.f k a0).bind fun t141 => ((chainmanref01_Root.f k a0).bind fun t142 => (if t141 = t142 then ((chainmanlaw01_awake.f k).bind fun t143 => (some t143)) else (none)))) else (none)))) else (none)))) else (none)))) else (none)))) else (none))) = some r := H
    have A7 := Aside0.mk A70
    clear A70
    replace H := Option.bind_eq_some_iff.mp H
    obtain ⟨t132, A80, H⟩ := H
    replace H : (if t131 = t132 then ((num_Ceil.f k a0 a1).bind fun t133 => ((chainmanref01_Ceil.f a0 a1).bind fun t134 => (if t133 = t134 then ((num_Hold.f k a0 a1 a2).bind fun t135 => ((chainmanref01_Hold.f a0 a1 a2).bind fun t136 => (if t135 = t136 then ((num_Add.f k a0 a1 a2).bind fun t137 => ((chainmanref01_Add.f k a0 a1 a2).bind fun t138 => (if t137 = t138 then ((num_Mul.f k a0 a1 a2).bind fun t139 => ((chainmanref01_Mul.f k a0 a1 a2).bind fun t140 => (if t139 = t140 then ((num_Root.f k a0).bind fun t141 => ((chainmanref01_Root.f k a0).bind fun t142 => (if t141 = t142 then ((chainmanlaw01_awake.f k).bind fun t143 => (some t143)) else (none)))) else (none)))) else (none)))) else (none)))) else (none)))) else (none)) = some r := H
    have A8 := Aside0.mk A80
    clear A80
    by_cases c9 : t131 = t132
    · rw [if_pos c9] at H
      have c9b0 : (t131 == t132) = true := beq_iff_eq.mpr c9
      have c9b1 : (t131 != t132) = false := bne_eq_false_iff_eq.mpr c9
      clear c9
      replace H := Option.bind_eq_some_iff.mp H
      obtain ⟨t133, A100, H⟩ := H
      replace H : ((chainmanref01_Ceil.f a0 a1).bind fun t134 => (if t133 = t134 then ((num_Hold.f k a0 a1 a2).bind fun t135 => ((chainmanref01_Hold.f a0 a1 a2).bind fun t136 => (if t135 = t136 then ((num_Add.f k a0 a1 a2).bind fun t137 => ((chainmanref01_Add.f k a0 a1 a2).bind fun t138 => (if t137 = t138 then ((num_Mul.f k a0 a1 a2).bind fun t139 => ((chainmanref01_Mul.f k a0 a1 a2).bind fun t140 => (if t139 = t140 then ((num_Root.f k a0).bind fun t141 => ((chainmanref01_Root.f k a0).bind fun t142 => (if t141 = t142 then ((chainmanlaw01_awake.f k).bind fun t143 => (some t143)) else (none)))) else (none)))) else (none)))) else (none)))) else (none))) = some r := H
      have A10 := Aside0.mk A100
      clear A100
      replace H := Option.bind_eq_some_iff.mp H
      obtain ⟨t134, A110, H⟩ := H
      replace H : (if t133 = t134 then ((num_Hold.f k a0 a1 a2).bind fun t135 => ((chainmanref01_Hold.f a0 a1 a2).bind fun t136 => (if t135 = t136 then ((num_Add.f k a0 a1 a2).bind fun t137 => ((chainmanref01_Add.f k a0 a1 a2).bind fun t138 => (if t137 = t138 then ((num_Mul.f k a0 a1 a2).bind fun t139 => ((chainmanref01_Mul.f k a0 a1 a2).bind fun t140 => (if t139 = t140 then ((num_Root.f k a0).bind fun t141 => ((chainmanref01_Root.f k a0).bind fun t142 => (if t141 = t142 then ((chainmanlaw01_awake.f k).bind fun t143 => (some t143)) else (none)))) else (none)))) else (none)))) else (none)))) else (none)) = some r := H
      have A11 := Aside0.mk A110
      clear A110
      by_cases c12 : t133 = t134
      · rw [if_pos c12] at H
        have c12b0 : (t133 == t134) = true := beq_iff_eq.mpr c12
        have c12b1 : (t133 != t134) = false := bne_eq_false_iff_eq.mpr c12
        clear c12
        replace H := Option.bind_eq_some_iff.mp H
        obtain ⟨t135, A130, H⟩ := H
        replace H : ((chainmanref01_Hold.f a0 a1 a2).bind fun t136 => (if t135 = t136 then ((num_Add.f k a0 a1 a2).bind fun t137 => ((chainmanref01_Add.f k a0 a1 a2).bind fun t138 => (if t137 = t138 then ((num_Mul.f k a0 a1 a2).bind fun t139 => ((chainmanref01_Mul.f k a0 a1 a2).bind fun t140 => (if t139 = t140 then ((num_Root.f k a0).bind fun t141 => ((chainmanref01_Root.f k a0).bind fun t142 => (if t141 = t142 then ((chainmanlaw01_awake.f k).bind fun t143 => (some t143)) else (none)))) else (none)))) else (none)))) else (none))) = some r := H
        have A13 := Aside0.mk A130
        clear A130
        replace H := Option.bind_eq_some_iff.mp H
        obtain ⟨t136, A140, H⟩ := H
        replace H : (if t135 = t136 then ((num_Add.f k a0 a1 a2).bind fun t137 => ((chainmanref01_Add.f k a0 a1 a2).bind fun t138 => (if t137 = t138 then ((num_Mul.f k a0 a1 a2).bind fun t139 => ((chainmanref01_Mul.f k a0 a1 a2).bind fun t140 => (if t139 = t140 then ((num_Root.f k a0).bind fun t141 => ((chainmanref01_Root.f k a0).bind fun t142 => (if t141 = t142 then ((chainmanlaw01_awake.f k).bind fun t143 => (some t143)) else (none)))) else (none)))) else (none)))) else (none)) = some r := H
        have A14 := Aside0.mk A140
        clear A140
        by_cases c15 : t135 = t136
        · rw [if_pos c15] at H
          have c15b0 : (t135 == t136) = true := beq_iff_eq.mpr c15
          have c15b1 : (t135 != t136) = false := bne_eq_false_iff_eq.mpr c15
          clear c15
          replace H := Option.bind_eq_some_iff.mp H
          obtain ⟨t137, A160, H⟩ := H
          replace H : ((chainmanref01_Add.f k a0 a1 a2).bind fun t138 => (if t137 = t138 then ((num_Mul.f k a0 a1 a2).bind fun t139 => ((chainmanref01_Mul.f k a0 a1 a2).bind fun t140 => (if t139 = t140 then ((num_Root.f k a0).bind fun t141 => ((chainmanref01_Root.f k a0).bind fun t142 => (if t141 = t142 then ((chainmanlaw01_awake.f k).bind fun t143 => (some t143)) else (none)))) else (none)))) else (none))) = some r := H
          have A16 := Aside0.mk A160
          clear A160
          replace H := Option.bind_eq_some_iff.mp H
          obtain ⟨t138, A170, H⟩ := H
          replace H : (if t137 = t138 then ((num_Mul.f k a0 a1 a2).bind fun t139 => ((chainmanref01_Mul.f k a0 a1 a2).bind fun t140 => (if t139 = t140 then ((num_Root.f k a0).bind fun t141 => ((chainmanref01_Root.f k a0).bind fun t142 => (if t141 = t142 then ((chainmanlaw01_awake.f k).bind fun t143 => (some t143)) else (none)))) else (none)))) else (none)) = some r := H
          have A17 := Aside0.mk A170
          clear A170
          by_cases c18 : t137 = t138
          · rw [if_pos c18] at H
            have c18b0 : (t137 == t138) = true := beq_iff_eq.mpr c18
            have c18b1 : (t137 != t138) = false := bne_eq_false_iff_eq.mpr c18
            clear c18
            replace H := Option.bind_eq_some_iff.mp H
            obtain ⟨t139, A190, H⟩ := H
            replace H : ((chainmanref01_Mul.f k a0 a1 a2).bind fun t140 => (if t139 = t140 then ((num_Root.f k a0).bind fun t141 => ((chainmanref01_Root.f k a0).bind fun t142 => (if t141 = t142 then ((chainmanlaw01_awake.f k).bind fun t143 => (some t143)) else (none)))) else (none))) = some r := H
            have A19 := Aside0.mk A190
            clear A190
            replace H := Option.bind_eq_some_iff.mp H
            obtain ⟨t140, A200, H⟩ := H
            replace H : (if t139 = t140 then ((num_Root.f k a0).bind fun t141 => ((chainmanref01_Root.f k a0).bind fun t142 => (if t141 = t142 then ((chainmanlaw01_awake.f k).bind fun t143 => (some t143)) else (none)))) else (none)) = some r := H
            have A20 := Aside0.mk A200
            clear A200
            by_cases c21 : t139 = t140
            · rw [if_pos c21] at H
              have c21b0 : (t139 == t140) = true := beq_iff_eq.mpr c21
              have c21b1 : (t139 != t140) = false := bne_eq_false_iff_eq.mpr c21
              clear c21
              replace H := Option.bind_eq_some_iff.mp H
              obtain ⟨t141, A220, H⟩ := H
              replace H : ((chainmanref01_Root.f k a0).bind fun t142 => (if t141 = t142 then ((chainmanlaw01_awake.f k).bind fun t143 => (some t143)) else (none))) = some r := H
              have A22 := Aside0.mk A220
              clear A220
              replace H := Option.bind_eq_some_iff.mp H
              obtain ⟨t142, A230, H⟩ := H
              replace H : (if t141 = t142 then ((chainmanlaw01_awake.f k).bind fun t143 => (some t143)) else (none)) = some r := H
              have A23 := Aside0.mk A230
              clear A230
              by_cases c24 : t141 = t142
              · rw [if_pos c24] at H
                have c24b0 : (t141 == t142) = true := beq_iff_eq.mpr c24
                have c24b1 : (t141 != t142) = false := bne_eq_false_iff_eq.mpr c24
                clear c24
                replace H := Option.bind_eq_some_iff.mp H
                obtain ⟨t143, A250, H⟩ := H
                replace H : (some t143) = some r := H
                have A25 := Aside0.mk A250
                clear A250
                obtain rfl := Option.some.inj H
                go_enter Try.func7, Try.ntmps7
                go_wp2_with (first | ((with_reducible refine gate_callee (f := 27) rfl ?_); refine goesL_ (some 9) rfl rfl Try.func27 (by kernel_rfl) rfl #[.int .i64 a0, .int .i64 a1] rfl (by (try simp only [List.map_toArray, List.map_cons, List.map_nil]); first | done | rfl | (simp only [List.length_drop, List.length_take]; rfl)) ?_; (with_reducible refine (num_Floor.calls a0 a1 t129 _ A4.out).mono ?_); rintro e w' ⟨rfl, ⟨nd, rfl⟩⟩; refine ⟨_, rfl, ?_⟩) | (go_at_call 27; refine calls_of_args (args' := #[.int .i64 a0, .int .i64 a1]) (by first | rfl) ?_; (with_reducible refine (num_Floor.calls a0 a1 t129 _ A4.out).mono ?_); rintro e w' ⟨rfl, ⟨nd, rfl⟩⟩) | ((with_reducible refine gate_callee (f := 30) rfl ?_); refine goesL_ (some 12) rfl rfl Try.func30 (by kernel_rfl) rfl #[.int .i64 a0, .int .i64 a1] rfl (by (try simp only [List.map_toArray, List.map_cons, List.map_nil]); first | done | rfl | (simp only [List.length_drop, List.length_take]; rfl)) ?_; (with_reducible refine (chainmanref01_Floor.calls a0 a1 t130 _ A5.out).mono ?_); rintro e w' ⟨rfl, ⟨nd, rfl⟩⟩; refine ⟨_, rfl, ?_⟩) | (go_at_call 30; refine calls_of_args (args' := #[.int .i64 a0, .int .i64 a1]) (by first | rfl) ?_; (with_reducible refine (chainmanref01_Floor.calls a0 a1 t130 _ A5.out).mono ?_); rintro e w' ⟨rfl, ⟨nd, rfl⟩⟩) | (go_at_call 28; (with_reducible refine (num_Rest.calls a0 a1 t131 _ A7.out).mono ?_); rintro e w' ⟨rfl, ⟨nd, rfl⟩⟩) | (go_at_call 28; refine calls_of_args (args' := #[.int .i64 a0, .int .i64 a1]) (by first | rfl) ?_; (with_reducible refine (num_Rest.calls a0 a1 t131 _ A7.out).mono ?_); rintro e w' ⟨rfl, ⟨nd, rfl⟩⟩) | (go_at_call 31; (with_reducible refine (chainmanref01_Rest.calls a0 a1 t132 _ A8.out).mono ?_); rintro e w' ⟨rfl, ⟨nd, rfl⟩⟩) | (go_at_call 31; refine calls_of_args (args' := #[.int .i64 a0, .int .i64 a1]) (by first | rfl) ?_; (with_reducible refine (chainmanref01_Rest.calls a0 a1 t132 _ A8.out).mono ?_); rintro e w' ⟨rfl, ⟨nd, rfl⟩⟩) | (go_at_call 29; (with_reducible refine (num_Ceil.calls k a0 a1 t133 _ A10.out).mono ?_); rintro e w' ⟨rfl, ⟨nd, rfl⟩⟩) | (go_at_call 29; refine calls_of_args (args' := #[.int .i64 a0, .int .i64 a1]) (by first | rfl) ?_; (with_reducible refine (num_Ceil.calls k a0 a1 t133 _ A10.out).mono ?_); rintro e w' ⟨rfl, ⟨nd, rfl⟩⟩) | (go_at_call 32; (with_reducible refine (chainmanref01_Ceil.calls a0 a1 t134 _ A11.out).mono ?_); rintro e w' ⟨rfl, ⟨nd, rfl⟩⟩) | (go_at_call 32; refine calls_of_args (args' := #[.int .i64 a0, .int .i64 a1]) (by first | rfl) ?_; (with_reducible refine (chainmanref01_Ceil.calls a0 a1 t134 _ A11.out).mono ?_); rintro e w' ⟨rfl, ⟨nd, rfl⟩⟩) | (go_at_call 33; (with_reducible refine (num_Hold.calls k a0 a1 a2 t135 _ A13.out).mono ?_); rintro e w26 ⟨rfl, hb⟩; have n0_ := Aside0.mk (below_step (by repeat (first | (with_reducible first | exact HB.out | apply below_alloc | apply pw_below_drewN | apply below_drew1) | exact HB.out)) hb); clear HB; have HB := n0_; clear n0_; (try clear hb); (try clear hb2); (try clear hk); (try clear hi)) | (go_at_call 34; (with_reducible refine (chainmanref01_Hold.calls a0 a1 a2 t136 _ A14.out).mono ?_); rintro e w' ⟨rfl, ⟨nd, rfl⟩⟩) | (go_at_call 34; refine calls_of_args (args' := #[.int .i64 a0, .int .i64 a1, .int .i64 a2]) (by first | rfl) ?_; (with_reducible refine (chainmanref01_Hold.calls a0 a1 a2 t136 _ A14.out).mono ?_); rintro e w' ⟨rfl, ⟨nd, rfl⟩⟩) | (go_at_call 35; (with_reducible refine (num_Add.calls k a0 a1 a2 t137 _ A16.out).mono ?_); rintro e w27 ⟨rfl, hb⟩; have n0_ := Aside0.mk (below_step (by repeat (first | (with_reducible first | exact HB.out | apply below_alloc | apply pw_below_drewN | apply below_drew1) | exact HB.out)) hb); clear HB; have HB := n0_; clear n0_; (try clear hb); (try clear hb2); (try clear hk); (try clear hi)) | (go_at_call 36; (with_reducible refine (chainmanref01_Add.calls k a0 a1 a2 t138 _ A17.out).mono ?_); rintro e w' ⟨rfl, ⟨nd, rfl⟩⟩) | (go_at_call 36; refine calls_of_args (args' := #[.int .i64 a0, .int .i64 a1, .int .i64 a2]) (by first | rfl) ?_; (with_reducible refine (chainmanref01_Add.calls k a0 a1 a2 t138 _ A17.out).mono ?_); rintro e w' ⟨rfl, ⟨nd, rfl⟩⟩) | (go_at_call 37; (with_reducible refine (num_Mul.calls k a0 a1 a2 t139 _ A19.out).mono ?_); rintro e w28 ⟨rfl, hb⟩; have n0_ := Aside0.mk (below_step (by repeat (first | (with_reducible first | exact HB.out | apply below_alloc | apply pw_below_drewN | apply below_drew1) | exact HB.out)) hb); clear HB; have HB := n0_; clear n0_; (try clear hb); (try clear hb2); (try clear hk); (try clear hi)) | (go_at_call 38; (with_reducible refine (chainmanref01_Mul.calls k a0 a1 a2 t140 _ A20.out).mono ?_); rintro e w' ⟨rfl, ⟨nd, rfl⟩⟩) | (go_at_call 38; refine calls_of_args (args' := #[.int .i64 a0, .int .i64 a1, .int .i64 a2]) (by first | rfl) ?_; (with_reducible refine (chainmanref01_Mul.calls k a0 a1 a2 t140 _ A20.out).mono ?_); rintro e w' ⟨rfl, ⟨nd, rfl⟩⟩) | (go_at_call 39; (with_reducible refine (num_Root.calls k a0 t141 _ A22.out).mono ?_); rintro e w' ⟨rfl, ⟨nd, rfl⟩⟩) | (go_at_call 39; refine calls_of_args (args' := #[.int .i64 a0]) (by first | rfl) ?_; (with_reducible refine (num_Root.calls k a0 t141 _ A22.out).mono ?_); rintro e w' ⟨rfl, ⟨nd, rfl⟩⟩) | (go_at_call 40; (with_reducible refine (chainmanref01_Root.calls k a0 t142 _ A23.out).mono ?_); rintro e w' ⟨rfl, ⟨nd, rfl⟩⟩) | (go_at_call 40; refine calls_of_args (args' := #[.int .i64 a0]) (by first | rfl) ?_; (with_reducible refine (chainmanref01_Root.calls k a0 t142 _ A23.out).mono ?_); rintro e w' ⟨rfl, ⟨nd, rfl⟩⟩) | (go_at_call 26; (with_reducible refine (chainmanlaw01_awake.calls k  t143 _ A25.out).mono ?_); rintro e w29 ⟨rfl, hb⟩; have n0_ := Aside0.mk (below_step (by repeat (first | (with_reducible first | exact HB.out | apply below_alloc | apply pw_below_drewN | apply below_drew1) | exact HB.out)) hb); clear HB; have HB := n0_; clear n0_; (try clear hb); (try clear hb2); (try clear hk); (try clear hi)))
                go_ret
                exact ⟨by first | rfl | (simp [errW_none, errW_some] <;> rfl) | (simp [*, errW_none, errW_some] <;> rfl), by repeat (first | (with_reducible first | exact HB.out | apply below_alloc | apply pw_below_drewN | apply below_drew1) | exact HB.out)⟩
              · rw [if_neg c24] at H
                exact absurd H (by simp)
            · rw [if_neg c21] at H
              exact absurd H (by simp)
          · rw [if_neg c18] at H
            exact absurd H (by simp)
        · rw [if_neg c15] at H
          exact absurd H (by simp)
      · rw [if_neg c12] at H
        exact absurd H (by simp)
    · rw [if_neg c9] at H
      exact absurd H (by simp)
  · rw [if_neg c6] at H
    exact absurd H (by simp)

/-- THE ONE PURE STATEMENT of chainmanlaw01_NumTells: yours. -/
def chainmanlaw01_NumTells.Pure : Prop := ∀ (a0 : Int) (a1 : Int) (a2 : Int), (Lit.int .i64 a0).wf = true → (Lit.int .i64 a1).wf = true → (Lit.int .i64 a2).wf = true → ∃ k, chainmanlaw01_NumTells.f k a0 a1 a2 = some true
theorem chainmanlaw01_NumTells.walk (P : chainmanlaw01_NumTells.Pure) (a0 : Int) (a1 : Int) (a2 : Int) (w : World) (w0 : (Lit.int .i64 a0).wf = true) (w1 : (Lit.int .i64 a1).wf = true) (w2 : (Lit.int .i64 a2).wf = true) :
    Calls Try.prog 7 #[.int .i64 a0, .int .i64 a1, .int .i64 a2] w fun e w' => e = .returned (.bool true) ∧ Below w.heap.size w w' := by
  obtain ⟨k, h⟩ := P a0 a1 a2 w0 w1 w2
  refine (chainmanlaw01_NumTells.calls k a0 a1 a2 true w h).mono ?_
  rintro e w' ⟨rfl, hd⟩
  exact ⟨rfl, hd⟩

end Go.Proofs.Ytgpgekjhpkakbaa.PNumTells
