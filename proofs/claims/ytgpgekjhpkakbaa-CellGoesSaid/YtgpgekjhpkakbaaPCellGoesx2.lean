/- The Go functions that the law reaches, as plain Lean functions, and proofs that the calls of the machine come to them, or the row of the law over them, for every input that the row speaks of; written by a program of this session (wip/tool/mkprint.py) out of the translation and of hand-made templates. -/
import Derived.Test.YtgpgekjhpkakbaaPCellGoesx0
import Derived.Test.YtgpgekjhpkakbaaPCellGoesx1
namespace Go.Proofs.Ytgpgekjhpkakbaa.PCellGoes
open Go.RowKit Go.Proofs.YtgpgekjhpkakbaaW.PrintWords Go.Proofs.YtgpgekjhpkakbaaW.PrintLast Go.Proofs.YtgpgekjhpkakbaaW.PrintMore
attribute [local go_sem] max2_int min2_int max_two min_two max_three min_three max_four min_four   -- for this text's walks alone
set_option linter.unusedVariables false
set_option linter.unusedSimpArgs false

attribute [local go_sem high] eqA23
/-! ### cell_wide: function 76 -/
def cell_wide.f (a0 : Int) : Option (Bool) := if a0 ≥ 1 then (some (decide (a0 ≤ 2147483648))) else (some false)
set_option maxHeartbeats 8000000 in
set_option maxRecDepth 100000 in
theorem cell_wide.calls (a0 : Int) (r : Bool) (w : World) (h : cell_wide.f a0 = some r) :
    Calls Try.prog 76 #[.int .i64 a0] w fun e w' => e = .returned (.bool r) ∧ Drawn0 w w' := by
  have H : (if a0 ≥ 1 then (some (decide (a0 ≤ 2147483648))) else (some false)) = some r := h
  clear h
  by_cases c2 : a0 ≥ 1
  · rw [if_pos c2] at H
    have c2b0 : decide (1 ≤ a0) = true := decide_eq_true c2
    clear c2
    obtain rfl := Option.some.inj H
    go_enter Try.func76, Try.ntmps76
    go_wp2
    go_ret
    exact ⟨by first | rfl | (simp; done) | (simp [*]; done), by repeat (first | exact Drawn0.refl _ | apply Drawn0.step)⟩
  · rw [if_neg c2] at H
    have c2b0 : decide (1 ≤ a0) = false := decide_eq_false c2
    clear c2
    obtain rfl := Option.some.inj H
    go_enter Try.func76, Try.ntmps76
    go_wp2
    go_ret
    exact ⟨by first | rfl | (simp; done) | (simp [*]; done), by repeat (first | exact Drawn0.refl _ | apply Drawn0.step)⟩

/-! ### cell_Fits: function 22 -/
def cell_Fits.f (a0 : Int) (a1 : Int) : Option (Bool) := (cell_wide.f a1).bind fun t101 => (if t101 = true then (if a0 ≥ 0 then (if a0 ≤ 4611686018427387904 then (some (decide ((wrap64 (a1 * a1)) ≥ a0))) else (some false)) else (some false)) else (some false))
set_option maxHeartbeats 8000000 in
set_option maxRecDepth 100000 in
theorem cell_Fits.calls (a0 : Int) (a1 : Int) (r : Bool) (w : World) (h : cell_Fits.f a0 a1 = some r) :
    Calls Try.prog 22 #[.int .i64 a0, .int .i64 a1] w fun e w' => e = .returned (.bool r) ∧ Drawn0 w w' := by
  have H : ((cell_wide.f a1).bind fun t101 => (if t101 = true then (if a0 ≥ 0 then (if a0 ≤ 4611686018427387904 then (some (decide ((wrap64 (a1 * a1)) ≥ a0))) else (some false)) else (some false)) else (some false))) = some r := h
  clear h
  replace H := Option.bind_eq_some_iff.mp H
  obtain ⟨t101, A30, H⟩ := H
  replace H : (if t101 = true then (if a0 ≥ 0 then (if a0 ≤ 4611686018427387904 then (some (decide ((wrap64 (a1 * a1)) ≥ a0))) else (some false)) else (some false)) else (some false)) = some r := H
  have A3 := Aside0.mk A30
  clear A30
  by_cases c4 : t101 = true
  · subst c4
    have H1 : (if a0 ≥ 0 then (if a0 ≤ 4611686018427387904 then (some (decide ((wrap64 (a1 * a1)) ≥ a0))) else (some false)) else (some false)) = some r := by rw [if_pos rfl] at H; exact H
    clear H
    have H := H1
    clear H1
    by_cases c5 : a0 ≥ 0
    · rw [if_pos c5] at H
      have c5b0 : decide (0 ≤ a0) = true := decide_eq_true c5
      clear c5
      by_cases c6 : a0 ≤ 4611686018427387904
      · rw [if_pos c6] at H
        have c6b0 : decide (a0 ≤ 4611686018427387904) = true := decide_eq_true c6
        clear c6
        obtain rfl := Option.some.inj H
        go_enter Try.func22, Try.ntmps22
        go_wp2_with (first | ((with_reducible refine gate_callee (f := 76) rfl ?_); refine goesL_ (some 6) rfl rfl Try.func76 (by kernel_rfl) rfl #[.int .i64 a1] rfl (by (try simp only [List.map_toArray, List.map_cons, List.map_nil]); first | done | rfl | (simp only [List.length_drop, List.length_take]; rfl)) ?_; (with_reducible refine (cell_wide.calls a1 true _ A3.out).mono ?_); rintro e w' ⟨rfl, ⟨nd, rfl⟩⟩; refine ⟨_, rfl, ?_⟩) | (go_at_call 76; refine calls_of_args (args' := #[.int .i64 a1]) (by first | rfl) ?_; (with_reducible refine (cell_wide.calls a1 true _ A3.out).mono ?_); rintro e w' ⟨rfl, ⟨nd, rfl⟩⟩))
        go_ret
        exact ⟨by first | rfl | (simp; done) | (simp [*]; done), by repeat (first | exact Drawn0.refl _ | apply Drawn0.step)⟩
      · rw [if_neg c6] at H
        have c6b0 : decide (a0 ≤ 4611686018427387904) = false := decide_eq_false c6
        clear c6
        obtain rfl := Option.some.inj H
        go_enter Try.func22, Try.ntmps22
        go_wp2_with (first | ((with_reducible refine gate_callee (f := 76) rfl ?_); refine goesL_ (some 6) rfl rfl Try.func76 (by kernel_rfl) rfl #[.int .i64 a1] rfl (by (try simp only [List.map_toArray, List.map_cons, List.map_nil]); first | done | rfl | (simp only [List.length_drop, List.length_take]; rfl)) ?_; (with_reducible refine (cell_wide.calls a1 true _ A3.out).mono ?_); rintro e w' ⟨rfl, ⟨nd, rfl⟩⟩; refine ⟨_, rfl, ?_⟩) | (go_at_call 76; refine calls_of_args (args' := #[.int .i64 a1]) (by first | rfl) ?_; (with_reducible refine (cell_wide.calls a1 true _ A3.out).mono ?_); rintro e w' ⟨rfl, ⟨nd, rfl⟩⟩))
        go_ret
        exact ⟨by first | rfl | (simp; done) | (simp [*]; done), by repeat (first | exact Drawn0.refl _ | apply Drawn0.step)⟩
    · rw [if_neg c5] at H
      have c5b0 : decide (0 ≤ a0) = false := decide_eq_false c5
      clear c5
      obtain rfl := Option.some.inj H
      go_enter Try.func22, Try.ntmps22
      go_wp2_with (first | ((with_reducible refine gate_callee (f := 76) rfl ?_); refine goesL_ (some 6) rfl rfl Try.func76 (by kernel_rfl) rfl #[.int .i64 a1] rfl (by (try simp only [List.map_toArray, List.map_cons, List.map_nil]); first | done | rfl | (simp only [List.length_drop, List.length_take]; rfl)) ?_; (with_reducible refine (cell_wide.calls a1 true _ A3.out).mono ?_); rintro e w' ⟨rfl, ⟨nd, rfl⟩⟩; refine ⟨_, rfl, ?_⟩) | (go_at_call 76; refine calls_of_args (args' := #[.int .i64 a1]) (by first | rfl) ?_; (with_reducible refine (cell_wide.calls a1 true _ A3.out).mono ?_); rintro e w' ⟨rfl, ⟨nd, rfl⟩⟩))
      go_ret
      exact ⟨by first | rfl | (simp; done) | (simp [*]; done), by repeat (first | exact Drawn0.refl _ | apply Drawn0.step)⟩
  · replace c4 := Bool.eq_false_iff.mpr c4
    subst c4
    have H1 : (some false) = some r := by rw [if_neg (show ¬ (false = true) by decide)] at H; exact H
    clear H
    have H := H1
    clear H1
    obtain rfl := Option.some.inj H
    go_enter Try.func22, Try.ntmps22
    go_wp2_with (first | ((with_reducible refine gate_callee (f := 76) rfl ?_); refine goesL_ (some 6) rfl rfl Try.func76 (by kernel_rfl) rfl #[.int .i64 a1] rfl (by (try simp only [List.map_toArray, List.map_cons, List.map_nil]); first | done | rfl | (simp only [List.length_drop, List.length_take]; rfl)) ?_; (with_reducible refine (cell_wide.calls a1 false _ A3.out).mono ?_); rintro e w' ⟨rfl, ⟨nd, rfl⟩⟩; refine ⟨_, rfl, ?_⟩) | (go_at_call 76; refine calls_of_args (args' := #[.int .i64 a1]) (by first | rfl) ?_; (with_reducible refine (cell_wide.calls a1 false _ A3.out).mono ?_); rintro e w' ⟨rfl, ⟨nd, rfl⟩⟩))
    go_ret
    exact ⟨by first | rfl | (simp; done) | (simp [*]; done), by repeat (first | exact Drawn0.refl _ | apply Drawn0.step)⟩

/-! ### num_Floor: function 27 -/
def num_Floor.f (a0 : Int) (a1 : Int) : Option (Int) := if a1 < 1 then (some 0) else (if a1 = 0 then (none) else (if (wrap64 ((wrap64 (Int.tdiv a0 a1)) * a1)) > a0 then (some (wrap64 ((wrap64 (Int.tdiv a0 a1)) - 1))) else (some (wrap64 (Int.tdiv a0 a1)))))
set_option maxHeartbeats 8000000 in
set_option maxRecDepth 100000 in
theorem num_Floor.calls (a0 : Int) (a1 : Int) (r : Int) (w : World) (h : num_Floor.f a0 a1 = some r) :
    Calls Try.prog 27 #[.int .i64 a0, .int .i64 a1] w fun e w' => e = .returned (.int .i64 r) ∧ Drawn0 w w' := by
  have H : (if a1 < 1 then (some 0) else (if a1 = 0 then (none) else (if (wrap64 ((wrap64 (Int.tdiv a0 a1)) * a1)) > a0 then (some (wrap64 ((wrap64 (Int.tdiv a0 a1)) - 1))) else (some (wrap64 (Int.tdiv a0 a1)))))) = some r := h
  clear h
  by_cases c3 : a1 < 1
  · rw [if_pos c3] at H
    have c3b0 : decide (a1 < 1) = true := decide_eq_true c3
    clear c3
    obtain rfl := Option.some.inj H
    go_enter Try.func27, Try.ntmps27
    go_wp2
    go_ret
    exact ⟨by first | rfl | (simp; done) | (simp [*]; done), by repeat (first | exact Drawn0.refl _ | apply Drawn0.step)⟩
  · rw [if_neg c3] at H
    have c3b0 : decide (a1 < 1) = false := decide_eq_false c3
    clear c3
    by_cases c4 : a1 = 0
    · rw [if_pos c4] at H
      exact absurd H (by simp)
    · rw [if_neg c4] at H
      have c4b0 : (a1 == 0) = false := beq_eq_false_iff_ne.mpr c4
      have c4b1 : (a1 != 0) = true := bne_iff_ne.mpr c4
      by_cases c5 : (wrap64 ((wrap64 (Int.tdiv a0 a1)) * a1)) > a0
      · rw [if_pos c5] at H
        have c5b0 : decide (a0 < (wrap64 ((wrap64 (Int.tdiv a0 a1)) * a1))) = true := decide_eq_true c5
        clear c5
        obtain rfl := Option.some.inj H
        go_enter Try.func27, Try.ntmps27
        go_wp2
        go_ret
        exact ⟨by first | rfl | (simp; done) | (simp [*]; done), by repeat (first | exact Drawn0.refl _ | apply Drawn0.step)⟩
      · rw [if_neg c5] at H
        have c5b0 : decide (a0 < (wrap64 ((wrap64 (Int.tdiv a0 a1)) * a1))) = false := decide_eq_false c5
        clear c5
        obtain rfl := Option.some.inj H
        go_enter Try.func27, Try.ntmps27
        go_wp2
        go_ret
        exact ⟨by first | rfl | (simp; done) | (simp [*]; done), by repeat (first | exact Drawn0.refl _ | apply Drawn0.step)⟩

/-! ### dist_Right: function 77 -/
def dist_Right.isfar (x : Int) : Bool := decide (x < -16777215) || decide (16777215 < x)
def dist_Right.f (l0 : List Int) : Option Bool := some (decide (0 < l0.length) && decide (l0.length ≤ 4096) && !l0.any dist_Right.isfar)
set_option maxHeartbeats 2000000 in
set_option maxRecDepth 100000 in
theorem dist_Right.far (x : Int) (w : World) : Calls Try.prog 113 #[.int .i64 x] w fun e w' => e = .returned (.bool (dist_Right.isfar x)) ∧ Drawn0 w w' := by
  unfold dist_Right.isfar
  by_cases h1 : x < -16777215
  · have b1 : decide (x < -16777215) = true := decide_eq_true h1
    rw [b1]
    clear h1
    go_enter Try.func113, Try.ntmps113
    go_wp2
    go_ret
    exact ⟨rfl, by repeat (first | exact Drawn0.refl _ | apply Drawn0.step)⟩
  · have b1 : decide (x < -16777215) = false := decide_eq_false h1
    rw [b1, Bool.false_or]
    clear h1
    go_enter Try.func113, Try.ntmps113
    go_wp2
    go_ret
    exact ⟨rfl, by repeat (first | exact Drawn0.refl _ | apply Drawn0.step)⟩
set_option maxHeartbeats 4000000 in
set_option maxRecDepth 100000 in
theorem dist_Right.index (A0 : Option Addr) (c0 : Nat) (l0 : List Int) (w : World) (hr0 : Kd.C (Kd.int .i64) w A0 l0.length l0) (hc0 : l0.length ≤ c0) :
    Calls Try.prog 123 #[.slice A0 l0.length c0, .func (.func 113) #[] #[]] w fun e w' => (∃ r : Int, e = .returned (.int .i64 r) ∧ decide (0 ≤ r) = l0.any dist_Right.isfar) ∧ Below w.heap.size w w' := by
  have HR := Aside0.mk hr0
  have HM := Aside0.mk (Kd.C_max hr0)
  clear hr0
  go_enter Try.func123, Try.ntmps123
  go_wp2
  go_loopg [5, 8] l0.length (fun gg _ s8 wr => ∃ x : Int, Aside0 (0 ≤ x ∧ x ≤ (l0.length : Int) ∧ l0.length - x.toNat ≤ gg) ∧ s8 = .int .i64 x ∧ Aside0 (Below w.heap.size w wr) ∧ Aside0 (∀ j, j < x.toNat → dist_Right.isfar (l0.getD j 0) = false))
  case atStart => exact ⟨0, ⟨by omega, by omega, by omega⟩, rfl, ⟨Below.refl _ w⟩, ⟨fun j hj => absurd hj (Nat.not_lt_zero _)⟩⟩
  case round =>
    obtain ⟨x, HK, rfl, HB, HJ⟩ := hrel
    by_cases hlt : x < (l0.length : Int)
    · have hk0 : 0 ≤ x := HK.out.1
      obtain ⟨ad, ead, hx⟩ := Kd.at_int HR.out x hk0 hlt
      cases ead
      replace hx := (HB.out.cell (World.block_lt_of_cell? w _ hx)).trans hx
      have HY : Aside0 (rd l0 x = l0.getD x.toNat 0) := ⟨rfl⟩
      generalize rd l0 x = y at hx HY
      have HL := Aside0.mk hlt
      replace hk0 := eq_true hk0
      have hlb : decide (x < (l0.length : Int)) = true := decide_eq_true hlt
      replace hlt := eq_true hlt
      have hcall := fun W => dist_Right.far y W
      cases hq : dist_Right.isfar y with
      | true =>
        rw [hq] at hcall
        have HQ := Aside0.mk hq
        clear hq
        go_wp2_with (go_at_call 113; refine (hcall _).mono ?_; rintro e w' ⟨rfl, ⟨nd, rfl⟩⟩)
        go_ret
        refine ⟨⟨_, rfl, ?_⟩, by repeat (first | (with_reducible first | exact HB.out | apply below_alloc | apply pw_below_drewN | apply below_drew1) | exact HB.out)⟩
        have hm : y ∈ l0 := by
          rw [HY.out]
          have : x.toNat < l0.length := by have := HL.out; have := HK.out; omega
          rw [List.getD_eq_getElem?_getD, List.getElem?_eq_getElem this]
          exact List.getElem_mem this
        rw [List.any_eq_true.mpr ⟨y, hm, HQ.out⟩]
        exact decide_eq_true HK.out.1
      | false =>
        rw [hq] at hcall
        have HQ := Aside0.mk hq
        clear hq
        go_wp2_with (go_at_call 113; refine (hcall _).mono ?_; rintro e w' ⟨rfl, ⟨nd, rfl⟩⟩)
        go_roundg (l0.length - (x.toNat + 1))
        case measure => have := HK.out; have := HL.out; omega
        case rel =>
          have := HL.out
          have hm := HM.out
          have hk := HK.out
          have ew : wrap64 (x + 1) = x + 1 := by unfold wrap64; omega
          refine ⟨x + 1, ⟨by omega, by omega, by omega⟩, ?_, ⟨by repeat (first | (with_reducible first | exact HB.out | apply below_alloc | apply pw_below_drewN | apply below_drew1) | exact HB.out)⟩, ⟨fun j hj => ?_⟩⟩
          · simp [i64_w, ew]
          · by_cases e : j = x.toNat
            · subst e
              rw [← HY.out]; exact HQ.out
            · exact HJ.out j (by omega)
    · have hlb : decide (x < (l0.length : Int)) = false := decide_eq_false hlt
      have HL := Aside0.mk hlt
      clear hlt
      go_wp2
      go_ret
      refine ⟨⟨_, rfl, ?_⟩, by repeat (first | (with_reducible first | exact HB.out | apply below_alloc | apply pw_below_drewN | apply below_drew1) | exact HB.out)⟩
      rw [show l0.any dist_Right.isfar = false from List.any_eq_false.mpr fun y hy => ?_]
      · rfl
      · obtain ⟨j, hj, rfl⟩ := List.getElem_of_mem hy
        have := HJ.out j (by have := HL.out; have := HK.out; omega)
        rw [List.getD_eq_getElem?_getD, List.getElem?_eq_getElem hj] at this
        simpa using this
set_option maxHeartbeats 2000000 in
set_option maxRecDepth 100000 in
theorem dist_Right.contains (A0 : Option Addr) (c0 : Nat) (l0 : List Int) (w : World) (hr0 : Kd.C (Kd.int .i64) w A0 l0.length l0) (hc0 : l0.length ≤ c0) :
    Calls Try.prog 114 #[.slice A0 l0.length c0, .func (.func 113) #[] #[]] w fun e w' => e = .returned (.bool (l0.any dist_Right.isfar)) ∧ Below w.heap.size w w' := by
  have hi := dist_Right.index A0 c0 l0 w hr0 hc0
  clear hr0 hc0
  generalize l0.any dist_Right.isfar = q at hi ⊢
  go_enter Try.func114, Try.ntmps114
  go_wp2_with (go_at_call 123; refine hi.mono ?_; rintro e w' ⟨⟨r, rfl, rfl⟩, hb⟩)
  go_ret
  exact ⟨rfl, hb⟩
set_option maxHeartbeats 2000000 in
set_option maxRecDepth 100000 in
theorem dist_Right.calls (A0 : Option Addr) (c0 : Nat) (l0 : List Int) (r : Bool) (w : World) (hr0 : Kd.C (Kd.int .i64) w A0 l0.length l0) (hc0 : l0.length ≤ c0) (h : dist_Right.f l0 = some r) :
    Calls Try.prog 77 #[.slice A0 l0.length c0] w fun e w' => e = .returned (.bool r) ∧ Below w.heap.size w w' := by
  unfold dist_Right.f at h
  obtain rfl := Option.some.inj h
  clear h
  have hi := fun W (hW : Kd.C (Kd.int .i64) W A0 l0.length l0) => dist_Right.contains A0 c0 l0 W hW hc0
  have HR := Aside0.mk hr0
  clear hr0
  have hz : decide (0 < l0.length) = decide ((0 : Int) < (l0.length : Int)) := by simp
  have hz2 : decide (l0.length ≤ 4096) = decide ((l0.length : Int) ≤ 4096) := decide_eq_decide.mpr (by omega)
  rw [hz, hz2]
  clear hz hz2
  generalize l0.any dist_Right.isfar = q at hi ⊢
  cases b1 : decide ((0 : Int) < (l0.length : Int)) with
  | false =>
    have b1p : (0 < l0.length) = False := eq_false (by have := of_decide_eq_false b1; omega)
    go_enter Try.func77, Try.ntmps77
    go_wp2
    go_ret
    exact ⟨rfl, by repeat (first | exact Below.refl _ _ | apply pw_below_drewN | apply below_drew1)⟩
  | true =>
    have b1p : (0 < l0.length) = True := eq_true (by have := of_decide_eq_true b1; omega)
    cases b2 : decide ((l0.length : Int) ≤ 4096) with
    | false =>
      go_enter Try.func77, Try.ntmps77
      go_wp2
      go_ret
      exact ⟨rfl, by repeat (first | exact Below.refl _ _ | apply pw_below_drewN | apply below_drew1)⟩
    | true =>
      go_enter Try.func77, Try.ntmps77
      go_wp2_with (go_at_call 114; refine (hi _ (by repeat (first | exact HR.out | apply Kd.C_drew | apply Kd.C_drewN))).mono ?_; rintro e w' ⟨rfl, hb⟩)
      go_ret
      exact ⟨by cases q <;> rfl, below_step (by repeat (first | exact Below.refl _ _ | apply pw_below_drewN | apply below_drew1)) hb⟩


/-! ### cell_Of: function 23 -/
def cell_Of.f (l0 : List Int) (a1 : Int) : Option (Int × Int × Bool) :=
  (cell_wide.f a1).bind fun b => if b = true then ((dist_Right.f l0).bind fun q => if q = true then
    ((num_Floor.f (l0.getD 0 0) a1).bind fun x => (if 2 ≤ l0.length then num_Floor.f (l0.getD 1 0) a1 else some 0).bind fun y => some (x, y, true)) else some (0, 0, false)) else some (0, 0, false)
set_option maxHeartbeats 4000000 in
set_option maxRecDepth 100000 in
theorem cell_Of.calls (A0 : Option Addr) (c0 : Nat) (l0 : List Int) (a1 : Int) (r1 : Int) (r2 : Int) (r3 : Bool) (w : World) (hr0 : Kd.C (Kd.int .i64) w A0 l0.length l0) (hc0 : l0.length ≤ c0) (h : cell_Of.f l0 a1 = some (r1, r2, r3)) :
    Calls Try.prog 23 #[.slice A0 l0.length c0, .int .i64 a1] w fun e w' => e = .returned (.tuple #[.agg #[.int .i64 r1, .int .i64 r2], .bool r3]) ∧ Below w.heap.size w w' := by
  have HB := Aside0.mk (Below.refl w.heap.size w)
  unfold cell_Of.f at h
  obtain ⟨b, hb, h⟩ := Option.bind_eq_some_iff.mp h
  have hW := fun W => cell_wide.calls a1 b W hb
  clear hb
  cases b with
  | false =>
    rw [if_neg (by simp)] at h
    simp only [Option.some.injEq, Prod.mk.injEq] at h
    obtain ⟨rfl, rfl, rfl⟩ := h
    clear hr0 hc0
    go_enter Try.func23, Try.ntmps23
    go_upto_region 1 with (first | ((with_reducible refine gate_dst (N := 4) rfl ?_); refine box_event ?hg (N := 4) ?hd (cs := #[.int .i64 0, .int .i64 0]) (t := 23) ?hr ?_; (case hd => rfl); (case hg => rfl); (case hr => first | (go_simp; done) | (go_simp; rfl)); intro ga hg wb hbox hb; have n0_ := Aside0.mk (below_step (by repeat (first | (with_reducible first | exact HB.out | apply below_alloc | apply pw_below_drewN | apply below_drew1) | exact HB.out)) hb); have n1_ := Aside0.mk hbox; have n3_ := Aside0.mk ((by rw [hg]; exact (below_size (by repeat (first | (with_reducible first | exact HB.out | apply below_alloc | apply pw_below_drewN | apply below_drew1) | exact HB.out))) : w.heap.size ≤ ga)); clear HB; have HB := n0_; have BKga := n1_; have GEga := n3_; clear n0_ n1_ n3_; clear hb hbox hg))
    have hcz0 : wb.cell? ⟨ga, 0, none⟩ = some (.int .i64 0) := (blk_cell BKga.out 0).trans rfl; have hcz1 : wb.cell? ⟨ga, 1, none⟩ = some (.int .i64 0) := (blk_cell BKga.out 1).trans rfl; have hfz0 := blk_frozen BKga.out 0; have hfz1 := blk_frozen BKga.out 1
    go_wp2_with (first | (go_at_call 76; refine (hW _).mono ?_; rintro e w' ⟨rfl, ⟨nd, rfl⟩⟩))
    refine bodyPost_ret (results_ct rfl _ _ ga 23 #[.int .i64 0, .int .i64 0] (0, 0) _ rfl (by (with_reducible repeat (first | refine blk_drewN ?_ _ | refine blk_drew ?_ | refine blk_alloc ?_ _)); refine blk_put (cs := #[.int .i64 0, .int .i64 0]) ?_ 1 _ rfl; (with_reducible repeat (first | refine blk_drewN ?_ _ | refine blk_drew ?_ | refine blk_alloc ?_ _)); refine blk_put (cs := #[.int .i64 0, .int .i64 0]) ?_ 0 _ rfl; (with_reducible repeat (first | refine blk_drewN ?_ _ | refine blk_drew ?_ | refine blk_alloc ?_ _)); exact BKga.out) Try.underlying23 rfl (by kernel_rfl)) rfl ?_
    exact ⟨rfl, by repeat (first | (with_reducible first | exact HB.out | apply below_alloc | apply pw_below_drewN | apply below_drew1 | refine below_set ?_ GEga.out | refine below_set ?_ GEgb.out) | exact HB.out)⟩
  | true =>
    rw [if_pos rfl] at h
    obtain ⟨q, hq, h⟩ := Option.bind_eq_some_iff.mp h
    have HR := Aside0.mk hr0
    clear hr0
    have hQ := fun W hc => dist_Right.calls A0 c0 l0 q W hc hc0 hq
    cases q with
    | false =>
      rw [if_neg (by simp)] at h
      simp only [Option.some.injEq, Prod.mk.injEq] at h
      obtain ⟨rfl, rfl, rfl⟩ := h
      clear hc0 hq
      go_enter Try.func23, Try.ntmps23
      go_upto_region 1 with (first | ((with_reducible refine gate_dst (N := 4) rfl ?_); refine box_event ?hg (N := 4) ?hd (cs := #[.int .i64 0, .int .i64 0]) (t := 23) ?hr ?_; (case hd => rfl); (case hg => rfl); (case hr => first | (go_simp; done) | (go_simp; rfl)); intro ga hg wb hbox hb; have n0_ := Aside0.mk (below_step (by repeat (first | (with_reducible first | exact HB.out | apply below_alloc | apply pw_below_drewN | apply below_drew1) | exact HB.out)) hb); have n1_ := Aside0.mk hbox; have n3_ := Aside0.mk ((by rw [hg]; exact (below_size (by repeat (first | (with_reducible first | exact HB.out | apply below_alloc | apply pw_below_drewN | apply below_drew1) | exact HB.out))) : w.heap.size ≤ ga)); clear HB; have HB := n0_; have BKga := n1_; have GEga := n3_; clear n0_ n1_ n3_; clear hb hbox hg))
      go_wp2_with (first | (go_at_call 76; refine (hW _).mono ?_; rintro e w' ⟨rfl, ⟨nd, rfl⟩⟩) | (go_at_call 77; refine (hQ _ (by repeat (first | exact (Kd.C_below HR.out HB.out) | (with_reducible refine Kd.C_alloc ?_ _) | (with_reducible refine Kd.C_drewN ?_ _) | (with_reducible refine Kd.C_drew ?_)))).mono ?_; rintro e wr ⟨rfl, hb⟩; have m_ := Aside0.mk (blk_below (g := ga) (o := .cells #[.int .i64 0, .int .i64 0] 23 (0, 0)) (by (with_reducible repeat (first | refine blk_drewN ?_ _ | refine blk_drew ?_ | refine blk_alloc ?_ _)); exact BKga.out) hb); have n_ := Aside0.mk (below_step (by repeat (first | (with_reducible first | exact HB.out | apply below_alloc | apply pw_below_drewN | apply below_drew1) | exact HB.out)) hb); clear BKga HB hb; have BKga := m_; have HB := n_; clear m_ n_; have hcz0 : wr.cell? ⟨ga, 0, none⟩ = some (.int .i64 0) := (blk_cell BKga.out 0).trans rfl; have hcz1 : wr.cell? ⟨ga, 1, none⟩ = some (.int .i64 0) := (blk_cell BKga.out 1).trans rfl; have hfz0 := blk_frozen BKga.out 0; have hfz1 := blk_frozen BKga.out 1))
      refine bodyPost_ret (results_ct rfl _ _ ga 23 #[.int .i64 0, .int .i64 0] (0, 0) _ rfl (by (with_reducible repeat (first | refine blk_drewN ?_ _ | refine blk_drew ?_ | refine blk_alloc ?_ _)); refine blk_put (cs := #[.int .i64 0, .int .i64 0]) ?_ 1 _ rfl; (with_reducible repeat (first | refine blk_drewN ?_ _ | refine blk_drew ?_ | refine blk_alloc ?_ _)); refine blk_put (cs := #[.int .i64 0, .int .i64 0]) ?_ 0 _ rfl; (with_reducible repeat (first | refine blk_drewN ?_ _ | refine blk_drew ?_ | refine blk_alloc ?_ _)); exact BKga.out) Try.underlying23 rfl (by kernel_rfl)) rfl ?_
      exact ⟨rfl, by repeat (first | (with_reducible first | exact HB.out | apply below_alloc | apply pw_below_drewN | apply below_drew1 | refine below_set ?_ GEga.out | refine below_set ?_ GEgb.out) | exact HB.out)⟩
    | true =>
      rw [if_pos rfl] at h
      obtain ⟨x, hx, h⟩ := Option.bind_eq_some_iff.mp h
      obtain ⟨y, hy, h⟩ := Option.bind_eq_some_iff.mp h
      simp only [Option.some.injEq, Prod.mk.injEq] at h
      obtain ⟨rfl, rfl, rfl⟩ := h
      have hl : 0 < l0.length ∧ l0.length ≤ 4096 := by
        unfold dist_Right.f at hq
        simp only [Option.some.injEq, Bool.and_eq_true, decide_eq_true_eq] at hq
        exact hq.1
      clear hq
      obtain ⟨ad, ead, hc0_⟩ := Kd.at_int HR.out 0 (by omega) (by omega)
      cases ead
      have hF0 := fun W => num_Floor.calls _ a1 x W hx
      clear hx
      replace hF0 : ∀ W, Calls Try.prog 27 #[.int .i64 (rd l0 0), .int .i64 a1] W fun e w' => e = .returned (.int .i64 x) ∧ Drawn0 W w' := hF0
      by_cases h2 : 2 ≤ l0.length
      · rw [if_pos h2] at hy
        obtain ⟨ad', ead', hc1_⟩ := Kd.at_int HR.out 1 (by omega) (by omega)
        cases ead'
        have hF1 := fun W => num_Floor.calls _ a1 y W hy
        clear hy
        replace hF1 : ∀ W, Calls Try.prog 27 #[.int .i64 (rd l0 1), .int .i64 a1] W fun e w' => e = .returned (.int .i64 y) ∧ Drawn0 W w' := hF1
        have hmn : (if (2 : Int) < (l0.length : Int) then (2 : Int) else (l0.length : Int)) = 2 := by split <;> omega
        have hn1 : ((2 : Int) ≤ (l0.length : Int)) = True := eq_true (by omega)
        have hn2 : (2 ≤ c0) = True := eq_true (by omega)
        have hn3 : (2 ≤ l0.length) = True := eq_true (by omega)
        generalize rd l0 0 = u0 at hF0 hc0_
        generalize rd l0 1 = u1 at hF1 hc1_
        clear hl h2
        rw [show ((0 : Int)).toNat = 0 from rfl, Addr.add_zero'] at hc0_
        rw [show ((1 : Int)).toNat = 1 from rfl] at hc1_
        go_enter Try.func23, Try.ntmps23
        go_upto_region 1 with (first | ((with_reducible refine gate_dst (N := 4) rfl ?_); refine box_event ?hg (N := 4) ?hd (cs := #[.int .i64 0, .int .i64 0]) (t := 23) ?hr ?_; (case hd => rfl); (case hg => rfl); (case hr => first | (go_simp; done) | (go_simp; rfl)); intro ga hg wb hbox hb; have n0_ := Aside0.mk (below_step (by repeat (first | (with_reducible first | exact HB.out | apply below_alloc | apply pw_below_drewN | apply below_drew1) | exact HB.out)) hb); have n1_ := Aside0.mk hbox; have n3_ := Aside0.mk ((by rw [hg]; exact (below_size (by repeat (first | (with_reducible first | exact HB.out | apply below_alloc | apply pw_below_drewN | apply below_drew1) | exact HB.out))) : w.heap.size ≤ ga)); clear HB; have HB := n0_; have BKga := n1_; have GEga := n3_; clear n0_ n1_ n3_; clear hb hbox hg))
        go_upto_region 3 with (first | (go_at_call 76; refine (hW _).mono ?_; rintro e w' ⟨rfl, ⟨nd, rfl⟩⟩) | (go_at_call 77; refine (hQ _ (by repeat (first | exact (Kd.C_below HR.out HB.out) | (with_reducible refine Kd.C_alloc ?_ _) | (with_reducible refine Kd.C_drewN ?_ _) | (with_reducible refine Kd.C_drew ?_)))).mono ?_; rintro e wr ⟨rfl, hb⟩; have m_ := Aside0.mk (blk_below (g := ga) (o := .cells #[.int .i64 0, .int .i64 0] 23 (0, 0)) (by (with_reducible repeat (first | refine blk_drewN ?_ _ | refine blk_drew ?_ | refine blk_alloc ?_ _)); exact BKga.out) hb); have n_ := Aside0.mk (below_step (by repeat (first | (with_reducible first | exact HB.out | apply below_alloc | apply pw_below_drewN | apply below_drew1) | exact HB.out)) hb); clear BKga HB hb; have BKga := m_; have HB := n_; clear m_ n_; have hcz0 : wr.cell? ⟨ga, 0, none⟩ = some (.int .i64 0) := (blk_cell BKga.out 0).trans rfl; have hcz1 : wr.cell? ⟨ga, 1, none⟩ = some (.int .i64 0) := (blk_cell BKga.out 1).trans rfl; have hfz0 := blk_frozen BKga.out 0; have hfz1 := blk_frozen BKga.out 1))
        go_upto_region 4 with (first | ((with_reducible refine gate_dst (N := 6) rfl ?_); refine box_event ?hg (N := 6) ?hd (cs := #[.int .i64 0, .int .i64 0]) (t := 33) ?hr ?_; (case hd => rfl); (case hg => rfl); (case hr => first | (go_simp; done) | (go_simp; rfl)); intro gb hg wb hbox hb; have n0_ := Aside0.mk (below_step (by repeat (first | (with_reducible first | exact HB.out | apply below_alloc | apply pw_below_drewN | apply below_drew1) | exact HB.out)) hb); have n1_ := Aside0.mk hbox; have n3_ := Aside0.mk ((by rw [hg]; exact (below_size (by repeat (first | (with_reducible first | exact HB.out | apply below_alloc | apply pw_below_drewN | apply below_drew1) | exact HB.out))) : w.heap.size ≤ gb)); have m0_ := Aside0.mk (blk_below (g := ga) (o := .cells #[.int .i64 0, .int .i64 0] 23 (0, 0)) (by (with_reducible repeat (first | refine blk_drewN ?_ _ | refine blk_drew ?_ | refine blk_alloc ?_ _)); exact BKga.out) hb); have u0_ := Aside0.mk ((by rw [hg]; exact Nat.ne_of_lt (blk_lt (by (with_reducible repeat (first | refine blk_drewN ?_ _ | refine blk_drew ?_ | refine blk_alloc ?_ _)); exact BKga.out)) : ga ≠ gb)); clear HB; clear BKga; have BKga := m0_; have NEga := u0_; clear m0_ u0_; have HB := n0_; have BKgb := n1_; have GEgb := n3_; clear n0_ n1_ n3_; clear hb hbox hg; have hdz0 : World.cell? _ ⟨gb, 0, none⟩ = some (.int .i64 0) := (blk_cell BKgb.out 0).trans rfl; have hdz1 : World.cell? _ ⟨gb, 1, none⟩ = some (.int .i64 0) := (blk_cell BKgb.out 1).trans rfl; have hez0 := blk_frozen BKgb.out 0; have hez1 := blk_frozen BKgb.out 1))
        go_wp2
        go_loopg [7, 8, 25] 3 (fun gg _ _ s25 wr => ∃ (j p q : Int), s25 = .int .i64 j ∧ Aside0 ((j = 0 ∧ p = 0 ∧ q = 0) ∨ (j = 1 ∧ p = x ∧ q = 0) ∨ (j = 2 ∧ p = x ∧ q = y)) ∧ Aside0 (2 - j.toNat ≤ gg) ∧ Aside0 (Below w.heap.size w wr) ∧ Aside0 (wr.heap[ga]? = some (.cells #[.int .i64 0, .int .i64 0] 23 (0, 0))) ∧ Aside0 (wr.heap[gb]? = some (.cells #[.int .i64 p, .int .i64 q] 33 (0, 0))))
        case atStart => exact ⟨0, 0, 0, rfl, ⟨.inl ⟨rfl, rfl, rfl⟩⟩, ⟨by decide⟩, ⟨by repeat (first | (with_reducible first | exact HB.out | apply below_alloc | apply pw_below_drewN | apply below_drew1 | refine below_set ?_ GEga.out | refine below_set ?_ GEgb.out) | exact HB.out)⟩, ⟨by repeat (first | exact BKga.out | refine blk_drewN ?_ _ | refine blk_drew ?_ | refine blk_alloc ?_ _ | refine blk_far ?_ NEga.out _)⟩, ⟨by (with_reducible repeat (first | refine blk_drewN ?_ _ | refine blk_drew ?_ | refine blk_alloc ?_ _)); refine blk_put (cs := #[.int .i64 0, .int .i64 0]) ?_ 1 _ rfl; (with_reducible repeat (first | refine blk_drewN ?_ _ | refine blk_drew ?_ | refine blk_alloc ?_ _)); refine blk_put (cs := #[.int .i64 0, .int .i64 0]) ?_ 0 _ rfl; (with_reducible repeat (first | refine blk_drewN ?_ _ | refine blk_drew ?_ | refine blk_alloc ?_ _)); exact BKgb.out⟩⟩
        case round =>
          clear HB BKga BKgb
          obtain ⟨j, p, q, rfl, HJ, HM, HB, BKga, BKgb⟩ := hrel
          rcases HJ.out with ⟨rfl, rfl, rfl⟩ | ⟨rfl, rfl, rfl⟩ | ⟨rfl, rfl, rfl⟩
          · have hr := (HB.out.cell (World.block_lt_of_cell? w _ hc0_)).trans hc0_
            try simp [Addr.add] at hr
            have hdz0 : World.cell? _ ⟨gb, 0, none⟩ = some (.int .i64 0) := (blk_cell BKgb.out 0).trans rfl; have hdz1 : World.cell? _ ⟨gb, 1, none⟩ = some (.int .i64 0) := (blk_cell BKgb.out 1).trans rfl; have hez0 := blk_frozen BKgb.out 0; have hez1 := blk_frozen BKgb.out 1
            go_wp2_with (first | (go_at_call 27; refine (hF0 _).mono ?_; rintro e w' ⟨rfl, ⟨nd, rfl⟩⟩))
            go_roundg (2 - 1)
            case measure => have := HM.out; simp at this; omega
            case rel => exact ⟨1, _, _, rfl, ⟨.inr (.inl ⟨rfl, rfl, rfl⟩)⟩, ⟨by decide⟩, ⟨by repeat (first | (with_reducible first | exact HB.out | apply below_alloc | apply pw_below_drewN | apply below_drew1 | refine below_set ?_ GEga.out | refine below_set ?_ GEgb.out) | exact HB.out)⟩, ⟨by repeat (first | exact BKga.out | refine blk_drewN ?_ _ | refine blk_drew ?_ | refine blk_alloc ?_ _ | refine blk_far ?_ NEga.out _)⟩, ⟨by (with_reducible repeat (first | refine blk_drewN ?_ _ | refine blk_drew ?_ | refine blk_alloc ?_ _)); refine blk_put (cs := #[.int .i64 0, .int .i64 0]) ?_ 0 _ rfl; (with_reducible repeat (first | refine blk_drewN ?_ _ | refine blk_drew ?_ | refine blk_alloc ?_ _)); exact BKgb.out⟩⟩
          · have hr := (HB.out.cell (World.block_lt_of_cell? w _ hc1_)).trans hc1_
            try simp [Addr.add] at hr
            have hdz0 : World.cell? _ ⟨gb, 0, none⟩ = some (.int .i64 p) := (blk_cell BKgb.out 0).trans rfl; have hdz1 : World.cell? _ ⟨gb, 1, none⟩ = some (.int .i64 0) := (blk_cell BKgb.out 1).trans rfl; have hez0 := blk_frozen BKgb.out 0; have hez1 := blk_frozen BKgb.out 1
            go_wp2_with (first | (go_at_call 27; refine (hF1 _).mono ?_; rintro e w' ⟨rfl, ⟨nd, rfl⟩⟩))
            go_roundg (2 - 2)
            case measure => have := HM.out; simp at this; omega
            case rel => exact ⟨2, _, _, rfl, ⟨.inr (.inr ⟨rfl, rfl, rfl⟩)⟩, ⟨by decide⟩, ⟨by repeat (first | (with_reducible first | exact HB.out | apply below_alloc | apply pw_below_drewN | apply below_drew1 | refine below_set ?_ GEga.out | refine below_set ?_ GEgb.out) | exact HB.out)⟩, ⟨by repeat (first | exact BKga.out | refine blk_drewN ?_ _ | refine blk_drew ?_ | refine blk_alloc ?_ _ | refine blk_far ?_ NEga.out _)⟩, ⟨by (with_reducible repeat (first | refine blk_drewN ?_ _ | refine blk_drew ?_ | refine blk_alloc ?_ _)); refine blk_put (cs := #[.int .i64 p, .int .i64 0]) ?_ 1 _ rfl; (with_reducible repeat (first | refine blk_drewN ?_ _ | refine blk_drew ?_ | refine blk_alloc ?_ _)); exact BKgb.out⟩⟩
          · have hdz0 : World.cell? _ ⟨gb, 0, none⟩ = some (.int .i64 p) := (blk_cell BKgb.out 0).trans rfl; have hdz1 : World.cell? _ ⟨gb, 1, none⟩ = some (.int .i64 q) := (blk_cell BKgb.out 1).trans rfl; have hez0 := blk_frozen BKgb.out 0; have hez1 := blk_frozen BKgb.out 1
            have hcz0 : World.cell? _ ⟨ga, 0, none⟩ = some (.int .i64 0) := (blk_cell BKga.out 0).trans rfl; have hcz1 : World.cell? _ ⟨ga, 1, none⟩ = some (.int .i64 0) := (blk_cell BKga.out 1).trans rfl; have hfz0 := blk_frozen BKga.out 0; have hfz1 := blk_frozen BKga.out 1
            go_wp2
            refine bodyPost_ret (results_ct rfl _ _ ga 23 #[.int .i64 p, .int .i64 q] (0, 0) _ rfl (by (with_reducible repeat (first | refine blk_drewN ?_ _ | refine blk_drew ?_ | refine blk_alloc ?_ _)); refine blk_put (cs := #[.int .i64 p, .int .i64 0]) ?_ 1 _ rfl; (with_reducible repeat (first | refine blk_drewN ?_ _ | refine blk_drew ?_ | refine blk_alloc ?_ _)); refine blk_put (cs := #[.int .i64 0, .int .i64 0]) ?_ 0 _ rfl; (with_reducible repeat (first | refine blk_drewN ?_ _ | refine blk_drew ?_ | refine blk_alloc ?_ _)); exact BKga.out) Try.underlying23 rfl (by kernel_rfl)) rfl ?_
            exact ⟨rfl, by repeat (first | (with_reducible first | exact HB.out | apply below_alloc | apply pw_below_drewN | apply below_drew1 | refine below_set ?_ GEga.out | refine below_set ?_ GEgb.out) | exact HB.out)⟩
      · rw [if_neg h2] at hy
        obtain rfl := Option.some.inj hy
        clear hy
        have hmn : (if (2 : Int) < (l0.length : Int) then (2 : Int) else (l0.length : Int)) = 1 := by split <;> omega
        have hn1 : ((1 : Int) ≤ (l0.length : Int)) = True := eq_true (by omega)
        have hn2 : (1 ≤ c0) = True := eq_true (by omega)
        have hn3 : (1 ≤ l0.length) = True := eq_true (by omega)
        generalize rd l0 0 = u0 at hF0 hc0_
        clear hl h2
        rw [show ((0 : Int)).toNat = 0 from rfl, Addr.add_zero'] at hc0_
        go_enter Try.func23, Try.ntmps23
        go_upto_region 1 with (first | ((with_reducible refine gate_dst (N := 4) rfl ?_); refine box_event ?hg (N := 4) ?hd (cs := #[.int .i64 0, .int .i64 0]) (t := 23) ?hr ?_; (case hd => rfl); (case hg => rfl); (case hr => first | (go_simp; done) | (go_simp; rfl)); intro ga hg wb hbox hb; have n0_ := Aside0.mk (below_step (by repeat (first | (with_reducible first | exact HB.out | apply below_alloc | apply pw_below_drewN | apply below_drew1) | exact HB.out)) hb); have n1_ := Aside0.mk hbox; have n3_ := Aside0.mk ((by rw [hg]; exact (below_size (by repeat (first | (with_reducible first | exact HB.out | apply below_alloc | apply pw_below_drewN | apply below_drew1) | exact HB.out))) : w.heap.size ≤ ga)); clear HB; have HB := n0_; have BKga := n1_; have GEga := n3_; clear n0_ n1_ n3_; clear hb hbox hg))
        go_upto_region 3 with (first | (go_at_call 76; refine (hW _).mono ?_; rintro e w' ⟨rfl, ⟨nd, rfl⟩⟩) | (go_at_call 77; refine (hQ _ (by repeat (first | exact (Kd.C_below HR.out HB.out) | (with_reducible refine Kd.C_alloc ?_ _) | (with_reducible refine Kd.C_drewN ?_ _) | (with_reducible refine Kd.C_drew ?_)))).mono ?_; rintro e wr ⟨rfl, hb⟩; have m_ := Aside0.mk (blk_below (g := ga) (o := .cells #[.int .i64 0, .int .i64 0] 23 (0, 0)) (by (with_reducible repeat (first | refine blk_drewN ?_ _ | refine blk_drew ?_ | refine blk_alloc ?_ _)); exact BKga.out) hb); have n_ := Aside0.mk (below_step (by repeat (first | (with_reducible first | exact HB.out | apply below_alloc | apply pw_below_drewN | apply below_drew1) | exact HB.out)) hb); clear BKga HB hb; have BKga := m_; have HB := n_; clear m_ n_; have hcz0 : wr.cell? ⟨ga, 0, none⟩ = some (.int .i64 0) := (blk_cell BKga.out 0).trans rfl; have hcz1 : wr.cell? ⟨ga, 1, none⟩ = some (.int .i64 0) := (blk_cell BKga.out 1).trans rfl; have hfz0 := blk_frozen BKga.out 0; have hfz1 := blk_frozen BKga.out 1))
        go_upto_region 4 with (first | ((with_reducible refine gate_dst (N := 6) rfl ?_); refine box_event ?hg (N := 6) ?hd (cs := #[.int .i64 0, .int .i64 0]) (t := 33) ?hr ?_; (case hd => rfl); (case hg => rfl); (case hr => first | (go_simp; done) | (go_simp; rfl)); intro gb hg wb hbox hb; have n0_ := Aside0.mk (below_step (by repeat (first | (with_reducible first | exact HB.out | apply below_alloc | apply pw_below_drewN | apply below_drew1) | exact HB.out)) hb); have n1_ := Aside0.mk hbox; have n3_ := Aside0.mk ((by rw [hg]; exact (below_size (by repeat (first | (with_reducible first | exact HB.out | apply below_alloc | apply pw_below_drewN | apply below_drew1) | exact HB.out))) : w.heap.size ≤ gb)); have m0_ := Aside0.mk (blk_below (g := ga) (o := .cells #[.int .i64 0, .int .i64 0] 23 (0, 0)) (by (with_reducible repeat (first | refine blk_drewN ?_ _ | refine blk_drew ?_ | refine blk_alloc ?_ _)); exact BKga.out) hb); have u0_ := Aside0.mk ((by rw [hg]; exact Nat.ne_of_lt (blk_lt (by (with_reducible repeat (first | refine blk_drewN ?_ _ | refine blk_drew ?_ | refine blk_alloc ?_ _)); exact BKga.out)) : ga ≠ gb)); clear HB; clear BKga; have BKga := m0_; have NEga := u0_; clear m0_ u0_; have HB := n0_; have BKgb := n1_; have GEgb := n3_; clear n0_ n1_ n3_; clear hb hbox hg; have hdz0 : World.cell? _ ⟨gb, 0, none⟩ = some (.int .i64 0) := (blk_cell BKgb.out 0).trans rfl; have hdz1 : World.cell? _ ⟨gb, 1, none⟩ = some (.int .i64 0) := (blk_cell BKgb.out 1).trans rfl; have hez0 := blk_frozen BKgb.out 0; have hez1 := blk_frozen BKgb.out 1))
        go_wp2
        go_loopg [7, 8, 25] 3 (fun gg _ _ s25 wr => ∃ (j p q : Int), s25 = .int .i64 j ∧ Aside0 ((j = 0 ∧ p = 0 ∧ q = 0) ∨ (j = 1 ∧ p = x ∧ q = 0)) ∧ Aside0 (1 - j.toNat ≤ gg) ∧ Aside0 (Below w.heap.size w wr) ∧ Aside0 (wr.heap[ga]? = some (.cells #[.int .i64 0, .int .i64 0] 23 (0, 0))) ∧ Aside0 (wr.heap[gb]? = some (.cells #[.int .i64 p, .int .i64 q] 33 (0, 0))))
        case atStart => exact ⟨0, 0, 0, rfl, ⟨.inl ⟨rfl, rfl, rfl⟩⟩, ⟨by decide⟩, ⟨by repeat (first | (with_reducible first | exact HB.out | apply below_alloc | apply pw_below_drewN | apply below_drew1 | refine below_set ?_ GEga.out | refine below_set ?_ GEgb.out) | exact HB.out)⟩, ⟨by repeat (first | exact BKga.out | refine blk_drewN ?_ _ | refine blk_drew ?_ | refine blk_alloc ?_ _ | refine blk_far ?_ NEga.out _)⟩, ⟨by (with_reducible repeat (first | refine blk_drewN ?_ _ | refine blk_drew ?_ | refine blk_alloc ?_ _)); refine blk_put (cs := #[.int .i64 0, .int .i64 0]) ?_ 1 _ rfl; (with_reducible repeat (first | refine blk_drewN ?_ _ | refine blk_drew ?_ | refine blk_alloc ?_ _)); refine blk_put (cs := #[.int .i64 0, .int .i64 0]) ?_ 0 _ rfl; (with_reducible repeat (first | refine blk_drewN ?_ _ | refine blk_drew ?_ | refine blk_alloc ?_ _)); exact BKgb.out⟩⟩
        case round =>
          clear HB BKga BKgb
          obtain ⟨j, p, q, rfl, HJ, HM, HB, BKga, BKgb⟩ := hrel
          rcases HJ.out with ⟨rfl, rfl, rfl⟩ | ⟨rfl, rfl, rfl⟩
          · have hr := (HB.out.cell (World.block_lt_of_cell? w _ hc0_)).trans hc0_
            try simp [Addr.add] at hr
            have hdz0 : World.cell? _ ⟨gb, 0, none⟩ = some (.int .i64 0) := (blk_cell BKgb.out 0).trans rfl; have hdz1 : World.cell? _ ⟨gb, 1, none⟩ = some (.int .i64 0) := (blk_cell BKgb.out 1).trans rfl; have hez0 := blk_frozen BKgb.out 0; have hez1 := blk_frozen BKgb.out 1
            go_wp2_with (first | (go_at_call 27; refine (hF0 _).mono ?_; rintro e w' ⟨rfl, ⟨nd, rfl⟩⟩))
            go_roundg (1 - 1)
            case measure => have := HM.out; simp at this; omega
            case rel => exact ⟨1, _, _, rfl, ⟨.inr (⟨rfl, rfl, rfl⟩)⟩, ⟨by decide⟩, ⟨by repeat (first | (with_reducible first | exact HB.out | apply below_alloc | apply pw_below_drewN | apply below_drew1 | refine below_set ?_ GEga.out | refine below_set ?_ GEgb.out) | exact HB.out)⟩, ⟨by repeat (first | exact BKga.out | refine blk_drewN ?_ _ | refine blk_drew ?_ | refine blk_alloc ?_ _ | refine blk_far ?_ NEga.out _)⟩, ⟨by (with_reducible repeat (first | refine blk_drewN ?_ _ | refine blk_drew ?_ | refine blk_alloc ?_ _)); refine blk_put (cs := #[.int .i64 0, .int .i64 0]) ?_ 0 _ rfl; (with_reducible repeat (first | refine blk_drewN ?_ _ | refine blk_drew ?_ | refine blk_alloc ?_ _)); exact BKgb.out⟩⟩
          · have hdz0 : World.cell? _ ⟨gb, 0, none⟩ = some (.int .i64 p) := (blk_cell BKgb.out 0).trans rfl; have hdz1 : World.cell? _ ⟨gb, 1, none⟩ = some (.int .i64 0) := (blk_cell BKgb.out 1).trans rfl; have hez0 := blk_frozen BKgb.out 0; have hez1 := blk_frozen BKgb.out 1
            have hcz0 : World.cell? _ ⟨ga, 0, none⟩ = some (.int .i64 0) := (blk_cell BKga.out 0).trans rfl; have hcz1 : World.cell? _ ⟨ga, 1, none⟩ = some (.int .i64 0) := (blk_cell BKga.out 1).trans rfl; have hfz0 := blk_frozen BKga.out 0; have hfz1 := blk_frozen BKga.out 1
            go_wp2
            refine bodyPost_ret (results_ct rfl _ _ ga 23 #[.int .i64 p, .int .i64 0] (0, 0) _ rfl (by (with_reducible repeat (first | refine blk_drewN ?_ _ | refine blk_drew ?_ | refine blk_alloc ?_ _)); refine blk_put (cs := #[.int .i64 p, .int .i64 0]) ?_ 1 _ rfl; (with_reducible repeat (first | refine blk_drewN ?_ _ | refine blk_drew ?_ | refine blk_alloc ?_ _)); refine blk_put (cs := #[.int .i64 0, .int .i64 0]) ?_ 0 _ rfl; (with_reducible repeat (first | refine blk_drewN ?_ _ | refine blk_drew ?_ | refine blk_alloc ?_ _)); exact BKga.out) Try.underlying23 rfl (by kernel_rfl)) rfl ?_
            exact ⟨rfl, by repeat (first | (with_reducible first | exact HB.out | apply below_alloc | apply pw_below_drewN | apply below_drew1 | refine below_set ?_ GEga.out | refine below_set ?_ GEgb.out) | exact HB.out)⟩


/-! ### cell_inner: function 74 -/
def cell_inner.f (a0 : Int) : Option (Bool) := if (-2147483648) < a0 then (some (decide (a0 < 2147483647))) else (some false)
set_option maxHeartbeats 8000000 in
set_option maxRecDepth 100000 in
theorem cell_inner.calls (a0 : Int) (r : Bool) (w : World) (h : cell_inner.f a0 = some r) :
    Calls Try.prog 74 #[.int .i64 a0] w fun e w' => e = .returned (.bool r) ∧ Drawn0 w w' := by
  have H : (if (-2147483648) < a0 then (some (decide (a0 < 2147483647))) else (some false)) = some r := h
  clear h
  by_cases c2 : (-2147483648) < a0
  · rw [if_pos c2] at H
    have c2b0 : decide ((-2147483648) < a0) = true := decide_eq_true c2
    clear c2
    obtain rfl := Option.some.inj H
    go_enter Try.func74, Try.ntmps74
    go_wp2
    go_ret
    exact ⟨by first | rfl | (simp; done) | (simp [*]; done), by repeat (first | exact Drawn0.refl _ | apply Drawn0.step)⟩
  · rw [if_neg c2] at H
    have c2b0 : decide ((-2147483648) < a0) = false := decide_eq_false c2
    clear c2
    obtain rfl := Option.some.inj H
    go_enter Try.func74, Try.ntmps74
    go_wp2
    go_ret
    exact ⟨by first | rfl | (simp; done) | (simp [*]; done), by repeat (first | exact Drawn0.refl _ | apply Drawn0.step)⟩

/-! ### chainmanlaw23_awake: function 19 -/
def chainmanlaw23_awake.f : Option Bool := some true
def chainmanlaw23_awake.ceq (a b c d : Nat) : Bool := (FloatKind.f64.format.order a c == some .eq) && (FloatKind.f64.format.order b d == some .eq)
theorem chainmanlaw23_awake.run_ceq (t : TypeId) (a b c d : Nat) (P : Program) (w : World) : (binOp .eql t (.complex .f64 a b) (.complex .f64 c d)).run P w = .ok (.bool (chainmanlaw23_awake.ceq a b c d)) w := by rfl
theorem chainmanlaw23_awake.run_cne (t : TypeId) (a b c d : Nat) (P : Program) (w : World) : (binOp .neq t (.complex .f64 a b) (.complex .f64 c d)).run P w = .ok (.bool (!chainmanlaw23_awake.ceq a b c d)) w := by rfl
def chainmanlaw23_awake.ways : Array Value := #[.complex .f64 4607182418800017408 0, .complex .f64 13830554455654793216 4607182418800017408, .complex .f64 0 4607182418800017408, .complex .f64 4607182418800017408 4607182418800017408]
def chainmanlaw23_awake.known (a b : Nat) : Bool := chainmanlaw23_awake.ceq a b 4607182418800017408 0 || chainmanlaw23_awake.ceq a b 13830554455654793216 4607182418800017408 || chainmanlaw23_awake.ceq a b 0 4607182418800017408 || chainmanlaw23_awake.ceq a b 4607182418800017408 4607182418800017408
theorem chainmanlaw23_awake.run_store_cx (P : Program) (w : World) (a : Addr) (k : FloatKind) (x y : Nat) (m : Mode) : (store a (.complex k x y) m).run P w = stored P w a (.complex k x y) m := run_store P w a _ m rfl
theorem chainmanlaw23_awake.run_complex (ats : Array TypeId) (t : TypeId) (x y : Nat) : Builtin.complex_ ats t #[.float .f64 x, .float .f64 y] = pure (.complex .f64 x y) := rfl
theorem chainmanlaw23_awake.run_real (ats : Array TypeId) (t : TypeId) (x y : Nat) : Builtin.real_ ats t #[.complex .f64 x y] = pure (.float .f64 x) := rfl
theorem chainmanlaw23_awake.run_imag (ats : Array TypeId) (t : TypeId) (x y : Nat) : Builtin.imag_ ats t #[.complex .f64 x y] = pure (.float .f64 y) := rfl
attribute [local go_sem high] chainmanlaw23_awake.run_ceq chainmanlaw23_awake.run_cne chainmanlaw23_awake.run_store_cx chainmanlaw23_awake.run_complex chainmanlaw23_awake.run_real chainmanlaw23_awake.run_imag
set_option maxHeartbeats 4000000 in
set_option maxRecDepth 100000 in
theorem chainmanlaw23_awake.index (g a b : Nat) (w : World) (hg : w.heap[g]? = some (.cells chainmanlaw23_awake.ways 26 (0, 0))) :
    Calls Try.prog 112 #[.slice (some ⟨g, 0, none⟩) 4 4, .complex .f64 a b] w fun e w' => (∃ r : Int, e = .returned (.int .i64 r) ∧ decide (0 ≤ r) = chainmanlaw23_awake.known a b) ∧ Drawn0 w w' := by
  have h0 : w.cell? ⟨g, 0, none⟩ = some (.complex .f64 4607182418800017408 0) := (blk_cell hg 0).trans rfl
  have h1 : w.cell? ⟨g, 1, none⟩ = some (.complex .f64 13830554455654793216 4607182418800017408) := (blk_cell hg 1).trans rfl
  have h2 : w.cell? ⟨g, 2, none⟩ = some (.complex .f64 0 4607182418800017408) := (blk_cell hg 2).trans rfl
  have h3 : w.cell? ⟨g, 3, none⟩ = some (.complex .f64 4607182418800017408 4607182418800017408) := (blk_cell hg 3).trans rfl
  clear hg
  unfold chainmanlaw23_awake.known
  generalize e0 : chainmanlaw23_awake.ceq a b 4607182418800017408 0 = q0
  generalize e1 : chainmanlaw23_awake.ceq a b 13830554455654793216 4607182418800017408 = q1
  generalize e2 : chainmanlaw23_awake.ceq a b 0 4607182418800017408 = q2
  generalize e3 : chainmanlaw23_awake.ceq a b 4607182418800017408 4607182418800017408 = q3
  go_enter Try.func112, Try.ntmps112
  go_wp2
  go_loopg [5, 8] 5 (fun gg _ s8 wr => ∃ x : Int, s8 = .int .i64 x ∧ Aside0 (x = 0 ∨ (x = 1 ∧ q0 = false) ∨ (x = 2 ∧ q0 = false ∧ q1 = false) ∨ (x = 3 ∧ q0 = false ∧ q1 = false ∧ q2 = false) ∨ (x = 4 ∧ q0 = false ∧ q1 = false ∧ q2 = false ∧ q3 = false)) ∧ Aside0 (4 - x.toNat ≤ gg) ∧ Drawn0 w wr)
  case atStart => exact ⟨0, rfl, ⟨.inl rfl⟩, ⟨by decide⟩, by repeat (first | exact Drawn0.refl _ | apply Drawn0.step)⟩
  case round =>
    obtain ⟨x, rfl, HX, HM, ⟨nd, rfl⟩⟩ := hrel
    rcases HX.out with rfl | ⟨rfl, rfl⟩ | ⟨rfl, rfl, rfl⟩ | ⟨rfl, rfl, rfl, rfl⟩ | ⟨rfl, rfl, rfl, rfl, rfl⟩
    · cases q0 with
      | true =>
        go_wp2
        go_ret
        exact ⟨⟨0, rfl, by simp⟩, by repeat (first | exact Drawn0.refl _ | apply Drawn0.step)⟩
      | false =>
        go_wp2
        go_roundg 3
        case measure => have := HM.out; simp at this; omega
        case rel => exact ⟨1, rfl, ⟨by simp⟩, ⟨by decide⟩, by repeat (first | exact Drawn0.refl _ | apply Drawn0.step)⟩
    · cases q1 with
      | true =>
        go_wp2
        go_ret
        exact ⟨⟨1, rfl, by simp⟩, by repeat (first | exact Drawn0.refl _ | apply Drawn0.step)⟩
      | false =>
        go_wp2
        go_roundg 2
        case measure => have := HM.out; simp at this; omega
        case rel => exact ⟨2, rfl, ⟨by simp⟩, ⟨by decide⟩, by repeat (first | exact Drawn0.refl _ | apply Drawn0.step)⟩
    · cases q2 with
      | true =>
        go_wp2
        go_ret
        exact ⟨⟨2, rfl, by simp⟩, by repeat (first | exact Drawn0.refl _ | apply Drawn0.step)⟩
      | false =>
        go_wp2
        go_roundg 1
        case measure => have := HM.out; simp at this; omega
        case rel => exact ⟨3, rfl, ⟨by simp⟩, ⟨by decide⟩, by repeat (first | exact Drawn0.refl _ | apply Drawn0.step)⟩
    · cases q3 with
      | true =>
        go_wp2
        go_ret
        exact ⟨⟨3, rfl, by simp⟩, by repeat (first | exact Drawn0.refl _ | apply Drawn0.step)⟩
      | false =>
        go_wp2
        go_roundg 0
        case measure => have := HM.out; simp at this; omega
        case rel => exact ⟨4, rfl, ⟨by simp⟩, ⟨by decide⟩, by repeat (first | exact Drawn0.refl _ | apply Drawn0.step)⟩
    · go_wp2
      go_ret
      exact ⟨⟨-1, rfl, by simp⟩, by repeat (first | exact Drawn0.refl _ | apply Drawn0.step)⟩
set_option maxHeartbeats 2000000 in
set_option maxRecDepth 100000 in
theorem chainmanlaw23_awake.contains (g a b : Nat) (w : World) (hg : w.heap[g]? = some (.cells chainmanlaw23_awake.ways 26 (0, 0))) :
    Calls Try.prog 73 #[.slice (some ⟨g, 0, none⟩) 4 4, .complex .f64 a b] w fun e w' => e = .returned (.bool (chainmanlaw23_awake.known a b)) ∧ Drawn0 w w' := by
  have hi := fun W hW => chainmanlaw23_awake.index g a b W hW
  have HG := Aside0.mk hg
  clear hg
  generalize chainmanlaw23_awake.known a b = q at hi ⊢
  go_enter Try.func73, Try.ntmps73
  go_wp2_with (go_at_call 112; refine (hi _ (by (with_reducible repeat (first | refine blk_drewN ?_ _ | refine blk_drew ?_ | refine blk_alloc ?_ _)); exact HG.out)).mono ?_; rintro e w' ⟨⟨r, rfl, rfl⟩, ⟨nd, rfl⟩⟩)
  go_ret
  exact ⟨rfl, by repeat (first | exact Drawn0.refl _ | apply Drawn0.step)⟩
set_option maxHeartbeats 2000000 in
set_option maxRecDepth 100000 in
theorem chainmanlaw23_awake.ways_calls (w : World) : Calls Try.prog 15 #[] w fun e w' => e = .returned (.agg chainmanlaw23_awake.ways) ∧ Below w.heap.size w w' := by
  have HB := Aside0.mk (Below.refl w.heap.size w)
  go_enter Try.func15, Try.ntmps15
  go_upto_region 1 with (first | ((with_reducible refine gate_dst (N := 0) rfl ?_); refine box_event ?hg (N := 0) ?hd (cs := #[.complex .f64 0 0, .complex .f64 0 0, .complex .f64 0 0, .complex .f64 0 0]) (t := 26) ?hr ?_; (case hd => rfl); (case hg => rfl); (case hr => first | (go_simp; done) | (go_simp; rfl)); intro gs hg wb hbox hb; have n0_ := Aside0.mk (below_step (by repeat (first | (with_reducible first | exact HB.out | apply below_alloc | apply pw_below_drewN | apply below_drew1) | exact HB.out)) hb); have n1_ := Aside0.mk hbox; have n3_ := Aside0.mk ((by rw [hg]; exact (below_size (by repeat (first | (with_reducible first | exact HB.out | apply below_alloc | apply pw_below_drewN | apply below_drew1) | exact HB.out))) : w.heap.size ≤ gs)); clear HB; have HB := n0_; have BKgs := n1_; have GEgs := n3_; clear n0_ n1_ n3_; clear hb hbox hg; have hc0 : World.cell? _ ⟨gs, 0, none⟩ = some (.complex .f64 0 0) := (blk_cell BKgs.out 0).trans rfl; have hf0 := blk_frozen BKgs.out 0; have hc1 : World.cell? _ ⟨gs, 1, none⟩ = some (.complex .f64 0 0) := (blk_cell BKgs.out 1).trans rfl; have hf1 := blk_frozen BKgs.out 1; have hc2 : World.cell? _ ⟨gs, 2, none⟩ = some (.complex .f64 0 0) := (blk_cell BKgs.out 2).trans rfl; have hf2 := blk_frozen BKgs.out 2; have hc3 : World.cell? _ ⟨gs, 3, none⟩ = some (.complex .f64 0 0) := (blk_cell BKgs.out 3).trans rfl; have hf3 := blk_frozen BKgs.out 3))
  go_wp2
  refine bodyPost_ret (results_single rfl (.cell gs 26 chainmanlaw23_awake.ways (0, 0) _ rfl (by (with_reducible repeat (first | refine blk_drewN ?_ _ | refine blk_drew ?_ | refine blk_alloc ?_ _)); refine blk_put (cs := #[.complex .f64 4607182418800017408 0, .complex .f64 13830554455654793216 4607182418800017408, .complex .f64 0 4607182418800017408, .complex .f64 0 0]) ?_ 3 _ rfl; (with_reducible repeat (first | refine blk_drewN ?_ _ | refine blk_drew ?_ | refine blk_alloc ?_ _)); refine blk_put (cs := #[.complex .f64 4607182418800017408 0, .complex .f64 13830554455654793216 4607182418800017408, .complex .f64 0 0, .complex .f64 0 0]) ?_ 2 _ rfl; (with_reducible repeat (first | refine blk_drewN ?_ _ | refine blk_drew ?_ | refine blk_alloc ?_ _)); refine blk_put (cs := #[.complex .f64 4607182418800017408 0, .complex .f64 0 0, .complex .f64 0 0, .complex .f64 0 0]) ?_ 1 _ rfl; (with_reducible repeat (first | refine blk_drewN ?_ _ | refine blk_drew ?_ | refine blk_alloc ?_ _)); refine blk_put (cs := #[.complex .f64 0 0, .complex .f64 0 0, .complex .f64 0 0, .complex .f64 0 0]) ?_ 0 _ rfl; (with_reducible repeat (first | refine blk_drewN ?_ _ | refine blk_drew ?_ | refine blk_alloc ?_ _)); exact BKgs.out) Try.underlying26 rfl (by kernel_rfl) .nil)) rfl ?_
  exact ⟨rfl, by repeat (first | (with_reducible first | exact HB.out | apply below_alloc | apply pw_below_drewN | apply below_drew1 | refine below_set ?_ GEgs.out ) | exact HB.out)⟩
def chainmanlaw23_awake.toI (b : Nat) : Option Int := floatToIntVal .f64 b .i64
def chainmanlaw23_awake.to (p0 p1 : Int) (a b : Nat) : Option (Int × Int × Bool) :=
  (cSumBits .add .f64 (floatOfInt .f64 p0) (floatOfInt .f64 p1) a b).bind fun s => (floatToIntVal .f64 s.1 .i64).bind fun x => (floatToIntVal .f64 s.2 .i64).bind fun y => some (x, y, true)
def chainmanlaw23_awake.go (p0 p1 : Int) (a b : Nat) : Option (Int × Int × Bool) :=
  if (!chainmanlaw23_awake.ceq a b 0 0 && !chainmanlaw23_awake.known a b) = true then some (0, 0, false) else (cell_inner.f p0).bind fun q0 => if q0 = false then some (0, 0, false) else
    (cell_inner.f p1).bind fun q1 => if q1 = false then some (0, 0, false) else chainmanlaw23_awake.to p0 p1 a b
set_option maxHeartbeats 8000000 in
set_option maxRecDepth 100000 in
theorem chainmanlaw23_awake.unknown (p0 p1 : Int) (a b : Nat) (w : World) (e0 : chainmanlaw23_awake.ceq a b 0 0 = false) (hC : ∀ g W, W.heap[g]? = some (.cells chainmanlaw23_awake.ways 26 (0, 0)) → Calls Try.prog 73 #[.slice (some ⟨g, 0, none⟩) 4 4, .complex .f64 a b] W fun e w' => e = .returned (.bool false) ∧ Drawn0 W w') :
    Calls Try.prog 16 #[.agg #[.int .i64 p0, .int .i64 p1], .complex .f64 a b] w fun e w' => e = .returned (.tuple #[.agg #[.int .i64 0, .int .i64 0], .bool false]) ∧ Below w.heap.size w w' := by
  have HB := Aside0.mk (Below.refl w.heap.size w)
  have hW := fun W => chainmanlaw23_awake.ways_calls W
  go_enter Try.func16, Try.ntmps16
  go_upto_region 1 with (first | ((with_reducible refine gate_dst (N := 2) rfl ?_); refine box_event ?hg (N := 2) ?hd (cs := #[.int .i64 p0, .int .i64 p1]) (t := 23) ?hr ?_; (case hd => rfl); (case hg => rfl); (case hr => first | (go_simp; done) | (go_simp; rfl)); intro gp hg wb hbox hb; have n0_ := Aside0.mk (below_step (by repeat (first | (with_reducible first | exact HB.out | apply below_alloc | apply pw_below_drewN | apply below_drew1) | exact HB.out)) hb); have n1_ := Aside0.mk hbox; have n3_ := Aside0.mk ((by rw [hg]; exact (below_size (by repeat (first | (with_reducible first | exact HB.out | apply below_alloc | apply pw_below_drewN | apply below_drew1) | exact HB.out))) : w.heap.size ≤ gp)); clear HB; have HB := n0_; have BKgp := n1_; have GEgp := n3_; clear n0_ n1_ n3_; clear hb hbox hg) | ((with_reducible refine gate_dst (N := 4) rfl ?_); refine box_event ?hg (N := 4) ?hd (cs := #[.int .i64 0, .int .i64 0]) (t := 23) ?hr ?_; (case hd => rfl); (case hg => rfl); (case hr => first | (go_simp; done) | (go_simp; rfl)); intro ga hg wb hbox hb; have n0_ := Aside0.mk (below_step (by repeat (first | (with_reducible first | exact HB.out | apply below_alloc | apply pw_below_drewN | apply below_drew1) | exact HB.out)) hb); have n1_ := Aside0.mk hbox; have n3_ := Aside0.mk ((by rw [hg]; exact (below_size (by repeat (first | (with_reducible first | exact HB.out | apply below_alloc | apply pw_below_drewN | apply below_drew1) | exact HB.out))) : w.heap.size ≤ ga)); have m0_ := Aside0.mk (blk_below (g := gp) (o := .cells #[.int .i64 p0, .int .i64 p1] 23 (0, 0)) (by (with_reducible repeat (first | refine blk_drewN ?_ _ | refine blk_drew ?_ | refine blk_alloc ?_ _)); exact BKgp.out) hb); have u0_ := Aside0.mk ((by rw [hg]; exact Nat.ne_of_lt (blk_lt (g := gp) (o := .cells #[.int .i64 p0, .int .i64 p1] 23 (0, 0)) (by (with_reducible repeat (first | refine blk_drewN ?_ _ | refine blk_drew ?_ | refine blk_alloc ?_ _)); exact BKgp.out)) : gp ≠ ga)); clear HB; clear BKgp; have BKgp := m0_; have NEgpga := u0_; clear m0_ u0_; have HB := n0_; have BKga := n1_; have GEga := n3_; clear n0_ n1_ n3_; clear hb hbox hg))
  go_upto_region 2 with (first | (go_at_call 15; refine (hW _).mono ?_; rintro e wr ⟨rfl, hb⟩; have m_ := Aside0.mk (blk_below (g := gp) (o := .cells #[.int .i64 p0, .int .i64 p1] 23 (0, 0)) (by (with_reducible repeat (first | refine blk_drewN ?_ _ | refine blk_drew ?_ | refine blk_alloc ?_ _)); exact BKgp.out) hb); have l_ := Aside0.mk (blk_below (g := ga) (o := .cells #[.int .i64 0, .int .i64 0] 23 (0, 0)) (by (with_reducible repeat (first | refine blk_drewN ?_ _ | refine blk_drew ?_ | refine blk_alloc ?_ _)); exact BKga.out) hb); have n_ := Aside0.mk (below_step (by repeat (first | (with_reducible first | exact HB.out | apply below_alloc | apply pw_below_drewN | apply below_drew1) | exact HB.out)) hb); clear BKgp BKga HB hb; have BKgp := m_; have BKga := l_; have HB := n_; clear m_ l_ n_; unfold chainmanlaw23_awake.ways) | ((with_reducible refine gate_dst (N := 6) rfl ?_); refine box_event ?hg (N := 6) ?hd (cs := #[.complex .f64 0 0, .complex .f64 0 0, .complex .f64 0 0, .complex .f64 0 0]) (t := 26) ?hr ?_; (case hd => rfl); (case hg => rfl); (case hr => first | (go_simp; done) | (go_simp; rfl)); intro gw hg wb hbox hb; have n0_ := Aside0.mk (below_step (by repeat (first | (with_reducible first | exact HB.out | apply below_alloc | apply pw_below_drewN | apply below_drew1) | exact HB.out)) hb); have n1_ := Aside0.mk hbox; have n3_ := Aside0.mk ((by rw [hg]; exact (below_size (by repeat (first | (with_reducible first | exact HB.out | apply below_alloc | apply pw_below_drewN | apply below_drew1) | exact HB.out))) : w.heap.size ≤ gw)); have m0_ := Aside0.mk (blk_below (g := gp) (o := .cells #[.int .i64 p0, .int .i64 p1] 23 (0, 0)) (by (with_reducible repeat (first | refine blk_drewN ?_ _ | refine blk_drew ?_ | refine blk_alloc ?_ _)); exact BKgp.out) hb); have u0_ := Aside0.mk ((by rw [hg]; exact Nat.ne_of_lt (blk_lt (g := gp) (o := .cells #[.int .i64 p0, .int .i64 p1] 23 (0, 0)) (by (with_reducible repeat (first | refine blk_drewN ?_ _ | refine blk_drew ?_ | refine blk_alloc ?_ _)); exact BKgp.out)) : gp ≠ gw)); have m1_ := Aside0.mk (blk_below (g := ga) (o := .cells #[.int .i64 0, .int .i64 0] 23 (0, 0)) (by (with_reducible repeat (first | refine blk_drewN ?_ _ | refine blk_drew ?_ | refine blk_alloc ?_ _)); exact BKga.out) hb); have u1_ := Aside0.mk ((by rw [hg]; exact Nat.ne_of_lt (blk_lt (g := ga) (o := .cells #[.int .i64 0, .int .i64 0] 23 (0, 0)) (by (with_reducible repeat (first | refine blk_drewN ?_ _ | refine blk_drew ?_ | refine blk_alloc ?_ _)); exact BKga.out)) : ga ≠ gw)); clear HB; clear BKgp; have BKgp := m0_; have NEgpgw := u0_; clear m0_ u0_; clear BKga; have BKga := m1_; have NEgagw := u1_; clear m1_ u1_; have HB := n0_; have BKgw := n1_; have GEgw := n3_; clear n0_ n1_ n3_; clear hb hbox hg; have hd0 : World.cell? _ ⟨gw, 0, none⟩ = some (.complex .f64 0 0) := (blk_cell BKgw.out 0).trans rfl; have hg0 := blk_frozen BKgw.out 0; have hd1 : World.cell? _ ⟨gw, 1, none⟩ = some (.complex .f64 0 0) := (blk_cell BKgw.out 1).trans rfl; have hg1 := blk_frozen BKgw.out 1; have hd2 : World.cell? _ ⟨gw, 2, none⟩ = some (.complex .f64 0 0) := (blk_cell BKgw.out 2).trans rfl; have hg2 := blk_frozen BKgw.out 2; have hd3 : World.cell? _ ⟨gw, 3, none⟩ = some (.complex .f64 0 0) := (blk_cell BKgw.out 3).trans rfl; have hg3 := blk_frozen BKgw.out 3))
  obtain ⟨W2, hW2⟩ : ∃ W2, W2 = ((((wb.setCell ⟨gw, 0, none⟩ (.complex .f64 4607182418800017408 0)).setCell ⟨gw, 1, none⟩ (.complex .f64 13830554455654793216 4607182418800017408)).setCell ⟨gw, 2, none⟩ (.complex .f64 0 4607182418800017408)).setCell ⟨gw, 3, none⟩ (.complex .f64 4607182418800017408 4607182418800017408)) := ⟨_, rfl⟩
  have m1_ := Aside0.mk (by rw [hW2]; exact (by (with_reducible repeat (first | refine blk_drewN ?_ _ | refine blk_drew ?_ | refine blk_alloc ?_ _)); refine blk_put (cs := #[.complex .f64 4607182418800017408 0, .complex .f64 13830554455654793216 4607182418800017408, .complex .f64 0 4607182418800017408, .complex .f64 0 0]) ?_ 3 _ rfl; (with_reducible repeat (first | refine blk_drewN ?_ _ | refine blk_drew ?_ | refine blk_alloc ?_ _)); refine blk_put (cs := #[.complex .f64 4607182418800017408 0, .complex .f64 13830554455654793216 4607182418800017408, .complex .f64 0 0, .complex .f64 0 0]) ?_ 2 _ rfl; (with_reducible repeat (first | refine blk_drewN ?_ _ | refine blk_drew ?_ | refine blk_alloc ?_ _)); refine blk_put (cs := #[.complex .f64 4607182418800017408 0, .complex .f64 0 0, .complex .f64 0 0, .complex .f64 0 0]) ?_ 1 _ rfl; (with_reducible repeat (first | refine blk_drewN ?_ _ | refine blk_drew ?_ | refine blk_alloc ?_ _)); refine blk_put (cs := #[.complex .f64 0 0, .complex .f64 0 0, .complex .f64 0 0, .complex .f64 0 0]) ?_ 0 _ rfl; (with_reducible repeat (first | refine blk_drewN ?_ _ | refine blk_drew ?_ | refine blk_alloc ?_ _)); exact BKgw.out) : W2.heap[gw]? = some (.cells chainmanlaw23_awake.ways 26 (0, 0)))
  have m2_ := Aside0.mk (by rw [hW2]; repeat (first | exact BKgp.out | refine blk_far ?_ NEgpgw.out _) : W2.heap[gp]? = some (.cells #[.int .i64 p0, .int .i64 p1] 23 (0, 0)))
  have m3_ := Aside0.mk (by rw [hW2]; repeat (first | exact BKga.out | refine blk_far ?_ NEgagw.out _) : W2.heap[ga]? = some (.cells #[.int .i64 0, .int .i64 0] 23 (0, 0)))
  have m4_ := Aside0.mk (by rw [hW2]; exact (by repeat (first | (with_reducible first | exact HB.out | apply below_alloc | apply pw_below_drewN | apply below_drew1 | refine below_set ?_ GEgw.out ) | exact HB.out)) : Below w.heap.size w W2)
  rw [← hW2]
  clear hW2 BKgw BKgp BKga HB hd0 hd1 hd2 hd3 hg0 hg1 hg2 hg3
  have BKgw := m1_; have BKgp := m2_; have BKga := m3_; have HB := m4_; clear m1_ m2_ m3_ m4_
  have hp0 : World.cell? _ ⟨gp, 0, none⟩ = some (.int .i64 p0) := (blk_cell BKgp.out 0).trans rfl; have hq0 := blk_frozen BKgp.out 0; have hp1 : World.cell? _ ⟨gp, 1, none⟩ = some (.int .i64 p1) := (blk_cell BKgp.out 1).trans rfl; have hq1 := blk_frozen BKgp.out 1
  have ha0 : World.cell? _ ⟨ga, 0, none⟩ = some (.int .i64 0) := (blk_cell BKga.out 0).trans rfl; have hb0 := blk_frozen BKga.out 0; have ha1 : World.cell? _ ⟨ga, 1, none⟩ = some (.int .i64 0) := (blk_cell BKga.out 1).trans rfl; have hb1 := blk_frozen BKga.out 1
  go_wp2_with (first | (go_at_call 73; refine (hC gw _ (by (with_reducible repeat (first | refine blk_drewN ?_ _ | refine blk_drew ?_ | refine blk_alloc ?_ _)); exact BKgw.out)).mono ?_; rintro e w' ⟨rfl, ⟨nd, rfl⟩⟩))
  refine bodyPost_ret (results_ct rfl _ _ ga 23 #[.int .i64 0, .int .i64 0] (0, 0) _ rfl (by (with_reducible repeat (first | refine blk_drewN ?_ _ | refine blk_drew ?_ | refine blk_alloc ?_ _)); refine blk_put (cs := #[.int .i64 0, .int .i64 0]) ?_ 1 _ rfl; (with_reducible repeat (first | refine blk_drewN ?_ _ | refine blk_drew ?_ | refine blk_alloc ?_ _)); refine blk_put (cs := #[.int .i64 0, .int .i64 0]) ?_ 0 _ rfl; (with_reducible repeat (first | refine blk_drewN ?_ _ | refine blk_drew ?_ | refine blk_alloc ?_ _)); exact BKga.out) Try.underlying23 rfl (by kernel_rfl)) rfl ?_
  exact ⟨rfl, by repeat (first | (with_reducible first | exact HB.out | apply below_alloc | apply pw_below_drewN | apply below_drew1 | refine below_set ?_ GEga.out ) | exact HB.out)⟩
set_option maxHeartbeats 8000000 in
set_option maxRecDepth 100000 in
theorem chainmanlaw23_awake.moved (p0 p1 : Int) (a b : Nat) (w : World) (e0 : chainmanlaw23_awake.ceq a b 0 0 = false) (hC : ∀ g W, W.heap[g]? = some (.cells chainmanlaw23_awake.ways 26 (0, 0)) → Calls Try.prog 73 #[.slice (some ⟨g, 0, none⟩) 4 4, .complex .f64 a b] W fun e w' => e = .returned (.bool true) ∧ Drawn0 W w') (hI0 : ∀ W, Calls Try.prog 74 #[.int .i64 p0] W fun e w' => e = .returned (.bool true) ∧ Drawn0 W w') (hI1 : ∀ W, Calls Try.prog 74 #[.int .i64 p1] W fun e w' => e = .returned (.bool true) ∧ Drawn0 W w') (s1 s2 : Nat) (x y : Int) (hs : cSumBits .add .f64 (floatOfInt .f64 p0) (floatOfInt .f64 p1) a b = some (s1, s2)) (hx : floatToIntVal .f64 s1 .i64 = some x) (hy : floatToIntVal .f64 s2 .i64 = some y) :
    Calls Try.prog 16 #[.agg #[.int .i64 p0, .int .i64 p1], .complex .f64 a b] w fun e w' => e = .returned (.tuple #[.agg #[.int .i64 x, .int .i64 y], .bool true]) ∧ Below w.heap.size w w' := by
  have HB := Aside0.mk (Below.refl w.heap.size w)
  have hW := fun W => chainmanlaw23_awake.ways_calls W
  have hsum := fun W => run_complex_sum (P := Try.prog) W .add (.inl rfl) 25 .f64 _ _ a b s1 s2 hs
  have hcx := fun W => run_convert_float_int (P := Try.prog) W 34 3 .f64 .i64 s1 x (by rw [Try.underlying34]; rfl) Try.underlying3 hx
  have hcy := fun W => run_convert_float_int (P := Try.prog) W 34 3 .f64 .i64 s2 y (by rw [Try.underlying34]; rfl) Try.underlying3 hy
  clear hs hx hy
  go_enter Try.func16, Try.ntmps16
  skip
  go_upto_region 1 with (first | ((with_reducible refine gate_dst (N := 2) rfl ?_); refine box_event ?hg (N := 2) ?hd (cs := #[.int .i64 p0, .int .i64 p1]) (t := 23) ?hr ?_; (case hd => rfl); (case hg => rfl); (case hr => first | (go_simp; done) | (go_simp; rfl)); intro gp hg wb hbox hb; have n0_ := Aside0.mk (below_step (by repeat (first | (with_reducible first | exact HB.out | apply below_alloc | apply pw_below_drewN | apply below_drew1) | exact HB.out)) hb); have n1_ := Aside0.mk hbox; have n3_ := Aside0.mk ((by rw [hg]; exact (below_size (by repeat (first | (with_reducible first | exact HB.out | apply below_alloc | apply pw_below_drewN | apply below_drew1) | exact HB.out))) : w.heap.size ≤ gp)); clear HB; have HB := n0_; have BKgp := n1_; have GEgp := n3_; clear n0_ n1_ n3_; clear hb hbox hg) | ((with_reducible refine gate_dst (N := 4) rfl ?_); refine box_event ?hg (N := 4) ?hd (cs := #[.int .i64 0, .int .i64 0]) (t := 23) ?hr ?_; (case hd => rfl); (case hg => rfl); (case hr => first | (go_simp; done) | (go_simp; rfl)); intro ga hg wb hbox hb; have n0_ := Aside0.mk (below_step (by repeat (first | (with_reducible first | exact HB.out | apply below_alloc | apply pw_below_drewN | apply below_drew1) | exact HB.out)) hb); have n1_ := Aside0.mk hbox; have n3_ := Aside0.mk ((by rw [hg]; exact (below_size (by repeat (first | (with_reducible first | exact HB.out | apply below_alloc | apply pw_below_drewN | apply below_drew1) | exact HB.out))) : w.heap.size ≤ ga)); have m0_ := Aside0.mk (blk_below (g := gp) (o := .cells #[.int .i64 p0, .int .i64 p1] 23 (0, 0)) (by (with_reducible repeat (first | refine blk_drewN ?_ _ | refine blk_drew ?_ | refine blk_alloc ?_ _)); exact BKgp.out) hb); have u0_ := Aside0.mk ((by rw [hg]; exact Nat.ne_of_lt (blk_lt (g := gp) (o := .cells #[.int .i64 p0, .int .i64 p1] 23 (0, 0)) (by (with_reducible repeat (first | refine blk_drewN ?_ _ | refine blk_drew ?_ | refine blk_alloc ?_ _)); exact BKgp.out)) : gp ≠ ga)); clear HB; clear BKgp; have BKgp := m0_; have NEgpga := u0_; clear m0_ u0_; have HB := n0_; have BKga := n1_; have GEga := n3_; clear n0_ n1_ n3_; clear hb hbox hg))
  go_upto_region 2 with (first | (go_at_call 15; refine (hW _).mono ?_; rintro e wr ⟨rfl, hb⟩; have m_ := Aside0.mk (blk_below (g := gp) (o := .cells #[.int .i64 p0, .int .i64 p1] 23 (0, 0)) (by (with_reducible repeat (first | refine blk_drewN ?_ _ | refine blk_drew ?_ | refine blk_alloc ?_ _)); exact BKgp.out) hb); have l_ := Aside0.mk (blk_below (g := ga) (o := .cells #[.int .i64 0, .int .i64 0] 23 (0, 0)) (by (with_reducible repeat (first | refine blk_drewN ?_ _ | refine blk_drew ?_ | refine blk_alloc ?_ _)); exact BKga.out) hb); have n_ := Aside0.mk (below_step (by repeat (first | (with_reducible first | exact HB.out | apply below_alloc | apply pw_below_drewN | apply below_drew1) | exact HB.out)) hb); clear BKgp BKga HB hb; have BKgp := m_; have BKga := l_; have HB := n_; clear m_ l_ n_; unfold chainmanlaw23_awake.ways) | ((with_reducible refine gate_dst (N := 6) rfl ?_); refine box_event ?hg (N := 6) ?hd (cs := #[.complex .f64 0 0, .complex .f64 0 0, .complex .f64 0 0, .complex .f64 0 0]) (t := 26) ?hr ?_; (case hd => rfl); (case hg => rfl); (case hr => first | (go_simp; done) | (go_simp; rfl)); intro gw hg wb hbox hb; have n0_ := Aside0.mk (below_step (by repeat (first | (with_reducible first | exact HB.out | apply below_alloc | apply pw_below_drewN | apply below_drew1) | exact HB.out)) hb); have n1_ := Aside0.mk hbox; have n3_ := Aside0.mk ((by rw [hg]; exact (below_size (by repeat (first | (with_reducible first | exact HB.out | apply below_alloc | apply pw_below_drewN | apply below_drew1) | exact HB.out))) : w.heap.size ≤ gw)); have m0_ := Aside0.mk (blk_below (g := gp) (o := .cells #[.int .i64 p0, .int .i64 p1] 23 (0, 0)) (by (with_reducible repeat (first | refine blk_drewN ?_ _ | refine blk_drew ?_ | refine blk_alloc ?_ _)); exact BKgp.out) hb); have u0_ := Aside0.mk ((by rw [hg]; exact Nat.ne_of_lt (blk_lt (g := gp) (o := .cells #[.int .i64 p0, .int .i64 p1] 23 (0, 0)) (by (with_reducible repeat (first | refine blk_drewN ?_ _ | refine blk_drew ?_ | refine blk_alloc ?_ _)); exact BKgp.out)) : gp ≠ gw)); have m1_ := Aside0.mk (blk_below (g := ga) (o := .cells #[.int .i64 0, .int .i64 0] 23 (0, 0)) (by (with_reducible repeat (first | refine blk_drewN ?_ _ | refine blk_drew ?_ | refine blk_alloc ?_ _)); exact BKga.out) hb); have u1_ := Aside0.mk ((by rw [hg]; exact Nat.ne_of_lt (blk_lt (g := ga) (o := .cells #[.int .i64 0, .int .i64 0] 23 (0, 0)) (by (with_reducible repeat (first | refine blk_drewN ?_ _ | refine blk_drew ?_ | refine blk_alloc ?_ _)); exact BKga.out)) : ga ≠ gw)); clear HB; clear BKgp; have BKgp := m0_; have NEgpgw := u0_; clear m0_ u0_; clear BKga; have BKga := m1_; have NEgagw := u1_; clear m1_ u1_; have HB := n0_; have BKgw := n1_; have GEgw := n3_; clear n0_ n1_ n3_; clear hb hbox hg; have hd0 : World.cell? _ ⟨gw, 0, none⟩ = some (.complex .f64 0 0) := (blk_cell BKgw.out 0).trans rfl; have hg0 := blk_frozen BKgw.out 0; have hd1 : World.cell? _ ⟨gw, 1, none⟩ = some (.complex .f64 0 0) := (blk_cell BKgw.out 1).trans rfl; have hg1 := blk_frozen BKgw.out 1; have hd2 : World.cell? _ ⟨gw, 2, none⟩ = some (.complex .f64 0 0) := (blk_cell BKgw.out 2).trans rfl; have hg2 := blk_frozen BKgw.out 2; have hd3 : World.cell? _ ⟨gw, 3, none⟩ = some (.complex .f64 0 0) := (blk_cell BKgw.out 3).trans rfl; have hg3 := blk_frozen BKgw.out 3))
  obtain ⟨W2, hW2⟩ : ∃ W2, W2 = ((((wb.setCell ⟨gw, 0, none⟩ (.complex .f64 4607182418800017408 0)).setCell ⟨gw, 1, none⟩ (.complex .f64 13830554455654793216 4607182418800017408)).setCell ⟨gw, 2, none⟩ (.complex .f64 0 4607182418800017408)).setCell ⟨gw, 3, none⟩ (.complex .f64 4607182418800017408 4607182418800017408)) := ⟨_, rfl⟩
  have m1_ := Aside0.mk (by rw [hW2]; exact (by (with_reducible repeat (first | refine blk_drewN ?_ _ | refine blk_drew ?_ | refine blk_alloc ?_ _)); refine blk_put (cs := #[.complex .f64 4607182418800017408 0, .complex .f64 13830554455654793216 4607182418800017408, .complex .f64 0 4607182418800017408, .complex .f64 0 0]) ?_ 3 _ rfl; (with_reducible repeat (first | refine blk_drewN ?_ _ | refine blk_drew ?_ | refine blk_alloc ?_ _)); refine blk_put (cs := #[.complex .f64 4607182418800017408 0, .complex .f64 13830554455654793216 4607182418800017408, .complex .f64 0 0, .complex .f64 0 0]) ?_ 2 _ rfl; (with_reducible repeat (first | refine blk_drewN ?_ _ | refine blk_drew ?_ | refine blk_alloc ?_ _)); refine blk_put (cs := #[.complex .f64 4607182418800017408 0, .complex .f64 0 0, .complex .f64 0 0, .complex .f64 0 0]) ?_ 1 _ rfl; (with_reducible repeat (first | refine blk_drewN ?_ _ | refine blk_drew ?_ | refine blk_alloc ?_ _)); refine blk_put (cs := #[.complex .f64 0 0, .complex .f64 0 0, .complex .f64 0 0, .complex .f64 0 0]) ?_ 0 _ rfl; (with_reducible repeat (first | refine blk_drewN ?_ _ | refine blk_drew ?_ | refine blk_alloc ?_ _)); exact BKgw.out) : W2.heap[gw]? = some (.cells chainmanlaw23_awake.ways 26 (0, 0)))
  have m2_ := Aside0.mk (by rw [hW2]; repeat (first | exact BKgp.out | refine blk_far ?_ NEgpgw.out _) : W2.heap[gp]? = some (.cells #[.int .i64 p0, .int .i64 p1] 23 (0, 0)))
  have m3_ := Aside0.mk (by rw [hW2]; repeat (first | exact BKga.out | refine blk_far ?_ NEgagw.out _) : W2.heap[ga]? = some (.cells #[.int .i64 0, .int .i64 0] 23 (0, 0)))
  have m4_ := Aside0.mk (by rw [hW2]; exact (by repeat (first | (with_reducible first | exact HB.out | apply below_alloc | apply pw_below_drewN | apply below_drew1 | refine below_set ?_ GEgw.out ) | exact HB.out)) : Below w.heap.size w W2)
  rw [← hW2]
  clear hW2 BKgw BKgp BKga HB hd0 hd1 hd2 hd3 hg0 hg1 hg2 hg3
  have BKgw := m1_; have BKgp := m2_; have BKga := m3_; have HB := m4_; clear m1_ m2_ m3_ m4_
  have hp0 : World.cell? _ ⟨gp, 0, none⟩ = some (.int .i64 p0) := (blk_cell BKgp.out 0).trans rfl; have hq0 := blk_frozen BKgp.out 0; have hp1 : World.cell? _ ⟨gp, 1, none⟩ = some (.int .i64 p1) := (blk_cell BKgp.out 1).trans rfl; have hq1 := blk_frozen BKgp.out 1
  have ha0 : World.cell? _ ⟨ga, 0, none⟩ = some (.int .i64 0) := (blk_cell BKga.out 0).trans rfl; have hb0 := blk_frozen BKga.out 0; have ha1 : World.cell? _ ⟨ga, 1, none⟩ = some (.int .i64 0) := (blk_cell BKga.out 1).trans rfl; have hb1 := blk_frozen BKga.out 1
  go_wp2_with (first | (go_at_call 73; refine (hC gw _ (by (with_reducible repeat (first | refine blk_drewN ?_ _ | refine blk_drew ?_ | refine blk_alloc ?_ _)); exact BKgw.out)).mono ?_; rintro e w' ⟨rfl, ⟨nd, rfl⟩⟩) | (go_at_call 74; with_reducible refine (hI0 _).mono ?_; rintro e w' ⟨rfl, ⟨nd, rfl⟩⟩) | (go_at_call 74; with_reducible refine (hI1 _).mono ?_; rintro e w' ⟨rfl, ⟨nd, rfl⟩⟩))
  refine bodyPost_ret (results_ct rfl _ _ ga 23 #[.int .i64 x, .int .i64 y] (0, 0) _ rfl (by (with_reducible repeat (first | refine blk_drewN ?_ _ | refine blk_drew ?_ | refine blk_alloc ?_ _)); refine blk_put (cs := #[.int .i64 x, .int .i64 0]) ?_ 1 _ rfl; (with_reducible repeat (first | refine blk_drewN ?_ _ | refine blk_drew ?_ | refine blk_alloc ?_ _)); refine blk_put (cs := #[.int .i64 0, .int .i64 0]) ?_ 0 _ rfl; (with_reducible repeat (first | refine blk_drewN ?_ _ | refine blk_drew ?_ | refine blk_alloc ?_ _)); exact BKga.out) Try.underlying23 rfl (by kernel_rfl)) rfl ?_
  exact ⟨rfl, by repeat (first | (with_reducible first | exact HB.out | apply below_alloc | apply pw_below_drewN | apply below_drew1 | refine below_set ?_ GEga.out ) | exact HB.out)⟩
attribute [local go_sem high] eqA23
set_option maxHeartbeats 8000000 in
set_option maxRecDepth 100000 in
theorem chainmanlaw23_awake.calls (r : Bool) (w : World) (h : chainmanlaw23_awake.f = some r) : Calls Try.prog 19 #[] w fun e w' => e = .returned (.bool r) ∧ Below w.heap.size w w' := by
  obtain rfl := Option.some.inj h
  clear h
  have HB := Aside0.mk (Below.refl w.heap.size w)
  obtain ⟨y, hy⟩ : ∃ y_ : List Int, y_ = ([-1, 5, 9] : List Int) := ⟨_, rfl⟩
  have hO := fun A c W hc hl => cell_Of.calls A c y 3 (-1) 1 true W hc hl (by rw [hy]; decide +kernel)
  have Ny := Aside0.mk hy
  clear hy
  have hG1 := fun W => chainmanlaw23_awake.moved (-1) 1 0 4607182418800017408 W (by decide +kernel) (fun g W hW => by have := chainmanlaw23_awake.contains g 0 4607182418800017408 W hW; rw [show chainmanlaw23_awake.known 0 4607182418800017408 = true by decide +kernel] at this; exact this) (fun W => cell_inner.calls _ _ W (by decide +kernel)) (fun W => cell_inner.calls _ _ W (by decide +kernel)) 13830554455654793216 4611686018427387904 (-1) 2 (by decide +kernel) (by decide +kernel) (by decide +kernel)
  have hG2 := fun W => chainmanlaw23_awake.unknown (-1) 1 4611686018427387904 0 W (by decide +kernel) (fun g W hW => by have := chainmanlaw23_awake.contains g 4611686018427387904 0 W hW; rw [show chainmanlaw23_awake.known 4611686018427387904 0 = false by decide +kernel] at this; exact this)
  have hF1 := fun W => cell_Fits.calls 9 3 true W (by decide +kernel)
  have hF2 := fun W => cell_Fits.calls 10 3 false W (by decide +kernel)
  go_enter Try.func19, Try.ntmps19
  go_upto_region 1 with (fail)
  go_upto_region 2 with (first | ((with_reducible refine gate_dst (N := 8) rfl ?_); refine Kd.R_lit (Kd.int .i64) _ 3 ?hg (N := 8) ?hd (xs := ([-1, 5, 9] : List Int)) (inner := [.int .i64 (-1), .int .i64 5, .int .i64 9]) (ok := fun _ => True) (okp := fun _ => True) ?hr ?hp (fun _ hk => hk) trivial (Below.refl _ _) (Nat.le_refl _) (by simp) ?_; (case hd => rfl); (case hg => rfl); (case hr => first | (go_simp; done) | (go_simp; rfl)); (case hp => exact (Reps.one (show Kd.M (Kd.int .i64) _ _ _ (-1) [.int .i64 (-1)] from rfl) (Reps.one (show Kd.M (Kd.int .i64) _ _ _ 5 [.int .i64 5] from rfl) (Reps.one (show Kd.M (Kd.int .i64) _ _ _ 9 [.int .i64 9] from rfl) (Reps.none _ _))))); intro v105 w8 ho9 hb hg_ hnew_; clear hg_ hnew_; (first | rw [← Ny.out] at ho9 | (simp only [Int.reduceToNat] at ho9; rw [← Ny.out] at ho9)); have n0_ := Aside0.mk (Kd.R_lower ho9 (below_size (by repeat (first | (with_reducible first | exact HB.out | apply below_alloc | apply pw_below_drewN | apply below_drew1) | exact HB.out)))); have n1_ := Aside0.mk (below_step (by repeat (first | (with_reducible first | exact HB.out | apply below_alloc | apply pw_below_drewN | apply below_drew1) | exact HB.out)) hb); clear HB; have HO := n0_; have HB := n1_; clear n0_ n1_; clear hb ho9; obtain ⟨Ao, co, eo⟩ := Kd.R_slice HO.out; subst eo) | ((with_reducible refine gate_callee (f := 23) rfl ?_); refine goesL_ (some 9) rfl rfl Try.func23 (by kernel_rfl) rfl #[.slice Ao y.length co, .int .i64 3] rfl (by (try simp only [List.map_toArray, List.map_cons, List.map_nil]); first | done | rfl | (simp only [List.length_drop, List.length_take]; rfl)) ?_; (with_reducible refine (hO _ _ _ ?side1 ?side2).mono ?_); (case side1 => repeat (first | exact (Kd.R_reads' HO.out).2.2 | (with_reducible refine Kd.C_alloc ?_ _) | (with_reducible refine Kd.C_drewN ?_ _) | (with_reducible refine Kd.C_drew ?_))); (case side2 => exact (Kd.R_reads' HO.out).2.1); rintro e w11 ⟨rfl, hb⟩; refine ⟨_, rfl, ?_⟩; clear HO; have n_ := Aside0.mk (below_step (by repeat (first | (with_reducible first | exact HB.out | apply below_alloc | apply pw_below_drewN | apply below_drew1) | exact HB.out)) hb); clear HB; have HB := n_; clear n_ hb) | ((with_reducible refine gate_dst (N := 1) rfl ?_); refine box_event ?hg (N := 1) ?hd (cs := #[.int .i64 0, .int .i64 0]) (t := 23) ?hr ?_; (case hd => rfl); (case hg => rfl); (case hr => first | (go_simp; done) | (go_simp; rfl)); intro g1 hg wb hbox hb; have n0_ := Aside0.mk (below_step (by repeat (first | (with_reducible first | exact HB.out | apply below_alloc | apply pw_below_drewN | apply below_drew1) | exact HB.out)) hb); have n1_ := Aside0.mk hbox; have n3_ := Aside0.mk ((by rw [hg]; exact (below_size (by repeat (first | (with_reducible first | exact HB.out | apply below_alloc | apply pw_below_drewN | apply below_drew1) | exact HB.out))) : w.heap.size ≤ g1)); clear HB; have HB := n0_; have BKg1 := n1_; have GEg1 := n3_; clear n0_ n1_ n3_; clear hb hbox hg; have hc0 : World.cell? _ ⟨g1, 0, none⟩ = some (.int .i64 0) := (blk_cell BKg1.out 0).trans rfl; have hf0 := blk_frozen BKg1.out 0; have hc1 : World.cell? _ ⟨g1, 1, none⟩ = some (.int .i64 0) := (blk_cell BKg1.out 1).trans rfl; have hf1 := blk_frozen BKg1.out 1))
  skip
  obtain ⟨Wg1, hWg1⟩ : ∃ W_, W_ = ((wb.setCell ⟨g1, 0, none⟩ (.int .i64 (-1))).setCell ⟨g1, 1, none⟩ (.int .i64 1)) := ⟨_, rfl⟩
  have m0_ := Aside0.mk (by rw [hWg1]; exact (by refine blk_put (cs := #[.int .i64 (-1), .int .i64 0]) ?_ 1 _ rfl; refine blk_put (cs := #[.int .i64 0, .int .i64 0]) ?_ 0 _ rfl; exact BKg1.out) : Wg1.heap[g1]? = some (.cells #[.int .i64 (-1), .int .i64 1] 23 (0, 0)))
  have mB_ := Aside0.mk (by rw [hWg1]; exact (by repeat (first | (with_reducible first | exact HB.out | apply below_alloc | apply pw_below_drewN | apply below_drew1 | refine below_set ?_ GEg1.out ) | exact HB.out)) : Below w.heap.size w Wg1)
  rw [← hWg1]
  clear hWg1 BKg1 HB
  have BKg1 := m0_; have HB := mB_; clear m0_ mB_
  have hp0 : World.cell? _ ⟨g1, 0, none⟩ = some (.int .i64 (-1)) := (blk_cell BKg1.out 0).trans rfl; have hq0 := blk_frozen BKg1.out 0; have hp1 : World.cell? _ ⟨g1, 1, none⟩ = some (.int .i64 1) := (blk_cell BKg1.out 1).trans rfl; have hq1 := blk_frozen BKg1.out 1
  go_upto_region 3 with (first | (go_at_call 16; with_reducible refine (hG1 _).mono ?_; rintro e w' ⟨rfl, hb⟩; have k0_ := Aside0.mk (blk_below (g := g1) (o := .cells #[.int .i64 (-1), .int .i64 1] 23 (0, 0)) (by (with_reducible repeat (first | refine blk_drewN ?_ _ | refine blk_drew ?_ | refine blk_alloc ?_ _)); exact BKg1.out) hb); clear BKg1; have BKg1 := k0_; clear k0_; have n_ := Aside0.mk (below_step (by repeat (first | (with_reducible first | exact HB.out | apply below_alloc | apply pw_below_drewN | apply below_drew1) | exact HB.out)) hb); clear HB; have HB := n_; clear n_ hb) | ((with_reducible refine gate_dst (N := 3) rfl ?_); refine box_event ?hg (N := 3) ?hd (cs := #[.int .i64 0, .int .i64 0]) (t := 23) ?hr ?_; (case hd => rfl); (case hg => rfl); (case hr => first | (go_simp; done) | (go_simp; rfl)); intro g3 hg wb hbox hb; have n0_ := Aside0.mk (below_step (by repeat (first | (with_reducible first | exact HB.out | apply below_alloc | apply pw_below_drewN | apply below_drew1) | exact HB.out)) hb); have n1_ := Aside0.mk hbox; have n3_ := Aside0.mk ((by rw [hg]; exact (below_size (by repeat (first | (with_reducible first | exact HB.out | apply below_alloc | apply pw_below_drewN | apply below_drew1) | exact HB.out))) : w.heap.size ≤ g3)); have m0_ := Aside0.mk (blk_below (g := g1) (o := .cells #[.int .i64 (-1), .int .i64 1] 23 (0, 0)) (by (with_reducible repeat (first | refine blk_drewN ?_ _ | refine blk_drew ?_ | refine blk_alloc ?_ _)); exact BKg1.out) hb); have u0_ := Aside0.mk ((by rw [hg]; exact Nat.ne_of_lt (blk_lt (g := g1) (o := .cells #[.int .i64 (-1), .int .i64 1] 23 (0, 0)) (by (with_reducible repeat (first | refine blk_drewN ?_ _ | refine blk_drew ?_ | refine blk_alloc ?_ _)); exact BKg1.out)) : g1 ≠ g3)); clear HB; clear BKg1; have BKg1 := m0_; have NEg1g3 := u0_; clear m0_ u0_; have HB := n0_; have BKg3 := n1_; have GEg3 := n3_; clear n0_ n1_ n3_; clear hb hbox hg; have hi0 : World.cell? _ ⟨g3, 0, none⟩ = some (.int .i64 0) := (blk_cell BKg3.out 0).trans rfl; have hj0 := blk_frozen BKg3.out 0; have hi1 : World.cell? _ ⟨g3, 1, none⟩ = some (.int .i64 0) := (blk_cell BKg3.out 1).trans rfl; have hj1 := blk_frozen BKg3.out 1))
  obtain ⟨Wg3, hWg3⟩ : ∃ W_, W_ = ((wb.setCell ⟨g3, 0, none⟩ (.int .i64 (-1))).setCell ⟨g3, 1, none⟩ (.int .i64 2)) := ⟨_, rfl⟩
  have m0_ := Aside0.mk (by rw [hWg3]; exact (by refine blk_put (cs := #[.int .i64 (-1), .int .i64 0]) ?_ 1 _ rfl; refine blk_put (cs := #[.int .i64 0, .int .i64 0]) ?_ 0 _ rfl; exact BKg3.out) : Wg3.heap[g3]? = some (.cells #[.int .i64 (-1), .int .i64 2] 23 (0, 0)))
  have m1_ := Aside0.mk (by rw [hWg3]; repeat (first | exact BKg1.out | refine blk_far ?_ NEg1g3.out _) : Wg3.heap[g1]? = some (.cells #[.int .i64 (-1), .int .i64 1] 23 (0, 0)))
  have mB_ := Aside0.mk (by rw [hWg3]; exact (by repeat (first | (with_reducible first | exact HB.out | apply below_alloc | apply pw_below_drewN | apply below_drew1 | refine below_set ?_ GEg3.out ) | exact HB.out)) : Below w.heap.size w Wg3)
  rw [← hWg3]
  clear hWg3 BKg3 HB BKg1
  have BKg3 := m0_; have HB := mB_; clear m0_ mB_
  have BKg1 := m1_; clear m1_
  have ha0 : World.cell? _ ⟨g1, 0, none⟩ = some (.int .i64 (-1)) := (blk_cell BKg1.out 0).trans rfl; have hb0 := blk_frozen BKg1.out 0; have ha1 : World.cell? _ ⟨g1, 1, none⟩ = some (.int .i64 1) := (blk_cell BKg1.out 1).trans rfl; have hb1 := blk_frozen BKg1.out 1
  have hr0 : World.cell? _ ⟨g3, 0, none⟩ = some (.int .i64 (-1)) := (blk_cell BKg3.out 0).trans rfl; have hs0 := blk_frozen BKg3.out 0; have hr1 : World.cell? _ ⟨g3, 1, none⟩ = some (.int .i64 2) := (blk_cell BKg3.out 1).trans rfl; have hs1 := blk_frozen BKg3.out 1
  go_upto_region 4 with (first | (go_at_call 16; with_reducible refine (hG2 _).mono ?_; rintro e w' ⟨rfl, hb⟩; have k0_ := Aside0.mk (blk_below (g := g1) (o := .cells #[.int .i64 (-1), .int .i64 1] 23 (0, 0)) (by (with_reducible repeat (first | refine blk_drewN ?_ _ | refine blk_drew ?_ | refine blk_alloc ?_ _)); exact BKg1.out) hb); clear BKg1; have BKg1 := k0_; clear k0_; have k1_ := Aside0.mk (blk_below (g := g3) (o := .cells #[.int .i64 (-1), .int .i64 2] 23 (0, 0)) (by (with_reducible repeat (first | refine blk_drewN ?_ _ | refine blk_drew ?_ | refine blk_alloc ?_ _)); exact BKg3.out) hb); clear BKg3; have BKg3 := k1_; clear k1_; have n_ := Aside0.mk (below_step (by repeat (first | (with_reducible first | exact HB.out | apply below_alloc | apply pw_below_drewN | apply below_drew1) | exact HB.out)) hb); clear HB; have HB := n_; clear n_ hb) | ((with_reducible refine gate_dst (N := 5) rfl ?_); refine box_event ?hg (N := 5) ?hd (cs := #[.int .i64 0, .int .i64 0]) (t := 23) ?hr ?_; (case hd => rfl); (case hg => rfl); (case hr => first | (go_simp; done) | (go_simp; rfl)); intro g5 hg wb hbox hb; have n0_ := Aside0.mk (below_step (by repeat (first | (with_reducible first | exact HB.out | apply below_alloc | apply pw_below_drewN | apply below_drew1) | exact HB.out)) hb); have n1_ := Aside0.mk hbox; have n3_ := Aside0.mk ((by rw [hg]; exact (below_size (by repeat (first | (with_reducible first | exact HB.out | apply below_alloc | apply pw_below_drewN | apply below_drew1) | exact HB.out))) : w.heap.size ≤ g5)); have m0_ := Aside0.mk (blk_below (g := g1) (o := .cells #[.int .i64 (-1), .int .i64 1] 23 (0, 0)) (by (with_reducible repeat (first | refine blk_drewN ?_ _ | refine blk_drew ?_ | refine blk_alloc ?_ _)); exact BKg1.out) hb); have u0_ := Aside0.mk ((by rw [hg]; exact Nat.ne_of_lt (blk_lt (g := g1) (o := .cells #[.int .i64 (-1), .int .i64 1] 23 (0, 0)) (by (with_reducible repeat (first | refine blk_drewN ?_ _ | refine blk_drew ?_ | refine blk_alloc ?_ _)); exact BKg1.out)) : g1 ≠ g5)); have m1_ := Aside0.mk (blk_below (g := g3) (o := .cells #[.int .i64 (-1), .int .i64 2] 23 (0, 0)) (by (with_reducible repeat (first | refine blk_drewN ?_ _ | refine blk_drew ?_ | refine blk_alloc ?_ _)); exact BKg3.out) hb); have u1_ := Aside0.mk ((by rw [hg]; exact Nat.ne_of_lt (blk_lt (g := g3) (o := .cells #[.int .i64 (-1), .int .i64 2] 23 (0, 0)) (by (with_reducible repeat (first | refine blk_drewN ?_ _ | refine blk_drew ?_ | refine blk_alloc ?_ _)); exact BKg3.out)) : g3 ≠ g5)); clear HB; clear BKg1; have BKg1 := m0_; have NEg1g5 := u0_; clear m0_ u0_; clear BKg3; have BKg3 := m1_; have NEg3g5 := u1_; clear m1_ u1_; have HB := n0_; have BKg5 := n1_; have GEg5 := n3_; clear n0_ n1_ n3_; clear hb hbox hg; have hk0 : World.cell? _ ⟨g5, 0, none⟩ = some (.int .i64 0) := (blk_cell BKg5.out 0).trans rfl; have hl0 := blk_frozen BKg5.out 0; have hk1 : World.cell? _ ⟨g5, 1, none⟩ = some (.int .i64 0) := (blk_cell BKg5.out 1).trans rfl; have hl1 := blk_frozen BKg5.out 1))
  obtain ⟨Wg5, hWg5⟩ : ∃ W_, W_ = ((wb.setCell ⟨g5, 0, none⟩ (.int .i64 0)).setCell ⟨g5, 1, none⟩ (.int .i64 0)) := ⟨_, rfl⟩
  have m0_ := Aside0.mk (by rw [hWg5]; exact (by refine blk_put (cs := #[.int .i64 0, .int .i64 0]) ?_ 1 _ rfl; refine blk_put (cs := #[.int .i64 0, .int .i64 0]) ?_ 0 _ rfl; exact BKg5.out) : Wg5.heap[g5]? = some (.cells #[.int .i64 0, .int .i64 0] 23 (0, 0)))
  have m1_ := Aside0.mk (by rw [hWg5]; repeat (first | exact BKg1.out | refine blk_far ?_ NEg1g5.out _) : Wg5.heap[g1]? = some (.cells #[.int .i64 (-1), .int .i64 1] 23 (0, 0)))
  have m2_ := Aside0.mk (by rw [hWg5]; repeat (first | exact BKg3.out | refine blk_far ?_ NEg3g5.out _) : Wg5.heap[g3]? = some (.cells #[.int .i64 (-1), .int .i64 2] 23 (0, 0)))
  have mB_ := Aside0.mk (by rw [hWg5]; exact (by repeat (first | (with_reducible first | exact HB.out | apply below_alloc | apply pw_below_drewN | apply below_drew1 | refine below_set ?_ GEg5.out ) | exact HB.out)) : Below w.heap.size w Wg5)
  rw [← hWg5]
  clear hWg5 BKg5 HB BKg1 BKg3
  have BKg5 := m0_; have HB := mB_; clear m0_ mB_
  have BKg1 := m1_; clear m1_
  have BKg3 := m2_; clear m2_
  have hu0 : World.cell? _ ⟨g1, 0, none⟩ = some (.int .i64 (-1)) := (blk_cell BKg1.out 0).trans rfl; have hv0 := blk_frozen BKg1.out 0; have hu1 : World.cell? _ ⟨g1, 1, none⟩ = some (.int .i64 1) := (blk_cell BKg1.out 1).trans rfl; have hv1 := blk_frozen BKg1.out 1
  have hx0 : World.cell? _ ⟨g3, 0, none⟩ = some (.int .i64 (-1)) := (blk_cell BKg3.out 0).trans rfl; have hy0 := blk_frozen BKg3.out 0; have hx1 : World.cell? _ ⟨g3, 1, none⟩ = some (.int .i64 2) := (blk_cell BKg3.out 1).trans rfl; have hy1 := blk_frozen BKg3.out 1
  go_wp2_with (first | (go_at_call 22; with_reducible refine (hF1 _).mono ?_; rintro e w' ⟨rfl, ⟨nd, rfl⟩⟩) | (go_at_call 22; with_reducible refine (hF2 _).mono ?_; rintro e w' ⟨rfl, ⟨nd, rfl⟩⟩))
  go_ret
  exact ⟨rfl, by repeat (first | (with_reducible first | exact HB.out | apply below_alloc | apply pw_below_drewN | apply below_drew1) | exact HB.out)⟩


/-! ### chainmanref23_may: function 75 -/
def chainmanref23_may.f (a0 : Int) : Option (Bool) := if a0 > (-2147483648) then (some (decide (a0 < 2147483647))) else (some false)
set_option maxHeartbeats 8000000 in
set_option maxRecDepth 100000 in
theorem chainmanref23_may.calls (a0 : Int) (r : Bool) (w : World) (h : chainmanref23_may.f a0 = some r) :
    Calls Try.prog 75 #[.int .i64 a0] w fun e w' => e = .returned (.bool r) ∧ Drawn0 w w' := by
  have H : (if a0 > (-2147483648) then (some (decide (a0 < 2147483647))) else (some false)) = some r := h
  clear h
  by_cases c2 : a0 > (-2147483648)
  · rw [if_pos c2] at H
    have c2b0 : decide ((-2147483648) < a0) = true := decide_eq_true c2
    clear c2
    obtain rfl := Option.some.inj H
    go_enter Try.func75, Try.ntmps75
    go_wp2
    go_ret
    exact ⟨by first | rfl | (simp; done) | (simp [*]; done), by repeat (first | exact Drawn0.refl _ | apply Drawn0.step)⟩
  · rw [if_neg c2] at H
    have c2b0 : decide ((-2147483648) < a0) = false := decide_eq_false c2
    clear c2
    obtain rfl := Option.some.inj H
    go_enter Try.func75, Try.ntmps75
    go_wp2
    go_ret
    exact ⟨by first | rfl | (simp; done) | (simp [*]; done), by repeat (first | exact Drawn0.refl _ | apply Drawn0.step)⟩

end Go.Proofs.Ytgpgekjhpkakbaa.PCellGoes
