/- The Go functions that the law reaches, as plain Lean functions, and proofs that the calls of the machine come to them, or the row of the law over them, for every input that the row speaks of; written by a program of this session (wip/tool/mkprint.py) out of the translation and of hand-made templates. -/
import Derived.Test.YtmacpgkcokpgjaaPDatasetBackx0
import Derived.Test.YtmacpgkcokpgjaaPDatasetBackx1
import Derived.Test.YtmacpgkcokpgjaaPDatasetBackx2
namespace Go.Proofs.Ytmacpgkcokpgjaa.PDatasetBack
open Go.RowKit Go.Proofs.YtmacpgkcokpgjaaW.PrintWords Go.Proofs.YtmacpgkcokpgjaaW.PrintLast Go.Proofs.YtmacpgkcokpgjaaW.PrintMore
attribute [local go_sem] max2_int min2_int max_two min_two max_three min_three max_four min_four   -- for this text's walks alone
set_option linter.unusedVariables false
set_option linter.unusedSimpArgs false

/-! ### dataset_Vector: function 51 -/
def dataset_Vector.j0 : Nat → ByteArray → Bool → Option (List Int × Bool)
  | 0, _, _ => none
  | k + 1, x0, x20 => if x20 = true then (some (([] : List Int), false)) else ((octet_Split.f k x0 4).bind fun bt109 => (if bt109.2 = true then ((dataset_each_vec.f bt109.1 ()).bind fun bt113 => (some (bt113.1, bt113.2))) else (some (([] : List Int), false))))
def dataset_Vector.f (k : Nat) (a0 : ByteArray) (a1 : Int) : Option (List Int × Bool) := if a1 < 1 then (dataset_Vector.j0 k a0 true) else (if a1 > 4096 then (dataset_Vector.j0 k a0 true) else (dataset_Vector.j0 k a0 ((a0.size : Int) != (wrap64 (a1 * 4)))))
theorem dataset_Vector.mono_l : ∀ k, (∀ y0 y1, LeO (dataset_Vector.j0 k y0 y1) (dataset_Vector.j0 (k + 1) y0 y1))
  | 0 => fun _ _ r h => by simp [dataset_Vector.j0] at h
  | k + 1 => by
    have ih0 := dataset_Vector.mono_l k
    · intro y0 y1
      unfold dataset_Vector.j0
      repeat' first
      | (with_reducible exact ih0 _ _)
      | (with_reducible exact octet_Split.mono _ _ _)
      | (with_reducible exact LeO.refl _)
      | (with_reducible exact LeO.none _)
      | (with_reducible refine LeO.ite ?_ ?_)
      | (with_reducible refine LeO.bind ?_ (fun _ => ?_))
      | exact ih0 _ _
      | exact octet_Split.mono _ _ _
      | exact LeO.none _
      | refine LeO.ite ?_ ?_
      | refine LeO.bind ?_ (fun _ => ?_)
theorem dataset_Vector.mono : ∀ a0 a1 k, LeO (dataset_Vector.f k a0 a1) (dataset_Vector.f (k + 1) a0 a1) := by
  intro a0 a1 k
  have ih0 := dataset_Vector.mono_l k
  unfold dataset_Vector.f
  repeat' first
      | (with_reducible exact ih0 _ _)
      | (with_reducible exact octet_Split.mono _ _ _)
      | (with_reducible exact LeO.refl _)
      | (with_reducible exact LeO.none _)
      | (with_reducible refine LeO.ite ?_ ?_)
      | (with_reducible refine LeO.bind ?_ (fun _ => ?_))
      | exact ih0 _ _
      | exact octet_Split.mono _ _ _
      | exact LeO.none _
      | refine LeO.ite ?_ ?_
      | refine LeO.bind ?_ (fun _ => ?_)
set_option maxHeartbeats 8000000 in
set_option maxRecDepth 100000 in
theorem dataset_Vector.calls (k : Nat) (a0 : ByteArray) (a1 : Int) (r1 : List Int) (r2 : Bool) (w : World) (h : dataset_Vector.f k a0 a1 = some (r1, r2)) :
    Calls Try.prog 51 #[.string a0, .int .i64 a1] w fun e w' => ∃ v0_ : Value, e = .returned (.tuple #[v0_, .bool r2]) ∧ Kd.R (Kd.int .i64) 3 w' w.heap.size (fun _ => True) v0_ r1 ∧ Below w.heap.size w w' := by
  have HB := Aside0.mk (Below.refl w.heap.size w)
  have H : (if a1 < 1 then (dataset_Vector.j0 k a0 true) else (if a1 > 4096 then (dataset_Vector.j0 k a0 true) else (dataset_Vector.j0 k a0 ((a0.size : Int) != (wrap64 (a1 * 4)))))) = some (r1, r2) := h
  clear h
  have HC3 := Aside0.mk H
  clear H
  go_enter Try.func51, Try.ntmps51
  go_upto_region 1 with (fail)
  go_cut [20] (fun v20 wc => ∃ (kq : Nat) (x20_2 : Bool), v20 = .bool x20_2 ∧ Aside0 (dataset_Vector.j0 kq a0 x20_2 = some (r1, r2)) ∧ Aside0 (kq ≤ k) ∧ Aside0 (Below w.heap.size w wc))
  case first =>
    have H := HC3.out
    clear HC3
    by_cases c4 : a1 < 1
    · rw [if_pos c4] at H
      have c4b0 : decide (a1 < 1) = true := decide_eq_true c4
      clear c4
      (first | rw [c4b0] | (simp only [i64_w, i32_w]; rw [c4b0]) | skip)
      have H' := Aside0.mk H
      clear H
      go_wp2
      go_meet
      case rel => exact ⟨_, (true), (by first | rfl | (simp; done) | (simp [*]; done)), H', ⟨by first | omega | exact Nat.le_refl _⟩, ⟨by repeat (first | (with_reducible first | exact HB.out | apply below_alloc | apply pw_below_drewN | apply below_drew1) | exact HB.out)⟩⟩
    · rw [if_neg c4] at H
      have c4b0 : decide (a1 < 1) = false := decide_eq_false c4
      clear c4
      (first | rw [c4b0] | (simp only [i64_w, i32_w]; rw [c4b0]) | skip)
      by_cases c5 : a1 > 4096
      · rw [if_pos c5] at H
        have c5b0 : decide (4096 < a1) = true := decide_eq_true c5
        clear c5
        have H' := Aside0.mk H
        clear H
        go_wp2
        go_meet
        case rel => exact ⟨_, (true), (by first | rfl | (simp; done) | (simp [*]; done)), H', ⟨by first | omega | exact Nat.le_refl _⟩, ⟨by repeat (first | (with_reducible first | exact HB.out | apply below_alloc | apply pw_below_drewN | apply below_drew1) | exact HB.out)⟩⟩
      · rw [if_neg c5] at H
        have c5b0 : decide (4096 < a1) = false := decide_eq_false c5
        clear c5
        have H' := Aside0.mk H
        clear H
        go_wp2
        go_meet
        case rel => exact ⟨_, (((a0.size : Int) != (wrap64 (a1 * 4)))), (by first | rfl | (simp; done) | (simp [*]; done)), H', ⟨by first | omega | exact Nat.le_refl _⟩, ⟨by repeat (first | (with_reducible first | exact HB.out | apply below_alloc | apply pw_below_drewN | apply below_drew1) | exact HB.out)⟩⟩
  case rest =>
    clear HC3
    try clear p2
    try clear c4
    try clear c4b0
    try clear c5
    try clear c5b0
    obtain ⟨kq, x20_2, rfl, HA, HJ2, HB⟩ := hcut
    cases kq with
    | zero => exact absurd HA.out (by simp [dataset_Vector.j0])
    | succ kj2 =>
      have H := HA.out
      clear HA
      simp only [dataset_Vector.j0] at H
      by_cases c6 : x20_2 = true
      · subst c6
        have H1 : (some (([] : List Int), false)) = some (r1, r2) := by rw [if_pos rfl] at H; exact H
        clear H
        have H := H1
        clear H1
        simp only [Option.some.injEq, Prod.mk.injEq] at H
        obtain ⟨rfl, rfl⟩ := H
        go_wp2
        go_ret2
        exact ⟨_, by first | rfl | (simp [errW_none, errW_some] <;> rfl) | (simp [*, errW_none, errW_some] <;> rfl), by first | exact Kd.R_nil _ _ _ _ _ | exact Kd.N_nil _ _ _ _ _ | exact Kd.V_nil _ _ _ _ _ | exact Kd.Q_nil _ _ _ _ _ | exact Kd.S_nil _ _ _ _ _, by repeat (first | (with_reducible first | exact HB.out | apply below_alloc | apply pw_below_drewN | apply below_drew1) | exact HB.out)⟩
      · replace c6 := Bool.eq_false_iff.mpr c6
        subst c6
        have H1 : ((octet_Split.f kj2 a0 4).bind fun bt109 => (if bt109.2 = true then ((dataset_each_vec.f bt109.1 ()).bind fun bt113 => (some (bt113.1, bt113.2))) else (some (([] : List Int), false)))) = some (r1, r2) := by rw [if_neg (show ¬ (false = true) by decide)] at H; exact H
        clear H
        have H := H1
        clear H1
        replace H := Option.bind_eq_some_iff.mp H
        obtain ⟨⟨t109, t110⟩, A70, H⟩ := H
        replace H : (if t110 = true then ((dataset_each_vec.f t109 ()).bind fun bt113 => (some (bt113.1, bt113.2))) else (some (([] : List Int), false))) = some (r1, r2) := H
        have A7 := Aside0.mk A70
        clear A70
        by_cases c8 : t110 = true
        · subst c8
          have H1 : ((dataset_each_vec.f t109 ()).bind fun bt113 => (some (bt113.1, bt113.2))) = some (r1, r2) := by rw [if_pos rfl] at H; exact H
          clear H
          have H := H1
          clear H1
          replace H := Option.bind_eq_some_iff.mp H
          obtain ⟨⟨t113, t114⟩, A90, H⟩ := H
          replace H : (some (t113, t114)) = some (r1, r2) := H
          have A9 := Aside0.mk A90
          clear A90
          simp only [Option.some.injEq, Prod.mk.injEq] at H
          obtain ⟨rfl, rfl⟩ := H
          go_wp2_with (first | ((with_reducible refine gate_callee (f := 101) rfl ?_); refine goesL_ (some 23) rfl rfl Try.func101 (by kernel_rfl) rfl #[.string a0, .int .i64 4] rfl (by (try simp only [List.map_toArray, List.map_cons, List.map_nil]); first | done | rfl | (simp only [List.length_drop, List.length_take]; rfl)) ?_; (with_reducible refine (octet_Split.calls kj2 a0 4 t109 true _ A7.out).mono ?_); rintro e w10 ⟨v111, rfl, ho0, hb⟩; refine ⟨_, rfl, ?_⟩; have n0_ := Aside0.mk (Kd.R_lower ho0 (below_size (by repeat (first | (with_reducible first | exact HB.out | apply below_alloc | apply pw_below_drewN | apply below_drew1) | exact HB.out)))); have n1_ := Aside0.mk (below_step (by repeat (first | (with_reducible first | exact HB.out | apply below_alloc | apply pw_below_drewN | apply below_drew1) | exact HB.out)) hb); clear HB; have HO112 := n0_; have HB := n1_; clear n0_ n1_; (try clear hb); (try clear hb2); (try clear hk); (try clear hi); (try clear ho0); obtain ⟨Ao11, co11, eo11⟩ := Kd.R_slice HO112.out; subst eo11) | ((with_reducible refine gate_callee (f := 115) rfl ?_); refine goesL_ (some 29) rfl rfl Try.func115 (by kernel_rfl) rfl #[.slice Ao11 t109.length co11, .func (.func 116) #[] #[]] rfl (by (try simp only [List.map_toArray, List.map_cons, List.map_nil]); first | done | rfl | (simp only [List.length_drop, List.length_take]; rfl)) ?_; (with_reducible refine (dataset_each_vec.calls _ _ t109 () t113 t114 _ ?side1 ?side2 A9.out).mono ?_); (case side1 => repeat (first | exact (Kd.R_reads' HO112.out).2.2 | (with_reducible refine Kd.C_alloc ?_ _) | (with_reducible refine Kd.C_drewN ?_ _) | (with_reducible refine Kd.C_drew ?_))); (case side2 => exact (Kd.R_reads' HO112.out).2.1); rintro e w12 ⟨v115, rfl, ho0, hb⟩; refine ⟨_, rfl, ?_⟩; have n0_ := Aside0.mk (Kd.R_below (by (with_reducible repeat (first | apply Kd.R_alloc | apply Kd.R_drewN | apply Kd.R_drew)); exact HO112.out) hb); have n1_ := Aside0.mk (Kd.R_lower ho0 (below_size (by repeat (first | (with_reducible first | exact HB.out | apply below_alloc | apply pw_below_drewN | apply below_drew1) | exact HB.out)))); have n2_ := Aside0.mk (below_step (by repeat (first | (with_reducible first | exact HB.out | apply below_alloc | apply pw_below_drewN | apply below_drew1) | exact HB.out)) hb); clear HO112; clear HB; have HO112 := n0_; have HO116 := n1_; have HB := n2_; clear n0_ n1_ n2_; (try clear hb); (try clear hb2); (try clear hk); (try clear hi); (try clear ho0)))
          go_ret2
          exact ⟨_, by first | rfl | (simp [errW_none, errW_some] <;> rfl) | (simp [*, errW_none, errW_some] <;> rfl), by (with_reducible repeat (first | apply Kd.R_alloc | apply Kd.R_drewN | apply Kd.R_drew)); exact HO116.out, by repeat (first | (with_reducible first | exact HB.out | apply below_alloc | apply pw_below_drewN | apply below_drew1) | exact HB.out)⟩
        · replace c8 := Bool.eq_false_iff.mpr c8
          subst c8
          have H1 : (some (([] : List Int), false)) = some (r1, r2) := by rw [if_neg (show ¬ (false = true) by decide)] at H; exact H
          clear H
          have H := H1
          clear H1
          simp only [Option.some.injEq, Prod.mk.injEq] at H
          obtain ⟨rfl, rfl⟩ := H
          go_wp2_with (first | ((with_reducible refine gate_callee (f := 101) rfl ?_); refine goesL_ (some 23) rfl rfl Try.func101 (by kernel_rfl) rfl #[.string a0, .int .i64 4] rfl (by (try simp only [List.map_toArray, List.map_cons, List.map_nil]); first | done | rfl | (simp only [List.length_drop, List.length_take]; rfl)) ?_; (with_reducible refine (octet_Split.calls kj2 a0 4 t109 false _ A7.out).mono ?_); rintro e w13 ⟨v111, rfl, ho0, hb⟩; refine ⟨_, rfl, ?_⟩; have n0_ := Aside0.mk (Kd.R_lower ho0 (below_size (by repeat (first | (with_reducible first | exact HB.out | apply below_alloc | apply pw_below_drewN | apply below_drew1) | exact HB.out)))); have n1_ := Aside0.mk (below_step (by repeat (first | (with_reducible first | exact HB.out | apply below_alloc | apply pw_below_drewN | apply below_drew1) | exact HB.out)) hb); clear HB; have HO112 := n0_; have HB := n1_; clear n0_ n1_; (try clear hb); (try clear hb2); (try clear hk); (try clear hi); (try clear ho0)))
          go_ret2
          exact ⟨_, by first | rfl | (simp [errW_none, errW_some] <;> rfl) | (simp [*, errW_none, errW_some] <;> rfl), by first | exact Kd.R_nil _ _ _ _ _ | exact Kd.N_nil _ _ _ _ _ | exact Kd.V_nil _ _ _ _ _ | exact Kd.Q_nil _ _ _ _ _ | exact Kd.S_nil _ _ _ _ _, by repeat (first | (with_reducible first | exact HB.out | apply below_alloc | apply pw_below_drewN | apply below_drew1) | exact HB.out)⟩

/-! ### stringslite_HasPrefix: function 161 -/
def stringslite_HasPrefix.f (a0 : ByteArray) (a1 : ByteArray) : Option (Bool) := if (a0.size : Int) ≥ (a1.size : Int) then (if 0 ≤ (a1.size : Int) then (if (a1.size : Int) ≤ (a0.size : Int) then (some ((a0.extract 0 ((a1.size : Int) : Int).toNat).toList == a1.toList)) else (none)) else (none)) else (some false)
set_option maxHeartbeats 8000000 in
set_option maxRecDepth 100000 in
theorem stringslite_HasPrefix.calls (a0 : ByteArray) (a1 : ByteArray) (r : Bool) (w : World) (h : stringslite_HasPrefix.f a0 a1 = some r) :
    Calls Try.prog 161 #[.string a0, .string a1] w fun e w' => e = .returned (.bool r) ∧ Drawn0 w w' := by
  have H : (if (a0.size : Int) ≥ (a1.size : Int) then (if 0 ≤ (a1.size : Int) then (if (a1.size : Int) ≤ (a0.size : Int) then (some ((a0.extract 0 ((a1.size : Int) : Int).toNat).toList == a1.toList)) else (none)) else (none)) else (some false)) = some r := h
  clear h
  by_cases c3 : (a0.size : Int) ≥ (a1.size : Int)
  · rw [if_pos c3] at H
    have c3b0 : decide ((a1.size : Int) ≤ (a0.size : Int)) = true := decide_eq_true c3
    have c3b1 : decide (a1.size ≤ a0.size) = true := decide_eq_true (Int.ofNat_le.mp c3)
    clear c3
    by_cases c4 : 0 ≤ (a1.size : Int)
    · rw [if_pos c4] at H
      have c4b0 := eq_true c4
      have c4b1 : decide (0 ≤ (a1.size : Int)) = true := decide_eq_true c4
      clear c4
      by_cases c5 : (a1.size : Int) ≤ (a0.size : Int)
      · rw [if_pos c5] at H
        have c5b0 := eq_true c5
        have c5b1 : decide ((a1.size : Int) ≤ (a0.size : Int)) = true := decide_eq_true c5
        clear c5
        obtain rfl := Option.some.inj H
        go_enter Try.func161, Try.ntmps161
        go_wp2
        go_ret
        exact ⟨by first | rfl | (simp; done) | (simp [*]; done), by repeat (first | exact Drawn0.refl _ | apply Drawn0.step)⟩
      · rw [if_neg c5] at H
        exact absurd H (by simp)
    · rw [if_neg c4] at H
      exact absurd H (by simp)
  · rw [if_neg c3] at H
    have c3b0 : decide ((a1.size : Int) ≤ (a0.size : Int)) = false := decide_eq_false c3
    have c3b1 : decide (a1.size ≤ a0.size) = false := decide_eq_false (fun h => c3 (Int.ofNat_le.mpr h))
    clear c3
    obtain rfl := Option.some.inj H
    go_enter Try.func161, Try.ntmps161
    go_wp2
    go_ret
    exact ⟨by first | rfl | (simp; done) | (simp [*]; done), by repeat (first | exact Drawn0.refl _ | apply Drawn0.step)⟩

/-! ### strings_HasPrefix: function 120 -/
def strings_HasPrefix.f (a0 : ByteArray) (a1 : ByteArray) : Option (Bool) := (stringslite_HasPrefix.f a0 a1).bind fun t117 => (some t117)
set_option maxHeartbeats 8000000 in
set_option maxRecDepth 100000 in
theorem strings_HasPrefix.calls (a0 : ByteArray) (a1 : ByteArray) (r : Bool) (w : World) (h : strings_HasPrefix.f a0 a1 = some r) :
    Calls Try.prog 120 #[.string a0, .string a1] w fun e w' => e = .returned (.bool r) ∧ Drawn0 w w' := by
  have H : ((stringslite_HasPrefix.f a0 a1).bind fun t117 => (some t117)) = some r := h
  clear h
  replace H := Option.bind_eq_some_iff.mp H
  obtain ⟨t117, A30, H⟩ := H
  replace H : (some t117) = some r := H
  have A3 := Aside0.mk A30
  clear A30
  obtain rfl := Option.some.inj H
  go_enter Try.func120, Try.ntmps120
  go_wp2_with (first | ((with_reducible refine gate_callee (f := 161) rfl ?_); refine goesL_ (some 7) rfl rfl Try.func161 (by kernel_rfl) rfl #[.string a0, .string a1] rfl (by (try simp only [List.map_toArray, List.map_cons, List.map_nil]); first | done | rfl | (simp only [List.length_drop, List.length_take]; rfl)) ?_; (with_reducible refine (stringslite_HasPrefix.calls a0 a1 t117 _ A3.out).mono ?_); rintro e w' ⟨rfl, ⟨nd, rfl⟩⟩; refine ⟨_, rfl, ?_⟩) | (go_at_call 161; refine calls_of_args (args' := #[.string a0, .string a1]) (by first | rfl) ?_; (with_reducible refine (stringslite_HasPrefix.calls a0 a1 t117 _ A3.out).mono ?_); rintro e w' ⟨rfl, ⟨nd, rfl⟩⟩))
  go_ret
  exact ⟨by first | rfl | (simp; done) | (simp [*]; done), by repeat (first | exact Drawn0.refl _ | apply Drawn0.step)⟩

/-! ### dataset_Shape: function 55 -/
def dataset_Shape.j0 : Nat → ByteArray → Int → Bool → Option (Int × Int × Int)
  | 0, _, _, _ => none
  | k + 1, x0, x1, x18 => if x18 = true then (some (0, 0, 7)) else ((octet_Get.f x0 4 4).bind fun bt119 => ((octet_Get.f x0 8 2).bind fun bt121 => ((dataset_shaped.f bt119.1 bt121.1).bind fun t123 => (if t123 = true then (if (wrap64 (10 + (wrap64 ((wrap64 (bt119.1 * bt121.1)) * 4)))) = x1 then (some (bt119.1, bt121.1, 0)) else (some (0, 0, 7))) else (some (0, 0, 7))))))
def dataset_Shape.f (k : Nat) (a0 : ByteArray) (a1 : Int) : Option (Int × Int × Int) := if (a0.size : Int) = 10 then ((strings_HasPrefix.f a0 (⟨#[86, 69, 67, 49]⟩ : ByteArray)).bind fun t118 => (dataset_Shape.j0 k a0 a1 (!t118))) else (dataset_Shape.j0 k a0 a1 true)
theorem dataset_Shape.mono_l : ∀ k, (∀ y0 y1 y2, LeO (dataset_Shape.j0 k y0 y1 y2) (dataset_Shape.j0 (k + 1) y0 y1 y2))
  | 0 => fun _ _ _ r h => by simp [dataset_Shape.j0] at h
  | k + 1 => by
    have ih0 := dataset_Shape.mono_l k
    · intro y0 y1 y2
      unfold dataset_Shape.j0
      repeat' first
      | (with_reducible exact ih0 _ _ _)
      | (with_reducible exact LeO.refl _)
      | (with_reducible exact LeO.none _)
      | (with_reducible refine LeO.ite ?_ ?_)
      | (with_reducible refine LeO.bind ?_ (fun _ => ?_))
      | exact ih0 _ _ _
      | exact LeO.none _
      | refine LeO.ite ?_ ?_
      | refine LeO.bind ?_ (fun _ => ?_)
theorem dataset_Shape.mono : ∀ a0 a1 k, LeO (dataset_Shape.f k a0 a1) (dataset_Shape.f (k + 1) a0 a1) := by
  intro a0 a1 k
  have ih0 := dataset_Shape.mono_l k
  unfold dataset_Shape.f
  repeat' first
      | (with_reducible exact ih0 _ _ _)
      | (with_reducible exact LeO.refl _)
      | (with_reducible exact LeO.none _)
      | (with_reducible refine LeO.ite ?_ ?_)
      | (with_reducible refine LeO.bind ?_ (fun _ => ?_))
      | exact ih0 _ _ _
      | exact LeO.none _
      | refine LeO.ite ?_ ?_
      | refine LeO.bind ?_ (fun _ => ?_)
set_option maxHeartbeats 8000000 in
set_option maxRecDepth 100000 in
theorem dataset_Shape.calls (k : Nat) (a0 : ByteArray) (a1 : Int) (r1 : Int) (r2 : Int) (r3 : Int) (w : World) (h : dataset_Shape.f k a0 a1 = some (r1, r2, r3)) :
    Calls Try.prog 55 #[.string a0, .int .i64 a1] w fun e w' => e = .returned (.tuple #[.int .i64 r1, .int .i64 r2, .int .i64 r3]) ∧ Below w.heap.size w w' := by
  have HB := Aside0.mk (Below.refl w.heap.size w)
  have H : (if (a0.size : Int) = 10 then ((strings_HasPrefix.f a0 (⟨#[86, 69, 67, 49]⟩ : ByteArray)).bind fun t118 => (dataset_Shape.j0 k a0 a1 (!t118))) else (dataset_Shape.j0 k a0 a1 true)) = some (r1, r2, r3) := h
  clear h
  have HC3 := Aside0.mk H
  clear H
  go_enter Try.func55, Try.ntmps55
  go_upto_region 1 with (fail)
  go_cut [18] (fun v18 wc => ∃ (kq : Nat) (x18_2 : Bool), v18 = .bool x18_2 ∧ Aside0 (dataset_Shape.j0 kq a0 a1 x18_2 = some (r1, r2, r3)) ∧ Aside0 (kq ≤ k) ∧ Aside0 (Below w.heap.size w wc))
  case first =>
    have H := HC3.out
    clear HC3
    by_cases c4 : (a0.size : Int) = 10
    · rw [if_pos c4] at H
      have c4b0 : ((a0.size : Int) == 10) = true := beq_iff_eq.mpr c4
      have c4b1 : ((a0.size : Int) != 10) = false := bne_eq_false_iff_eq.mpr c4
      clear c4
      (first | rw [c4b0] | (simp only [i64_w, i32_w]; rw [c4b0]) | skip)
      replace H := Option.bind_eq_some_iff.mp H
      obtain ⟨t118, A50, H⟩ := H
      replace H : (dataset_Shape.j0 k a0 a1 (!t118)) = some (r1, r2, r3) := H
      have A5 := Aside0.mk A50
      clear A50
      have H' := Aside0.mk H
      clear H
      go_wp2_with (first | (go_at_call 120; (with_reducible refine (strings_HasPrefix.calls a0 (⟨#[86, 69, 67, 49]⟩ : ByteArray) t118 _ A5.out).mono ?_); rintro e w' ⟨rfl, ⟨nd, rfl⟩⟩) | (go_at_call 120; refine calls_of_args (args' := #[.string a0, .string (⟨#[86, 69, 67, 49]⟩ : ByteArray)]) (by first | rfl) ?_; (with_reducible refine (strings_HasPrefix.calls a0 (⟨#[86, 69, 67, 49]⟩ : ByteArray) t118 _ A5.out).mono ?_); rintro e w' ⟨rfl, ⟨nd, rfl⟩⟩))
      go_meet
      case rel => exact ⟨_, (!t118), (by first | rfl | (simp; done) | (simp [*]; done)), H', ⟨by first | omega | exact Nat.le_refl _⟩, ⟨by repeat (first | (with_reducible first | exact HB.out | apply below_alloc | apply pw_below_drewN | apply below_drew1) | exact HB.out)⟩⟩
    · rw [if_neg c4] at H
      have c4b0 : ((a0.size : Int) == 10) = false := beq_eq_false_iff_ne.mpr c4
      have c4b1 : ((a0.size : Int) != 10) = true := bne_iff_ne.mpr c4
      (first | rw [c4b0] | (simp only [i64_w, i32_w]; rw [c4b0]) | skip)
      have H' := Aside0.mk H
      clear H
      go_wp2
      go_meet
      case rel => exact ⟨_, (true), (by first | rfl | (simp; done) | (simp [*]; done)), H', ⟨by first | omega | exact Nat.le_refl _⟩, ⟨by repeat (first | (with_reducible first | exact HB.out | apply below_alloc | apply pw_below_drewN | apply below_drew1) | exact HB.out)⟩⟩
  case rest =>
    clear HC3
    try clear p2
    try clear c4
    try clear c4b0
    try clear c4b1
    try clear c5
    obtain ⟨kq, x18_2, rfl, HA, HJ2, HB⟩ := hcut
    cases kq with
    | zero => exact absurd HA.out (by simp [dataset_Shape.j0])
    | succ kj2 =>
      have H := HA.out
      clear HA
      simp only [dataset_Shape.j0] at H
      by_cases c6 : x18_2 = true
      · subst c6
        have H1 : (some (0, 0, 7)) = some (r1, r2, r3) := by rw [if_pos rfl] at H; exact H
        clear H
        have H := H1
        clear H1
        simp only [Option.some.injEq, Prod.mk.injEq] at H
        obtain ⟨rfl, rfl, rfl⟩ := H
        go_wp2
        go_ret3
        exact ⟨by first | rfl | (simp [errW_none, errW_some] <;> rfl) | (simp [*, errW_none, errW_some] <;> rfl), by repeat (first | (with_reducible first | exact HB.out | apply below_alloc | apply pw_below_drewN | apply below_drew1) | exact HB.out)⟩
      · replace c6 := Bool.eq_false_iff.mpr c6
        subst c6
        have H1 : ((octet_Get.f a0 4 4).bind fun bt119 => ((octet_Get.f a0 8 2).bind fun bt121 => ((dataset_shaped.f bt119.1 bt121.1).bind fun t123 => (if t123 = true then (if (wrap64 (10 + (wrap64 ((wrap64 (bt119.1 * bt121.1)) * 4)))) = a1 then (some (bt119.1, bt121.1, 0)) else (some (0, 0, 7))) else (some (0, 0, 7)))))) = some (r1, r2, r3) := by rw [if_neg (show ¬ (false = true) by decide)] at H; exact H
        clear H
        have H := H1
        clear H1
        replace H := Option.bind_eq_some_iff.mp H
        obtain ⟨⟨t119, t120⟩, A70, H⟩ := H
        replace H : ((octet_Get.f a0 8 2).bind fun bt121 => ((dataset_shaped.f t119 bt121.1).bind fun t123 => (if t123 = true then (if (wrap64 (10 + (wrap64 ((wrap64 (t119 * bt121.1)) * 4)))) = a1 then (some (t119, bt121.1, 0)) else (some (0, 0, 7))) else (some (0, 0, 7))))) = some (r1, r2, r3) := H
        have A7 := Aside0.mk A70
        clear A70
        replace H := Option.bind_eq_some_iff.mp H
        obtain ⟨⟨t121, t122⟩, A80, H⟩ := H
        replace H : ((dataset_shaped.f t119 t121).bind fun t123 => (if t123 = true then (if (wrap64 (10 + (wrap64 ((wrap64 (t119 * t121)) * 4)))) = a1 then (some (t119, t121, 0)) else (some (0, 0, 7))) else (some (0, 0, 7)))) = some (r1, r2, r3) := H
        have A8 := Aside0.mk A80
        clear A80
        replace H := Option.bind_eq_some_iff.mp H
        obtain ⟨t123, A90, H⟩ := H
        replace H : (if t123 = true then (if (wrap64 (10 + (wrap64 ((wrap64 (t119 * t121)) * 4)))) = a1 then (some (t119, t121, 0)) else (some (0, 0, 7))) else (some (0, 0, 7))) = some (r1, r2, r3) := H
        have A9 := Aside0.mk A90
        clear A90
        by_cases c10 : t123 = true
        · subst c10
          have H1 : (if (wrap64 (10 + (wrap64 ((wrap64 (t119 * t121)) * 4)))) = a1 then (some (t119, t121, 0)) else (some (0, 0, 7))) = some (r1, r2, r3) := by rw [if_pos rfl] at H; exact H
          clear H
          have H := H1
          clear H1
          by_cases c11 : (wrap64 (10 + (wrap64 ((wrap64 (t119 * t121)) * 4)))) = a1
          · rw [if_pos c11] at H
            have c11b0 : ((wrap64 (10 + (wrap64 ((wrap64 (t119 * t121)) * 4)))) == a1) = true := beq_iff_eq.mpr c11
            have c11b1 : ((wrap64 (10 + (wrap64 ((wrap64 (t119 * t121)) * 4)))) != a1) = false := bne_eq_false_iff_eq.mpr c11
            clear c11
            simp only [Option.some.injEq, Prod.mk.injEq] at H
            obtain ⟨rfl, rfl, rfl⟩ := H
            go_wp2_with (first | ((with_reducible refine gate_callee (f := 103) rfl ?_); refine goesL_ (some 21) rfl rfl Try.func103 (by kernel_rfl) rfl #[.string a0, .int .i64 4, .int .i64 4] rfl (by (try simp only [List.map_toArray, List.map_cons, List.map_nil]); first | done | rfl | (simp only [List.length_drop, List.length_take]; rfl)) ?_; (with_reducible refine (octet_Get.calls a0 4 4 t119 t120 _ A7.out).mono ?_); rintro e w12 ⟨rfl, hb⟩; refine ⟨_, rfl, ?_⟩; have n0_ := Aside0.mk (below_step (by repeat (first | (with_reducible first | exact HB.out | apply below_alloc | apply pw_below_drewN | apply below_drew1) | exact HB.out)) hb); clear HB; have HB := n0_; clear n0_; (try clear hb); (try clear hb2); (try clear hk); (try clear hi)) | ((with_reducible refine gate_callee (f := 103) rfl ?_); refine goesL_ (some 26) rfl rfl Try.func103 (by kernel_rfl) rfl #[.string a0, .int .i64 8, .int .i64 2] rfl (by (try simp only [List.map_toArray, List.map_cons, List.map_nil]); first | done | rfl | (simp only [List.length_drop, List.length_take]; rfl)) ?_; (with_reducible refine (octet_Get.calls a0 8 2 t121 t122 _ A8.out).mono ?_); rintro e w13 ⟨rfl, hb⟩; refine ⟨_, rfl, ?_⟩; have n0_ := Aside0.mk (below_step (by repeat (first | (with_reducible first | exact HB.out | apply below_alloc | apply pw_below_drewN | apply below_drew1) | exact HB.out)) hb); clear HB; have HB := n0_; clear n0_; (try clear hb); (try clear hb2); (try clear hk); (try clear hi)) | ((with_reducible refine gate_callee (f := 110) rfl ?_); refine goesL_ (some 31) rfl rfl Try.func110 (by kernel_rfl) rfl #[.int .i64 t119, .int .i64 t121] rfl (by (try simp only [List.map_toArray, List.map_cons, List.map_nil]); first | done | rfl | (simp only [List.length_drop, List.length_take]; rfl)) ?_; (with_reducible refine (dataset_shaped.calls t119 t121 true _ A9.out).mono ?_); rintro e w' ⟨rfl, ⟨nd, rfl⟩⟩; refine ⟨_, rfl, ?_⟩) | (go_at_call 110; refine calls_of_args (args' := #[.int .i64 t119, .int .i64 t121]) (by first | rfl) ?_; (with_reducible refine (dataset_shaped.calls t119 t121 true _ A9.out).mono ?_); rintro e w' ⟨rfl, ⟨nd, rfl⟩⟩))
            go_ret3
            exact ⟨by first | rfl | (simp [errW_none, errW_some] <;> rfl) | (simp [*, errW_none, errW_some] <;> rfl), by repeat (first | (with_reducible first | exact HB.out | apply below_alloc | apply pw_below_drewN | apply below_drew1) | exact HB.out)⟩
          · rw [if_neg c11] at H
            have c11b0 : ((wrap64 (10 + (wrap64 ((wrap64 (t119 * t121)) * 4)))) == a1) = false := beq_eq_false_iff_ne.mpr c11
            have c11b1 : ((wrap64 (10 + (wrap64 ((wrap64 (t119 * t121)) * 4)))) != a1) = true := bne_iff_ne.mpr c11
            simp only [Option.some.injEq, Prod.mk.injEq] at H
            obtain ⟨rfl, rfl, rfl⟩ := H
            go_wp2_with (first | ((with_reducible refine gate_callee (f := 103) rfl ?_); refine goesL_ (some 21) rfl rfl Try.func103 (by kernel_rfl) rfl #[.string a0, .int .i64 4, .int .i64 4] rfl (by (try simp only [List.map_toArray, List.map_cons, List.map_nil]); first | done | rfl | (simp only [List.length_drop, List.length_take]; rfl)) ?_; (with_reducible refine (octet_Get.calls a0 4 4 t119 t120 _ A7.out).mono ?_); rintro e w14 ⟨rfl, hb⟩; refine ⟨_, rfl, ?_⟩; have n0_ := Aside0.mk (below_step (by repeat (first | (with_reducible first | exact HB.out | apply below_alloc | apply pw_below_drewN | apply below_drew1) | exact HB.out)) hb); clear HB; have HB := n0_; clear n0_; (try clear hb); (try clear hb2); (try clear hk); (try clear hi)) | ((with_reducible refine gate_callee (f := 103) rfl ?_); refine goesL_ (some 26) rfl rfl Try.func103 (by kernel_rfl) rfl #[.string a0, .int .i64 8, .int .i64 2] rfl (by (try simp only [List.map_toArray, List.map_cons, List.map_nil]); first | done | rfl | (simp only [List.length_drop, List.length_take]; rfl)) ?_; (with_reducible refine (octet_Get.calls a0 8 2 t121 t122 _ A8.out).mono ?_); rintro e w15 ⟨rfl, hb⟩; refine ⟨_, rfl, ?_⟩; have n0_ := Aside0.mk (below_step (by repeat (first | (with_reducible first | exact HB.out | apply below_alloc | apply pw_below_drewN | apply below_drew1) | exact HB.out)) hb); clear HB; have HB := n0_; clear n0_; (try clear hb); (try clear hb2); (try clear hk); (try clear hi)) | ((with_reducible refine gate_callee (f := 110) rfl ?_); refine goesL_ (some 31) rfl rfl Try.func110 (by kernel_rfl) rfl #[.int .i64 t119, .int .i64 t121] rfl (by (try simp only [List.map_toArray, List.map_cons, List.map_nil]); first | done | rfl | (simp only [List.length_drop, List.length_take]; rfl)) ?_; (with_reducible refine (dataset_shaped.calls t119 t121 true _ A9.out).mono ?_); rintro e w' ⟨rfl, ⟨nd, rfl⟩⟩; refine ⟨_, rfl, ?_⟩) | (go_at_call 110; refine calls_of_args (args' := #[.int .i64 t119, .int .i64 t121]) (by first | rfl) ?_; (with_reducible refine (dataset_shaped.calls t119 t121 true _ A9.out).mono ?_); rintro e w' ⟨rfl, ⟨nd, rfl⟩⟩))
            go_ret3
            exact ⟨by first | rfl | (simp [errW_none, errW_some] <;> rfl) | (simp [*, errW_none, errW_some] <;> rfl), by repeat (first | (with_reducible first | exact HB.out | apply below_alloc | apply pw_below_drewN | apply below_drew1) | exact HB.out)⟩
        · replace c10 := Bool.eq_false_iff.mpr c10
          subst c10
          have H1 : (some (0, 0, 7)) = some (r1, r2, r3) := by rw [if_neg (show ¬ (false = true) by decide)] at H; exact H
          clear H
          have H := H1
          clear H1
          simp only [Option.some.injEq, Prod.mk.injEq] at H
          obtain ⟨rfl, rfl, rfl⟩ := H
          go_wp2_with (first | ((with_reducible refine gate_callee (f := 103) rfl ?_); refine goesL_ (some 21) rfl rfl Try.func103 (by kernel_rfl) rfl #[.string a0, .int .i64 4, .int .i64 4] rfl (by (try simp only [List.map_toArray, List.map_cons, List.map_nil]); first | done | rfl | (simp only [List.length_drop, List.length_take]; rfl)) ?_; (with_reducible refine (octet_Get.calls a0 4 4 t119 t120 _ A7.out).mono ?_); rintro e w16 ⟨rfl, hb⟩; refine ⟨_, rfl, ?_⟩; have n0_ := Aside0.mk (below_step (by repeat (first | (with_reducible first | exact HB.out | apply below_alloc | apply pw_below_drewN | apply below_drew1) | exact HB.out)) hb); clear HB; have HB := n0_; clear n0_; (try clear hb); (try clear hb2); (try clear hk); (try clear hi)) | ((with_reducible refine gate_callee (f := 103) rfl ?_); refine goesL_ (some 26) rfl rfl Try.func103 (by kernel_rfl) rfl #[.string a0, .int .i64 8, .int .i64 2] rfl (by (try simp only [List.map_toArray, List.map_cons, List.map_nil]); first | done | rfl | (simp only [List.length_drop, List.length_take]; rfl)) ?_; (with_reducible refine (octet_Get.calls a0 8 2 t121 t122 _ A8.out).mono ?_); rintro e w17 ⟨rfl, hb⟩; refine ⟨_, rfl, ?_⟩; have n0_ := Aside0.mk (below_step (by repeat (first | (with_reducible first | exact HB.out | apply below_alloc | apply pw_below_drewN | apply below_drew1) | exact HB.out)) hb); clear HB; have HB := n0_; clear n0_; (try clear hb); (try clear hb2); (try clear hk); (try clear hi)) | ((with_reducible refine gate_callee (f := 110) rfl ?_); refine goesL_ (some 31) rfl rfl Try.func110 (by kernel_rfl) rfl #[.int .i64 t119, .int .i64 t121] rfl (by (try simp only [List.map_toArray, List.map_cons, List.map_nil]); first | done | rfl | (simp only [List.length_drop, List.length_take]; rfl)) ?_; (with_reducible refine (dataset_shaped.calls t119 t121 false _ A9.out).mono ?_); rintro e w' ⟨rfl, ⟨nd, rfl⟩⟩; refine ⟨_, rfl, ?_⟩) | (go_at_call 110; refine calls_of_args (args' := #[.int .i64 t119, .int .i64 t121]) (by first | rfl) ?_; (with_reducible refine (dataset_shaped.calls t119 t121 false _ A9.out).mono ?_); rintro e w' ⟨rfl, ⟨nd, rfl⟩⟩))
          go_ret3
          exact ⟨by first | rfl | (simp [errW_none, errW_some] <;> rfl) | (simp [*, errW_none, errW_some] <;> rfl), by repeat (first | (with_reducible first | exact HB.out | apply below_alloc | apply pw_below_drewN | apply below_drew1) | exact HB.out)⟩

/-! ### dataset_each_string_int_113: function 113 -/
def dataset_each_string_int_113.go (F : ByteArray → Option (List Int × Bool)) : List (List Int) → List (ByteArray) → Option (List (List Int) × Bool)
  | acc, [] => some (acc, true)
  | acc, x :: l => (F x).bind fun r => if r.2 = true then dataset_each_string_int_113.go F (acc ++ [r.1]) l else some ([], false)
theorem dataset_each_string_int_113.info : (Try.prog.info? 69).map (fun i => (i.zero, i.size, i.bytes)) = some (some (.slice none 0 0), 1, 24) := by kernel_rfl
set_option maxHeartbeats 4000000 in
set_option maxRecDepth 100000 in
theorem dataset_each_string_int_113.runs (F : ByteArray → Option (List Int × Bool)) (g : Nat) (lb : Array Value) (eg : ∀ args w, (callFunc g args).run Try.prog w = .ok (.enter g args) w) (A0 : Option Addr) (c0 : Nat) (l0 : List (ByteArray)) (w : World) (hr0 : Kd.C Kd.string w A0 l0.length l0) (hc0 : l0.length ≤ c0) (hm : l0.length ≤ 1000000000)
    (hp : ∀ (x : ByteArray) (y : List Int) (b : Bool) (W : World), x ∈ l0 → F x = some (y, b) → Below w.heap.size w W → Calls Try.prog g (#[.string x] ++ lb) W fun e w' => ∃ v, e = .returned (.tuple #[v, .bool b]) ∧ Kd.R (Kd.int .i64) 3 w' W.heap.size (fun _ => True) v y ∧ Below W.heap.size W w')
    (r1 : List (List Int)) (r2 : Bool) (h : dataset_each_string_int_113.go F [] l0 = some (r1, r2)) :
    Calls Try.prog 113 #[.slice A0 l0.length c0, .func (.func g) #[] lb] w fun e w' => ∃ v0_ : Value, e = .returned (.tuple #[v0_, .bool r2]) ∧ Kd.S (Kd.slice 3 (Kd.int .i64)) 69 w' w.heap.size (fun _ => True) v0_ r1 ∧ Below w.heap.size w w' := by
  obtain ⟨i0, hi, hz0, hz1, hz2⟩ := info_parts dataset_each_string_int_113.info
  have HR := Aside0.mk hr0
  have HM := Aside0.mk hm
  have HP := Aside0.mk hp
  have HG := Aside0.mk h
  clear hr0 hp h
  go_enter Try.func113, Try.ntmps113
  go_wp2_with (at_make; refine wpList_make_own _ rfl _ _ 61 rfl w.heap.size 69 i0 (.slice none 0 0) 1 Try.underlying61 hi hz0 hz1 .i64 .i64 _ l0.length rfl rfl (by first | rfl | omega) (by rw [hz2]; omega) (by unfold maxLen; omega) (Nat.le_refl _) ?_; intro w0 hown0 hgrow0)
  have HO0 := Aside0.mk ((⟨fun _ => 0, fun _ _ => trivial, [], hown0, Reps.none _ _⟩ : Kd.S (Kd.slice 3 (Kd.int .i64)) 69 w0 w.heap.size (fun _ => True) _ []))
  have HB0 := Aside0.mk ((Below.refl w.heap.size w).grown hgrow0 (Nat.le_refl _) (fun k e => by cases e))
  clear hown0 hgrow0 hm hi hz0 hz1 hz2
  go_loopw [6, 16] (fun v i wr => ∃ (x : Nat) (acc : List (List Int)), i = .int .i64 (x : Int) ∧ x ≤ l0.length ∧ Aside0 (dataset_each_string_int_113.go F acc (l0.drop x) = some (r1, r2)) ∧ Aside0 (Kd.S (Kd.slice 3 (Kd.int .i64)) 69 wr w.heap.size (fun _ => True) v acc) ∧ Aside0 (acc.length = x) ∧ Aside0 (Below w.heap.size w wr)) (fun _ i _ => l0.length - (intOf i).toNat)
  case atStart => exact ⟨0, [], rfl, Nat.zero_le _, HG, HO0, ⟨rfl⟩, HB0⟩
  case round =>
    clear HO0 HB0 HG
    obtain ⟨x, acc, rfl, hx, HQ, HO, HA, HB⟩ := hrel
    by_cases hlt : x < l0.length
    · have H := HQ.out
      rw [List.drop_eq_getElem_cons hlt, dataset_each_string_int_113.go] at H
      obtain ⟨⟨y, b⟩, hF, H1⟩ := Option.bind_eq_some_iff.mp H
      clear H
      have hmem : l0[x] ∈ l0 := List.getElem_mem hlt
      obtain ⟨ad, ead, hcell⟩ := Kd.at_string HR.out (x : Int) (by omega) (by omega)
      cases ead
      replace hcell := (HB.out.cell (World.block_lt_of_cell? w _ hcell)).trans hcell
      have hrd : rdOf ByteArray.empty l0 (x : Int) = l0[x] := by
        show l0.getD (x : Int).toNat ByteArray.empty = _
        rw [Int.toNat_natCast, List.getD_eq_getElem?_getD, List.getElem?_eq_getElem hlt]; rfl
      rw [hrd, Int.toNat_natCast] at hcell
      have hcall := fun W hW => HP.out l0[x] y b W hmem hF hW
      clear hrd hmem
      generalize l0[x] = z at hcell hcall hF
      clear HQ hF
      have HX := Aside0.mk hlt
      have b1 : decide ((x : Int) < (l0.length : Int)) = true := decide_eq_true (by omega)
      have b2 : ((0 : Int) ≤ (x : Int)) = True := eq_true (by omega)
      have hm := HM.out
      cases b with
      | false =>
        rw [if_neg (by simp)] at H1
        obtain ⟨e1, e2⟩ := Prod.mk.inj (Option.some.inj H1)
        clear H1
        subst e1 e2
        go_wp2_with (first | (go_at_fn g; refine (hcall _ HB.out).mono ?_; rintro e w1 ⟨v5, rfl, ho0, hb'⟩; have HO1 := Aside0.mk (Kd.S_elder' HO.out (Kd.R_base ho0) hb'); have HE1 := Aside0.mk (Kd.R_lower ho0 (below_size HB.out)); have HB1 := Aside0.mk (below_step HB.out hb'); clear HO HB hb' hcell hcall ho0; obtain ⟨Ao5, co5, eo5⟩ := Kd.R_slice HE1.out; subst eo5))
        go_ret2
        exact ⟨_, rfl, Kd.S_nil _ _ _ _ _, HB1.out⟩
      | true =>
        rw [if_pos rfl] at H1
        have HN := Aside0.mk H1
        clear H1
        go_wp2_with (first | (go_at_fn g; refine (hcall _ HB.out).mono ?_; rintro e w1 ⟨v5, rfl, ho0, hb'⟩; have HO1 := Aside0.mk (Kd.S_elder' HO.out (Kd.R_base ho0) hb'); have HE1 := Aside0.mk (Kd.R_lower ho0 (below_size HB.out)); have HB1 := Aside0.mk (below_step HB.out hb'); clear HO HB hb' hcell hcall ho0; obtain ⟨Ao5, co5, eo5⟩ := Kd.R_slice HE1.out; subst eo5) | (at_builtin; refine Kd.S_append (Kd.slice 3 (Kd.int .i64)) (w0 := w) w.heap.size rfl (.tmp 28) (.tmp 30) 61 69 (.slice none 0 0) 24 rfl Try.underlying61 dataset_each_string_int_113.info rfl (by decide) (by omega) u6 acc y [.slice Ao5 y.length co5] (fun _ => True) (fun k_ => some k_ = (.slice Ao5 y.length co5 : Value).ownBlock) rfl rfl ?aP (fun k_ hk_ => ((Kd.R_mono (ok' := fun k_ => ((fun _ => True)) k_ ∧ some k_ ≠ (u6 : Value).ownBlock) (Kd.R_apart' (HE1.out) (Kd.S_typed HO1.out) (by decide)) (fun k_ hk => ⟨trivial, hk.2⟩))).1 k_ hk_.symm) ?aF ?aO ?aB ?aS ?aL ?_; (case aP => exact Kd.M_row (Kd.R_mono (Kd.R_tight rfl (Kd.R_mono (ok' := fun k_ => ((fun _ => True)) k_ ∧ some k_ ≠ (u6 : Value).ownBlock) (Kd.R_apart' (HE1.out) (Kd.S_typed HO1.out) (by decide)) (fun k_ hk => ⟨trivial, hk.2⟩))) (fun _ h_ => h_))); (case aB => exact HB1.out); (case aF => exact (fun _ _ => trivial)); (case aO => exact Kd.S_mono HO1.out (fun k_ hk => ⟨trivial, fun e_ => hk.2 e_⟩)); (case aS => exact HB1.out.size); (case aL => have := HA.out; have := HX.out; have := HM.out; omega); intro v1 w3 ho hb hg hat; have HO2 := Aside0.mk ho; have HB2 := Aside0.mk hb; clear HO1 HB1 HE1 ho hb hg hat))
        go_roundw
        case rel => exact ⟨x + 1, acc ++ [y], by go_num, HX.out, HN, HO2, ⟨by rw [List.length_append, HA.out]; rfl⟩, HB2⟩
        case measure => have := HX.out; simp [intOf]; omega
    · obtain rfl : x = l0.length := by omega
      have b1 : decide ((l0.length : Int) < (l0.length : Int)) = false := decide_eq_false (by omega)
      have H := HQ.out
      rw [List.drop_length, dataset_each_string_int_113.go] at H
      obtain ⟨e1, e2⟩ := Prod.mk.inj (Option.some.inj H)
      clear H HQ
      subst e1 e2
      go_wp2
      go_ret2
      exact ⟨_, rfl, HO.out, HB.out⟩

/-! ### dataset_Parse: function 48 -/
def dataset_Parse.f (k : Nat) (a0 : ByteArray) : Option (List (List Int) × Int) :=
  (dataset_Shape.f k (a0.extract 0 (min a0.size 10)) (a0.size : Int)).bind fun s => if s.2.2 = 0 then
    (if 10 ≤ a0.size then (octet_Split.f k (a0.extract 10 a0.size) (wrap64 (s.2.1 * 4))).bind fun l => if l.1.length ≤ 1000000000 then
      (dataset_each_string_int_113.go (fun b => dataset_Vector.f k b s.2.1) [] l.1).bind fun q => if q.2 = true then some (q.1, 0) else some ([], 7) else none else none)
    else some ([], s.2.2)
theorem dataset_Parse.go_mono {F G : ByteArray → Option (List Int × Bool)} (h : ∀ x, LeO (F x) (G x)) : ∀ (l : List ByteArray) acc, LeO (dataset_each_string_int_113.go F acc l) (dataset_each_string_int_113.go G acc l) := by
  intro l
  induction l with
  | nil => intro acc r hr; exact hr
  | cons x l ih =>
    intro acc r hr
    rw [dataset_each_string_int_113.go] at hr ⊢
    obtain ⟨y, hy, hr⟩ := Option.bind_eq_some_iff.mp hr
    rw [h x y hy, Option.bind_some]
    split
    · rename_i c; rw [if_pos c] at hr; exact ih _ _ hr
    · rename_i c; rw [if_neg c] at hr; exact hr
theorem dataset_Parse.mono : ∀ a0 k, LeO (dataset_Parse.f k a0) (dataset_Parse.f (k + 1) a0) := by
  intro a0 k r h
  unfold dataset_Parse.f at h ⊢
  obtain ⟨s, hs, h⟩ := Option.bind_eq_some_iff.mp h
  rw [dataset_Shape.mono _ _ k s hs, Option.bind_some]
  split at h
  · rename_i c
    rw [if_pos c]
    split at h
    · rename_i c2
      rw [if_pos c2]
      obtain ⟨l, hl, h⟩ := Option.bind_eq_some_iff.mp h
      rw [octet_Split.mono _ _ k l hl, Option.bind_some]
      split at h
      · rename_i c3
        rw [if_pos c3]
        obtain ⟨q, hq, h⟩ := Option.bind_eq_some_iff.mp h
        rw [dataset_Parse.go_mono (fun x => dataset_Vector.mono x s.2.1 k) _ _ q hq, Option.bind_some]
        exact h
      · cases h
    · cases h
  · rename_i c
    rw [if_neg c]; exact h
set_option maxHeartbeats 4000000 in
set_option maxRecDepth 100000 in
theorem dataset_Parse.one_calls (k : Nat) (d : Int) (s : ByteArray) (y : List Int) (b : Bool) (g : Nat) (W : World) (hg : W.cell? ⟨g, 0, none⟩ = some (.int .i64 d)) (h : dataset_Vector.f k s d = some (y, b)) :
    Calls Try.prog 114 #[.string s, .pointer (some ⟨g, 0, none⟩)] W fun e w' => ∃ v, e = .returned (.tuple #[v, .bool b]) ∧ Kd.R (Kd.int .i64) 3 w' W.heap.size (fun _ => True) v y ∧ Below W.heap.size W w' := by
  have hV := fun W => dataset_Vector.calls k s d y b W h
  clear h
  go_enter Try.func114, Try.ntmps114
  go_wp2_with (first | (go_at_call 51; refine (hV _).mono ?_; rintro e w' ⟨v0, rfl, ho, hb⟩))
  go_ret2
  exact ⟨_, rfl, ho, hb⟩
set_option maxHeartbeats 8000000 in
set_option maxRecDepth 100000 in
theorem dataset_Parse.calls (k : Nat) (a0 : ByteArray) (r1 : List (List Int)) (r2 : Int) (w : World) (h : dataset_Parse.f k a0 = some (r1, r2)) :
    Calls Try.prog 48 #[.string a0] w fun e w' => ∃ v0_ : Value, e = .returned (.tuple #[v0_, .int .i64 r2]) ∧ Kd.S (Kd.slice 3 (Kd.int .i64)) 69 w' w.heap.size (fun _ => True) v0_ r1 ∧ Below w.heap.size w w' := by
  unfold dataset_Parse.f at h
  obtain ⟨⟨s1, d, s3⟩, hs, h1⟩ := Option.bind_eq_some_iff.mp h
  clear h
  have hS := fun W => dataset_Shape.calls k (a0.extract 0 (min a0.size 10)) (a0.size : Int) s1 d s3 W hs
  clear hs
  obtain ⟨m, hmi, hm0, hm1, hmn⟩ : ∃ m : Int, (if (10 : Int) < (a0.size : Int) then (10 : Int) else (a0.size : Int)) = m ∧ 0 ≤ m ∧ m ≤ (a0.size : Int) ∧ m.toNat = min a0.size 10 := ⟨_, rfl, by split <;> omega, by split <;> omega, by split <;> omega⟩
  rw [← hmn] at hS
  clear hmn
  split at h1
  case isFalse he =>
    obtain ⟨e1, e2⟩ := Prod.mk.inj (Option.some.inj h1)
    clear h1
    subst e1 e2
    have hne : (s3 != 0) = true := by simpa using he
    have hne2 : ¬ s3 = 0 := he
    go_enter Try.func48, Try.ntmps48
    go_wp2_with (first | (go_at_call 55; with_reducible refine (hS _).mono ?_; rintro e w' ⟨rfl, hb⟩; have HB := Aside0.mk hb; clear hb))
    go_ret2
    exact ⟨_, rfl, Kd.S_nil _ _ _ _ _, (by repeat (first | (with_reducible first | exact HB.out | apply below_alloc | apply pw_below_drewN | apply below_drew1) | exact HB.out))⟩
  case isTrue he =>
    have he0 : s3 = 0 := he
    subst he0
    clear he
    split at h1
    case isFalse => cases h1
    case isTrue h10 =>
    obtain ⟨⟨l, lb⟩, hl, h2⟩ := Option.bind_eq_some_iff.mp h1
    clear h1
    split at h2
    case isFalse => cases h2
    case isTrue hm =>
    obtain ⟨⟨q, qb⟩, hq, h3⟩ := Option.bind_eq_some_iff.mp h2
    clear h2
    have hL := fun W => octet_Split.calls k (a0.extract 10 a0.size) (wrap64 (d * 4)) l lb W hl
    clear hl
    have HQ := Aside0.mk hq
    have HM := Aside0.mk hm
    have H3 := Aside0.mk h3
    clear hq hm h3
    have hEg : ∀ args w, (callFunc 114 args).run Try.prog w = .ok (.enter 114 args) w := enters_of Try.func114 (by kernel_rfl) rfl
    have h10i : (10 : Int) ≤ (a0.size : Int) := by omega
    have hwd : IntKind.i64.wrap (d * 4) = wrap64 (d * 4) := i64_w _
    go_enter Try.func48, Try.ntmps48
    go_upto_region 4 with (first | (go_at_call 55; with_reducible refine (hS _).mono ?_; rintro e w' ⟨rfl, hb⟩; have HB := Aside0.mk hb; clear hb))
    have hcell : (w'.alloc (Obj.cells #[Value.int IntKind.i64 d] 3)).cell? ⟨w'.heap.size, 0, none⟩ = some (.int .i64 d) := (blk_cell (blk_new _ _) 0).trans rfl
    refine start_ (ds := []) (n := 10) (S := fun _ => True) #[false, false, false, false, false, false, false, false, false, false] (by kernel_rfl) rfl (by rfl) (trivial) (fun hHeld => ?_)
    refine pure_ (i := 0) (N := (some 27)) (v := ?_) (a' := ?_) #[true, false, false, false, false, false, false, false, false, false] rfl rfl (by kernel_rfl) (fun _ _ _ h => h) (Or.inl ⟨by rfl, ?_⟩) ?_ ?_
    rotate_left
    · intro w'
      go_simp
      first | with_reducible rfl | rfl
    rotate_left
    · simp only [Act.put, List.setIfInBounds_toArray, List.set_cons_zero, List.set_cons_succ, i64_w, i32_w]
      rfl
    refine pure_ (i := 1) (N := (some 28)) (v := ?_) (a' := ?_) #[true, true, false, false, false, false, false, false, false, false] rfl rfl (by kernel_rfl) (fun _ _ _ h => h) (Or.inl ⟨by rfl, ?_⟩) ?_ ?_
    rotate_left
    · intro w'
      go_simp
      first | with_reducible rfl | rfl
    rotate_left
    · simp only [Act.put, List.setIfInBounds_toArray, List.set_cons_zero, List.set_cons_succ, i64_w, i32_w]
      rfl
    refine one_ (i := 2) (N := (some 29)) #[true, true, true, false, false, false, false, false, false, false] rfl rfl (by kernel_rfl) (by decide) (fun K hK => ?_)
    rw [if_pos (by rfl)]
    go_simp
    refine hK.out _ _ (trivial) (fun hHeld => ?_)
    clear hK K
    refine pure_ (i := 3) (N := (some 30)) (v := ?_) (a' := ?_) #[true, true, true, true, false, false, false, false, false, false] rfl rfl (by kernel_rfl) (fun _ _ _ h => h) (Or.inl ⟨by rfl, ?_⟩) ?_ ?_
    rotate_left
    · intro w'
      go_simp
      first | with_reducible rfl | rfl
    rotate_left
    · simp only [Act.put, List.setIfInBounds_toArray, List.set_cons_zero, List.set_cons_succ, i64_w, i32_w]
      rfl
    refine one_ (i := 4) (N := (some 31)) #[true, true, true, true, true, false, false, false, false, false] rfl rfl (by kernel_rfl) (by decide) (fun K hK => ?_)
    refine goes_ Try.func101 (by kernel_rfl) rfl #[.string (a0.extract 10 a0.size), .int .i64 (wrap64 (d * 4))] (by rfl) rfl rfl (by (try simp only [List.map_toArray, List.map_cons, List.map_nil]); first | done | rfl | (simp only [List.length_drop, List.length_take]; rfl)) ?_
    with_reducible refine (hL _).mono ?_
    rintro e w2 ⟨v1, rfl, ho, hb⟩
    obtain ⟨A1, c1, rfl, hle, hC⟩ := Kd.R_reads ho
    refine ⟨_, rfl, ?_⟩
    refine hK.out _ _ (trivial) (fun hHeld => ?_)
    clear hK K
    refine norm_ (a' := ?_) ?_ ?_
    rotate_left
    · show Act.put _ (some 31) _ = _
      simp only [Act.put, List.setIfInBounds_toArray, List.set_cons_zero, List.set_cons_succ, i64_w, i32_w]
      rfl
    refine pure_ (i := 5) (N := (some 26)) (v := ?_) (a' := ?_) #[true, true, true, true, true, true, false, false, false, false] rfl rfl (by kernel_rfl) (fun _ _ _ h => h) (Or.inl ⟨by rfl, ?_⟩) ?_ ?_
    rotate_left
    · intro w'
      go_simp
      first | with_reducible rfl | rfl
    rotate_left
    · simp only [Act.put, List.setIfInBounds_toArray, List.set_cons_zero, List.set_cons_succ, i64_w, i32_w]
      rfl
    refine pure_ (i := 6) (N := (some 32)) (v := ?_) (a' := ?_) #[true, true, true, true, true, true, true, false, false, false] rfl rfl (by kernel_rfl) (fun _ _ _ h => h) (Or.inl ⟨by rfl, ?_⟩) ?_ ?_
    rotate_left
    · intro w'
      go_simp
      first | with_reducible rfl | rfl
    rotate_left
    · simp only [Act.put, List.setIfInBounds_toArray, List.set_cons_zero, List.set_cons_succ, i64_w, i32_w]
      rfl
    refine pure_ (i := 7) (N := (some 33)) (v := ?_) (a' := ?_) #[true, true, true, true, true, true, true, true, false, false] rfl rfl (by kernel_rfl) (fun _ _ _ h => h) (Or.inl ⟨by rfl, ?_⟩) ?_ ?_
    rotate_left
    · intro w'
      go_simp
      first | with_reducible rfl | rfl
    rotate_left
    · simp only [Act.put, List.setIfInBounds_toArray, List.set_cons_zero, List.set_cons_succ, i64_w, i32_w]
      rfl
    refine pure_ (i := 8) (N := (some 7)) (v := ?_) (a' := ?_) #[true, true, true, true, true, true, true, true, true, false] rfl rfl (by kernel_rfl) (fun _ _ _ h => h) (Or.inl ⟨by rfl, ?_⟩) ?_ ?_
    rotate_left
    · intro w'
      go_simp
      first | with_reducible rfl | rfl
    rotate_left
    · simp only [Act.put, List.setIfInBounds_toArray, List.set_cons_zero, List.set_cons_succ, i64_w, i32_w]
      rfl
    refine pure_ (i := 9) (N := (some 8)) (v := ?_) (a' := ?_) #[true, true, true, true, true, true, true, true, true, true] rfl rfl (by kernel_rfl) (fun _ _ _ h => h) (Or.inl ⟨by rfl, ?_⟩) ?_ ?_
    rotate_left
    · intro w'
      go_simp
      first | with_reducible rfl | rfl
    rotate_left
    · simp only [Act.put, List.setIfInBounds_toArray, List.set_cons_zero, List.set_cons_succ, i64_w, i32_w]
      rfl
    refine done_ (by kernel_rfl) ?_
    have HB3 := Aside0.mk (below_step (below_drew1 (below_alloc HB.out (Obj.cells #[Value.int IntKind.i64 d] 3))) hb)
    have hlt : w'.heap.size < (w'.alloc (Obj.cells #[Value.int IntKind.i64 d] 3)).drew.heap.size := World.block_lt_of_cell? (w'.alloc (Obj.cells #[Value.int IntKind.i64 d] 3)).drew ⟨w'.heap.size, 0, none⟩ hcell
    have hcell2 : w2.cell? ⟨w'.heap.size, 0, none⟩ = some (.int .i64 d) := (hb.cell hlt).trans hcell
    have HC2 := Aside0.mk hcell2
    have HCC := Aside0.mk hC
    clear hb hcell hcell2 hlt hC ho HB
    cases qb with
    | false =>
      have h3 := H3.out
      rw [if_neg (by simp)] at h3
      obtain ⟨e1, e2⟩ := Prod.mk.inj (Option.some.inj h3)
      clear h3 H3
      subst e1 e2
      go_wp2_with (first | (go_at_call 113; refine (dataset_each_string_int_113.runs (fun b => dataset_Vector.f k b d) 114 #[.pointer (some ⟨w'.heap.size, 0, none⟩)] hEg A1 c1 l _ (Kd.C_below HCC.out (by repeat (first | (with_reducible first | apply below_alloc | apply pw_below_drewN | apply below_drew1) | exact Below.refl _ _))) hle HM.out (fun x y b W' _ hF hB' => dataset_Parse.one_calls k d x y b _ W' ((hB'.cell (World.block_lt_of_cell? _ _ HC2.out)).trans HC2.out) hF) q false HQ.out).mono ?_; rintro e w3 ⟨v0, rfl, ho, hb⟩; have HS := Aside0.mk (Kd.S_lower ho (HB3.out.size)); have HB4 := Aside0.mk (below_step HB3.out hb); clear HB3 ho hb))
      go_ret2
      exact ⟨_, rfl, Kd.S_nil _ _ _ _ _, HB4.out⟩
    | true =>
      have h3 := H3.out
      rw [if_pos rfl] at h3
      obtain ⟨e1, e2⟩ := Prod.mk.inj (Option.some.inj h3)
      clear h3 H3
      subst e1 e2
      go_wp2_with (first | (go_at_call 113; refine (dataset_each_string_int_113.runs (fun b => dataset_Vector.f k b d) 114 #[.pointer (some ⟨w'.heap.size, 0, none⟩)] hEg A1 c1 l _ (Kd.C_below HCC.out (by repeat (first | (with_reducible first | apply below_alloc | apply pw_below_drewN | apply below_drew1) | exact Below.refl _ _))) hle HM.out (fun x y b W' _ hF hB' => dataset_Parse.one_calls k d x y b _ W' ((hB'.cell (World.block_lt_of_cell? _ _ HC2.out)).trans HC2.out) hF) q true HQ.out).mono ?_; rintro e w3 ⟨v0, rfl, ho, hb⟩; have HS := Aside0.mk (Kd.S_lower ho (HB3.out.size)); have HB4 := Aside0.mk (below_step HB3.out hb); clear HB3 ho hb))
      go_ret2
      exact ⟨_, rfl, HS.out, HB4.out⟩


/-! ### chainmanref10_SameList: function 52 -/
def chainmanref10_SameList.l0 : Nat → List Int → List Int → Int → Option (Bool)
  | 0, _, _, _ => none
  | k + 1, x0, x1, x5 => if x5 < (x0.length : Int) then (if 0 ≤ x5 then (if x5 < (x1.length : Int) then (if (rd x0 x5) = (rd x1 x5) then (chainmanref10_SameList.l0 k x0 x1 (wrap64 (x5 + 1))) else (some false)) else (none)) else (none)) else (some true)
def chainmanref10_SameList.f (k : Nat) (l0 : List Int) (l1 : List Int) : Option (Bool) := if (l0.length : Int) = (l1.length : Int) then (chainmanref10_SameList.l0 k l0 l1 0) else (some false)
theorem chainmanref10_SameList.mono_l : ∀ k, (∀ y0 y1 y2, LeO (chainmanref10_SameList.l0 k y0 y1 y2) (chainmanref10_SameList.l0 (k + 1) y0 y1 y2))
  | 0 => fun _ _ _ r h => by simp [chainmanref10_SameList.l0] at h
  | k + 1 => by
    have ih0 := chainmanref10_SameList.mono_l k
    · intro y0 y1 y2
      unfold chainmanref10_SameList.l0
      repeat' first
      | (with_reducible exact ih0 _ _ _)
      | (with_reducible exact LeO.refl _)
      | (with_reducible exact LeO.none _)
      | (with_reducible refine LeO.ite ?_ ?_)
      | (with_reducible refine LeO.bind ?_ (fun _ => ?_))
      | exact ih0 _ _ _
      | exact LeO.none _
      | refine LeO.ite ?_ ?_
      | refine LeO.bind ?_ (fun _ => ?_)
theorem chainmanref10_SameList.mono : ∀ a0 a1 k, LeO (chainmanref10_SameList.f k a0 a1) (chainmanref10_SameList.f (k + 1) a0 a1) := by
  intro a0 a1 k
  have ih0 := chainmanref10_SameList.mono_l k
  unfold chainmanref10_SameList.f
  repeat' first
      | (with_reducible exact ih0 _ _ _)
      | (with_reducible exact LeO.refl _)
      | (with_reducible exact LeO.none _)
      | (with_reducible refine LeO.ite ?_ ?_)
      | (with_reducible refine LeO.bind ?_ (fun _ => ?_))
      | exact ih0 _ _ _
      | exact LeO.none _
      | refine LeO.ite ?_ ?_
      | refine LeO.bind ?_ (fun _ => ?_)
set_option maxHeartbeats 8000000 in
set_option maxRecDepth 100000 in
theorem chainmanref10_SameList.calls (k : Nat) (A0 : Option Addr) (c0 : Nat) (l0 : List Int) (A1 : Option Addr) (c1 : Nat) (l1 : List Int) (r : Bool) (w : World) (hr0 : Kd.C (Kd.int .i64) w A0 l0.length l0) (hc0 : l0.length ≤ c0) (hr1 : Kd.C (Kd.int .i64) w A1 l1.length l1) (hc1 : l1.length ≤ c1) (h : chainmanref10_SameList.f k l0 l1 = some r) :
    Calls Try.prog 52 #[.slice A0 l0.length c0, .slice A1 l1.length c1] w fun e w' => e = .returned (.bool r) ∧ Drawn0 w w' := by
  have HR0 := Aside0.mk hr0
  have HC0 := Aside0.mk hc0
  clear hr0 hc0
  have HR1 := Aside0.mk hr1
  have HC1 := Aside0.mk hc1
  clear hr1 hc1
  have H : (if (l0.length : Int) = (l1.length : Int) then (chainmanref10_SameList.l0 k l0 l1 0) else (some false)) = some r := h
  clear h
  by_cases c3 : (l0.length : Int) = (l1.length : Int)
  · rw [if_pos c3] at H
    have c3b0 : ((l0.length : Int) == (l1.length : Int)) = true := beq_iff_eq.mpr c3
    have c3b1 : ((l0.length : Int) != (l1.length : Int)) = false := bne_eq_false_iff_eq.mpr c3
    have c3b2 : (l0.length == l1.length) = true := by first | simpa using c3 | (simp at c3 ⊢; omega)
    clear c3
    have H' := Aside0.mk H
    clear H
    go_enter Try.func52, Try.ntmps52
    go_wp2
    repeat (go_quiet (fail); try go_wp2)
    go_loopg [5] k (fun kq v5 w' => ∃ (x5_1 : Int), v5 = .int .i64 x5_1 ∧ Aside0 (chainmanref10_SameList.l0 kq l0 l1 x5_1 = some r) ∧ Aside0 (kq ≤ k) ∧ Drawn0 w w')
    case atStart => exact ⟨(0), (by first | rfl | (simp; done) | (simp [*]; done)), H', ⟨Nat.le_refl _⟩, by repeat (first | exact Drawn0.refl _ | apply Drawn0.step)⟩
    case round =>
      clear H'
      try clear c1
      try clear p2
      try clear c3
      try clear c3b0
      try clear c3b1
      try clear c3b2
      obtain ⟨x5_1, rfl, HA, HK1, ⟨m1, rfl⟩⟩ := hrel
      cases gk with
      | zero => exact absurd HA.out (by simp [chainmanref10_SameList.l0])
      | succ k1 =>
        have H := HA.out
        clear HA
        simp only [chainmanref10_SameList.l0] at H
        by_cases c4 : x5_1 < (l0.length : Int)
        · rw [if_pos c4] at H
          have c4b0 : decide (x5_1 < (l0.length : Int)) = true := decide_eq_true c4
          clear c4
          by_cases c5 : 0 ≤ x5_1
          · rw [if_pos c5] at H
            have c5b0 : decide (0 ≤ x5_1) = true := decide_eq_true c5
            clear c5
            by_cases c6 : x5_1 < (l1.length : Int)
            · rw [if_pos c6] at H
              have c6b0 : decide (x5_1 < (l1.length : Int)) = true := decide_eq_true c6
              clear c6
              by_cases c7 : (rd l0 x5_1) = (rd l1 x5_1)
              · rw [if_pos c7] at H
                have c7b0 : ((rd l0 x5_1) == (rd l1 x5_1)) = true := beq_iff_eq.mpr c7
                have c7b1 : ((rd l0 x5_1) != (rd l1 x5_1)) = false := bne_eq_false_iff_eq.mpr c7
                clear c7
                have H' := Aside0.mk H
                clear H
                have p124 : 0 ≤ (x5_1 : Int) := of_decide_eq_true (by first | (with_reducible assumption) | assumption)
                have q124 : x5_1 < (l0.length : Int) := of_decide_eq_true (by first | (with_reducible assumption) | assumption)
                obtain ⟨ad124, e124, hx124_0⟩ := Kd.at_int HR0.out x5_1 p124 q124
                cases e124
                replace p124 := eq_true p124
                replace q124 := eq_true q124
                have p125 : 0 ≤ (x5_1 : Int) := of_decide_eq_true (by first | (with_reducible assumption) | assumption)
                have q125 : x5_1 < (l1.length : Int) := of_decide_eq_true (by first | (with_reducible assumption) | assumption)
                obtain ⟨ad125, e125, hx125_0⟩ := Kd.at_int HR1.out x5_1 p125 q125
                cases e125
                replace p125 := eq_true p125
                replace q125 := eq_true q125
                go_wp2
                repeat (go_quiet (fail); try go_wp2)
                go_roundg k1
                case measure => have := HK1.out; omega
                case rel => exact ⟨(wrap64 (x5_1 + 1)), (by first | rfl | (simp; done) | (simp [*]; done)), H', ⟨by have := HK1.out; omega⟩, by repeat (first | exact Drawn0.refl _ | apply Drawn0.step)⟩
              · rw [if_neg c7] at H
                have c7b0 : ((rd l0 x5_1) == (rd l1 x5_1)) = false := beq_eq_false_iff_ne.mpr c7
                have c7b1 : ((rd l0 x5_1) != (rd l1 x5_1)) = true := bne_iff_ne.mpr c7
                obtain rfl := Option.some.inj H
                have p124 : 0 ≤ (x5_1 : Int) := of_decide_eq_true (by first | (with_reducible assumption) | assumption)
                have q124 : x5_1 < (l0.length : Int) := of_decide_eq_true (by first | (with_reducible assumption) | assumption)
                obtain ⟨ad124, e124, hx124_0⟩ := Kd.at_int HR0.out x5_1 p124 q124
                cases e124
                replace p124 := eq_true p124
                replace q124 := eq_true q124
                have p125 : 0 ≤ (x5_1 : Int) := of_decide_eq_true (by first | (with_reducible assumption) | assumption)
                have q125 : x5_1 < (l1.length : Int) := of_decide_eq_true (by first | (with_reducible assumption) | assumption)
                obtain ⟨ad125, e125, hx125_0⟩ := Kd.at_int HR1.out x5_1 p125 q125
                cases e125
                replace p125 := eq_true p125
                replace q125 := eq_true q125
                go_wp2
                repeat (go_quiet (fail); try go_wp2)
                go_ret
                exact ⟨by first | rfl | (simp; done) | (simp [*]; done), by repeat (first | exact Drawn0.refl _ | apply Drawn0.step)⟩
            · rw [if_neg c6] at H
              exact absurd H (by simp)
          · rw [if_neg c5] at H
            exact absurd H (by simp)
        · rw [if_neg c4] at H
          have c4b0 : decide (x5_1 < (l0.length : Int)) = false := decide_eq_false c4
          clear c4
          obtain rfl := Option.some.inj H
          go_wp2
          repeat (go_quiet (fail); try go_wp2)
          go_ret
          exact ⟨by first | rfl | (simp; done) | (simp [*]; done), by repeat (first | exact Drawn0.refl _ | apply Drawn0.step)⟩
  · rw [if_neg c3] at H
    have c3b0 : ((l0.length : Int) == (l1.length : Int)) = false := beq_eq_false_iff_ne.mpr c3
    have c3b1 : ((l0.length : Int) != (l1.length : Int)) = true := bne_iff_ne.mpr c3
    have c3b2 : (l0.length == l1.length) = false := by first | simpa using c3 | (simp at c3 ⊢; omega)
    obtain rfl := Option.some.inj H
    go_enter Try.func52, Try.ntmps52
    go_wp2
    repeat (go_quiet (fail); try go_wp2)
    go_ret
    exact ⟨by first | rfl | (simp; done) | (simp [*]; done), by repeat (first | exact Drawn0.refl _ | apply Drawn0.step)⟩

end Go.Proofs.Ytmacpgkcokpgjaa.PDatasetBack
