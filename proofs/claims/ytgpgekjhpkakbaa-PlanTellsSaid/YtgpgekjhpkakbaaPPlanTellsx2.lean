/- The Go functions that the law reaches, as plain Lean functions, and proofs that the calls of the machine come to them, or the row of the law over them, for every input that the row speaks of; written by a program of this session (wip/tool/mkprint.py) out of the translation and of hand-made templates. -/
import Derived.Test.YtgpgekjhpkakbaaPPlanTellsx0
namespace Go.Proofs.Ytgpgekjhpkakbaa.PPlanTells
open Go.RowKit Go.Proofs.YtgpgekjhpkakbaaW.PrintWords Go.Proofs.YtgpgekjhpkakbaaW.PrintLast Go.Proofs.YtgpgekjhpkakbaaW.PrintMore
attribute [local go_sem] max2_int min2_int max_two min_two max_three min_three max_four min_four   -- for this text's walks alone
set_option linter.unusedVariables false
set_option linter.unusedSimpArgs false

/-! ### xsort_room: function 118 -/
def xsort_room.f (a0 : Int) : Option (Int × Int) := some (wrap64 (a0 - 8), mn 64 (wrap64 (Int.tdiv (wrap64 (a0 - 4)) 4)))
set_option maxHeartbeats 8000000 in
set_option maxRecDepth 100000 in
theorem xsort_room.calls (a0 : Int) (r1 : Int) (r2 : Int) (w : World) (h : xsort_room.f a0 = some (r1, r2)) :
    Calls Try.prog 118 #[.int .i64 a0] w fun e w' => e = .returned (.tuple #[.int .i64 r1, .int .i64 r2]) ∧ Below w.heap.size w w' := by
  have HB := Aside0.mk (Below.refl w.heap.size w)
  have H : (some (wrap64 (a0 - 8), mn 64 (wrap64 (Int.tdiv (wrap64 (a0 - 4)) 4)))) = some (r1, r2) := h
  clear h
  obtain ⟨ji2, hji2⟩ : ∃ j_ : Int, (mn 64 (wrap64 (Int.tdiv (wrap64 (a0 - 4)) 4))) = j_ := ⟨_, rfl⟩
  replace H : (some (wrap64 (a0 - 8), ji2)) = some (r1, r2) := by first | (rw [hji2] at H; exact H) | (simp only [hji2] at H ⊢; exact H)
  (try (have hji2h : ji2 ≤ 64 := by (rw [← hji2]; unfold mn; (repeat' split) <;> omega)))
  (try (have hji2g : ji2 ≤ 64 := by omega))
  have hji2_ : (if (wrap64 (Int.tdiv (wrap64 (a0 - 4)) 4)) < 64 then (wrap64 (Int.tdiv (wrap64 (a0 - 4)) 4)) else 64) = ji2 := hji2
  simp only [Option.some.injEq, Prod.mk.injEq] at H
  obtain ⟨rfl, rfl⟩ := H
  go_enter Try.func118, Try.ntmps118
  go_wp2
  go_ret2
  exact ⟨by first | rfl | (simp [errW_none, errW_some] <;> rfl) | (simp only [← hji2]; first | rfl | (simp [errW_none, errW_some] <;> rfl)) | (simp [*, errW_none, errW_some] <;> rfl), by repeat (first | (with_reducible first | exact HB.out | apply below_alloc | apply pw_below_drewN | apply below_drew1) | exact HB.out)⟩

/-! ### xsort_Passes: function 88 -/
mutual
def xsort_Passes.j0 : Nat → Int → Int → Bool → Option (Int)
  | 0, _, _, _ => none
  | k + 1, x0, x1, x22 => if x22 = true then (some 0) else ((xsort_room.f x1).bind fun bt101 => (if bt101.1 = 0 then (none) else (xsort_Passes.l0 k bt101.2 1 (wrap64 (Int.tdiv (wrap64 ((wrap64 (x0 + bt101.1)) - 1)) bt101.1)))))
def xsort_Passes.l0 : Nat → Int → Int → Int → Option (Int)
  | 0, _, _, _ => none
  | k + 1, x6, x7, x8 => if x8 > 1 then (if x6 = 0 then (none) else (xsort_Passes.l0 k x6 (wrap64 (x7 + 1)) (wrap64 (Int.tdiv (wrap64 ((wrap64 (x8 + x6)) - 1)) x6)))) else (some x7)
end
def xsort_Passes.f (k : Nat) (a0 : Int) (a1 : Int) : Option (Int) := if a0 < 0 then (xsort_Passes.j0 k a0 a1 true) else (if a0 > 1099511627776 then (xsort_Passes.j0 k a0 a1 true) else (if a1 < 16 then (xsort_Passes.j0 k a0 a1 true) else (xsort_Passes.j0 k a0 a1 (decide (a1 > 1099511627776)))))
theorem xsort_Passes.mono_l : ∀ k, (∀ y0 y1 y2, LeO (xsort_Passes.j0 k y0 y1 y2) (xsort_Passes.j0 (k + 1) y0 y1 y2)) ∧ (∀ y0 y1 y2, LeO (xsort_Passes.l0 k y0 y1 y2) (xsort_Passes.l0 (k + 1) y0 y1 y2))
  | 0 => ⟨fun _ _ _ r h => by simp [xsort_Passes.j0] at h, fun _ _ _ r h => by simp [xsort_Passes.l0] at h⟩
  | k + 1 => by
    obtain ⟨ih0, ih1⟩ := xsort_Passes.mono_l k
    refine ⟨?_, ?_⟩
    · intro y0 y1 y2
      unfold xsort_Passes.j0
      repeat' first
      | (with_reducible exact ih0 _ _ _)
      | (with_reducible exact ih1 _ _ _)
      | (with_reducible exact LeO.refl _)
      | (with_reducible exact LeO.none _)
      | (with_reducible refine LeO.ite ?_ ?_)
      | (with_reducible refine LeO.bind ?_ (fun _ => ?_))
      | exact ih0 _ _ _
      | exact ih1 _ _ _
      | exact LeO.none _
      | refine LeO.ite ?_ ?_
      | refine LeO.bind ?_ (fun _ => ?_)
    · intro y0 y1 y2
      unfold xsort_Passes.l0
      repeat' first
      | (with_reducible exact ih0 _ _ _)
      | (with_reducible exact ih1 _ _ _)
      | (with_reducible exact LeO.refl _)
      | (with_reducible exact LeO.none _)
      | (with_reducible refine LeO.ite ?_ ?_)
      | (with_reducible refine LeO.bind ?_ (fun _ => ?_))
      | exact ih0 _ _ _
      | exact ih1 _ _ _
      | exact LeO.none _
      | refine LeO.ite ?_ ?_
      | refine LeO.bind ?_ (fun _ => ?_)
theorem xsort_Passes.mono : ∀ a0 a1 k, LeO (xsort_Passes.f k a0 a1) (xsort_Passes.f (k + 1) a0 a1) := by
  intro a0 a1 k
  obtain ⟨ih0, ih1⟩ := xsort_Passes.mono_l k
  unfold xsort_Passes.f
  repeat' first
      | (with_reducible exact ih0 _ _ _)
      | (with_reducible exact ih1 _ _ _)
      | (with_reducible exact LeO.refl _)
      | (with_reducible exact LeO.none _)
      | (with_reducible refine LeO.ite ?_ ?_)
      | (with_reducible refine LeO.bind ?_ (fun _ => ?_))
      | exact ih0 _ _ _
      | exact ih1 _ _ _
      | exact LeO.none _
      | refine LeO.ite ?_ ?_
      | refine LeO.bind ?_ (fun _ => ?_)
set_option maxHeartbeats 8000000 in
set_option maxRecDepth 100000 in
theorem xsort_Passes.calls (k : Nat) (a0 : Int) (a1 : Int) (r : Int) (w : World) (h : xsort_Passes.f k a0 a1 = some r) :
    Calls Try.prog 88 #[.int .i64 a0, .int .i64 a1] w fun e w' => e = .returned (.int .i64 r) ∧ Below w.heap.size w w' := by
  have HB := Aside0.mk (Below.refl w.heap.size w)
  have H : (if a0 < 0 then (xsort_Passes.j0 k a0 a1 true) else (if a0 > 1099511627776 then (xsort_Passes.j0 k a0 a1 true) else (if a1 < 16 then (xsort_Passes.j0 k a0 a1 true) else (xsort_Passes.j0 k a0 a1 (decide (a1 > 1099511627776)))))) = some r := h
  clear h
  have HC3 := Aside0.mk H
  clear H
  go_enter Try.func88, Try.ntmps88
  go_upto_region 1 with (fail)
  go_cut [22] (fun v22 wc => ∃ (kq : Nat) (x22_2 : Bool), v22 = .bool x22_2 ∧ Aside0 (xsort_Passes.j0 kq a0 a1 x22_2 = some r) ∧ Aside0 (kq ≤ k) ∧ Aside0 (Below w.heap.size w wc))
  case first =>
    have H := HC3.out
    clear HC3
    by_cases c4 : a0 < 0
    · rw [if_pos c4] at H
      have c4b0 : decide (a0 < 0) = true := decide_eq_true c4
      clear c4
      (first | rw [c4b0] | (simp only [i64_w, i32_w]; rw [c4b0]) | skip)
      have H' := Aside0.mk H
      clear H
      go_wp2
      go_meet
      case rel => exact ⟨_, (true), (by first | rfl | (simp; done) | (simp [*]; done)), H', ⟨by first | omega | exact Nat.le_refl _⟩, ⟨by repeat (first | (with_reducible first | exact HB.out | apply below_alloc | apply pw_below_drewN | apply below_drew1) | exact HB.out)⟩⟩
    · rw [if_neg c4] at H
      have c4b0 : decide (a0 < 0) = false := decide_eq_false c4
      clear c4
      (first | rw [c4b0] | (simp only [i64_w, i32_w]; rw [c4b0]) | skip)
      by_cases c5 : a0 > 1099511627776
      · rw [if_pos c5] at H
        have c5b0 : decide (1099511627776 < a0) = true := decide_eq_true c5
        clear c5
        have H' := Aside0.mk H
        clear H
        go_wp2
        go_meet
        case rel => exact ⟨_, (true), (by first | rfl | (simp; done) | (simp [*]; done)), H', ⟨by first | omega | exact Nat.le_refl _⟩, ⟨by repeat (first | (with_reducible first | exact HB.out | apply below_alloc | apply pw_below_drewN | apply below_drew1) | exact HB.out)⟩⟩
      · rw [if_neg c5] at H
        have c5b0 : decide (1099511627776 < a0) = false := decide_eq_false c5
        clear c5
        by_cases c6 : a1 < 16
        · rw [if_pos c6] at H
          have c6b0 : decide (a1 < 16) = true := decide_eq_true c6
          clear c6
          have H' := Aside0.mk H
          clear H
          go_wp2
          go_meet
          case rel => exact ⟨_, (true), (by first | rfl | (simp; done) | (simp [*]; done)), H', ⟨by first | omega | exact Nat.le_refl _⟩, ⟨by repeat (first | (with_reducible first | exact HB.out | apply below_alloc | apply pw_below_drewN | apply below_drew1) | exact HB.out)⟩⟩
        · rw [if_neg c6] at H
          have c6b0 : decide (a1 < 16) = false := decide_eq_false c6
          clear c6
          have H' := Aside0.mk H
          clear H
          go_wp2
          go_meet
          case rel => exact ⟨_, (decide (a1 > 1099511627776)), (by first | rfl | (simp; done) | (simp [*]; done)), H', ⟨by first | omega | exact Nat.le_refl _⟩, ⟨by repeat (first | (with_reducible first | exact HB.out | apply below_alloc | apply pw_below_drewN | apply below_drew1) | exact HB.out)⟩⟩
  case rest =>
    clear HC3
    try clear p2
    try clear c4
    try clear c4b0
    try clear c5
    try clear c5b0
    try clear c6
    try clear c6b0
    obtain ⟨kq, x22_2, rfl, HA, HJ2, HB⟩ := hcut
    cases kq with
    | zero => exact absurd HA.out (by simp [xsort_Passes.j0])
    | succ kj2 =>
      have H := HA.out
      clear HA
      simp only [xsort_Passes.j0] at H
      by_cases c7 : x22_2 = true
      · subst c7
        have H1 : (some 0) = some r := by rw [if_pos rfl] at H; exact H
        clear H
        have H := H1
        clear H1
        obtain rfl := Option.some.inj H
        go_wp2
        go_ret
        exact ⟨by first | rfl | (simp [errW_none, errW_some] <;> rfl) | (simp [*, errW_none, errW_some] <;> rfl), by repeat (first | (with_reducible first | exact HB.out | apply below_alloc | apply pw_below_drewN | apply below_drew1) | exact HB.out)⟩
      · replace c7 := Bool.eq_false_iff.mpr c7
        subst c7
        have H1 : ((xsort_room.f a1).bind fun bt101 => (if bt101.1 = 0 then (none) else (xsort_Passes.l0 kj2 bt101.2 1 (wrap64 (Int.tdiv (wrap64 ((wrap64 (a0 + bt101.1)) - 1)) bt101.1))))) = some r := by rw [if_neg (show ¬ (false = true) by decide)] at H; exact H
        clear H
        have H := H1
        clear H1
        replace H := Option.bind_eq_some_iff.mp H
        obtain ⟨⟨t101, t102⟩, A80, H⟩ := H
        replace H : (if t101 = 0 then (none) else (xsort_Passes.l0 kj2 t102 1 (wrap64 (Int.tdiv (wrap64 ((wrap64 (a0 + t101)) - 1)) t101)))) = some r := H
        have A8 := Aside0.mk A80
        clear A80
        by_cases c9 : t101 = 0
        · rw [if_pos c9] at H
          exact absurd H (by simp)
        · rw [if_neg c9] at H
          have c9b0 : (t101 == 0) = false := beq_eq_false_iff_ne.mpr c9
          have c9b1 : (t101 != 0) = true := bne_iff_ne.mpr c9
          have H' := Aside0.mk H
          clear H
          go_wp2_with (first | ((with_reducible refine gate_callee (f := 118) rfl ?_); refine goesL_ (some 25) rfl rfl Try.func118 (by kernel_rfl) rfl #[.int .i64 a1] rfl (by (try simp only [List.map_toArray, List.map_cons, List.map_nil]); first | done | rfl | (simp only [List.length_drop, List.length_take]; rfl)) ?_; (with_reducible refine (xsort_room.calls a1 t101 t102 _ A8.out).mono ?_); rintro e w10 ⟨rfl, hb⟩; refine ⟨_, rfl, ?_⟩; have n0_ := Aside0.mk (below_step (by repeat (first | (with_reducible first | exact HB.out | apply below_alloc | apply pw_below_drewN | apply below_drew1) | exact HB.out)) hb); clear HB; have HB := n0_; clear n0_; (try clear hb); (try clear hb2); (try clear hk); (try clear hi)))
          go_loopg [7, 8] kj2 (fun kq v7 v8 w' => ∃ (x7_2 : Int) (x8_2 : Int), v7 = .int .i64 x7_2 ∧ v8 = .int .i64 x8_2 ∧ Aside0 (xsort_Passes.l0 kq t102 x7_2 x8_2 = some r) ∧ Aside0 (kq ≤ kj2) ∧ Aside0 (Below w.heap.size w w'))
          case atStart => exact ⟨(1), (wrap64 (Int.tdiv (wrap64 ((wrap64 (a0 + t101)) - 1)) t101)), (by first | rfl | (simp; done) | (simp [*]; done)), (by first | rfl | (simp; done) | (simp [*]; done)), H', ⟨Nat.le_refl _⟩, ⟨by repeat (first | (with_reducible first | exact HB.out | apply below_alloc | apply pw_below_drewN | apply below_drew1) | exact HB.out)⟩⟩
          case round =>
            clear H'
            try clear c1
            try clear p2
            try clear c4
            try clear c4b0
            try clear c5
            try clear c5b0
            try clear c6
            try clear c6b0
            try clear p6
            try clear c7
            try clear c8
            try clear c9
            try clear c9b0
            try clear c9b1
            try clear p2
            obtain ⟨x7_2, x8_2, rfl, rfl, HA, HK2, HB⟩ := hrel
            cases gk with
            | zero => exact absurd HA.out (by simp [xsort_Passes.l0])
            | succ k2 =>
              have H := HA.out
              clear HA
              simp only [xsort_Passes.l0] at H
              by_cases c11 : x8_2 > 1
              · rw [if_pos c11] at H
                have c11b0 : decide (1 < x8_2) = true := decide_eq_true c11
                clear c11
                by_cases c12 : t102 = 0
                · rw [if_pos c12] at H
                  exact absurd H (by simp)
                · rw [if_neg c12] at H
                  have c12b0 : (t102 == 0) = false := beq_eq_false_iff_ne.mpr c12
                  have c12b1 : (t102 != 0) = true := bne_iff_ne.mpr c12
                  have H' := Aside0.mk H
                  clear H
                  go_wp2
                  go_roundg k2
                  case measure => have := HJ2.out; have := HK2.out; omega
                  case rel => exact ⟨(wrap64 (x7_2 + 1)), (wrap64 (Int.tdiv (wrap64 ((wrap64 (x8_2 + t102)) - 1)) t102)), (by first | rfl | (simp; done) | (simp [*]; done)), (by first | rfl | (simp; done) | (simp [*]; done)), H', ⟨by have := HJ2.out; have := HK2.out; omega⟩, ⟨by repeat (first | (with_reducible first | exact HB.out | apply below_alloc | apply pw_below_drewN | apply below_drew1) | exact HB.out)⟩⟩
              · rw [if_neg c11] at H
                have c11b0 : decide (1 < x8_2) = false := decide_eq_false c11
                clear c11
                obtain rfl := Option.some.inj H
                go_wp2
                go_ret
                exact ⟨by first | rfl | (simp [errW_none, errW_some] <;> rfl) | (simp [*, errW_none, errW_some] <;> rfl), by repeat (first | (with_reducible first | exact HB.out | apply below_alloc | apply pw_below_drewN | apply below_drew1) | exact HB.out)⟩

/-! ### plan_Least: function 41 -/
/-- sort.Search from i to j, with k rounds at most. -/
def plan_Least.search (p : Int → Option Bool) : Nat → Int → Int → Option Int
  | 0, _, _ => none
  | k + 1, i, j => if i < j then (p ((i + j) / 2)).bind fun b => (if b = true then plan_Least.search p k i ((i + j) / 2) else plan_Least.search p k ((i + j) / 2 + 1) j) else some i
theorem plan_Least.search_le {p q : Int → Option Bool} (h : ∀ x, LeO (p x) (q x)) : ∀ k i j, LeO (plan_Least.search p k i j) (plan_Least.search q k i j) := by
  intro k
  induction k with
  | zero => intro i j; exact LeO.none _
  | succ k ih =>
    intro i j
    unfold plan_Least.search
    exact LeO.ite (LeO.bind (h _) (fun b => LeO.ite (ih _ _) (ih _ _))) (LeO.refl _)
theorem plan_Least.search_mono (p : Int → Option Bool) : ∀ k i j, LeO (plan_Least.search p k i j) (plan_Least.search p (k + 1) i j) := by
  intro k
  induction k with
  | zero => intro i j; exact LeO.none _
  | succ k ih =>
    intro i j
    show LeO (if i < j then (p ((i + j) / 2)).bind fun b => (if b = true then plan_Least.search p k i ((i + j) / 2) else plan_Least.search p k ((i + j) / 2 + 1) j) else some i) (if i < j then (p ((i + j) / 2)).bind fun b => (if b = true then plan_Least.search p (k + 1) i ((i + j) / 2) else plan_Least.search p (k + 1) ((i + j) / 2 + 1) j) else some i)
    exact LeO.ite (LeO.bind (LeO.refl _) (fun b => LeO.ite (ih _ _) (ih _ _))) (LeO.refl _)
/-- What is asked of a predicate: where it answers, the call answers so, and leaves what lay. -/
def plan_Least.Pred (g : Nat) (lb : Array Value) (p : Int → Option Bool) (w : World) : Prop :=
  ∀ (W : World) (x : Int) (b : Bool), Below w.heap.size w W → p x = some b → Calls Try.prog g (#[.int .i64 x] ++ lb) W fun e w' => e = .returned (.bool b) ∧ Below W.heap.size W w'
set_option maxHeartbeats 4000000 in
set_option maxRecDepth 100000 in
theorem plan_Least.search_calls (p : Int → Option Bool) (k : Nat) (P1 P2 : Option Addr) (n r : Int) (w : World) (hn : 0 ≤ n ∧ n ≤ 4611686018427387904)
    (hp : plan_Least.Pred 117 #[.pointer P1, .pointer P2] p w) (h : plan_Least.search p k 0 n = some r) :
    Calls Try.prog 116 #[.int .i64 n, .func (.func 117) #[] #[.pointer P1, .pointer P2]] w fun e w' => e = .returned (.int .i64 r) ∧ Below w.heap.size w w' := by
  have HP := Aside0.mk hp
  have HN := Aside0.mk hn
  have HH := Aside0.mk h
  clear hp hn h
  go_enter Try.func116, Try.ntmps116
  go_wp2
  go_loopg [5, 6] k (fun kq v5 v6 w' => ∃ (i : Int) (j : Int), v5 = .int .i64 i ∧ v6 = .int .i64 j ∧ Aside0 (plan_Least.search p kq i j = some r) ∧ Aside0 (0 ≤ i ∧ j ≤ 4611686018427387904 ∧ i ≤ j) ∧ Aside0 (kq ≤ k) ∧ Aside0 (Below w.heap.size w w'))
  case atStart => exact ⟨0, n, rfl, rfl, HH, ⟨Int.le_refl _, HN.out.2, HN.out.1⟩, ⟨Nat.le_refl _⟩, ⟨Below.refl _ _⟩⟩
  case round =>
    obtain ⟨i, j, rfl, rfl, HA, HR, HK, HB⟩ := hrel
    cases gk with
    | zero => exact absurd HA.out (by simp [plan_Least.search])
    | succ k1 =>
      have H := HA.out
      clear HA HH
      rw [plan_Least.search] at H
      by_cases c1 : i < j
      · rw [if_pos c1] at H
        have b1 : decide (i < j) = true := decide_eq_true c1
        have e1 : wrap64 (i + j) = i + j := by have := HR.out; unfold wrap64; omega
        have e2 : IntKind.u64.wrap (i + j) = i + j := by
          have := HR.out
          simp only [IntKind.wrap, IntKind.bits, IntKind.signed, Bool.false_and]
          simp
          omega
        obtain ⟨m, hm⟩ : ∃ m, (i + j) / 2 = m := ⟨_, rfl⟩
        have e3 : wrap64 m = m := by have := HR.out; unfold wrap64; omega
        have HM : Aside0 (i ≤ m ∧ m < j ∧ i < j) := ⟨by omega⟩
        rw [hm] at H
        obtain ⟨b, hb, H⟩ := Option.bind_eq_some_iff.mp H
        have hc := HP.out _ m b HB.out hb
        clear c1
        cases b with
        | true =>
          have HX : Aside0 (plan_Least.search p k1 i m = some r) := ⟨by rw [if_pos rfl] at H; exact H⟩
          clear H hb
          go_wp2_with (go_at_call 117; refine hc.mono ?_; rintro e w' ⟨rfl, hb'⟩)
          go_roundg k1
          case measure => have := HK.out; omega
          case rel => exact ⟨i, m, rfl, rfl, HX, ⟨by have := HR.out; have := HM.out; omega⟩, ⟨by have := HK.out; omega⟩, ⟨HB.out.trans (hb'.mono HB.out.size)⟩⟩
        | false =>
          have HX : Aside0 (plan_Least.search p k1 (m + 1) j = some r) := ⟨by rw [if_neg (by decide)] at H; exact H⟩
          have e4 : wrap64 (m + 1) = m + 1 := by have := HR.out; have := HM.out; unfold wrap64; omega
          clear H hb
          go_wp2_with (go_at_call 117; refine hc.mono ?_; rintro e w' ⟨rfl, hb'⟩)
          go_roundg k1
          case measure => have := HK.out; omega
          case rel => exact ⟨m + 1, j, by simp [i64_w, e4], rfl, HX, ⟨by have := HR.out; have := HM.out; omega⟩, ⟨by have := HK.out; omega⟩, ⟨HB.out.trans (hb'.mono HB.out.size)⟩⟩
      · rw [if_neg c1] at H
        have b1 : decide (i < j) = false := decide_eq_false c1
        have HX := Aside0.mk (Option.some.inj H)
        clear c1 H
        go_wp2
        go_ret
        exact ⟨by first | rfl | (rw [HX.out]; rfl), HB.out⟩
theorem plan_Least.cell_new (W : World) (v : Value) (t : TypeId) : (W.alloc (.cells #[v] t)).cell? ⟨W.heap.size, 0, none⟩ = some v := by
  have h := World.alloc_heap_new W (.cells #[v] t)
  unfold World.cell?
  rw [h]
  rfl
theorem plan_Least.cell_old {W : World} {a : Addr} {v : Value} (o : Obj) (h : W.cell? a = some v) : (W.alloc o).cell? a = some v := cell_kept h (World.grownBy_alloc W o none) (fun r e => by cases e)
/-- What 'first' asks of its predicate, moved by from. -/
def plan_Least.first (p : Int → Option Bool) (k : Nat) (from_ to_ : Int) : Option Int :=
  if 0 ≤ from_ ∧ from_ ≤ to_ ∧ to_ ≤ 2305843009213693952 then (plan_Least.search (fun i => p (wrap64 (from_ + i))) k 0 (to_ - from_)).bind fun r => some (wrap64 (from_ + r)) else none
theorem plan_Least.first_le {p q : Int → Option Bool} (h : ∀ x, LeO (p x) (q x)) (k : Nat) (a b : Int) : LeO (plan_Least.first p k a b) (plan_Least.first q k a b) := by
  unfold plan_Least.first
  exact LeO.ite (LeO.bind (plan_Least.search_le (fun _ => h _) _ _ _) (fun _ => LeO.refl _)) (LeO.none _)
theorem plan_Least.first_mono (p : Int → Option Bool) (k : Nat) (a b : Int) : LeO (plan_Least.first p k a b) (plan_Least.first p (k + 1) a b) := by
  unfold plan_Least.first
  exact LeO.ite (LeO.bind (plan_Least.search_mono _ _ _ _) (fun _ => LeO.refl _)) (LeO.none _)
set_option maxHeartbeats 4000000 in
set_option maxRecDepth 100000 in
theorem plan_Least.closure_calls (p : Int → Option Bool) (g : Nat) (lb : Array Value) (eg : ∀ args w, (callFunc g args).run Try.prog w = .ok (.enter g args) w) (from_ : Int) (B1 B2 : Nat) (w : World)
    (hp : plan_Least.Pred g lb p w) (h1 : w.cell? ⟨B1, 0, none⟩ = some (.func (.func g) #[] lb)) (h2 : w.cell? ⟨B2, 0, none⟩ = some (.int .i64 from_)) (hB1 : B1 < w.heap.size) (hB2 : B2 < w.heap.size) :
    plan_Least.Pred 117 #[.pointer (some ⟨B1, 0, none⟩), .pointer (some ⟨B2, 0, none⟩)] (fun i => p (wrap64 (from_ + i))) w := by
  intro W x b hb hx
  have c1 := (hb.cell (p := ⟨B1, 0, none⟩) hB1).trans h1
  have c2 := (hb.cell (p := ⟨B2, 0, none⟩) hB2).trans h2
  have hc := hp W (wrap64 (from_ + x)) b hb hx
  clear hx h1 h2 hB1 hB2 hp hb
  show Calls Try.prog 117 #[.int .i64 x, .pointer (some ⟨B1, 0, none⟩), .pointer (some ⟨B2, 0, none⟩)] W _
  go_enter Try.func117, Try.ntmps117
  go_wp2_with (go_at_fn g; refine hc.mono ?_; rintro e w' ⟨rfl, hb'⟩)
  go_ret
  exact ⟨rfl, hb'⟩
set_option maxHeartbeats 4000000 in
set_option maxRecDepth 100000 in
theorem plan_Least.first_calls (p : Int → Option Bool) (k : Nat) (g : Nat) (lb : Array Value) (eg : ∀ args w, (callFunc g args).run Try.prog w = .ok (.enter g args) w) (from_ to_ r : Int) (w : World)
    (hp : plan_Least.Pred g lb p w) (h : plan_Least.first p k from_ to_ = some r) :
    Calls Try.prog 86 #[.int .i64 from_, .int .i64 to_, .func (.func g) #[] lb] w fun e w' => e = .returned (.int .i64 r) ∧ Below w.heap.size w w' := by
  unfold plan_Least.first at h
  by_cases hg : 0 ≤ from_ ∧ from_ ≤ to_ ∧ to_ ≤ 2305843009213693952
  case neg => rw [if_neg hg] at h; cases h
  rw [if_pos hg] at h
  obtain ⟨s, hs, he⟩ := Option.bind_eq_some_iff.mp h
  have HE := Aside0.mk (Option.some.inj he)
  clear h he
  have e1 : wrap64 (to_ - from_) = to_ - from_ := by unfold wrap64; omega
  have hd : 0 ≤ to_ - from_ ∧ to_ - from_ ≤ 4611686018427387904 := by omega
  have hc1 := plan_Least.cell_new (w.alloc (.cells #[.int .i64 from_] 3)) (.func (.func g) #[] lb) 98
  have hc2 := plan_Least.cell_old (.cells #[.func (.func g) #[] lb] 98) (plan_Least.cell_new w (.int .i64 from_) 3)
  have HB : Below w.heap.size w ((w.alloc (.cells #[.int .i64 from_] 3)).alloc (.cells #[.func (.func g) #[] lb] 98)) := ((Below.refl _ w).alloc (Nat.le_refl _) _).alloc (by simp) _
  have hz : ((w.alloc (.cells #[.int .i64 from_] 3)).alloc (.cells #[.func (.func g) #[] lb] 98)).heap.size = w.heap.size + 2 := by simp
  rw [World.size_alloc] at hc1
  obtain ⟨W0, hW0⟩ : ∃ W0, ((w.alloc (.cells #[.int .i64 from_] 3)).alloc (.cells #[.func (.func g) #[] lb] 98)) = W0 := ⟨_, rfl⟩
  rw [hW0] at hc1 hc2 HB hz
  have e0 : IntKind.i64.wrap (to_ - from_) = to_ - from_ := by rw [i64_w]; exact e1
  have hsr : ∀ W, Below W0.heap.size W0 W → Calls Try.prog 116 #[.int .i64 (IntKind.i64.wrap (to_ - from_)), .func (.func 117) #[] #[.pointer (some ⟨w.heap.size + 1, 0, none⟩), .pointer (some ⟨w.heap.size, 0, none⟩)]] W fun e w' => e = .returned (.int .i64 s) ∧ Below W.heap.size W w' := by
    intro W hW
    rw [e0]
    have hp' : plan_Least.Pred g lb p W := fun W' x b hb hx => hp W' x b ((HB.trans (hW.mono HB.size)).trans (hb.mono (Nat.le_trans HB.size hW.size))) hx
    have hcl := plan_Least.closure_calls p g lb eg from_ (w.heap.size + 1) w.heap.size W hp' ((hW.cell (p := ⟨w.heap.size + 1, 0, none⟩) (by show w.heap.size + 1 < _; omega)).trans hc1) ((hW.cell (p := ⟨w.heap.size, 0, none⟩) (by show w.heap.size < _; omega)).trans hc2) (by have := hW.size; omega) (by have := hW.size; omega)
    exact plan_Least.search_calls (fun i => p (wrap64 (from_ + i))) k (some ⟨w.heap.size + 1, 0, none⟩) (some ⟨w.heap.size, 0, none⟩) (to_ - from_) s W hd hcl hs
  have HZ := Aside0.mk hz
  have HBB := Aside0.mk HB
  clear hp hs hd hg hc1 hz HB e0 e1
  go_enter Try.func86, Try.ntmps86
  go_wp2
  try rw [hW0]
  clear hW0
  go_region_with (go_at_call 116; refine (hsr _ ?_).mono ?_; exact (by repeat (first | exact Below.refl _ _ | apply pw_below_drewN | apply below_drew1)); rintro e w' ⟨rfl, hb'⟩; have c3 := (hb'.cell (p := ⟨w.heap.size, 0, none⟩) (by have := HZ.out; simp; omega)).trans hc2)
  all_goals
    go_wp2
    go_ret
    exact ⟨by rw [← HE.out]; simp [i64_w, Act.put], HBB.out.trans (Below.mono (below_step (by repeat (first | exact Below.refl _ _ | apply pw_below_drewN | apply below_drew1)) hb') HBB.out.size)⟩
/-- Are so many records left enough? -/
def plan_Least.enough (k : Nat) (n passes : Int) (m : Int) : Option Bool := (xsort_Passes.f k n m).bind fun x => some (decide (x ≤ passes))
set_option maxHeartbeats 4000000 in
set_option maxRecDepth 100000 in
theorem plan_Least.enough_pred (k : Nat) (n passes : Int) (B1 B2 : Nat) (w : World) (h1 : w.cell? ⟨B1, 0, none⟩ = some (.int .i64 n)) (h2 : w.cell? ⟨B2, 0, none⟩ = some (.int .i64 passes)) (hB1 : B1 < w.heap.size) (hB2 : B2 < w.heap.size) :
    plan_Least.Pred 87 #[.pointer (some ⟨B1, 0, none⟩), .pointer (some ⟨B2, 0, none⟩)] (plan_Least.enough k n passes) w := by
  intro W x b hb hx
  have c1 := (hb.cell (p := ⟨B1, 0, none⟩) hB1).trans h1
  have c2 := (hb.cell (p := ⟨B2, 0, none⟩) hB2).trans h2
  obtain ⟨s, hs, he⟩ := Option.bind_eq_some_iff.mp hx
  have HE := Aside0.mk (Option.some.inj he)
  have hc := fun W' => xsort_Passes.calls k n x s W' hs
  have L1 : Aside0 (B1 < W.heap.size) := ⟨Nat.lt_of_lt_of_le hB1 hb.size⟩
  have L2 : Aside0 (B2 < W.heap.size) := ⟨Nat.lt_of_lt_of_le hB2 hb.size⟩
  clear hx h1 h2 hB1 hB2 hb hs he
  show Calls Try.prog 87 #[.int .i64 x, .pointer (some ⟨B1, 0, none⟩), .pointer (some ⟨B2, 0, none⟩)] W _
  go_enter Try.func87, Try.ntmps87
  go_wp2
  go_region_with (go_at_call 88; refine (hc _).mono ?_; rintro e w' ⟨rfl, hb'⟩; have c3 := (hb'.cell (p := ⟨B1, 0, none⟩) L1.out).trans c1; have c4 := (hb'.cell (p := ⟨B2, 0, none⟩) L2.out).trans c2)
  all_goals
    go_wp2
    go_ret
    exact ⟨by rw [← HE.out]; simp [Act.put], below_step (by repeat (first | exact Below.refl _ _ | apply pw_below_drewN | apply below_drew1)) hb'⟩
def plan_Least.f (k : Nat) (a0 a1 : Int) : Option (Int × Bool) :=
  if a0 < 0 then some (0, false) else if 1048576 < a0 then some (0, false) else if a1 < 1 then some (0, false) else (plan_Least.first (plan_Least.enough k a0 a1) k 16 (mx 16 (a0 + 8))).bind fun r => some (r, true)
theorem plan_Least.mono : ∀ a0 a1 k, LeO (plan_Least.f k a0 a1) (plan_Least.f (k + 1) a0 a1) := by
  intro a0 a1 k
  unfold plan_Least.f
  refine LeO.ite (LeO.refl _) (LeO.ite (LeO.refl _) (LeO.ite (LeO.refl _) (LeO.bind (LeO.trans (plan_Least.first_le (fun m => ?_) k 16 _) (plan_Least.first_mono _ k 16 _)) (fun _ => LeO.refl _))))
  unfold plan_Least.enough
  exact LeO.bind (xsort_Passes.mono a0 m k) (fun _ => LeO.refl _)
set_option maxHeartbeats 4000000 in
set_option maxRecDepth 100000 in
theorem plan_Least.calls (k : Nat) (a0 a1 : Int) (r1 : Int) (r2 : Bool) (w : World) (h : plan_Least.f k a0 a1 = some (r1, r2)) :
    Calls Try.prog 41 #[.int .i64 a0, .int .i64 a1] w fun e w' => e = .returned (.tuple #[.int .i64 r1, .bool r2]) ∧ Below w.heap.size w w' := by
  unfold plan_Least.f at h
  by_cases c1 : a0 < 0
  · have b1 : decide (a0 < 0) = true := decide_eq_true c1
    rw [if_pos c1] at h
    simp only [Option.some.injEq, Prod.mk.injEq] at h
    obtain ⟨rfl, rfl⟩ := h
    clear c1
    go_enter Try.func41, Try.ntmps41
    go_wp2
    go_ret2
    exact ⟨rfl, by repeat (first | exact Below.refl _ _ | apply below_alloc)⟩
  rw [if_neg c1] at h
  by_cases c2 : 1048576 < a0
  · have b1 : decide (a0 < 0) = false := decide_eq_false c1
    have b2 : decide (1048576 < a0) = true := decide_eq_true c2
    rw [if_pos c2] at h
    simp only [Option.some.injEq, Prod.mk.injEq] at h
    obtain ⟨rfl, rfl⟩ := h
    clear c1 c2
    go_enter Try.func41, Try.ntmps41
    go_wp2
    go_ret2
    exact ⟨rfl, by repeat (first | exact Below.refl _ _ | apply below_alloc)⟩
  rw [if_neg c2] at h
  by_cases c3 : a1 < 1
  · have b1 : decide (a0 < 0) = false := decide_eq_false c1
    have b2 : decide (1048576 < a0) = false := decide_eq_false c2
    have b3 : decide (a1 < 1) = true := decide_eq_true c3
    rw [if_pos c3] at h
    simp only [Option.some.injEq, Prod.mk.injEq] at h
    obtain ⟨rfl, rfl⟩ := h
    clear c1 c2 c3
    go_enter Try.func41, Try.ntmps41
    go_wp2
    go_ret2
    exact ⟨rfl, by repeat (first | exact Below.refl _ _ | apply below_alloc)⟩
  rw [if_neg c3] at h
  obtain ⟨s, hs, he⟩ := Option.bind_eq_some_iff.mp h
  simp only [Option.some.injEq, Prod.mk.injEq] at he
  obtain ⟨rfl, rfl⟩ := he
  have b1 : decide (a0 < 0) = false := decide_eq_false c1
  have b2 : decide (1048576 < a0) = false := decide_eq_false c2
  have b3 : decide (a1 < 1) = false := decide_eq_false c3
  have e1 : wrap64 (a0 + 8) = a0 + 8 := by unfold wrap64; omega
  obtain ⟨M, hM⟩ : ∃ M, mx 16 (a0 + 8) = M := ⟨_, rfl⟩
  have hM2 : (if 16 < a0 + 8 then a0 + 8 else 16) = M := hM
  rw [hM] at hs
  have hc1 := plan_Least.cell_new (w.alloc (.cells #[.int .i64 a0] 3)) (.int .i64 a1) 3
  have hc2 := plan_Least.cell_old (.cells #[.int .i64 a1] 3) (plan_Least.cell_new w (.int .i64 a0) 3)
  have HB : Aside0 (Below w.heap.size w ((w.alloc (.cells #[.int .i64 a0] 3)).alloc (.cells #[.int .i64 a1] 3))) := ⟨((Below.refl _ w).alloc (Nat.le_refl _) _).alloc (by simp) _⟩
  rw [World.size_alloc] at hc1
  have hf := plan_Least.first_calls (plan_Least.enough k a0 a1) k 87 #[.pointer (some ⟨w.heap.size, 0, none⟩), .pointer (some ⟨w.heap.size + 1, 0, none⟩)] (enters_of Try.func87 (by kernel_rfl) rfl) 16 M s ((w.alloc (.cells #[.int .i64 a0] 3)).alloc (.cells #[.int .i64 a1] 3))
    (plan_Least.enough_pred k a0 a1 w.heap.size (w.heap.size + 1) _ hc2 hc1 (by simp; omega) (by simp)) hs
  clear c1 c2 c3 hs h hM hc1 hc2
  go_enter Try.func41, Try.ntmps41
  go_wp2_with (go_at_call 86; refine hf.mono ?_; rintro e w' ⟨rfl, hb'⟩)
  go_ret2
  exact ⟨rfl, HB.out.trans (hb'.mono HB.out.size)⟩


/-! ### num_Floor: function 27 -/
def num_Floor.f (a0 : Int) (a1 : Int) : Option (Int) := if a1 < 1 then (some 0) else (if a1 = 0 then (none) else (if (wrap64 ((wrap64 (Int.tdiv a0 a1)) * a1)) > a0 then (some (wrap64 ((wrap64 (Int.tdiv a0 a1)) - 1))) else (some (wrap64 (Int.tdiv a0 a1)))))
set_option maxHeartbeats 8000000 in
set_option maxRecDepth 100000 in
theorem num_Floor.calls (a0 : Int) (a1 : Int) (r : Int) (w : World) (h : num_Floor.f a0 a1 = some r) :
    Calls Try.prog 27 #[.int .i64 a0, .int .i64 a1] w fun e w' => e = .returned (.int .i64 r) ∧ Drawn0 w w' := by
  have H : (if a1 < 1 then (some 0) else (if a1 = 0 then (none) else (if (wrap64 ((wrap64 (Int.tdiv a0 a1)) * a1)) > a0 then (some (wrap64 ((wrap64 (Int.tdiv a0 a1)) - 1))) else (some (wrap64 (Int.tdiv a0 a1)))))) = some r := h
  clear h
  by_cases c3 : a1 < 1
  · rw [if_pos c3] at H
    have c3b0 : decide (a1 < 1) = true := decide_eq_true c3
    clear c3
    obtain rfl := Option.some.inj H
    go_enter Try.func27, Try.ntmps27
    go_wp2
    go_ret
    exact ⟨by first | rfl | (simp; done) | (simp [*]; done), by repeat (first | exact Drawn0.refl _ | apply Drawn0.step)⟩
  · rw [if_neg c3] at H
    have c3b0 : decide (a1 < 1) = false := decide_eq_false c3
    clear c3
    by_cases c4 : a1 = 0
    · rw [if_pos c4] at H
      exact absurd H (by simp)
    · rw [if_neg c4] at H
      have c4b0 : (a1 == 0) = false := beq_eq_false_iff_ne.mpr c4
      have c4b1 : (a1 != 0) = true := bne_iff_ne.mpr c4
      by_cases c5 : (wrap64 ((wrap64 (Int.tdiv a0 a1)) * a1)) > a0
      · rw [if_pos c5] at H
        have c5b0 : decide (a0 < (wrap64 ((wrap64 (Int.tdiv a0 a1)) * a1))) = true := decide_eq_true c5
        clear c5
        obtain rfl := Option.some.inj H
        go_enter Try.func27, Try.ntmps27
        go_wp2
        go_ret
        exact ⟨by first | rfl | (simp; done) | (simp [*]; done), by repeat (first | exact Drawn0.refl _ | apply Drawn0.step)⟩
      · rw [if_neg c5] at H
        have c5b0 : decide (a0 < (wrap64 ((wrap64 (Int.tdiv a0 a1)) * a1))) = false := decide_eq_false c5
        clear c5
        obtain rfl := Option.some.inj H
        go_enter Try.func27, Try.ntmps27
        go_wp2
        go_ret
        exact ⟨by first | rfl | (simp; done) | (simp [*]; done), by repeat (first | exact Drawn0.refl _ | apply Drawn0.step)⟩

/-! ### num_Rest: function 28 -/
def num_Rest.f (a0 : Int) (a1 : Int) : Option (Int) := if a1 < 1 then (some 0) else (if a1 = 0 then (none) else (if (Int.tmod a0 a1) < 0 then (some (wrap64 ((Int.tmod a0 a1) + a1))) else (some (Int.tmod a0 a1))))
set_option maxHeartbeats 8000000 in
set_option maxRecDepth 100000 in
theorem num_Rest.calls (a0 : Int) (a1 : Int) (r : Int) (w : World) (h : num_Rest.f a0 a1 = some r) :
    Calls Try.prog 28 #[.int .i64 a0, .int .i64 a1] w fun e w' => e = .returned (.int .i64 r) ∧ Drawn0 w w' := by
  have H : (if a1 < 1 then (some 0) else (if a1 = 0 then (none) else (if (Int.tmod a0 a1) < 0 then (some (wrap64 ((Int.tmod a0 a1) + a1))) else (some (Int.tmod a0 a1))))) = some r := h
  clear h
  by_cases c3 : a1 < 1
  · rw [if_pos c3] at H
    have c3b0 : decide (a1 < 1) = true := decide_eq_true c3
    clear c3
    obtain rfl := Option.some.inj H
    go_enter Try.func28, Try.ntmps28
    go_wp2
    go_ret
    exact ⟨by first | rfl | (simp; done) | (simp [*]; done), by repeat (first | exact Drawn0.refl _ | apply Drawn0.step)⟩
  · rw [if_neg c3] at H
    have c3b0 : decide (a1 < 1) = false := decide_eq_false c3
    clear c3
    by_cases c4 : a1 = 0
    · rw [if_pos c4] at H
      exact absurd H (by simp)
    · rw [if_neg c4] at H
      have c4b0 : (a1 == 0) = false := beq_eq_false_iff_ne.mpr c4
      have c4b1 : (a1 != 0) = true := bne_iff_ne.mpr c4
      by_cases c5 : (Int.tmod a0 a1) < 0
      · rw [if_pos c5] at H
        have c5b0 : decide ((Int.tmod a0 a1) < 0) = true := decide_eq_true c5
        clear c5
        obtain rfl := Option.some.inj H
        go_enter Try.func28, Try.ntmps28
        go_wp2
        go_ret
        exact ⟨by first | rfl | (simp; done) | (simp [*]; done), by repeat (first | exact Drawn0.refl _ | apply Drawn0.step)⟩
      · rw [if_neg c5] at H
        have c5b0 : decide ((Int.tmod a0 a1) < 0) = false := decide_eq_false c5
        clear c5
        obtain rfl := Option.some.inj H
        go_enter Try.func28, Try.ntmps28
        go_wp2
        go_ret
        exact ⟨by first | rfl | (simp; done) | (simp [*]; done), by repeat (first | exact Drawn0.refl _ | apply Drawn0.step)⟩

/-! ### num_Ceil: function 29 -/
def num_Ceil.j0 : Nat → Int → Int → Bool → Option (Int)
  | 0, _, _, _ => none
  | k + 1, x0, x1, x15 => if x15 = true then (some 0) else ((num_Floor.f x0 x1).bind fun t103 => ((num_Rest.f x0 x1).bind fun t104 => (if t104 > 0 then (some (wrap64 (t103 + 1))) else (some t103))))
def num_Ceil.f (k : Nat) (a0 : Int) (a1 : Int) : Option (Int) := if a1 < 1 then (num_Ceil.j0 k a0 a1 true) else (if a0 < (-4611686018427387904) then (num_Ceil.j0 k a0 a1 true) else (num_Ceil.j0 k a0 a1 (decide (a0 > 4611686018427387904))))
theorem num_Ceil.mono_l : ∀ k, (∀ y0 y1 y2, LeO (num_Ceil.j0 k y0 y1 y2) (num_Ceil.j0 (k + 1) y0 y1 y2))
  | 0 => fun _ _ _ r h => by simp [num_Ceil.j0] at h
  | k + 1 => by
    have ih0 := num_Ceil.mono_l k
    · intro y0 y1 y2
      unfold num_Ceil.j0
      repeat' first
      | (with_reducible exact ih0 _ _ _)
      | (with_reducible exact LeO.refl _)
      | (with_reducible exact LeO.none _)
      | (with_reducible refine LeO.ite ?_ ?_)
      | (with_reducible refine LeO.bind ?_ (fun _ => ?_))
      | exact ih0 _ _ _
      | exact LeO.none _
      | refine LeO.ite ?_ ?_
      | refine LeO.bind ?_ (fun _ => ?_)
theorem num_Ceil.mono : ∀ a0 a1 k, LeO (num_Ceil.f k a0 a1) (num_Ceil.f (k + 1) a0 a1) := by
  intro a0 a1 k
  have ih0 := num_Ceil.mono_l k
  unfold num_Ceil.f
  repeat' first
      | (with_reducible exact ih0 _ _ _)
      | (with_reducible exact LeO.refl _)
      | (with_reducible exact LeO.none _)
      | (with_reducible refine LeO.ite ?_ ?_)
      | (with_reducible refine LeO.bind ?_ (fun _ => ?_))
      | exact ih0 _ _ _
      | exact LeO.none _
      | refine LeO.ite ?_ ?_
      | refine LeO.bind ?_ (fun _ => ?_)
set_option maxHeartbeats 8000000 in
set_option maxRecDepth 100000 in
theorem num_Ceil.calls (k : Nat) (a0 : Int) (a1 : Int) (r : Int) (w : World) (h : num_Ceil.f k a0 a1 = some r) :
    Calls Try.prog 29 #[.int .i64 a0, .int .i64 a1] w fun e w' => e = .returned (.int .i64 r) ∧ Drawn0 w w' := by
  have H : (if a1 < 1 then (num_Ceil.j0 k a0 a1 true) else (if a0 < (-4611686018427387904) then (num_Ceil.j0 k a0 a1 true) else (num_Ceil.j0 k a0 a1 (decide (a0 > 4611686018427387904))))) = some r := h
  clear h
  have HC3 := Aside0.mk H
  clear H
  go_enter Try.func29, Try.ntmps29
  go_upto_region 1 with (fail)
  go_cut [15] (fun v15 wc => ∃ (kq : Nat) (x15_2 : Bool), v15 = .bool x15_2 ∧ Aside0 (num_Ceil.j0 kq a0 a1 x15_2 = some r) ∧ Aside0 (kq ≤ k) ∧ Drawn0 w wc)
  case first =>
    have H := HC3.out
    clear HC3
    by_cases c4 : a1 < 1
    · rw [if_pos c4] at H
      have c4b0 : decide (a1 < 1) = true := decide_eq_true c4
      clear c4
      (first | rw [c4b0] | (simp only [i64_w, i32_w]; rw [c4b0]) | skip)
      have H' := Aside0.mk H
      clear H
      go_wp2
      go_meet
      case rel => exact ⟨_, (true), (by first | rfl | (simp; done) | (simp [*]; done)), H', ⟨by first | omega | exact Nat.le_refl _⟩, by repeat (first | exact Drawn0.refl _ | apply Drawn0.step)⟩
    · rw [if_neg c4] at H
      have c4b0 : decide (a1 < 1) = false := decide_eq_false c4
      clear c4
      (first | rw [c4b0] | (simp only [i64_w, i32_w]; rw [c4b0]) | skip)
      by_cases c5 : a0 < (-4611686018427387904)
      · rw [if_pos c5] at H
        have c5b0 : decide (a0 < (-4611686018427387904)) = true := decide_eq_true c5
        clear c5
        have H' := Aside0.mk H
        clear H
        go_wp2
        go_meet
        case rel => exact ⟨_, (true), (by first | rfl | (simp; done) | (simp [*]; done)), H', ⟨by first | omega | exact Nat.le_refl _⟩, by repeat (first | exact Drawn0.refl _ | apply Drawn0.step)⟩
      · rw [if_neg c5] at H
        have c5b0 : decide (a0 < (-4611686018427387904)) = false := decide_eq_false c5
        clear c5
        have H' := Aside0.mk H
        clear H
        go_wp2
        go_meet
        case rel => exact ⟨_, (decide (a0 > 4611686018427387904)), (by first | rfl | (simp; done) | (simp [*]; done)), H', ⟨by first | omega | exact Nat.le_refl _⟩, by repeat (first | exact Drawn0.refl _ | apply Drawn0.step)⟩
  case rest =>
    clear HC3
    try clear c2
    try clear p2
    try clear c4
    try clear c4b0
    try clear c5
    try clear c5b0
    obtain ⟨kq, x15_2, rfl, HA, HJ2, ⟨mc2, rfl⟩⟩ := hcut
    cases kq with
    | zero => exact absurd HA.out (by simp [num_Ceil.j0])
    | succ kj2 =>
      have H := HA.out
      clear HA
      simp only [num_Ceil.j0] at H
      by_cases c6 : x15_2 = true
      · subst c6
        have H1 : (some 0) = some r := by rw [if_pos rfl] at H; exact H
        clear H
        have H := H1
        clear H1
        obtain rfl := Option.some.inj H
        go_wp2
        go_ret
        exact ⟨by first | rfl | (simp; done) | (simp [*]; done), by repeat (first | exact Drawn0.refl _ | apply Drawn0.step)⟩
      · replace c6 := Bool.eq_false_iff.mpr c6
        subst c6
        have H1 : ((num_Floor.f a0 a1).bind fun t103 => ((num_Rest.f a0 a1).bind fun t104 => (if t104 > 0 then (some (wrap64 (t103 + 1))) else (some t103)))) = some r := by rw [if_neg (show ¬ (false = true) by decide)] at H; exact H
        clear H
        have H := H1
        clear H1
        replace H := Option.bind_eq_some_iff.mp H
        obtain ⟨t103, A70, H⟩ := H
        replace H : ((num_Rest.f a0 a1).bind fun t104 => (if t104 > 0 then (some (wrap64 (t103 + 1))) else (some t103))) = some r := H
        have A7 := Aside0.mk A70
        clear A70
        replace H := Option.bind_eq_some_iff.mp H
        obtain ⟨t104, A80, H⟩ := H
        replace H : (if t104 > 0 then (some (wrap64 (t103 + 1))) else (some t103)) = some r := H
        have A8 := Aside0.mk A80
        clear A80
        by_cases c9 : t104 > 0
        · rw [if_pos c9] at H
          have c9b0 : decide (0 < t104) = true := decide_eq_true c9
          clear c9
          obtain rfl := Option.some.inj H
          go_wp2_with (first | ((with_reducible refine gate_callee (f := 27) rfl ?_); refine goesL_ (some 18) rfl rfl Try.func27 (by kernel_rfl) rfl #[.int .i64 a0, .int .i64 a1] rfl (by (try simp only [List.map_toArray, List.map_cons, List.map_nil]); first | done | rfl | (simp only [List.length_drop, List.length_take]; rfl)) ?_; (with_reducible refine (num_Floor.calls a0 a1 t103 _ A7.out).mono ?_); rintro e w' ⟨rfl, ⟨nd, rfl⟩⟩; refine ⟨_, rfl, ?_⟩) | (go_at_call 27; refine calls_of_args (args' := #[.int .i64 a0, .int .i64 a1]) (by first | rfl) ?_; (with_reducible refine (num_Floor.calls a0 a1 t103 _ A7.out).mono ?_); rintro e w' ⟨rfl, ⟨nd, rfl⟩⟩) | ((with_reducible refine gate_callee (f := 28) rfl ?_); refine goesL_ (some 21) rfl rfl Try.func28 (by kernel_rfl) rfl #[.int .i64 a0, .int .i64 a1] rfl (by (try simp only [List.map_toArray, List.map_cons, List.map_nil]); first | done | rfl | (simp only [List.length_drop, List.length_take]; rfl)) ?_; (with_reducible refine (num_Rest.calls a0 a1 t104 _ A8.out).mono ?_); rintro e w' ⟨rfl, ⟨nd, rfl⟩⟩; refine ⟨_, rfl, ?_⟩) | (go_at_call 28; refine calls_of_args (args' := #[.int .i64 a0, .int .i64 a1]) (by first | rfl) ?_; (with_reducible refine (num_Rest.calls a0 a1 t104 _ A8.out).mono ?_); rintro e w' ⟨rfl, ⟨nd, rfl⟩⟩))
          go_ret
          exact ⟨by first | rfl | (simp; done) | (simp [*]; done), by repeat (first | exact Drawn0.refl _ | apply Drawn0.step)⟩
        · rw [if_neg c9] at H
          have c9b0 : decide (0 < t104) = false := decide_eq_false c9
          clear c9
          obtain rfl := Option.some.inj H
          go_wp2_with (first | ((with_reducible refine gate_callee (f := 27) rfl ?_); refine goesL_ (some 18) rfl rfl Try.func27 (by kernel_rfl) rfl #[.int .i64 a0, .int .i64 a1] rfl (by (try simp only [List.map_toArray, List.map_cons, List.map_nil]); first | done | rfl | (simp only [List.length_drop, List.length_take]; rfl)) ?_; (with_reducible refine (num_Floor.calls a0 a1 t103 _ A7.out).mono ?_); rintro e w' ⟨rfl, ⟨nd, rfl⟩⟩; refine ⟨_, rfl, ?_⟩) | (go_at_call 27; refine calls_of_args (args' := #[.int .i64 a0, .int .i64 a1]) (by first | rfl) ?_; (with_reducible refine (num_Floor.calls a0 a1 t103 _ A7.out).mono ?_); rintro e w' ⟨rfl, ⟨nd, rfl⟩⟩) | ((with_reducible refine gate_callee (f := 28) rfl ?_); refine goesL_ (some 21) rfl rfl Try.func28 (by kernel_rfl) rfl #[.int .i64 a0, .int .i64 a1] rfl (by (try simp only [List.map_toArray, List.map_cons, List.map_nil]); first | done | rfl | (simp only [List.length_drop, List.length_take]; rfl)) ?_; (with_reducible refine (num_Rest.calls a0 a1 t104 _ A8.out).mono ?_); rintro e w' ⟨rfl, ⟨nd, rfl⟩⟩; refine ⟨_, rfl, ?_⟩) | (go_at_call 28; refine calls_of_args (args' := #[.int .i64 a0, .int .i64 a1]) (by first | rfl) ?_; (with_reducible refine (num_Rest.calls a0 a1 t104 _ A8.out).mono ?_); rintro e w' ⟨rfl, ⟨nd, rfl⟩⟩))
          go_ret
          exact ⟨by first | rfl | (simp; done) | (simp [*]; done), by repeat (first | exact Drawn0.refl _ | apply Drawn0.step)⟩

/-! ### num_least: function 81 -/
def num_least.l0 : Nat → Int → List Int → Int → Int → Option (Int)
  | 0, _, _, _, _ => none
  | k + 1, x0, x7, x8, x9 => if x9 < x8 then (if 0 ≤ x9 then (if x9 < (x7.length : Int) then (num_least.l0 k (mn x0 (rd x7 x9)) x7 x8 (wrap64 (x9 + 1))) else (none)) else (none)) else (some x0)
def num_least.f (k : Nat) (a0 : Int) (l1 : List Int) : Option (Int) := num_least.l0 k a0 l1 (l1.length : Int) 0
theorem num_least.mono_l : ∀ k, (∀ y0 y1 y2 y3, LeO (num_least.l0 k y0 y1 y2 y3) (num_least.l0 (k + 1) y0 y1 y2 y3))
  | 0 => fun _ _ _ _ r h => by simp [num_least.l0] at h
  | k + 1 => by
    have ih0 := num_least.mono_l k
    · intro y0 y1 y2 y3
      unfold num_least.l0
      repeat' first
      | (with_reducible exact ih0 _ _ _ _)
      | (with_reducible exact LeO.refl _)
      | (with_reducible exact LeO.none _)
      | (with_reducible refine LeO.ite ?_ ?_)
      | (with_reducible refine LeO.bind ?_ (fun _ => ?_))
      | exact ih0 _ _ _ _
      | exact LeO.none _
      | refine LeO.ite ?_ ?_
      | refine LeO.bind ?_ (fun _ => ?_)
theorem num_least.mono : ∀ a0 a1 k, LeO (num_least.f k a0 a1) (num_least.f (k + 1) a0 a1) := by
  intro a0 a1 k
  have ih0 := num_least.mono_l k
  unfold num_least.f
  repeat' first
      | (with_reducible exact ih0 _ _ _ _)
      | (with_reducible exact LeO.refl _)
      | (with_reducible exact LeO.none _)
      | (with_reducible refine LeO.ite ?_ ?_)
      | (with_reducible refine LeO.bind ?_ (fun _ => ?_))
      | exact ih0 _ _ _ _
      | exact LeO.none _
      | refine LeO.ite ?_ ?_
      | refine LeO.bind ?_ (fun _ => ?_)
set_option maxHeartbeats 8000000 in
set_option maxRecDepth 100000 in
theorem num_least.calls (k : Nat) (a0 : Int) (A1 : Option Addr) (c1 : Nat) (l1 : List Int) (r : Int) (w : World) (hr1 : Kd.C (Kd.int .i64) w A1 l1.length l1) (hc1 : l1.length ≤ c1) (h : num_least.f k a0 l1 = some r) :
    Calls Try.prog 81 #[.int .i64 a0, .slice A1 l1.length c1] w fun e w' => e = .returned (.int .i64 r) ∧ Below w.heap.size w w' := by
  have HR1 := Aside0.mk hr1
  have HC1 := Aside0.mk hc1
  clear hr1 hc1
  have HB := Aside0.mk (Below.refl w.heap.size w)
  have H : (num_least.l0 k a0 l1 (l1.length : Int) 0) = some r := h
  clear h
  have H' := Aside0.mk H
  clear H
  go_enter Try.func81, Try.ntmps81
  go_wp2
  go_loopg [0, 9] k (fun kq v0 v9 w' => ∃ (x0_1 : Int) (x9_1 : Int), v0 = .int .i64 x0_1 ∧ v9 = .int .i64 x9_1 ∧ Aside0 (num_least.l0 kq x0_1 l1 (l1.length : Int) x9_1 = some r) ∧ Aside0 (kq ≤ k) ∧ Aside0 (Below w.heap.size w w'))
  case atStart => exact ⟨(a0), (0), (by first | rfl | (simp; done) | (simp [*]; done)), (by first | rfl | (simp; done) | (simp [*]; done)), H', ⟨Nat.le_refl _⟩, ⟨by repeat (first | (with_reducible first | exact HB.out | apply below_alloc | apply pw_below_drewN | apply below_drew1) | exact HB.out)⟩⟩
  case round =>
    clear H'
    try clear c1
    try clear p2
    obtain ⟨x0_1, x9_1, rfl, rfl, HA, HK1, HB⟩ := hrel
    cases gk with
    | zero => exact absurd HA.out (by simp [num_least.l0])
    | succ k1 =>
      have H := HA.out
      clear HA
      simp only [num_least.l0] at H
      by_cases c3 : x9_1 < (l1.length : Int)
      · rw [if_pos c3] at H
        have c3b0 : decide (x9_1 < (l1.length : Int)) = true := decide_eq_true c3
        clear c3
        by_cases c4 : 0 ≤ x9_1
        · rw [if_pos c4] at H
          have c4b0 : decide (0 ≤ x9_1) = true := decide_eq_true c4
          clear c4
          by_cases c5 : x9_1 < (l1.length : Int)
          · rw [if_pos c5] at H
            have c5b0 : decide (x9_1 < (l1.length : Int)) = true := decide_eq_true c5
            clear c5
            obtain ⟨ji6, hji6⟩ : ∃ j_ : Int, (mn x0_1 (rd l1 x9_1)) = j_ := ⟨_, rfl⟩
            replace H : (num_least.l0 k1 ji6 l1 (l1.length : Int) (wrap64 (x9_1 + 1))) = some r := by first | (rw [hji6] at H; exact H) | (simp only [hji6] at H ⊢; exact H)
            have hji6_ : (if (rd l1 x9_1) < x0_1 then (rd l1 x9_1) else x0_1) = ji6 := hji6
            have H' := Aside0.mk H
            clear H
            have p105 : 0 ≤ (x9_1 : Int) := of_decide_eq_true (by first | (with_reducible assumption) | assumption)
            have q105 : x9_1 < (l1.length : Int) := of_decide_eq_true (by first | (with_reducible assumption) | assumption)
            obtain ⟨ad105, e105, hx105_0⟩ := Kd.at_int HR1.out x9_1 p105 q105
            cases e105
            replace hx105_0 := (HB.out.cell (World.block_lt_of_cell? w _ hx105_0)).trans hx105_0
            replace p105 := eq_true p105
            replace q105 := eq_true q105
            go_wp2
            go_roundg k1
            case measure => have := HK1.out; omega
            case rel => exact ⟨(ji6), (wrap64 (x9_1 + 1)), (by first | rfl | (simp; done) | (simp only [← hji6] <;> (first | rfl | simp)) | (simp [*]; done)), (by first | rfl | (simp; done) | (simp [*]; done)), H', ⟨by have := HK1.out; omega⟩, ⟨by repeat (first | (with_reducible first | exact HB.out | apply below_alloc | apply pw_below_drewN | apply below_drew1) | exact HB.out)⟩⟩
          · rw [if_neg c5] at H
            exact absurd H (by simp)
        · rw [if_neg c4] at H
          exact absurd H (by simp)
      · rw [if_neg c3] at H
        have c3b0 : decide (x9_1 < (l1.length : Int)) = false := decide_eq_false c3
        clear c3
        obtain rfl := Option.some.inj H
        go_wp2
        go_ret
        exact ⟨by first | rfl | (simp [errW_none, errW_some] <;> rfl) | (simp [*, errW_none, errW_some] <;> rfl), by repeat (first | (with_reducible first | exact HB.out | apply below_alloc | apply pw_below_drewN | apply below_drew1) | exact HB.out)⟩

/-! ### num_Hold: function 33 -/
def num_Hold.f (k : Nat) (a0 : Int) (a1 : Int) (a2 : Int) : Option (Int) := if a0 < a1 then (some a1) else ((num_least.f k a0 (([a2] : List Int))).bind fun t109 => (some t109))
theorem num_Hold.mono : ∀ a0 a1 a2 k, LeO (num_Hold.f k a0 a1 a2) (num_Hold.f (k + 1) a0 a1 a2) := by
  intro a0 a1 a2 k
  unfold num_Hold.f
  repeat' first
      | (with_reducible exact num_least.mono _ _ _)
      | (with_reducible exact LeO.refl _)
      | (with_reducible exact LeO.none _)
      | (with_reducible refine LeO.ite ?_ ?_)
      | (with_reducible refine LeO.bind ?_ (fun _ => ?_))
      | exact num_least.mono _ _ _
      | exact LeO.none _
      | refine LeO.ite ?_ ?_
      | refine LeO.bind ?_ (fun _ => ?_)
set_option maxHeartbeats 8000000 in
set_option maxRecDepth 100000 in
theorem num_Hold.calls (k : Nat) (a0 : Int) (a1 : Int) (a2 : Int) (r : Int) (w : World) (h : num_Hold.f k a0 a1 a2 = some r) :
    Calls Try.prog 33 #[.int .i64 a0, .int .i64 a1, .int .i64 a2] w fun e w' => e = .returned (.int .i64 r) ∧ Below w.heap.size w w' := by
  have HB := Aside0.mk (Below.refl w.heap.size w)
  have H : (if a0 < a1 then (some a1) else ((num_least.f k a0 (([a2] : List Int))).bind fun t109 => (some t109))) = some r := h
  clear h
  by_cases c4 : a0 < a1
  · rw [if_pos c4] at H
    have c4b0 : decide (a0 < a1) = true := decide_eq_true c4
    clear c4
    obtain rfl := Option.some.inj H
    go_enter Try.func33, Try.ntmps33
    go_wp2
    go_ret
    exact ⟨by first | rfl | (simp [errW_none, errW_some] <;> rfl) | (simp [*, errW_none, errW_some] <;> rfl), by repeat (first | (with_reducible first | exact HB.out | apply below_alloc | apply pw_below_drewN | apply below_drew1) | exact HB.out)⟩
  · rw [if_neg c4] at H
    have c4b0 : decide (a0 < a1) = false := decide_eq_false c4
    clear c4
    obtain ⟨y106, hy106⟩ : ∃ y_ : List Int, y_ = (([a2] : List Int)) := ⟨_, rfl⟩
    replace H : ((num_least.f k a0 y106).bind fun t109 => (some t109)) = some r := by first | (rw [hy106]; with_reducible exact H) | (have H2_ := (Option.bind_some _ _).symm.trans H; rw [hy106]; with_reducible exact H2_) | (have H2_ := (Option.bind_some _ _).symm.trans H; with_reducible exact H2_) | with_reducible exact H | (rw [hy106]; exact H) | exact H
    have Ny106 := Aside0.mk hy106
    clear hy106
    replace H := Option.bind_eq_some_iff.mp H
    obtain ⟨t109, A50, H⟩ := H
    replace H : (some t109) = some r := H
    have A5 := Aside0.mk A50
    clear A50
    obtain rfl := Option.some.inj H
    go_enter Try.func33, Try.ntmps33
    go_wp2_with (first | ((with_reducible refine gate_dst (N := 13) rfl ?_); refine Kd.R_lit (Kd.int .i64) _ 3 ?hg (N := 13) ?hd (xs := ([a2] : List Int)) (inner := [.int .i64 a2]) (ok := fun _ => True) (okp := fun _ => True) ?hr ?hp (fun _ hk => hk) trivial (Below.refl _ _) (Nat.le_refl _) (by simp) ?_; (case hd => rfl); (case hg => rfl); (case hr => first | (go_simp; done) | (go_simp; rfl)); (case hp => exact (Reps.one (show Kd.M (Kd.int .i64) _ _ _ a2 [.int .i64 a2] from rfl) (Reps.none _ _))); intro v107 w6 ho7 hb hg_ hnew_; clear hg_ hnew_; (first | rw [← Ny106.out] at ho7 | (simp only [Int.reduceToNat] at ho7; rw [← Ny106.out] at ho7)); have n0_ := Aside0.mk (Kd.R_lower ho7 (below_size (by repeat (first | (with_reducible first | exact HB.out | apply below_alloc | apply pw_below_drewN | apply below_drew1) | exact HB.out)))); have n1_ := Aside0.mk (below_step (by repeat (first | (with_reducible first | exact HB.out | apply below_alloc | apply pw_below_drewN | apply below_drew1) | exact HB.out)) hb); clear HB; have HO108 := n0_; have HB := n1_; clear n0_ n1_; clear hb ho7; obtain ⟨Ao8, co8, eo8⟩ := Kd.R_slice HO108.out; subst eo8) | ((with_reducible refine gate_callee (f := 81) rfl ?_); refine goesL_ (some 14) rfl rfl Try.func81 (by kernel_rfl) rfl #[.int .i64 a0, .slice Ao8 y106.length co8] rfl (by (try simp only [List.map_toArray, List.map_cons, List.map_nil]); first | done | rfl | (simp only [List.length_drop, List.length_take]; rfl)) ?_; (with_reducible refine (num_least.calls k a0 _ _ y106 t109 _ ?side1 ?side2 A5.out).mono ?_); (case side1 => repeat (first | exact (Kd.R_reads' HO108.out).2.2 | (with_reducible refine Kd.C_alloc ?_ _) | (with_reducible refine Kd.C_drewN ?_ _) | (with_reducible refine Kd.C_drew ?_))); (case side2 => exact (Kd.R_reads' HO108.out).2.1); rintro e w9 ⟨rfl, hb⟩; refine ⟨_, rfl, ?_⟩; have n0_ := Aside0.mk (Kd.R_below (by (with_reducible repeat (first | apply Kd.R_alloc | apply Kd.R_drewN | apply Kd.R_drew)); exact HO108.out) hb); have n1_ := Aside0.mk (below_step (by repeat (first | (with_reducible first | exact HB.out | apply below_alloc | apply pw_below_drewN | apply below_drew1) | exact HB.out)) hb); clear HO108; clear HB; have HO108 := n0_; have HB := n1_; clear n0_ n1_; (try clear hb); (try clear hb2); (try clear hk); (try clear hi)))
    go_ret
    exact ⟨by first | rfl | (simp [errW_none, errW_some] <;> rfl) | (simp [*, errW_none, errW_some] <;> rfl), by repeat (first | (with_reducible first | exact HB.out | apply below_alloc | apply pw_below_drewN | apply below_drew1) | exact HB.out)⟩

end Go.Proofs.Ytgpgekjhpkakbaa.PPlanTells
