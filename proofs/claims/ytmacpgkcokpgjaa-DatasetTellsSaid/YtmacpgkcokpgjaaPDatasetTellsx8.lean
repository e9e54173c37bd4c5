/- The Go functions that the law reaches, as plain Lean functions, and proofs that the calls of the machine come to them, or the row of the law over them, for every input that the row speaks of; written by a program of this session (wip/tool/mkprint.py) out of the translation and of hand-made templates. -/
import Derived.Test.YtmacpgkcokpgjaaPDatasetTellsx0
import Derived.Test.YtmacpgkcokpgjaaPDatasetTellsx1
import Derived.Test.YtmacpgkcokpgjaaPDatasetTellsx2
import Derived.Test.YtmacpgkcokpgjaaPDatasetTellsx3
import Derived.Test.YtmacpgkcokpgjaaPDatasetTellsx4
import Derived.Test.YtmacpgkcokpgjaaPDatasetTellsx6
import Derived.Test.YtmacpgkcokpgjaaPDatasetTellsx7
namespace Go.Proofs.Ytmacpgkcokpgjaa.PDatasetTells
open Go.RowKit Go.Proofs.YtmacpgkcokpgjaaW.PrintWords Go.Proofs.YtmacpgkcokpgjaaW.PrintLast Go.Proofs.YtmacpgkcokpgjaaW.PrintMore
attribute [local go_sem] max2_int min2_int max_two min_two max_three min_three max_four min_four   -- for this text's walks alone
set_option linter.unusedVariables false
set_option linter.unusedSimpArgs false

/-! ### chainmanlaw10_DatasetTells: function 9 -/
def chainmanlaw10_DatasetTells.j0 : Nat → List (List Int) → ByteArray → Int → Int → Bool → Option (Bool)
  | 0, _, _, _, _, _ => none
  | k + 1, x0, x1, x2, x3, x41 => if x41 = true then ((chainmanlaw10_awake.f k).bind fun t204 => (some t204)) else ((dataset_Lay.f x0).bind fun bt205 => ((chainmanref10_Lay.f k x0).bind fun bt207 => ((dataset_Parse.f k x1).bind fun bt209 => ((chainmanref10_Parse.f k x1).bind fun bt213 => ((dataset_Shape.f k x1 x2).bind fun bt217 => ((chainmanref10_Shape.f k x1 x2).bind fun bt220 => (if 0 ≤ (mn 10 (x1.size : Int)) then (if (mn 10 (x1.size : Int)) ≤ (x1.size : Int) then ((dataset_Shape.f k (x1.extract 0 ((mn 10 (x1.size : Int)) : Int).toNat) (x1.size : Int)).bind fun bt223 => ((chainmanref10_Shape.f k (x1.extract 0 ((mn 10 (x1.size : Int)) : Int).toNat) (x1.size : Int)).bind fun bt226 => ((dataset_Vector.f k x1 x3).bind fun bt229 => ((chainmanref10_Vector.f k x1 x3).bind fun bt233 => (if bt205.1.toList = bt207.1.toList then (if (bt205.2 == bt207.2) = true then ((chainmanref10_Same.f k bt209.1 bt213.1).bind fun t237 => (if t237 = true then (if bt209.2 = bt213.2 then (if bt217.1 = bt220.1 then (if bt217.2.1 = bt220.2.1 then (if bt217.2.2 = bt220.2.2 then (if bt223.1 = bt226.1 then (if bt223.2.1 = bt226.2.1 then (if bt223.2.2 = bt226.2.2 then ((chainmanref10_SameList.f k bt229.1 bt233.1).bind fun t238 => (if t238 = true then (if (bt229.2 == bt233.2) = true then ((dataset_Place.f x3 x2).bind fun t239 => ((chainmanref10_Place.f x3 x2).bind fun t240 => (if t239 = t240 then ((dataset_Valid.f k x1).bind fun t241 => (if (t241 == (bt213.2 == 0)) = true then ((chainmanlaw10_awake.f k).bind fun t242 => (some t242)) else (none))) else (none)))) else (none)) else (none))) else (none)) else (none)) else (none)) else (none)) else (none)) else (none)) else (none)) else (none))) else (none)) else (none)))))) else (none)) else (none))))))))
def chainmanlaw10_DatasetTells.f (k : Nat) (l0 : List (List Int)) (a1 : ByteArray) (a2 : Int) (a3 : Int) : Option (Bool) := (chainmanref10_Few.f k l0 20 20).bind fun t203 => (if t203 = true then (chainmanlaw10_DatasetTells.j0 k l0 a1 a2 a3 (decide ((a1.size : Int) > 700))) else (chainmanlaw10_DatasetTells.j0 k l0 a1 a2 a3 true))
theorem chainmanlaw10_DatasetTells.mono_l : ∀ k, (∀ y0 y1 y2 y3 y4, LeO (chainmanlaw10_DatasetTells.j0 k y0 y1 y2 y3 y4) (chainmanlaw10_DatasetTells.j0 (k + 1) y0 y1 y2 y3 y4))
  | 0 => fun _ _ _ _ _ r h => by simp [chainmanlaw10_DatasetTells.j0] at h
  | k + 1 => by
    have ih0 := chainmanlaw10_DatasetTells.mono_l k
    · intro y0 y1 y2 y3 y4
      unfold chainmanlaw10_DatasetTells.j0
      repeat' first
      | (with_reducible exact ih0 _ _ _ _ _)
      | (with_reducible exact chainmanlaw10_awake.mono _)
      | (with_reducible exact chainmanref10_Few.mono _ _ _ _)
      | (with_reducible exact chainmanref10_Lay.mono _ _)
      | (with_reducible exact chainmanref10_Parse.mono _ _)
      | (with_reducible exact chainmanref10_Same.mono _ _ _)
      | (with_reducible exact chainmanref10_SameList.mono _ _ _)
      | (with_reducible exact chainmanref10_Shape.mono _ _ _)
      | (with_reducible exact chainmanref10_Vector.mono _ _ _)
      | (with_reducible exact dataset_Parse.mono _ _)
      | (with_reducible exact dataset_Shape.mono _ _ _)
      | (with_reducible exact dataset_Valid.mono _ _)
      | (with_reducible exact dataset_Vector.mono _ _ _)
      | (with_reducible exact LeO.refl _)
      | (with_reducible exact LeO.none _)
      | (with_reducible refine LeO.ite ?_ ?_)
      | (with_reducible refine LeO.bind ?_ (fun _ => ?_))
      | exact ih0 _ _ _ _ _
      | exact chainmanlaw10_awake.mono _
      | exact chainmanref10_Few.mono _ _ _ _
      | exact chainmanref10_Lay.mono _ _
      | exact chainmanref10_Parse.mono _ _
      | exact chainmanref10_Same.mono _ _ _
      | exact chainmanref10_SameList.mono _ _ _
      | exact chainmanref10_Shape.mono _ _ _
      | exact chainmanref10_Vector.mono _ _ _
      | exact dataset_Parse.mono _ _
      | exact dataset_Shape.mono _ _ _
      | exact dataset_Valid.mono _ _
      | exact dataset_Vector.mono _ _ _
      | exact LeO.none _
      | refine LeO.ite ?_ ?_
      | refine LeO.bind ?_ (fun _ => ?_)
theorem chainmanlaw10_DatasetTells.mono : ∀ a0 a1 a2 a3 k, LeO (chainmanlaw10_DatasetTells.f k a0 a1 a2 a3) (chainmanlaw10_DatasetTells.f (k + 1) a0 a1 a2 a3) := by
  intro a0 a1 a2 a3 k
  have ih0 := chainmanlaw10_DatasetTells.mono_l k
  unfold chainmanlaw10_DatasetTells.f
  repeat' first
      | (with_reducible exact ih0 _ _ _ _ _)
      | (with_reducible exact chainmanlaw10_awake.mono _)
      | (with_reducible exact chainmanref10_Few.mono _ _ _ _)
      | (with_reducible exact chainmanref10_Lay.mono _ _)
      | (with_reducible exact chainmanref10_Parse.mono _ _)
      | (with_reducible exact chainmanref10_Same.mono _ _ _)
      | (with_reducible exact chainmanref10_SameList.mono _ _ _)
      | (with_reducible exact chainmanref10_Shape.mono _ _ _)
      | (with_reducible exact chainmanref10_Vector.mono _ _ _)
      | (with_reducible exact dataset_Parse.mono _ _)
      | (with_reducible exact dataset_Shape.mono _ _ _)
      | (with_reducible exact dataset_Valid.mono _ _)
      | (with_reducible exact dataset_Vector.mono _ _ _)
      | (with_reducible exact LeO.refl _)
      | (with_reducible exact LeO.none _)
      | (with_reducible refine LeO.ite ?_ ?_)
      | (with_reducible refine LeO.bind ?_ (fun _ => ?_))
      | exact ih0 _ _ _ _ _
      | exact chainmanlaw10_awake.mono _
      | exact chainmanref10_Few.mono _ _ _ _
      | exact chainmanref10_Lay.mono _ _
      | exact chainmanref10_Parse.mono _ _
      | exact chainmanref10_Same.mono _ _ _
      | exact chainmanref10_SameList.mono _ _ _
      | exact chainmanref10_Shape.mono _ _ _
      | exact chainmanref10_Vector.mono _ _ _
      | exact dataset_Parse.mono _ _
      | exact dataset_Shape.mono _ _ _
      | exact dataset_Valid.mono _ _
      | exact dataset_Vector.mono _ _ _
      | exact LeO.none _
      | refine LeO.ite ?_ ?_
      | refine LeO.bind ?_ (fun _ => ?_)
set_option maxHeartbeats 8000000 in
set_option maxRecDepth 100000 in
theorem chainmanlaw10_DatasetTells.calls (k : Nat) (A0 : Option Addr) (c0 : Nat) (l0 : List (List Int)) (a1 : ByteArray) (a2 : Int) (a3 : Int) (r : Bool) (w : World) (hr0 : Kd.C (Kd.slice 3 (Kd.int .i64)) w A0 l0.length l0) (hc0 : l0.length ≤ c0) (h : chainmanlaw10_DatasetTells.f k l0 a1 a2 a3 = some r) :
    Calls Try.prog 9 #[.slice A0 l0.length c0, .string a1, .int .i64 a2, .int .i64 a3] w fun e w' => e = .returned (.bool r) ∧ Below w.heap.size w w' := by
  have HR0 := Aside0.mk hr0
  have HC0 := Aside0.mk hc0
  clear hr0 hc0
  have HB := Aside0.mk (Below.refl w.heap.size w)
  have H : ((chainmanref10_Few.f k l0 20 20).bind fun t203 => (if t203 = true then (chainmanlaw10_DatasetTells.j0 k l0 a1 a2 a3 (decide ((a1.size : Int) > 700))) else (chainmanlaw10_DatasetTells.j0 k l0 a1 a2 a3 true))) = some r := h
  clear h
  have HC5 := Aside0.mk H
  clear H
  go_enter Try.func9, Try.ntmps9
  go_upto_region 1 with (fail)
  go_cut [41] (fun v41 wc => ∃ (kq : Nat) (x41_4 : Bool), v41 = .bool x41_4 ∧ Aside0 (chainmanlaw10_DatasetTells.j0 kq l0 a1 a2 a3 x41_4 = some r) ∧ Aside0 (kq ≤ k) ∧ Aside0 (Below w.heap.size w wc))
  case first =>
    have H := HC5.out
    clear HC5
    replace H := Option.bind_eq_some_iff.mp H
    obtain ⟨t203, A60, H⟩ := H
    replace H : (if t203 = true then (chainmanlaw10_DatasetTells.j0 k l0 a1 a2 a3 (decide ((a1.size : Int) > 700))) else (chainmanlaw10_DatasetTells.j0 k l0 a1 a2 a3 true)) = some r := H
    have A6 := Aside0.mk A60
    clear A60
    by_cases c7 : t203 = true
    · subst c7
      have H1 : (chainmanlaw10_DatasetTells.j0 k l0 a1 a2 a3 (decide ((a1.size : Int) > 700))) = some r := by rw [if_pos rfl] at H; exact H
      clear H
      have H := H1
      clear H1
      have H' := Aside0.mk H
      clear H
      go_wp2_with (first | ((with_reducible refine gate_callee (f := 44) rfl ?_); refine goesL_ (some 35) rfl rfl Try.func44 (by kernel_rfl) rfl #[.slice A0 l0.length c0, .int .i64 20, .int .i64 20] rfl (by (try simp only [List.map_toArray, List.map_cons, List.map_nil]); first | done | rfl | (simp only [List.length_drop, List.length_take]; rfl)) ?_; (with_reducible refine (chainmanref10_Few.calls k _ _ l0 20 20 true _ ?side1 ?side2 A6.out).mono ?_); (case side1 => repeat (first | exact (Kd.C_below HR0.out HB.out) | (with_reducible refine Kd.C_alloc ?_ _) | (with_reducible refine Kd.C_drewN ?_ _) | (with_reducible refine Kd.C_drew ?_))); (case side2 => exact HC0.out); rintro e w' ⟨rfl, ⟨nd, rfl⟩⟩; refine ⟨_, rfl, ?_⟩) | (go_at_call 44; refine calls_of_args (args' := #[.slice A0 l0.length c0, .int .i64 20, .int .i64 20]) (by first | rfl) ?_; (with_reducible refine (chainmanref10_Few.calls k _ _ l0 20 20 true _ ?side1 ?side2 A6.out).mono ?_); (case side1 => repeat (first | exact (Kd.C_below HR0.out HB.out) | (with_reducible refine Kd.C_alloc ?_ _) | (with_reducible refine Kd.C_drewN ?_ _) | (with_reducible refine Kd.C_drew ?_))); (case side2 => exact HC0.out); rintro e w' ⟨rfl, ⟨nd, rfl⟩⟩))
      go_meet
      case rel => exact ⟨_, (decide ((a1.size : Int) > 700)), (by first | rfl | (simp; done) | (simp [*]; done)), H', ⟨by first | omega | exact Nat.le_refl _⟩, ⟨by repeat (first | (with_reducible first | exact HB.out | apply below_alloc | apply pw_below_drewN | apply below_drew1) | exact HB.out)⟩⟩
    · replace c7 := Bool.eq_false_iff.mpr c7
      subst c7
      have H1 : (chainmanlaw10_DatasetTells.j0 k l0 a1 a2 a3 true) = some r := by rw [if_neg (show ¬ (false = true) by decide)] at H; exact H
      clear H
      have H := H1
      clear H1
      have H' := Aside0.mk H
      clear H
      go_wp2_with (first | ((with_reducible refine gate_callee (f := 44) rfl ?_); refine goesL_ (some 35) rfl rfl Try.func44 (by kernel_rfl) rfl #[.slice A0 l0.length c0, .int .i64 20, .int .i64 20] rfl (by (try simp only [List.map_toArray, List.map_cons, List.map_nil]); first | done | rfl | (simp only [List.length_drop, List.length_take]; rfl)) ?_; (with_reducible refine (chainmanref10_Few.calls k _ _ l0 20 20 false _ ?side1 ?side2 A6.out).mono ?_); (case side1 => repeat (first | exact (Kd.C_below HR0.out HB.out) | (with_reducible refine Kd.C_alloc ?_ _) | (with_reducible refine Kd.C_drewN ?_ _) | (with_reducible refine Kd.C_drew ?_))); (case side2 => exact HC0.out); rintro e w' ⟨rfl, ⟨nd, rfl⟩⟩; refine ⟨_, rfl, ?_⟩) | (go_at_call 44; refine calls_of_args (args' := #[.slice A0 l0.length c0, .int .i64 20, .int .i64 20]) (by first | rfl) ?_; (with_reducible refine (chainmanref10_Few.calls k _ _ l0 20 20 false _ ?side1 ?side2 A6.out).mono ?_); (case side1 => repeat (first | exact (Kd.C_below HR0.out HB.out) | (with_reducible refine Kd.C_alloc ?_ _) | (with_reducible refine Kd.C_drewN ?_ _) | (with_reducible refine Kd.C_drew ?_))); (case side2 => exact HC0.out); rintro e w' ⟨rfl, ⟨nd, rfl⟩⟩))
      go_meet
      case rel => exact ⟨_, (true), (by first | rfl | (simp; done) | (simp [*]; done)), H', ⟨by first | omega | exact Nat.le_refl _⟩, ⟨by repeat (first | (with_reducible first | exact HB.out | apply below_alloc | apply pw_below_drewN | apply below_drew1) | exact HB.out)⟩⟩
  case rest =>
    clear HC5
    try clear p2
    try clear c4
    try clear c7
    obtain ⟨kq, x41_4, rfl, HA, HJ4, HB⟩ := hcut
    cases kq with
    | zero => exact absurd HA.out (by simp [chainmanlaw10_DatasetTells.j0])
    | succ kj4 =>
      have H := HA.out
      clear HA
      simp only [chainmanlaw10_DatasetTells.j0] at H
      by_cases c8 : x41_4 = true
      · subst c8
        have H1 : ((chainmanlaw10_awake.f kj4).bind fun t204 => (some t204)) = some r := by rw [if_pos rfl] at H; exact H
        clear H
        have H := H1
        clear H1
        replace H := Option.bind_eq_some_iff.mp H
        obtain ⟨t204, A90, H⟩ := H
        replace H : (some t204) = some r := H
        have A9 := Aside0.mk A90
        clear A90
        obtain rfl := Option.some.inj H
        go_wp2_with (first | ((with_reducible refine gate_callee (f := 45) rfl ?_); refine goesL_ (some 42) rfl rfl Try.func45 (by kernel_rfl) rfl #[] rfl (by (try simp only [List.map_toArray, List.map_cons, List.map_nil]); first | done | rfl | (simp only [List.length_drop, List.length_take]; rfl)) ?_; (with_reducible refine (chainmanlaw10_awake.calls kj4  t204 _ A9.out).mono ?_); rintro e w10 ⟨rfl, hb⟩; refine ⟨_, rfl, ?_⟩; have n0_ := Aside0.mk (below_step (by repeat (first | (with_reducible first | exact HB.out | apply below_alloc | apply pw_below_drewN | apply below_drew1) | exact HB.out)) hb); clear HB; have HB := n0_; clear n0_; (try clear hb); (try clear hb2); (try clear hk); (try clear hi)))
        go_ret
        exact ⟨by first | rfl | (simp [errW_none, errW_some] <;> rfl) | (simp [*, errW_none, errW_some] <;> rfl), by repeat (first | (with_reducible first | exact HB.out | apply below_alloc | apply pw_below_drewN | apply below_drew1) | exact HB.out)⟩
      · replace c8 := Bool.eq_false_iff.mpr c8
        subst c8
        have H1 : ((dataset_Lay.f l0).bind fun bt205 => ((chainmanref10_Lay.f kj4 l0).bind fun bt207 => ((dataset_Parse.f kj4 a1).bind fun bt209 => ((chainmanref10_Parse.f kj4 a1).bind fun bt213 => ((dataset_Shape.f kj4 a1 a2).bind fun bt217 => ((chainmanref10_Shape.f kj4 a1 a2).bind fun bt220 => (if 0 ≤ (mn 10 (a1.size : Int)) then (if (mn 10 (a1.size : Int)) ≤ (a1.size : Int) then ((dataset_Shape.f kj4 (a1.extract 0 ((mn 10 (a1.size : Int)) : Int).toNat) (a1.size : Int)).bind fun bt223 => ((chainmanref10_Shape.f kj4 (a1.extract 0 ((mn 10 (a1.size : Int)) : Int).toNat) (a1.size : Int)).bind fun bt226 => ((dataset_Vector.f kj4 a1 a3).bind fun bt229 => ((chainmanref10_Vector.f kj4 a1 a3).bind fun bt233 => (if bt205.1.toList = bt207.1.toList then (if (bt205.2 == bt207.2) = true then ((chainmanref10_Same.f kj4 bt209.1 bt213.1).bind fun t237 => (if t237 = true then (if bt209.2 = bt213.2 then (if bt217.1 = bt220.1 then (if bt217.2.1 = bt220.2.1 then (if bt217.2.2 = bt220.2.2 then (if bt223.1 = bt226.1 then (if bt223.2.1 = bt226.2.1 then (if bt223.2.2 = bt226.2.2 then ((chainmanref10_SameList.f kj4 bt229.1 bt233.1).bind fun t238 => (if t238 = true then (if (bt229.2 == bt233.2) = true then ((dataset_Place.f a3 a2).bind fun t239 => ((chainmanref10_Place.f a3 a2).bind fun t240 => (if t239 = t240 then ((dataset_Valid.f kj4 a1).bind fun t241 => (if (t241 == (bt213.2 == 0)) = true then ((chainmanlaw10_awake.f kj4).bind fun t242 => (some t242)) else (none))) else (none)))) else (none)) else (none))) else (none)) else (none)) else (none)) else (none)) else (none)) else (none)) else (none)) else (none))) else (none)) else (none)))))) else (none)) else (none)))))))) = some r := by rw [if_neg (show ¬ (false = true) by decide)] at H; exact H
        clear H
        have H := H1
        clear H1
        replace H := Option.bind_eq_some_iff.mp H
        obtain ⟨⟨t205, t206⟩, A110, H⟩ := H
        replace H : ((chainmanref10_Lay.f kj4 l0).bind fun bt207 => ((dataset_Parse.f kj4 a1).bind fun bt209 => ((chainmanref10_Parse.f kj4 a1).bind fun bt213 => ((dataset_Shape.f kj4 a1 a2).bind fun bt217 => ((chainmanref10_Shape.f kj4 a1 a2).bind fun bt220 => (if 0 ≤ (mn 10 (a1.size : Int)) then (if (mn 10 (a1.size : Int)) ≤ (a1.size : Int) then ((dataset_Shape.f kj4 (a1.extract 0 ((mn 10 (a1.size : Int)) : Int).toNat) (a1.size : Int)).bind fun bt223 => ((chainmanref10_Shape.f kj4 (a1.extract 0 ((mn 10 (a1.size : Int)) : Int).toNat) (a1.size : Int)).bind fun bt226 => ((dataset_Vector.f kj4 a1 a3).bind fun bt229 => ((chainmanref10_Vector.f kj4 a1 a3).bind fun bt233 => (if t205.toList = bt207.1.toList then (if (t206 == bt207.2) = true then ((chainmanref10_Same.f kj4 bt209.1 bt213.1).bind fun t237 => (if t237 = true then (if bt209.2 = bt213.2 then (if bt217.1 = bt220.1 then (if bt217.2.1 = bt220.2.1 then (if bt217.2.2 = bt220.2.2 then (if bt223.1 = bt226.1 then (if bt223.2.1 = bt226.2.1 then (if bt223.2.2 = bt226.2.2 then ((chainmanref10_SameList.f kj4 bt229.1 bt233.1).bind fun t238 => (if t238 = true then (if (bt229.2 == bt233.2) = true then ((dataset_Place.f a3 a2).bind fun t239 => ((chainmanref10_Place.f a3 a2).bind fun t240 => (if t239 = t240 then ((dataset_Valid.f kj4 a1).bind fun t241 => (if (t241 == (bt213.2 == 0)) = true then ((chainmanlaw10_awake.f kj4).bind fun t242 => (some t242)) else (none))) else (none)))) else (none)) else (none))) else (none)) else (none)) else (none)) else (none)) else (none)) else (none)) else (none)) else (none))) else (none)) else (none)))))) else (none)) else (none))))))) = some r := H
        have A11 := Aside0.mk A110
        clear A110
        replace H := Option.bind_eq_some_iff.mp H
        obtain ⟨⟨t207, t208⟩, A120, H⟩ := H
        replace H : ((dataset_Parse.f kj4 a1).bind fun bt209 => ((chainmanref10_Parse.f kj4 a1).bind fun bt213 => ((dataset_Shape.f kj4 a1 a2).bind fun bt217 => ((chainmanref10_Shape.f kj4 a1 a2).bind fun bt220 => (if 0 ≤ (mn 10 (a1.size : Int)) then (if (mn 10 (a1.size : Int)) ≤ (a1.size : Int) then ((dataset_Shape.f kj4 (a1.extract 0 ((mn 10 (a1.size : Int)) : Int).toNat) (a1.size : Int)).bind fun bt223 => ((chainmanref10_Shape.f kj4 (a1.extract 0 ((mn 10 (a1.size : Int)) : Int).toNat) (a1.size : Int)).bind fun bt226 => ((dataset_Vector.f kj4 a1 a3).bind fun bt229 => ((chainmanref10_Vector.f kj4 a1 a3).bind fun bt233 => (if t205.toList = t207.toList then (if (t206 == t208) = true then ((chainmanref10_Same.f kj4 bt209.1 bt213.1).bind fun t237 => (if t237 = true then (if bt209.2 = bt213.2 then (if bt217.1 = bt220.1 then (if bt217.2.1 = bt220.2.1 then (if bt217.2.2 = bt220.2.2 then (if bt223.1 = bt226.1 then (if bt223.2.1 = bt226.2.1 then (if bt223.2.2 = bt226.2.2 then ((chainmanref10_SameList.f kj4 bt229.1 bt233.1).bind fun t238 => (if t238 = true then (if (bt229.2 == bt233.2) = true then ((dataset_Place.f a3 a2).bind fun t239 => ((chainmanref10_Place.f a3 a2).bind fun t240 => (if t239 = t240 then ((dataset_Valid.f kj4 a1).bind fun t241 => (if (t241 == (bt213.2 == 0)) = true then ((chainmanlaw10_awake.f kj4).bind fun t242 => (some t242)) else (none))) else (none)))) else (none)) else (none))) else (none)) else (none)) else (none)) else (none)) else (none)) else (none)) else (none)) else (none))) else (none)) else (none)))))) else (none)) else (none)))))) = some r := H
        have A12 := Aside0.mk A120
        clear A120
        replace H := Option.bind_eq_some_iff.mp H
        obtain ⟨⟨t209, t210⟩, A130, H⟩ := H
        replace H : ((chainmanref10_Parse.f kj4 a1).bind fun bt213 => ((dataset_Shape.f kj4 a1 a2).bind fun bt217 => ((chainmanref10_Shape.f kj4 a1 a2).bind fun bt220 => (if 0 ≤ (mn 10 (a1.size : Int)) then (if (mn 10 (a1.size : Int)) ≤ (a1.size : Int) then ((dataset_Shape.f kj4 (a1.extract 0 ((mn 10 (a1.size : Int)) : Int).toNat) (a1.size : Int)).bind fun bt223 => ((chainmanref10_Shape.f kj4 (a1.extract 0 ((mn 10 (a1.size : Int)) : Int).toNat) (a1.size : Int)).bind fun bt226 => ((dataset_Vector.f kj4 a1 a3).bind fun bt229 => ((chainmanref10_Vector.f kj4 a1 a3).bind fun bt233 => (if t205.toList = t207.toList then (if (t206 == t208) = true then ((chainmanref10_Same.f kj4 t209 bt213.1).bind fun t237 => (if t237 = true then (if t210 = bt213.2 then (if bt217.1 = bt220.1 then (if bt217.2.1 = bt220.2.1 then (if bt217.2.2 = bt220.2.2 then (if bt223.1 = bt226.1 then (if bt223.2.1 = bt226.2.1 then (if bt223.2.2 = bt226.2.2 then ((chainmanref10_SameList.f kj4 bt229.1 bt233.1).bind fun t238 => (if t238 = true then (if (bt229.2 == bt233.2) = true then ((dataset_Place.f a3 a2).bind fun t239 => ((chainmanref10_Place.f a3 a2).bind fun t240 => (if t239 = t240 then ((dataset_Valid.f kj4 a1).bind fun t241 => (if (t241 == (bt213.2 == 0)) = true then ((chainmanlaw10_awake.f kj4).bind fun t242 => (some t242)) else (none))) else (none)))) else (none)) else (none))) else (none)) else (none)) else (none)) else (none)) else (none)) else (none)) else (none)) else (none))) else (none)) else (none)))))) else (none)) else (none))))) = some r := H
        have A13 := Aside0.mk A130
        clear A130
        replace H := Option.bind_eq_some_iff.mp H
        obtain ⟨⟨t213, t214⟩, A140, H⟩ := H
        replace H : ((dataset_Shape.f kj4 a1 a2).bind fun bt217 => ((chainmanref10_Shape.f kj4 a1 a2).bind fun bt220 => (if 0 ≤ (mn 10 (a1.size : Int)) then (if (mn 10 (a1.size : Int)) ≤ (a1.size : Int) then ((dataset_Shape.f kj4 (a1.extract 0 ((mn 10 (a1.size : Int)) : Int).toNat) (a1.size : Int)).bind fun bt223 => ((chainmanref10_Shape.f kj4 (a1.extract 0 ((mn 10 (a1.size : Int)) : Int).toNat) (a1.size : Int)).bind fun bt226 => ((dataset_Vector.f kj4 a1 a3).bind fun bt229 => ((chainmanref10_Vector.f kj4 a1 a3).bind fun bt233 => (if t205.toList = t207.toList then (if (t206 == t208) = true then ((chainmanref10_Same.f kj4 t209 t213).bind fun t237 => (if t237 = true then (if t210 = t214 then (if bt217.1 = bt220.1 then (if bt217.2.1 = bt220.2.1 then (if bt217.2.2 = bt220.2.2 then (if bt223.1 = bt226.1 then (if bt223.2.1 = bt226.2.1 then (if bt223.2.2 = bt226.2.2 then ((chainmanref10_SameList.f kj4 bt229.1 bt233.1).bind fun t238 => (if t238 = true then (if (bt229.2 == bt233.2) = true then ((dataset_Place.f a3 a2).bind fun t239 => ((chainmanref10_Place.f a3 a2).bind fun t240 => (if t239 = t240 then ((dataset_Valid.f kj4 a1).bind fun t241 => (if (t241 == (t214 == 0)) = true then ((chainmanlaw10_awake.f kj4).bind fun t242 => (some t242)) else (none))) else (none)))) else (none)) else (none))) else (none)) else (none)) else (none)) else (none)) else (none)) else (none)) else (none)) else (none))) else (none)) else (none)))))) else (none)) else (none)))) = some r := H
        have A14 := Aside0.mk A140
        clear A140
        replace H := Option.bind_eq_some_iff.mp H
        obtain ⟨⟨t217, t218, t219⟩, A150, H⟩ := H
        replace H : ((chainmanref10_Shape.f kj4 a1 a2).bind fun bt220 => (if 0 ≤ (mn 10 (a1.size : Int)) then (if (mn 10 (a1.size : Int)) ≤ (a1.size : Int) then ((dataset_Shape.f kj4 (a1.extract 0 ((mn 10 (a1.size : Int)) : Int).toNat) (a1.size : Int)).bind fun bt223 => ((chainmanref10_Shape.f kj4 (a1.extract 0 ((mn 10 (a1.size : Int)) : Int).toNat) (a1.size : Int)).bind fun bt226 => ((dataset_Vector.f kj4 a1 a3).bind fun bt229 => ((chainmanref10_Vector.f kj4 a1 a3).bind fun bt233 => (if t205.toList = t207.toList then (if (t206 == t208) = true then ((chainmanref10_Same.f kj4 t209 t213).bind fun t237 => (if t237 = true then (if t210 = t214 then (if t217 = bt220.1 then (if t218 = bt220.2.1 then (if t219 = bt220.2.2 then (if bt223.1 = bt226.1 then (if bt223.2.1 = bt226.2.1 then (if bt223.2.2 = bt226.2.2 then ((chainmanref10_SameList.f kj4 bt229.1 bt233.1).bind fun t238 => (if t238 = true then (if (bt229.2 == bt233.2) = true then ((dataset_Place.f a3 a2).bind fun t239 => ((chainmanref10_Place.f a3 a2).bind fun t240 => (if t239 = t240 then ((dataset_Valid.f kj4 a1).bind fun t241 => (if (t241 == (t214 == 0)) = true then ((chainmanlaw10_awake.f kj4).bind fun t242 => (some t242)) else (none))) else (none)))) else (none)) else (none))) else (none)) else (none)) else (none)) else (none)) else (none)) else (none)) else (none)) else (none))) else (none)) else (none)))))) else (none)) else (none))) = some r := H
        have A15 := Aside0.mk A150
        clear A150
        replace H := Option.bind_eq_some_iff.mp H
        obtain ⟨⟨t220, t221, t222⟩, A160, H⟩ := H
        replace H : (if 0 ≤ (mn 10 (a1.size : Int)) then (if (mn 10 (a1.size : Int)) ≤ (a1.size : Int) then ((dataset_Shape.f kj4 (a1.extract 0 ((mn 10 (a1.size : Int)) : Int).toNat) (a1.size : Int)).bind fun bt223 => ((chainmanref10_Shape.f kj4 (a1.extract 0 ((mn 10 (a1.size : Int)) : Int).toNat) (a1.size : Int)).bind fun bt226 => ((dataset_Vector.f kj4 a1 a3).bind fun bt229 => ((chainmanref10_Vector.f kj4 a1 a3).bind fun bt233 => (if t205.toList = t207.toList then (if (t206 == t208) = true then ((chainmanref10_Same.f kj4 t209 t213).bind fun t237 => (if t237 = true then (if t210 = t214 then (if t217 = t220 then (if t218 = t221 then (if t219 = t222 then (if bt223.1 = bt226.1 then (if bt223.2.1 = bt226.2.1 then (if bt223.2.2 = bt226.2.2 then ((chainmanref10_SameList.f kj4 bt229.1 bt233.1).bind fun t238 => (if t238 = true then (if (bt229.2 == bt233.2) = true then ((dataset_Place.f a3 a2).bind fun t239 => ((chainmanref10_Place.f a3 a2).bind fun t240 => (if t239 = t240 then ((dataset_Valid.f kj4 a1).bind fun t241 => (if (t241 == (t214 == 0)) = true then ((chainmanlaw10_awake.f kj4).bind fun t242 => (some t242)) else (none))) else (none)))) else (none)) else (none))) else (none)) else (none)) else (none)) else (none)) else (none)) else (none)) else (none)) else (none))) else (none)) else (none)))))) else (none)) else (none)) = some r := H
        have A16 := Aside0.mk A160
        clear A160
        obtain ⟨ji17, hji17⟩ : ∃ j_ : Int, (mn 10 (a1.size : Int)) = j_ := ⟨_, rfl⟩
        replace H : (if 0 ≤ (ji17) then (if (ji17) ≤ (a1.size : Int) then ((dataset_Shape.f kj4 (a1.extract 0 ((ji17) : Int).toNat) (a1.size : Int)).bind fun bt223 => ((chainmanref10_Shape.f kj4 (a1.extract 0 ((ji17) : Int).toNat) (a1.size : Int)).bind fun bt226 => ((dataset_Vector.f kj4 a1 a3).bind fun bt229 => ((chainmanref10_Vector.f kj4 a1 a3).bind fun bt233 => (if t205.toList = t207.toList then (if (t206 == t208) = true then ((chainmanref10_Same.f kj4 t209 t213).bind fun t237 => (if t237 = true then (if t210 = t214 then (if t217 = t220 then (if t218 = t221 then (if t219 = t222 then (if bt223.1 = bt226.1 then (if bt223.2.1 = bt226.2.1 then (if bt223.2.2 = bt226.2.2 then ((chainmanref10_SameList.f kj4 bt229.1 bt233.1).bind fun t238 => (if t238 = true then (if (bt229.2 == bt233.2) = true then ((dataset_Place.f a3 a2).bind fun t239 => ((chainmanref10_Place.f a3 a2).bind fun t240 => (if t239 = t240 then ((dataset_Valid.f kj4 a1).bind fun t241 => (if (t241 == (t214 == 0)) = true then ((chainmanlaw10_awake.f kj4).bind fun t242 => (some t242)) else (none))) else (none)))) else (none)) else (none))) else (none)) else (none)) else (none)) else (none)) else (none)) else (none)) else (none)) else (none))) else (none)) else (none)))))) else (none)) else (none)) = some r := by first | (rw [hji17] at H; exact H) | (simp only [hji17] at H ⊢; exact H)
        (try rw [hji17] at A11)
        (try rw [hji17] at A12)
        (try rw [hji17] at A13)
        (try rw [hji17] at A14)
        (try rw [hji17] at A15)
        (try rw [hji17] at A16)
        have hji17_ : (if (a1.size : Int) < 10 then (a1.size : Int) else 10) = ji17 := hji17
        by_cases c18 : 0 ≤ (ji17)
        · rw [if_pos c18] at H
          have c18b0 := eq_true c18
          have c18b1 : decide (0 ≤ (ji17)) = true := decide_eq_true c18
          clear c18
          by_cases c19 : (ji17) ≤ (a1.size : Int)
          · rw [if_pos c19] at H
            have c19b0 := eq_true c19
            have c19b1 : decide ((ji17) ≤ (a1.size : Int)) = true := decide_eq_true c19
            clear c19
            replace H := Option.bind_eq_some_iff.mp H
            obtain ⟨⟨t223, t224, t225⟩, A200, H⟩ := H
            replace H : ((chainmanref10_Shape.f kj4 (a1.extract 0 ((ji17) : Int).toNat) (a1.size : Int)).bind fun bt226 => ((dataset_Vector.f kj4 a1 a3).bind fun bt229 => ((chainmanref10_Vector.f kj4 a1 a3).bind fun bt233 => (if t205.toList = t207.toList then (if (t206 == t208) = true then ((chainmanref10_Same.f kj4 t209 t213).bind fun t237 => (if t237 = true then (if t210 = t214 then (if t217 = t220 then (if t218 = t221 then (if t219 = t222 then (if t223 = bt226.1 then (if t224 = bt226.2.1 then (if t225 = bt226.2.2 then ((chainmanref10_SameList.f kj4 bt229.1 bt233.1).bind fun t238 => (if t238 = true then (if (bt229.2 == bt233.2) = true then ((dataset_Place.f a3 a2).bind fun t239 => ((chainmanref10_Place.f a3 a2).bind fun t240 => (if t239 = t240 then ((dataset_Valid.f kj4 a1).bind fun t241 => (if (t241 == (t214 == 0)) = true then ((chainmanlaw10_awake.f kj4).bind fun t242 => (some t242)) else (none))) else (none)))) else (none)) else (none))) else (none)) else (none)) else (none)) else (none)) else (none)) else (none)) else (none)) else (none))) else (none)) else (none))))) = some r := H
            have A20 := Aside0.mk A200
            clear A200
            replace H := Option.bind_eq_some_iff.mp H
            obtain ⟨⟨t226, t227, t228⟩, A210, H⟩ := H
            replace H : ((dataset_Vector.f kj4 a1 a3).bind fun bt229 => ((chainmanref10_Vector.f kj4 a1 a3).bind fun bt233 => (if t205.toList = t207.toList then (if (t206 == t208) = true then ((chainmanref10_Same.f kj4 t209 t213).bind fun t237 => (if t237 = true then (if t210 = t214 then (if t217 = t220 then (if t218 = t221 then (if t219 = t222 then (if t223 = t226 then (if t224 = t227 then (if t225 = t228 then ((chainmanref10_SameList.f kj4 bt229.1 bt233.1).bind fun t238 => (if t238 = true then (if (bt229.2 == bt233.2) = true then ((dataset_Place.f a3 a2).bind fun t239 => ((chainmanref10_Place.f a3 a2).bind fun t240 => (if t239 = t240 then ((dataset_Valid.f kj4 a1).bind fun t241 => (if (t241 == (t214 == 0)) = true then ((chainmanlaw10_awake.f kj4).bind fun t242 => (some t242)) else (none))) else (none)))) else (none)) else (none))) else (none)) else (none)) else (none)) else (none)) else (none)) else (none)) else (none)) else (none))) else (none)) else (none)))) = some r := H
            have A21 := Aside0.mk A210
            clear A210
            replace H := Option.bind_eq_some_iff.mp H
            obtain ⟨⟨t229, t230⟩, A220, H⟩ := H
            replace H : ((chainmanref10_Vector.f kj4 a1 a3).bind fun bt233 => (if t205.toList = t207.toList then (if (t206 == t208) = true then ((chainmanref10_Same.f kj4 t209 t213).bind fun t237 => (if t237 = true then (if t210 = t214 then (if t217 = t220 then (if t218 = t221 then (if t219 = t222 then (if t223 = t226 then (if t224 = t227 then (if t225 = t228 then ((chainmanref10_SameList.f kj4 t229 bt233.1).bind fun t238 => (if t238 = true then (if (t230 == bt233.2) = true then ((dataset_Place.f a3 a2).bind fun t239 => ((chainmanref10_Place.f a3 a2).bind fun t240 => (if t239 = t240 then ((dataset_Valid.f kj4 a1).bind fun t241 => (if (t241 == (t214 == 0)) = true then ((chainmanlaw10_awake.f kj4).bind fun t242 => (some t242)) else (none))) else (none)))) else (none)) else (none))) else (none)) else (none)) else (none)) else (none)) else (none)) else (none)) else (none)) else (none))) else (none)) else (none))) = some r := H
            have A22 := Aside0.mk A220
            clear A220
            replace H := Option.bind_eq_some_iff.mp H
            obtain ⟨⟨t233, t234⟩, A230, H⟩ := H
            replace H : (if t205.toList = t207.toList then (if (t206 == t208) = true then ((chainmanref10_Same.f kj4 t209 t213).bind fun t237 => (if t237 = true then (if t210 = t214 then (if t217 = t220 then (if t218 = t221 then (if t219 = t222 then (if t223 = t226 then (if t224 = t227 then (if t225 = t228 then ((chainmanref10_SameList.f kj4 t229 t233).bind fun t238 => (if t238 = true then (if (t230 == t234) = true then ((dataset_Place.f a3 a2).bind fun t239 => ((chainmanref10_Place.f a3 a2).bind fun t240 => (if t239 = t240 then ((dataset_Valid.f kj4 a1).bind fun t241 => (if (t241 == (t214 == 0)) = true then ((chainmanlaw10_awake.f kj4).bind fun t242 => (some t242)) else (none))) else (none)))) else (none)) else (none))) else (none)) else (none)) else (none)) else (none)) else (none)) else (none)) else (none)) else (none))) else (none)) else (none)) = some r := H
            have A23 := Aside0.mk A230
            clear A230
            by_cases c24 : t205.toList = t207.toList
            · rw [if_pos c24] at H
              have c24b0 : (t205.toList == t207.toList) = true := beq_iff_eq.mpr c24
              have c24b1 : (t205.toList != t207.toList) = false := bne_eq_false_iff_eq.mpr c24
              clear c24
              by_cases c25 : (t206 == t208) = true
              · rw [if_pos c25] at H
                have c25b0 : (t206 == t208) = true := c25
                (try (have c25b1 : decide (t206 = t208) = true := by simpa using c25))
                (try (have c25b2 : (t206 == t208) = true := by simpa using c25))
                clear c25
                replace H := Option.bind_eq_some_iff.mp H
                obtain ⟨t237, A260, H⟩ := H
                replace H : (if t237 = true then (if t210 = t214 then (if t217 = t220 then (if t218 = t221 then (if t219 = t222 then (if t223 = t226 then (if t224 = t227 then (if t225 = t228 then ((chainmanref10_SameList.f kj4 t229 t233).bind fun t238 => (if t238 = true then (if (t230 == t234) = true then ((dataset_Place.f a3 a2).bind fun t239 => ((chainmanref10_Place.f a3 a2).bind fun t240 => (if t239 = t240 then ((dataset_Valid.f kj4 a1).bind fun t241 => (if (t241 == (t214 == 0)) = true then ((chainmanlaw10_awake.f kj4).bind fun t242 => (some t242)) else (none))) else (none)))) else (none)) else (none))) else (none)) else (none)) else (none)) else (none)) else (none)) else (none)) else (none)) else (none)) = some r := H
                have A26 := Aside0.mk A260
                clear A260
                by_cases c27 : t237 = true
                · subst c27
                  have H1 : (if t210 = t214 then (if t217 = t220 then (if t218 = t221 then (if t219 = t222 then (if t223 = t226 then (if t224 = t227 then (if t225 = t228 then ((chainmanref10_SameList.f kj4 t229 t233).bind fun t238 => (if t238 = true then (if (t230 == t234) = true then ((dataset_Place.f a3 a2).bind fun t239 => ((chainmanref10_Place.f a3 a2).bind fun t240 => (if t239 = t240 then ((dataset_Valid.f kj4 a1).bind fun t241 => (if (t241 == (t214 == 0)) = true then ((chainmanlaw10_awake.f kj4).bind fun t242 => (some t242)) else (none))) else (none)))) else (none)) else (none))) else (none)) else (none)) else (none)) else (none)) else (none)) else (none)) else (none)) = some r := by rw [if_pos rfl] at H; exact H
                  clear H
                  have H := H1
                  clear H1
                  by_cases c28 : t210 = t214
                  · rw [if_pos c28] at H
                    have c28b0 : (t210 == t214) = true := beq_iff_eq.mpr c28
                    have c28b1 : (t210 != t214) = false := bne_eq_false_iff_eq.mpr c28
                    clear c28
                    by_cases c29 : t217 = t220
                    · rw [if_pos c29] at H
                      have c29b0 : (t217 == t220) = true := beq_iff_eq.mpr c29
                      have c29b1 : (t217 != t220) = false := bne_eq_false_iff_eq.mpr c29
                      clear c29
                      by_cases c30 : t218 = t221
                      · rw [if_pos c30] at H
                        have c30b0 : (t218 == t221) = true := beq_iff_eq.mpr c30
                        have c30b1 : (t218 != t221) = false := bne_eq_false_iff_eq.mpr c30
                        clear c30
                        by_cases c31 : t219 = t222
                        · rw [if_pos c31] at H
                          have c31b0 : (t219 == t222) = true := beq_iff_eq.mpr c31
                          have c31b1 : (t219 != t222) = false := bne_eq_false_iff_eq.mpr c31
                          clear c31
                          by_cases c32 : t223 = t226
                          · rw [if_pos c32] at H
                            have c32b0 : (t223 == t226) = true := beq_iff_eq.mpr c32
                            have c32b1 : (t223 != t226) = false := bne_eq_false_iff_eq.mpr c32
                            clear c32
                            by_cases c33 : t224 = t227
                            · rw [if_pos c33] at H
                              have c33b0 : (t224 == t227) = true := beq_iff_eq.mpr c33
                              have c33b1 : (t224 != t227) = false := bne_eq_false_iff_eq.mpr c33
                              clear c33
                              by_cases c34 : t225 = t228
                              · rw [if_pos c34] at H
                                have c34b0 : (t225 == t228) = true := beq_iff_eq.mpr c34
                                have c34b1 : (t225 != t228) = false := bne_eq_false_iff_eq.mpr c34
                                clear c34
                                replace H := Option.bind_eq_some_iff.mp H
                                obtain ⟨t238, A350, H⟩ := H
                                replace H : (if t238 = true then (if (t230 == t234) = true then ((dataset_Place.f a3 a2).bind fun t239 => ((chainmanref10_Place.f a3 a2).bind fun t240 => (if t239 = t240 then ((dataset_Valid.f kj4 a1).bind fun t241 => (if (t241 == (t214 == 0)) = true then ((chainmanlaw10_awake.f kj4).bind fun t242 => (some t242)) else (none))) else (none)))) else (none)) else (none)) = some r := H
                                have A35 := Aside0.mk A350
                                clear A350
                                by_cases c36 : t238 = true
                                · subst c36
                                  have H1 : (if (t230 == t234) = true then ((dataset_Place.f a3 a2).bind fun t239 => ((chainmanref10_Place.f a3 a2).bind fun t240 => (if t239 = t240 then ((dataset_Valid.f kj4 a1).bind fun t241 => (if (t241 == (t214 == 0)) = true then ((chainmanlaw10_awake.f kj4).bind fun t242 => (some t242)) else (none))) else (none)))) else (none)) = some r := by rw [if_pos rfl] at H; exact H
                                  clear H
                                  have H := H1
                                  clear H1
                                  by_cases c37 : (t230 == t234) = true
                                  · rw [if_pos c37] at H
                                    have c37b0 : (t230 == t234) = true := c37
                                    (try (have c37b1 : decide (t230 = t234) = true := by simpa using c37))
                                    (try (have c37b2 : (t230 == t234) = true := by simpa using c37))
                                    clear c37
                                    replace H := Option.bind_eq_some_iff.mp H
                                    obtain ⟨t239, A380, H⟩ := H
                                    replace H : ((chainmanref10_Place.f a3 a2).bind fun t240 => (if t239 = t240 then ((dataset_Valid.f kj4 a1).bind fun t241 => (if (t241 == (t214 == 0)) = true then ((chainmanlaw10_awake.f kj4).bind fun t242 => (some t242)) else (none))) else (none))) = some r := H
                                    have A38 := Aside0.mk A380
                                    clear A380
                                    replace H := Option.bind_eq_some_iff.mp H
                                    obtain ⟨t240, A390, H⟩ := H
                                    replace H : (if t239 = t240 then ((dataset_Valid.f kj4 a1).bind fun t241 => (if (t241 == (t214 == 0)) = true then ((chainmanlaw10_awake.f kj4).bind fun t242 => (some t242)) else (none))) else (none)) = some r := H
                                    have A39 := Aside0.mk A390
                                    clear A390
                                    by_cases c40 : t239 = t240
                                    · rw [if_pos c40] at H
                                      have c40b0 : (t239 == t240) = true := beq_iff_eq.mpr c40
                                      have c40b1 : (t239 != t240) = false := bne_eq_false_iff_eq.mpr c40
                                      clear c40
                                      replace H := Option.bind_eq_some_iff.mp H
                                      obtain ⟨t241, A410, H⟩ := H
                                      replace H : (if (t241 == (t214 == 0)) = true then ((chainmanlaw10_awake.f kj4).bind fun t242 => (some t242)) else (none)) = some r := H
                                      have A41 := Aside0.mk A410
                                      clear A410
                                      by_cases c42 : (t241 == (t214 == 0)) = true
                                      · rw [if_pos c42] at H
                                        have c42b0 : (t241 == (t214 == 0)) = true := c42
                                        (try (have c42b1 : decide (t241 = (t214 == 0)) = true := by simpa using c42))
                                        (try (have c42b2 : (t241 == (t214 == 0)) = true := by simpa using c42))
                                        clear c42
                                        replace H := Option.bind_eq_some_iff.mp H
                                        obtain ⟨t242, A430, H⟩ := H
                                        replace H : (some t242) = some r := H
                                        have A43 := Aside0.mk A430
                                        clear A430
                                        obtain rfl := Option.some.inj H
                                        go_wp2_with (first | ((with_reducible refine gate_callee (f := 46) rfl ?_); refine goesL_ (some 45) rfl rfl Try.func46 (by kernel_rfl) rfl #[.slice A0 l0.length c0] rfl (by (try simp only [List.map_toArray, List.map_cons, List.map_nil]); first | done | rfl | (simp only [List.length_drop, List.length_take]; rfl)) ?_; (with_reducible refine (dataset_Lay.calls _ _ l0 t205 t206 _ ?side1 ?side2 A11.out).mono ?_); (case side1 => repeat (first | exact (Kd.C_below HR0.out HB.out) | (with_reducible refine Kd.C_alloc ?_ _) | (with_reducible refine Kd.C_drewN ?_ _) | (with_reducible refine Kd.C_drew ?_))); (case side2 => exact HC0.out); rintro e w44 ⟨rfl, hb⟩; refine ⟨_, rfl, ?_⟩; have n0_ := Aside0.mk (below_step (by repeat (first | (with_reducible first | exact HB.out | apply below_alloc | apply pw_below_drewN | apply below_drew1) | exact HB.out)) hb); clear HB; have HB := n0_; clear n0_; (try clear hb); (try clear hb2); (try clear hk); (try clear hi)) | ((with_reducible refine gate_callee (f := 53) rfl ?_); refine goesL_ (some 50) rfl rfl Try.func53 (by kernel_rfl) rfl #[.slice A0 l0.length c0] rfl (by (try simp only [List.map_toArray, List.map_cons, List.map_nil]); first | done | rfl | (simp only [List.length_drop, List.length_take]; rfl)) ?_; (with_reducible refine (chainmanref10_Lay.calls kj4 _ _ l0 t207 t208 _ ?side1 ?side2 A12.out).mono ?_); (case side1 => repeat (first | exact (Kd.C_below HR0.out HB.out) | (with_reducible refine Kd.C_alloc ?_ _) | (with_reducible refine Kd.C_drewN ?_ _) | (with_reducible refine Kd.C_drew ?_))); (case side2 => exact HC0.out); rintro e w45 ⟨rfl, hb⟩; refine ⟨_, rfl, ?_⟩; have n0_ := Aside0.mk (below_step (by repeat (first | (with_reducible first | exact HB.out | apply below_alloc | apply pw_below_drewN | apply below_drew1) | exact HB.out)) hb); clear HB; have HB := n0_; clear n0_; (try clear hb); (try clear hb2); (try clear hk); (try clear hi)) | ((with_reducible refine gate_callee (f := 48) rfl ?_); refine goesL_ (some 55) rfl rfl Try.func48 (by kernel_rfl) rfl #[.string a1] rfl (by (try simp only [List.map_toArray, List.map_cons, List.map_nil]); first | done | rfl | (simp only [List.length_drop, List.length_take]; rfl)) ?_; (with_reducible refine (dataset_Parse.calls kj4 a1 t209 t210 _ A13.out).mono ?_); rintro e w46 ⟨v211, rfl, ho0, hb⟩; refine ⟨_, rfl, ?_⟩; have n0_ := Aside0.mk (Kd.S_lower ho0 (below_size (by repeat (first | (with_reducible first | exact HB.out | apply below_alloc | apply pw_below_drewN | apply below_drew1) | exact HB.out)))); have n1_ := Aside0.mk (below_step (by repeat (first | (with_reducible first | exact HB.out | apply below_alloc | apply pw_below_drewN | apply below_drew1) | exact HB.out)) hb); clear HB; have HO212 := n0_; have HB := n1_; clear n0_ n1_; (try clear hb); (try clear hb2); (try clear hk); (try clear hi); (try clear ho0)) | ((with_reducible refine gate_callee (f := 54) rfl ?_); refine goesL_ (some 60) rfl rfl Try.func54 (by kernel_rfl) rfl #[.string a1] rfl (by (try simp only [List.map_toArray, List.map_cons, List.map_nil]); first | done | rfl | (simp only [List.length_drop, List.length_take]; rfl)) ?_; (with_reducible refine (chainmanref10_Parse.calls kj4 a1 t213 t214 _ A14.out).mono ?_); rintro e w47 ⟨v215, rfl, ho0, hb⟩; refine ⟨_, rfl, ?_⟩; have n0_ := Aside0.mk (Kd.S_elder' (by (with_reducible repeat (first | apply Kd.S_alloc | apply Kd.S_drewN | apply Kd.S_drew)); exact HO212.out) (Kd.S_base ho0) hb); have n1_ := Aside0.mk (Kd.S_lower (Kd.S_new' ho0 (Kd.S_lt (by (with_reducible repeat (first | apply Kd.S_alloc | apply Kd.S_drewN | apply Kd.S_drew)); exact HO212.out))) (below_size (by repeat (first | (with_reducible first | exact HB.out | apply below_alloc | apply pw_below_drewN | apply below_drew1) | exact HB.out)))); have n2_ := Aside0.mk (below_step (by repeat (first | (with_reducible first | exact HB.out | apply below_alloc | apply pw_below_drewN | apply below_drew1) | exact HB.out)) hb); clear HO212; clear HB; have HO212 := n0_; have HO216 := n1_; have HB := n2_; clear n0_ n1_ n2_; (try clear hb); (try clear hb2); (try clear hk); (try clear hi); (try clear ho0)) | ((with_reducible refine gate_callee (f := 55) rfl ?_); refine goesL_ (some 66) rfl rfl Try.func55 (by kernel_rfl) rfl #[.string a1, .int .i64 a2] rfl (by (try simp only [List.map_toArray, List.map_cons, List.map_nil]); first | done | rfl | (simp only [List.length_drop, List.length_take]; rfl)) ?_; (with_reducible refine (dataset_Shape.calls kj4 a1 a2 t217 t218 t219 _ A15.out).mono ?_); rintro e w48 ⟨rfl, hb⟩; refine ⟨_, rfl, ?_⟩; have n0_ := Aside0.mk (Kd.S_below (by (with_reducible repeat (first | apply Kd.S_alloc | apply Kd.S_drewN | apply Kd.S_drew)); exact HO212.out) hb); have n1_ := Aside0.mk (Kd.S_below (by (with_reducible repeat (first | apply Kd.S_alloc | apply Kd.S_drewN | apply Kd.S_drew)); exact HO216.out) hb); have n2_ := Aside0.mk (below_step (by repeat (first | (with_reducible first | exact HB.out | apply below_alloc | apply pw_below_drewN | apply below_drew1) | exact HB.out)) hb); clear HO212; clear HO216; clear HB; have HO212 := n0_; have HO216 := n1_; have HB := n2_; clear n0_ n1_ n2_; (try clear hb); (try clear hb2); (try clear hk); (try clear hi)) | ((with_reducible refine gate_callee (f := 56) rfl ?_); refine goesL_ (some 73) rfl rfl Try.func56 (by kernel_rfl) rfl #[.string a1, .int .i64 a2] rfl (by (try simp only [List.map_toArray, List.map_cons, List.map_nil]); first | done | rfl | (simp only [List.length_drop, List.length_take]; rfl)) ?_; (with_reducible refine (chainmanref10_Shape.calls kj4 a1 a2 t220 t221 t222 _ A16.out).mono ?_); rintro e w' ⟨rfl, ⟨nd, rfl⟩⟩; refine ⟨_, rfl, ?_⟩) | (go_at_call 56; refine calls_of_args (args' := #[.string a1, .int .i64 a2]) (by first | rfl) ?_; (with_reducible refine (chainmanref10_Shape.calls kj4 a1 a2 t220 t221 t222 _ A16.out).mono ?_); rintro e w' ⟨rfl, ⟨nd, rfl⟩⟩) | ((with_reducible refine gate_callee (f := 55) rfl ?_); refine goesL_ (some 86) rfl rfl Try.func55 (by kernel_rfl) rfl #[.string (a1.extract 0 ((ji17) : Int).toNat), .int .i64 (a1.size : Int)] rfl (by (try simp only [List.map_toArray, List.map_cons, List.map_nil]); first | done | (simp only [hji17]; rfl) | rfl | (simp only [List.length_drop, List.length_take]; rfl)) ?_; (with_reducible refine (dataset_Shape.calls kj4 (a1.extract 0 ((ji17) : Int).toNat) (a1.size : Int) t223 t224 t225 _ A20.out).mono ?_); rintro e w49 ⟨rfl, hb⟩; refine ⟨_, rfl, ?_⟩; have n0_ := Aside0.mk (Kd.S_below (by (with_reducible repeat (first | apply Kd.S_alloc | apply Kd.S_drewN | apply Kd.S_drew)); exact HO212.out) hb); have n1_ := Aside0.mk (Kd.S_below (by (with_reducible repeat (first | apply Kd.S_alloc | apply Kd.S_drewN | apply Kd.S_drew)); exact HO216.out) hb); have n2_ := Aside0.mk (below_step (by repeat (first | (with_reducible first | exact HB.out | apply below_alloc | apply pw_below_drewN | apply below_drew1) | exact HB.out)) hb); clear HO212; clear HO216; clear HB; have HO212 := n0_; have HO216 := n1_; have HB := n2_; clear n0_ n1_ n2_; (try clear hb); (try clear hb2); (try clear hk); (try clear hi)) | ((with_reducible refine gate_callee (f := 56) rfl ?_); refine goesL_ (some 94) rfl rfl Try.func56 (by kernel_rfl) rfl #[.string (a1.extract 0 ((ji17) : Int).toNat), .int .i64 (a1.size : Int)] rfl (by (try simp only [List.map_toArray, List.map_cons, List.map_nil]); first | done | (simp only [hji17]; rfl) | rfl | (simp only [List.length_drop, List.length_take]; rfl)) ?_; (with_reducible refine (chainmanref10_Shape.calls kj4 (a1.extract 0 ((ji17) : Int).toNat) (a1.size : Int) t226 t227 t228 _ A21.out).mono ?_); rintro e w' ⟨rfl, ⟨nd, rfl⟩⟩; refine ⟨_, rfl, ?_⟩) | (go_at_call 56; refine calls_of_args (args' := #[.string (a1.extract 0 ((ji17) : Int).toNat), .int .i64 (a1.size : Int)]) (by first | (simp only [hji17]; rfl) | rfl) ?_; (with_reducible refine (chainmanref10_Shape.calls kj4 (a1.extract 0 ((ji17) : Int).toNat) (a1.size : Int) t226 t227 t228 _ A21.out).mono ?_); rintro e w' ⟨rfl, ⟨nd, rfl⟩⟩) | ((with_reducible refine gate_callee (f := 51) rfl ?_); refine goesL_ (some 101) rfl rfl Try.func51 (by kernel_rfl) rfl #[.string a1, .int .i64 a3] rfl (by (try simp only [List.map_toArray, List.map_cons, List.map_nil]); first | done | rfl | (simp only [List.length_drop, List.length_take]; rfl)) ?_; (with_reducible refine (dataset_Vector.calls kj4 a1 a3 t229 t230 _ A22.out).mono ?_); rintro e w50 ⟨v231, rfl, ho0, hb⟩; refine ⟨_, rfl, ?_⟩; have n0_ := Aside0.mk (Kd.S_elder' (by (with_reducible repeat (first | apply Kd.S_alloc | apply Kd.S_drewN | apply Kd.S_drew)); exact HO212.out) (Kd.R_base ho0) hb); have n1_ := Aside0.mk (Kd.S_elder' (by (with_reducible repeat (first | apply Kd.S_alloc | apply Kd.S_drewN | apply Kd.S_drew)); exact HO216.out) (Kd.R_base ho0) hb); have n2_ := Aside0.mk (Kd.R_lower ho0 (below_size (by repeat (first | (with_reducible first | exact HB.out | apply below_alloc | apply pw_below_drewN | apply below_drew1) | exact HB.out)))); have n3_ := Aside0.mk (below_step (by repeat (first | (with_reducible first | exact HB.out | apply below_alloc | apply pw_below_drewN | apply below_drew1) | exact HB.out)) hb); clear HO212; clear HO216; clear HB; have HO212 := n0_; have HO216 := n1_; have HO232 := n2_; have HB := n3_; clear n0_ n1_ n2_ n3_; (try clear hb); (try clear hb2); (try clear hk); (try clear hi); (try clear ho0)) | ((with_reducible refine gate_callee (f := 57) rfl ?_); refine goesL_ (some 107) rfl rfl Try.func57 (by kernel_rfl) rfl #[.string a1, .int .i64 a3] rfl (by (try simp only [List.map_toArray, List.map_cons, List.map_nil]); first | done | rfl | (simp only [List.length_drop, List.length_take]; rfl)) ?_; (with_reducible refine (chainmanref10_Vector.calls kj4 a1 a3 t233 t234 _ A23.out).mono ?_); rintro e w51 ⟨v235, rfl, ho0, hb⟩; refine ⟨_, rfl, ?_⟩; have n0_ := Aside0.mk (Kd.S_elder' (by (with_reducible repeat (first | apply Kd.S_alloc | apply Kd.S_drewN | apply Kd.S_drew)); exact HO212.out) (Kd.R_base ho0) hb); have n1_ := Aside0.mk (Kd.S_elder' (by (with_reducible repeat (first | apply Kd.S_alloc | apply Kd.S_drewN | apply Kd.S_drew)); exact HO216.out) (Kd.R_base ho0) hb); have n2_ := Aside0.mk (Kd.R_elder' (by (with_reducible repeat (first | apply Kd.R_alloc | apply Kd.R_drewN | apply Kd.R_drew)); exact HO232.out) (Kd.R_base ho0) hb); have n3_ := Aside0.mk (Kd.R_lower (Kd.R_new' ho0 (Kd.R_lt (by (with_reducible repeat (first | apply Kd.R_alloc | apply Kd.R_drewN | apply Kd.R_drew)); exact HO232.out))) (below_size (by repeat (first | (with_reducible first | exact HB.out | apply below_alloc | apply pw_below_drewN | apply below_drew1) | exact HB.out)))); have n4_ := Aside0.mk (below_step (by repeat (first | (with_reducible first | exact HB.out | apply below_alloc | apply pw_below_drewN | apply below_drew1) | exact HB.out)) hb); clear HO212; clear HO216; clear HO232; clear HB; have HO212 := n0_; have HO216 := n1_; have HO232 := n2_; have HO236 := n3_; have HB := n4_; clear n0_ n1_ n2_ n3_ n4_; (try clear hb); (try clear hb2); (try clear hk); (try clear hi); (try clear ho0); obtain ⟨Ao52, co52, eo52⟩ := Kd.S_slice HO212.out; subst eo52; obtain ⟨Ao53, co53, eo53⟩ := Kd.S_slice HO216.out; subst eo53) | (go_at_call 49; (with_reducible refine (chainmanref10_Same.calls kj4 _ _ t209 _ _ t213 true _ ?side1 ?side2 ?side3 ?side4 A26.out).mono ?_); (case side1 => repeat (first | exact (Kd.S_reads' HO212.out).2.2 | (with_reducible refine Kd.C_alloc ?_ _) | (with_reducible refine Kd.C_drewN ?_ _) | (with_reducible refine Kd.C_drew ?_))); (case side2 => exact (Kd.S_reads' HO212.out).2.1); (case side3 => repeat (first | exact (Kd.S_reads' HO216.out).2.2 | (with_reducible refine Kd.C_alloc ?_ _) | (with_reducible refine Kd.C_drewN ?_ _) | (with_reducible refine Kd.C_drew ?_))); (case side4 => exact (Kd.S_reads' HO216.out).2.1); rintro e w' ⟨rfl, ⟨nd, rfl⟩⟩; obtain ⟨Ao54, co54, eo54⟩ := Kd.R_slice HO232.out; subst eo54; obtain ⟨Ao55, co55, eo55⟩ := Kd.R_slice HO236.out; subst eo55) | (go_at_call 49; refine calls_of_args (args' := #[.slice Ao52 t209.length co52, .slice Ao53 t213.length co53]) (by first | rfl) ?_; (with_reducible refine (chainmanref10_Same.calls kj4 _ _ t209 _ _ t213 true _ ?side1 ?side2 ?side3 ?side4 A26.out).mono ?_); (case side1 => repeat (first | exact (Kd.S_reads' HO212.out).2.2 | (with_reducible refine Kd.C_alloc ?_ _) | (with_reducible refine Kd.C_drewN ?_ _) | (with_reducible refine Kd.C_drew ?_))); (case side2 => exact (Kd.S_reads' HO212.out).2.1); (case side3 => repeat (first | exact (Kd.S_reads' HO216.out).2.2 | (with_reducible refine Kd.C_alloc ?_ _) | (with_reducible refine Kd.C_drewN ?_ _) | (with_reducible refine Kd.C_drew ?_))); (case side4 => exact (Kd.S_reads' HO216.out).2.1); rintro e w' ⟨rfl, ⟨nd, rfl⟩⟩) | (go_at_call 52; (with_reducible refine (chainmanref10_SameList.calls kj4 _ _ t229 _ _ t233 true _ ?side1 ?side2 ?side3 ?side4 A35.out).mono ?_); (case side1 => repeat (first | exact (Kd.R_reads' HO232.out).2.2 | (with_reducible refine Kd.C_alloc ?_ _) | (with_reducible refine Kd.C_drewN ?_ _) | (with_reducible refine Kd.C_drew ?_))); (case side2 => exact (Kd.R_reads' HO232.out).2.1); (case side3 => repeat (first | exact (Kd.R_reads' HO236.out).2.2 | (with_reducible refine Kd.C_alloc ?_ _) | (with_reducible refine Kd.C_drewN ?_ _) | (with_reducible refine Kd.C_drew ?_))); (case side4 => exact (Kd.R_reads' HO236.out).2.1); rintro e w' ⟨rfl, ⟨nd, rfl⟩⟩) | (go_at_call 52; refine calls_of_args (args' := #[.slice Ao54 t229.length co54, .slice Ao55 t233.length co55]) (by first | rfl) ?_; (with_reducible refine (chainmanref10_SameList.calls kj4 _ _ t229 _ _ t233 true _ ?side1 ?side2 ?side3 ?side4 A35.out).mono ?_); (case side1 => repeat (first | exact (Kd.R_reads' HO232.out).2.2 | (with_reducible refine Kd.C_alloc ?_ _) | (with_reducible refine Kd.C_drewN ?_ _) | (with_reducible refine Kd.C_drew ?_))); (case side2 => exact (Kd.R_reads' HO232.out).2.1); (case side3 => repeat (first | exact (Kd.R_reads' HO236.out).2.2 | (with_reducible refine Kd.C_alloc ?_ _) | (with_reducible refine Kd.C_drewN ?_ _) | (with_reducible refine Kd.C_drew ?_))); (case side4 => exact (Kd.R_reads' HO236.out).2.1); rintro e w' ⟨rfl, ⟨nd, rfl⟩⟩) | (go_at_call 50; (with_reducible refine (dataset_Place.calls a3 a2 t239 _ A38.out).mono ?_); rintro e w' ⟨rfl, ⟨nd, rfl⟩⟩) | (go_at_call 50; refine calls_of_args (args' := #[.int .i64 a3, .int .i64 a2]) (by first | rfl) ?_; (with_reducible refine (dataset_Place.calls a3 a2 t239 _ A38.out).mono ?_); rintro e w' ⟨rfl, ⟨nd, rfl⟩⟩) | (go_at_call 58; (with_reducible refine (chainmanref10_Place.calls a3 a2 t240 _ A39.out).mono ?_); rintro e w' ⟨rfl, ⟨nd, rfl⟩⟩) | (go_at_call 58; refine calls_of_args (args' := #[.int .i64 a3, .int .i64 a2]) (by first | rfl) ?_; (with_reducible refine (chainmanref10_Place.calls a3 a2 t240 _ A39.out).mono ?_); rintro e w' ⟨rfl, ⟨nd, rfl⟩⟩) | (go_at_call 59; (with_reducible refine (dataset_Valid.calls kj4 a1 t241 _ A41.out).mono ?_); rintro e w56 ⟨rfl, hb⟩; have n0_ := Aside0.mk (Kd.S_below (by (with_reducible repeat (first | apply Kd.S_alloc | apply Kd.S_drewN | apply Kd.S_drew)); exact HO212.out) hb); have n1_ := Aside0.mk (Kd.S_below (by (with_reducible repeat (first | apply Kd.S_alloc | apply Kd.S_drewN | apply Kd.S_drew)); exact HO216.out) hb); have n2_ := Aside0.mk (Kd.R_below (by (with_reducible repeat (first | apply Kd.R_alloc | apply Kd.R_drewN | apply Kd.R_drew)); exact HO232.out) hb); have n3_ := Aside0.mk (Kd.R_below (by (with_reducible repeat (first | apply Kd.R_alloc | apply Kd.R_drewN | apply Kd.R_drew)); exact HO236.out) hb); have n4_ := Aside0.mk (below_step (by repeat (first | (with_reducible first | exact HB.out | apply below_alloc | apply pw_below_drewN | apply below_drew1) | exact HB.out)) hb); clear HO212; clear HO216; clear HO232; clear HO236; clear HB; have HO212 := n0_; have HO216 := n1_; have HO232 := n2_; have HO236 := n3_; have HB := n4_; clear n0_ n1_ n2_ n3_ n4_; (try clear hb); (try clear hb2); (try clear hk); (try clear hi)) | (go_at_call 45; (with_reducible refine (chainmanlaw10_awake.calls kj4  t242 _ A43.out).mono ?_); rintro e w57 ⟨rfl, hb⟩; have n0_ := Aside0.mk (Kd.S_below (by (with_reducible repeat (first | apply Kd.S_alloc | apply Kd.S_drewN | apply Kd.S_drew)); exact HO212.out) hb); have n1_ := Aside0.mk (Kd.S_below (by (with_reducible repeat (first | apply Kd.S_alloc | apply Kd.S_drewN | apply Kd.S_drew)); exact HO216.out) hb); have n2_ := Aside0.mk (Kd.R_below (by (with_reducible repeat (first | apply Kd.R_alloc | apply Kd.R_drewN | apply Kd.R_drew)); exact HO232.out) hb); have n3_ := Aside0.mk (Kd.R_below (by (with_reducible repeat (first | apply Kd.R_alloc | apply Kd.R_drewN | apply Kd.R_drew)); exact HO236.out) hb); have n4_ := Aside0.mk (below_step (by repeat (first | (with_reducible first | exact HB.out | apply below_alloc | apply pw_below_drewN | apply below_drew1) | exact HB.out)) hb); clear HO212; clear HO216; clear HO232; clear HO236; clear HB; have HO212 := n0_; have HO216 := n1_; have HO232 := n2_; have HO236 := n3_; have HB := n4_; clear n0_ n1_ n2_ n3_ n4_; (try clear hb); (try clear hb2); (try clear hk); (try clear hi)))
                                        go_ret
                                        exact ⟨by first | rfl | (simp [errW_none, errW_some] <;> rfl) | (simp only [← hji17]; first | rfl | (simp [errW_none, errW_some] <;> rfl)) | (simp [*, errW_none, errW_some] <;> rfl), by repeat (first | (with_reducible first | exact HB.out | apply below_alloc | apply pw_below_drewN | apply below_drew1) | exact HB.out)⟩
                                      · rw [if_neg c42] at H
                                        exact absurd H (by simp)
                                    · rw [if_neg c40] at H
                                      exact absurd H (by simp)
                                  · rw [if_neg c37] at H
                                    exact absurd H (by simp)
                                · replace c36 := Bool.eq_false_iff.mpr c36
                                  subst c36
                                  have H1 : (none) = some r := by rw [if_neg (show ¬ (false = true) by decide)] at H; exact H
                                  clear H
                                  have H := H1
                                  clear H1
                                  exact absurd H (by simp)
                              · rw [if_neg c34] at H
                                exact absurd H (by simp)
                            · rw [if_neg c33] at H
                              exact absurd H (by simp)
                          · rw [if_neg c32] at H
                            exact absurd H (by simp)
                        · rw [if_neg c31] at H
                          exact absurd H (by simp)
                      · rw [if_neg c30] at H
                        exact absurd H (by simp)
                    · rw [if_neg c29] at H
                      exact absurd H (by simp)
                  · rw [if_neg c28] at H
                    exact absurd H (by simp)
                · replace c27 := Bool.eq_false_iff.mpr c27
                  subst c27
                  have H1 : (none) = some r := by rw [if_neg (show ¬ (false = true) by decide)] at H; exact H
                  clear H
                  have H := H1
                  clear H1
                  exact absurd H (by simp)
              · rw [if_neg c25] at H
                exact absurd H (by simp)
            · rw [if_neg c24] at H
              exact absurd H (by simp)
          · rw [if_neg c19] at H
            exact absurd H (by simp)
        · rw [if_neg c18] at H
          exact absurd H (by simp)

/-- THE ONE PURE STATEMENT of chainmanlaw10_DatasetTells. -/
def chainmanlaw10_DatasetTells.Pure : Prop := ∀ (l0 : List (List Int)) (a1 : ByteArray) (a2 : Int) (a3 : Int), (l0.length ≤ maxLen ∧ ∀ y0_ ∈ l0, (y0_.length ≤ maxLen ∧ ∀ y1_ ∈ y0_, (Lit.int .i64 y1_).wf = true)) → a1.size ≤ 140737488351232 → (Lit.int .i64 a2).wf = true → (Lit.int .i64 a3).wf = true → ∃ k, chainmanlaw10_DatasetTells.f k l0 a1 a2 a3 = some true
theorem chainmanlaw10_DatasetTells.walk (P : chainmanlaw10_DatasetTells.Pure) (A0 : Option Addr) (c0 : Nat) (l0 : List (List Int)) (a1 : ByteArray) (a2 : Int) (a3 : Int) (w : World) (hr0 : Kd.C (Kd.slice 3 (Kd.int .i64)) w A0 l0.length l0) (hc0 : l0.length ≤ c0) (w0 : (l0.length ≤ maxLen ∧ ∀ y0_ ∈ l0, (y0_.length ≤ maxLen ∧ ∀ y1_ ∈ y0_, (Lit.int .i64 y1_).wf = true))) (w1 : a1.size ≤ 140737488351232) (w2 : (Lit.int .i64 a2).wf = true) (w3 : (Lit.int .i64 a3).wf = true) :
    Calls Try.prog 9 #[.slice A0 l0.length c0, .string a1, .int .i64 a2, .int .i64 a3] w fun e w' => e = .returned (.bool true) ∧ Below w.heap.size w w' := by
  obtain ⟨k, h⟩ := P l0 a1 a2 a3 w0 w1 w2 w3
  refine (chainmanlaw10_DatasetTells.calls k _ _ l0 a1 a2 a3 true w hr0 hc0    h).mono ?_
  rintro e w' ⟨rfl, hd⟩
  exact ⟨rfl, hd⟩


end Go.Proofs.Ytmacpgkcokpgjaa.PDatasetTells
