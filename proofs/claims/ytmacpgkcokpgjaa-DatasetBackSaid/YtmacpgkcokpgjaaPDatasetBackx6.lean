/- The Go functions that the law reaches, as plain Lean functions, and proofs that the calls of the machine come to them, or the row of the law over them, for every input that the row speaks of; written by a program of this session (wip/tool/mkprint.py) out of the translation and of hand-made templates. -/
import Derived.Test.YtmacpgkcokpgjaaPDatasetBackx0
import Derived.Test.YtmacpgkcokpgjaaPDatasetBackx1
import Derived.Test.YtmacpgkcokpgjaaPDatasetBackx2
import Derived.Test.YtmacpgkcokpgjaaPDatasetBackx3
import Derived.Test.YtmacpgkcokpgjaaPDatasetBackx4
import Derived.Test.YtmacpgkcokpgjaaPDatasetBackx5
namespace Go.Proofs.Ytmacpgkcokpgjaa.PDatasetBack
open Go.RowKit Go.Proofs.YtmacpgkcokpgjaaW.PrintWords Go.Proofs.YtmacpgkcokpgjaaW.PrintLast Go.Proofs.YtmacpgkcokpgjaaW.PrintMore
attribute [local go_sem] max2_int min2_int max_two min_two max_three min_three max_four min_four   -- for this text's walks alone
set_option linter.unusedVariables false
set_option linter.unusedSimpArgs false

/-! ### chainmanlaw10_DatasetBack: function 8 -/
mutual
def chainmanlaw10_DatasetBack.j0 : Nat → List (List Int) → ByteArray → Bool → Option (Bool)
  | 0, _, _, _ => none
  | k + 1, x0, x1, x25 => if x25 = true then ((chainmanlaw10_awake.f k).bind fun t162 => (some t162)) else ((dataset_Lay.f x0).bind fun bt163 => ((chainmanref10_Right.f k x0).bind fun t165 => (if (bt163.2 != t165) = true then (none) else (if bt163.2 = true then ((dataset_Parse.f k bt163.1).bind fun bt166 => (if bt166.2 = 0 then ((chainmanref10_Same.f k bt166.1 x0).bind fun t170 => (chainmanlaw10_DatasetBack.j1 k x0 x1 bt163.1 (!t170))) else (chainmanlaw10_DatasetBack.j1 k x0 x1 bt163.1 true))) else (chainmanlaw10_DatasetBack.j4 k x1)))))
def chainmanlaw10_DatasetBack.j4 : Nat → ByteArray → Option (Bool)
  | 0, _ => none
  | k + 1, x1 => (dataset_Parse.f k x1).bind fun bt179 => (if bt179.2 = 0 then ((dataset_Lay.f bt179.1).bind fun bt183 => (if bt183.2 = true then (if bt183.1.toList = x1.toList then ((chainmanlaw10_awake.f k).bind fun t185 => (some t185)) else (none)) else (none))) else (if bt179.2 = 7 then (if (bt179.1.length : Int) = 0 then ((chainmanlaw10_awake.f k).bind fun t186 => (some t186)) else (none)) else (none)))
def chainmanlaw10_DatasetBack.j1 : Nat → List (List Int) → ByteArray → ByteArray → Bool → Option (Bool)
  | 0, _, _, _, _ => none
  | k + 1, x0, x1, x5, x49 => if x49 = true then (none) else (if 0 < (x0.length : Int) then (chainmanlaw10_DatasetBack.l0 k x0 x1 x5 ((rd_L1 x0 0).length : Int) 0) else (none))
def chainmanlaw10_DatasetBack.l0 : Nat → List (List Int) → ByteArray → ByteArray → Int → Int → Option (Bool)
  | 0, _, _, _, _, _ => none
  | k + 1, x0, x1, x5, x9, x10 => if x10 < (x0.length : Int) then ((dataset_Place.f x9 x10).bind fun t172 => (if t172 < 10 then (chainmanlaw10_DatasetBack.j3 k x0 x1 x5 x9 x10 t172 true) else (chainmanlaw10_DatasetBack.j3 k x0 x1 x5 x9 x10 t172 (decide (t172 > (wrap64 ((x5.size : Int) - (wrap64 (4 * x9))))))))) else (chainmanlaw10_DatasetBack.j4 k x1)
def chainmanlaw10_DatasetBack.j3 : Nat → List (List Int) → ByteArray → ByteArray → Int → Int → Int → Bool → Option (Bool)
  | 0, _, _, _, _, _, _, _ => none
  | k + 1, x0, x1, x5, x9, x10, x11, x73 => if x73 = true then (none) else (if 0 ≤ x11 then (if x11 ≤ (wrap64 (x11 + (wrap64 (4 * x9)))) then (if (wrap64 (x11 + (wrap64 (4 * x9)))) ≤ (x5.size : Int) then ((dataset_Vector.f k (x5.extract (x11 : Int).toNat ((wrap64 (x11 + (wrap64 (4 * x9)))) : Int).toNat) x9).bind fun bt173 => (if bt173.2 = true then (if 0 ≤ x10 then (if x10 < (x0.length : Int) then ((chainmanref10_SameList.f k bt173.1 (rd_L1 x0 x10)).bind fun t178 => (if t178 = true then (chainmanlaw10_DatasetBack.l0 k x0 x1 x5 x9 (wrap64 (x10 + 1))) else (none))) else (none)) else (none)) else (none))) else (none)) else (none)) else (none))
end
def chainmanlaw10_DatasetBack.f (k : Nat) (l0 : List (List Int)) (a1 : ByteArray) : Option (Bool) := (chainmanref10_Few.f k l0 20 20).bind fun t161 => (if t161 = true then (chainmanlaw10_DatasetBack.j0 k l0 a1 (decide ((a1.size : Int) > 700))) else (chainmanlaw10_DatasetBack.j0 k l0 a1 true))
theorem chainmanlaw10_DatasetBack.mono_l : ∀ k, (∀ y0 y1 y2, LeO (chainmanlaw10_DatasetBack.j0 k y0 y1 y2) (chainmanlaw10_DatasetBack.j0 (k + 1) y0 y1 y2)) ∧ (∀ y0, LeO (chainmanlaw10_DatasetBack.j4 k y0) (chainmanlaw10_DatasetBack.j4 (k + 1) y0)) ∧ (∀ y0 y1 y2 y3, LeO (chainmanlaw10_DatasetBack.j1 k y0 y1 y2 y3) (chainmanlaw10_DatasetBack.j1 (k + 1) y0 y1 y2 y3)) ∧ (∀ y0 y1 y2 y3 y4, LeO (chainmanlaw10_DatasetBack.l0 k y0 y1 y2 y3 y4) (chainmanlaw10_DatasetBack.l0 (k + 1) y0 y1 y2 y3 y4)) ∧ (∀ y0 y1 y2 y3 y4 y5 y6, LeO (chainmanlaw10_DatasetBack.j3 k y0 y1 y2 y3 y4 y5 y6) (chainmanlaw10_DatasetBack.j3 (k + 1) y0 y1 y2 y3 y4 y5 y6))
  | 0 => ⟨fun _ _ _ r h => by simp [chainmanlaw10_DatasetBack.j0] at h, fun _ r h => by simp [chainmanlaw10_DatasetBack.j4] at h, fun _ _ _ _ r h => by simp [chainmanlaw10_DatasetBack.j1] at h, fun _ _ _ _ _ r h => by simp [chainmanlaw10_DatasetBack.l0] at h, fun _ _ _ _ _ _ _ r h => by simp [chainmanlaw10_DatasetBack.j3] at h⟩
  | k + 1 => by
    obtain ⟨ih0, ih1, ih2, ih3, ih4⟩ := chainmanlaw10_DatasetBack.mono_l k
    refine ⟨?_, ?_, ?_, ?_, ?_⟩
    · intro y0 y1 y2
      unfold chainmanlaw10_DatasetBack.j0
      repeat' first
      | (with_reducible exact ih0 _ _ _)
      | (with_reducible exact ih1 _)
      | (with_reducible exact ih2 _ _ _ _)
      | (with_reducible exact ih3 _ _ _ _ _)
      | (with_reducible exact ih4 _ _ _ _ _ _ _)
      | (with_reducible exact chainmanlaw10_awake.mono _)
      | (with_reducible exact chainmanref10_Few.mono _ _ _ _)
      | (with_reducible exact chainmanref10_Right.mono _ _)
      | (with_reducible exact chainmanref10_Same.mono _ _ _)
      | (with_reducible exact chainmanref10_SameList.mono _ _ _)
      | (with_reducible exact dataset_Parse.mono _ _)
      | (with_reducible exact dataset_Vector.mono _ _ _)
      | (with_reducible exact LeO.refl _)
      | (with_reducible exact LeO.none _)
      | (with_reducible refine LeO.ite ?_ ?_)
      | (with_reducible refine LeO.bind ?_ (fun _ => ?_))
      | exact ih0 _ _ _
      | exact ih1 _
      | exact ih2 _ _ _ _
      | exact ih3 _ _ _ _ _
      | exact ih4 _ _ _ _ _ _ _
      | exact chainmanlaw10_awake.mono _
      | exact chainmanref10_Few.mono _ _ _ _
      | exact chainmanref10_Right.mono _ _
      | exact chainmanref10_Same.mono _ _ _
      | exact chainmanref10_SameList.mono _ _ _
      | exact dataset_Parse.mono _ _
      | exact dataset_Vector.mono _ _ _
      | exact LeO.none _
      | refine LeO.ite ?_ ?_
      | refine LeO.bind ?_ (fun _ => ?_)
    · intro y0
      unfold chainmanlaw10_DatasetBack.j4
      repeat' first
      | (with_reducible exact ih0 _ _ _)
      | (with_reducible exact ih1 _)
      | (with_reducible exact ih2 _ _ _ _)
      | (with_reducible exact ih3 _ _ _ _ _)
      | (with_reducible exact ih4 _ _ _ _ _ _ _)
      | (with_reducible exact chainmanlaw10_awake.mono _)
      | (with_reducible exact chainmanref10_Few.mono _ _ _ _)
      | (with_reducible exact chainmanref10_Right.mono _ _)
      | (with_reducible exact chainmanref10_Same.mono _ _ _)
      | (with_reducible exact chainmanref10_SameList.mono _ _ _)
      | (with_reducible exact dataset_Parse.mono _ _)
      | (with_reducible exact dataset_Vector.mono _ _ _)
      | (with_reducible exact LeO.refl _)
      | (with_reducible exact LeO.none _)
      | (with_reducible refine LeO.ite ?_ ?_)
      | (with_reducible refine LeO.bind ?_ (fun _ => ?_))
      | exact ih0 _ _ _
      | exact ih1 _
      | exact ih2 _ _ _ _
      | exact ih3 _ _ _ _ _
      | exact ih4 _ _ _ _ _ _ _
      | exact chainmanlaw10_awake.mono _
      | exact chainmanref10_Few.mono _ _ _ _
      | exact chainmanref10_Right.mono _ _
      | exact chainmanref10_Same.mono _ _ _
      | exact chainmanref10_SameList.mono _ _ _
      | exact dataset_Parse.mono _ _
      | exact dataset_Vector.mono _ _ _
      | exact LeO.none _
      | refine LeO.ite ?_ ?_
      | refine LeO.bind ?_ (fun _ => ?_)
    · intro y0 y1 y2 y3
      unfold chainmanlaw10_DatasetBack.j1
      repeat' first
      | (with_reducible exact ih0 _ _ _)
      | (with_reducible exact ih1 _)
      | (with_reducible exact ih2 _ _ _ _)
      | (with_reducible exact ih3 _ _ _ _ _)
      | (with_reducible exact ih4 _ _ _ _ _ _ _)
      | (with_reducible exact chainmanlaw10_awake.mono _)
      | (with_reducible exact chainmanref10_Few.mono _ _ _ _)
      | (with_reducible exact chainmanref10_Right.mono _ _)
      | (with_reducible exact chainmanref10_Same.mono _ _ _)
      | (with_reducible exact chainmanref10_SameList.mono _ _ _)
      | (with_reducible exact dataset_Parse.mono _ _)
      | (with_reducible exact dataset_Vector.mono _ _ _)
      | (with_reducible exact LeO.refl _)
      | (with_reducible exact LeO.none _)
      | (with_reducible refine LeO.ite ?_ ?_)
      | (with_reducible refine LeO.bind ?_ (fun _ => ?_))
      | exact ih0 _ _ _
      | exact ih1 _
      | exact ih2 _ _ _ _
      | exact ih3 _ _ _ _ _
      | exact ih4 _ _ _ _ _ _ _
      | exact chainmanlaw10_awake.mono _
      | exact chainmanref10_Few.mono _ _ _ _
      | exact chainmanref10_Right.mono _ _
      | exact chainmanref10_Same.mono _ _ _
      | exact chainmanref10_SameList.mono _ _ _
      | exact dataset_Parse.mono _ _
      | exact dataset_Vector.mono _ _ _
      | exact LeO.none _
      | refine LeO.ite ?_ ?_
      | refine LeO.bind ?_ (fun _ => ?_)
    · intro y0 y1 y2 y3 y4
      unfold chainmanlaw10_DatasetBack.l0
      repeat' first
      | (with_reducible exact ih0 _ _ _)
      | (with_reducible exact ih1 _)
      | (with_reducible exact ih2 _ _ _ _)
      | (with_reducible exact ih3 _ _ _ _ _)
      | (with_reducible exact ih4 _ _ _ _ _ _ _)
      | (with_reducible exact chainmanlaw10_awake.mono _)
      | (with_reducible exact chainmanref10_Few.mono _ _ _ _)
      | (with_reducible exact chainmanref10_Right.mono _ _)
      | (with_reducible exact chainmanref10_Same.mono _ _ _)
      | (with_reducible exact chainmanref10_SameList.mono _ _ _)
      | (with_reducible exact dataset_Parse.mono _ _)
      | (with_reducible exact dataset_Vector.mono _ _ _)
      | (with_reducible exact LeO.refl _)
      | (with_reducible exact LeO.none _)
      | (with_reducible refine LeO.ite ?_ ?_)
      | (with_reducible refine LeO.bind ?_ (fun _ => ?_))
      | exact ih0 _ _ _
      | exact ih1 _
      | exact ih2 _ _ _ _
      | exact ih3 _ _ _ _ _
      | exact ih4 _ _ _ _ _ _ _
      | exact chainmanlaw10_awake.mono _
      | exact chainmanref10_Few.mono _ _ _ _
      | exact chainmanref10_Right.mono _ _
      | exact chainmanref10_Same.mono _ _ _
      | exact chainmanref10_SameList.mono _ _ _
      | exact dataset_Parse.mono _ _
      | exact dataset_Vector.mono _ _ _
      | exact LeO.none _
      | refine LeO.ite ?_ ?_
      | refine LeO.bind ?_ (fun _ => ?_)
    · intro y0 y1 y2 y3 y4 y5 y6
      unfold chainmanlaw10_DatasetBack.j3
      repeat' first
      | (with_reducible exact ih0 _ _ _)
      | (with_reducible exact ih1 _)
      | (with_reducible exact ih2 _ _ _ _)
      | (with_reducible exact ih3 _ _ _ _ _)
      | (with_reducible exact ih4 _ _ _ _ _ _ _)
      | (with_reducible exact chainmanlaw10_awake.mono _)
      | (with_reducible exact chainmanref10_Few.mono _ _ _ _)
      | (with_reducible exact chainmanref10_Right.mono _ _)
      | (with_reducible exact chainmanref10_Same.mono _ _ _)
      | (with_reducible exact chainmanref10_SameList.mono _ _ _)
      | (with_reducible exact dataset_Parse.mono _ _)
      | (with_reducible exact dataset_Vector.mono _ _ _)
      | (with_reducible exact LeO.refl _)
      | (with_reducible exact LeO.none _)
      | (with_reducible refine LeO.ite ?_ ?_)
      | (with_reducible refine LeO.bind ?_ (fun _ => ?_))
      | exact ih0 _ _ _
      | exact ih1 _
      | exact ih2 _ _ _ _
      | exact ih3 _ _ _ _ _
      | exact ih4 _ _ _ _ _ _ _
      | exact chainmanlaw10_awake.mono _
      | exact chainmanref10_Few.mono _ _ _ _
      | exact chainmanref10_Right.mono _ _
      | exact chainmanref10_Same.mono _ _ _
      | exact chainmanref10_SameList.mono _ _ _
      | exact dataset_Parse.mono _ _
      | exact dataset_Vector.mono _ _ _
      | exact LeO.none _
      | refine LeO.ite ?_ ?_
      | refine LeO.bind ?_ (fun _ => ?_)
theorem chainmanlaw10_DatasetBack.mono : ∀ a0 a1 k, LeO (chainmanlaw10_DatasetBack.f k a0 a1) (chainmanlaw10_DatasetBack.f (k + 1) a0 a1) := by
  intro a0 a1 k
  obtain ⟨ih0, ih1, ih2, ih3, ih4⟩ := chainmanlaw10_DatasetBack.mono_l k
  unfold chainmanlaw10_DatasetBack.f
  repeat' first
      | (with_reducible exact ih0 _ _ _)
      | (with_reducible exact ih1 _)
      | (with_reducible exact ih2 _ _ _ _)
      | (with_reducible exact ih3 _ _ _ _ _)
      | (with_reducible exact ih4 _ _ _ _ _ _ _)
      | (with_reducible exact chainmanlaw10_awake.mono _)
      | (with_reducible exact chainmanref10_Few.mono _ _ _ _)
      | (with_reducible exact chainmanref10_Right.mono _ _)
      | (with_reducible exact chainmanref10_Same.mono _ _ _)
      | (with_reducible exact chainmanref10_SameList.mono _ _ _)
      | (with_reducible exact dataset_Parse.mono _ _)
      | (with_reducible exact dataset_Vector.mono _ _ _)
      | (with_reducible exact LeO.refl _)
      | (with_reducible exact LeO.none _)
      | (with_reducible refine LeO.ite ?_ ?_)
      | (with_reducible refine LeO.bind ?_ (fun _ => ?_))
      | exact ih0 _ _ _
      | exact ih1 _
      | exact ih2 _ _ _ _
      | exact ih3 _ _ _ _ _
      | exact ih4 _ _ _ _ _ _ _
      | exact chainmanlaw10_awake.mono _
      | exact chainmanref10_Few.mono _ _ _ _
      | exact chainmanref10_Right.mono _ _
      | exact chainmanref10_Same.mono _ _ _
      | exact chainmanref10_SameList.mono _ _ _
      | exact dataset_Parse.mono _ _
      | exact dataset_Vector.mono _ _ _
      | exact LeO.none _
      | refine LeO.ite ?_ ?_
      | refine LeO.bind ?_ (fun _ => ?_)
set_option maxHeartbeats 8000000 in
set_option maxRecDepth 100000 in
theorem chainmanlaw10_DatasetBack.calls (k : Nat) (A0 : Option Addr) (c0 : Nat) (l0 : List (List Int)) (a1 : ByteArray) (r : Bool) (w : World) (hr0 : Kd.C (Kd.slice 3 (Kd.int .i64)) w A0 l0.length l0) (hc0 : l0.length ≤ c0) (h : chainmanlaw10_DatasetBack.f k l0 a1 = some r) :
    Calls Try.prog 8 #[.slice A0 l0.length c0, .string a1] w fun e w' => e = .returned (.bool r) ∧ Below w.heap.size w w' := by
  have HR0 := Aside0.mk hr0
  have HC0 := Aside0.mk hc0
  clear hr0 hc0
  have HB := Aside0.mk (Below.refl w.heap.size w)
  have H : ((chainmanref10_Few.f k l0 20 20).bind fun t161 => (if t161 = true then (chainmanlaw10_DatasetBack.j0 k l0 a1 (decide ((a1.size : Int) > 700))) else (chainmanlaw10_DatasetBack.j0 k l0 a1 true))) = some r := h
  clear h
  have HC3 := Aside0.mk H
  clear H
  go_enter Try.func8, Try.ntmps8
  go_upto_region 1 with (fail)
  go_cut [25] (fun v25 wc => ∃ (kq : Nat) (x25_2 : Bool), v25 = .bool x25_2 ∧ Aside0 (chainmanlaw10_DatasetBack.j0 kq l0 a1 x25_2 = some r) ∧ Aside0 (kq ≤ k) ∧ Aside0 (Below w.heap.size w wc))
  case first =>
    have H := HC3.out
    clear HC3
    replace H := Option.bind_eq_some_iff.mp H
    obtain ⟨t161, A40, H⟩ := H
    replace H : (if t161 = true then (chainmanlaw10_DatasetBack.j0 k l0 a1 (decide ((a1.size : Int) > 700))) else (chainmanlaw10_DatasetBack.j0 k l0 a1 true)) = some r := H
    have A4 := Aside0.mk A40
    clear A40
    by_cases c5 : t161 = true
    · subst c5
      have H1 : (chainmanlaw10_DatasetBack.j0 k l0 a1 (decide ((a1.size : Int) > 700))) = some r := by rw [if_pos rfl] at H; exact H
      clear H
      have H := H1
      clear H1
      have H' := Aside0.mk H
      clear H
      go_wp2_with (first | ((with_reducible refine gate_callee (f := 44) rfl ?_); refine goesL_ (some 19) rfl rfl Try.func44 (by kernel_rfl) rfl #[.slice A0 l0.length c0, .int .i64 20, .int .i64 20] rfl (by (try simp only [List.map_toArray, List.map_cons, List.map_nil]); first | done | rfl | (simp only [List.length_drop, List.length_take]; rfl)) ?_; (with_reducible refine (chainmanref10_Few.calls k _ _ l0 20 20 true _ ?side1 ?side2 A4.out).mono ?_); (case side1 => repeat (first | exact (Kd.C_below HR0.out HB.out) | (with_reducible refine Kd.C_alloc ?_ _) | (with_reducible refine Kd.C_drewN ?_ _) | (with_reducible refine Kd.C_drew ?_))); (case side2 => exact HC0.out); rintro e w' ⟨rfl, ⟨nd, rfl⟩⟩; refine ⟨_, rfl, ?_⟩) | (go_at_call 44; refine calls_of_args (args' := #[.slice A0 l0.length c0, .int .i64 20, .int .i64 20]) (by first | rfl) ?_; (with_reducible refine (chainmanref10_Few.calls k _ _ l0 20 20 true _ ?side1 ?side2 A4.out).mono ?_); (case side1 => repeat (first | exact (Kd.C_below HR0.out HB.out) | (with_reducible refine Kd.C_alloc ?_ _) | (with_reducible refine Kd.C_drewN ?_ _) | (with_reducible refine Kd.C_drew ?_))); (case side2 => exact HC0.out); rintro e w' ⟨rfl, ⟨nd, rfl⟩⟩))
      go_meet
      case rel => exact ⟨_, (decide ((a1.size : Int) > 700)), (by first | rfl | (simp; done) | (simp [*]; done)), H', ⟨by first | omega | exact Nat.le_refl _⟩, ⟨by repeat (first | (with_reducible first | exact HB.out | apply below_alloc | apply pw_below_drewN | apply below_drew1) | exact HB.out)⟩⟩
    · replace c5 := Bool.eq_false_iff.mpr c5
      subst c5
      have H1 : (chainmanlaw10_DatasetBack.j0 k l0 a1 true) = some r := by rw [if_neg (show ¬ (false = true) by decide)] at H; exact H
      clear H
      have H := H1
      clear H1
      have H' := Aside0.mk H
      clear H
      go_wp2_with (first | ((with_reducible refine gate_callee (f := 44) rfl ?_); refine goesL_ (some 19) rfl rfl Try.func44 (by kernel_rfl) rfl #[.slice A0 l0.length c0, .int .i64 20, .int .i64 20] rfl (by (try simp only [List.map_toArray, List.map_cons, List.map_nil]); first | done | rfl | (simp only [List.length_drop, List.length_take]; rfl)) ?_; (with_reducible refine (chainmanref10_Few.calls k _ _ l0 20 20 false _ ?side1 ?side2 A4.out).mono ?_); (case side1 => repeat (first | exact (Kd.C_below HR0.out HB.out) | (with_reducible refine Kd.C_alloc ?_ _) | (with_reducible refine Kd.C_drewN ?_ _) | (with_reducible refine Kd.C_drew ?_))); (case side2 => exact HC0.out); rintro e w' ⟨rfl, ⟨nd, rfl⟩⟩; refine ⟨_, rfl, ?_⟩) | (go_at_call 44; refine calls_of_args (args' := #[.slice A0 l0.length c0, .int .i64 20, .int .i64 20]) (by first | rfl) ?_; (with_reducible refine (chainmanref10_Few.calls k _ _ l0 20 20 false _ ?side1 ?side2 A4.out).mono ?_); (case side1 => repeat (first | exact (Kd.C_below HR0.out HB.out) | (with_reducible refine Kd.C_alloc ?_ _) | (with_reducible refine Kd.C_drewN ?_ _) | (with_reducible refine Kd.C_drew ?_))); (case side2 => exact HC0.out); rintro e w' ⟨rfl, ⟨nd, rfl⟩⟩))
      go_meet
      case rel => exact ⟨_, (true), (by first | rfl | (simp; done) | (simp [*]; done)), H', ⟨by first | omega | exact Nat.le_refl _⟩, ⟨by repeat (first | (with_reducible first | exact HB.out | apply below_alloc | apply pw_below_drewN | apply below_drew1) | exact HB.out)⟩⟩
  case rest =>
    clear HC3
    try clear p2
    try clear c4
    try clear c5
    obtain ⟨kq, x25_2, rfl, HA, HJ2, HB⟩ := hcut
    cases kq with
    | zero => exact absurd HA.out (by simp [chainmanlaw10_DatasetBack.j0])
    | succ kj2 =>
      have H := HA.out
      clear HA
      simp only [chainmanlaw10_DatasetBack.j0] at H
      by_cases c6 : x25_2 = true
      · subst c6
        have H1 : ((chainmanlaw10_awake.f kj2).bind fun t162 => (some t162)) = some r := by rw [if_pos rfl] at H; exact H
        clear H
        have H := H1
        clear H1
        replace H := Option.bind_eq_some_iff.mp H
        obtain ⟨t162, A70, H⟩ := H
        replace H : (some t162) = some r := H
        have A7 := Aside0.mk A70
        clear A70
        obtain rfl := Option.some.inj H
        go_wp2_with (first | ((with_reducible refine gate_callee (f := 45) rfl ?_); refine goesL_ (some 26) rfl rfl Try.func45 (by kernel_rfl) rfl #[] rfl (by (try simp only [List.map_toArray, List.map_cons, List.map_nil]); first | done | rfl | (simp only [List.length_drop, List.length_take]; rfl)) ?_; (with_reducible refine (chainmanlaw10_awake.calls kj2  t162 _ A7.out).mono ?_); rintro e w8 ⟨rfl, hb⟩; refine ⟨_, rfl, ?_⟩; have n0_ := Aside0.mk (below_step (by repeat (first | (with_reducible first | exact HB.out | apply below_alloc | apply pw_below_drewN | apply below_drew1) | exact HB.out)) hb); clear HB; have HB := n0_; clear n0_; (try clear hb); (try clear hb2); (try clear hk); (try clear hi)))
        go_ret
        exact ⟨by first | rfl | (simp [errW_none, errW_some] <;> rfl) | (simp [*, errW_none, errW_some] <;> rfl), by repeat (first | (with_reducible first | exact HB.out | apply below_alloc | apply pw_below_drewN | apply below_drew1) | exact HB.out)⟩
      · replace c6 := Bool.eq_false_iff.mpr c6
        subst c6
        have H1 : ((dataset_Lay.f l0).bind fun bt163 => ((chainmanref10_Right.f kj2 l0).bind fun t165 => (if (bt163.2 != t165) = true then (none) else (if bt163.2 = true then ((dataset_Parse.f kj2 bt163.1).bind fun bt166 => (if bt166.2 = 0 then ((chainmanref10_Same.f kj2 bt166.1 l0).bind fun t170 => (chainmanlaw10_DatasetBack.j1 kj2 l0 a1 bt163.1 (!t170))) else (chainmanlaw10_DatasetBack.j1 kj2 l0 a1 bt163.1 true))) else (chainmanlaw10_DatasetBack.j4 kj2 a1))))) = some r := by rw [if_neg (show ¬ (false = true) by decide)] at H; exact H
        clear H
        have H := H1
        clear H1
        replace H := Option.bind_eq_some_iff.mp H
        obtain ⟨⟨t163, t164⟩, A90, H⟩ := H
        replace H : ((chainmanref10_Right.f kj2 l0).bind fun t165 => (if (t164 != t165) = true then (none) else (if t164 = true then ((dataset_Parse.f kj2 t163).bind fun bt166 => (if bt166.2 = 0 then ((chainmanref10_Same.f kj2 bt166.1 l0).bind fun t170 => (chainmanlaw10_DatasetBack.j1 kj2 l0 a1 t163 (!t170))) else (chainmanlaw10_DatasetBack.j1 kj2 l0 a1 t163 true))) else (chainmanlaw10_DatasetBack.j4 kj2 a1)))) = some r := H
        have A9 := Aside0.mk A90
        clear A90
        replace H := Option.bind_eq_some_iff.mp H
        obtain ⟨t165, A100, H⟩ := H
        replace H : (if (t164 != t165) = true then (none) else (if t164 = true then ((dataset_Parse.f kj2 t163).bind fun bt166 => (if bt166.2 = 0 then ((chainmanref10_Same.f kj2 bt166.1 l0).bind fun t170 => (chainmanlaw10_DatasetBack.j1 kj2 l0 a1 t163 (!t170))) else (chainmanlaw10_DatasetBack.j1 kj2 l0 a1 t163 true))) else (chainmanlaw10_DatasetBack.j4 kj2 a1))) = some r := H
        have A10 := Aside0.mk A100
        clear A100
        by_cases c11 : (t164 != t165) = true
        · rw [if_pos c11] at H
          exact absurd H (by simp)
        · rw [if_neg c11] at H
          have c11b0 : (t164 != t165) = false := by simpa using c11
          (try (have c11b1 : decide (t164 = t165) = true := by simpa using c11))
          (try (have c11b2 : (t164 == t165) = true := by simpa using c11))
          clear c11
          have HC12 := Aside0.mk H
          clear H
          go_upto_if 36 with (first | ((with_reducible refine gate_callee (f := 46) rfl ?_); refine goesL_ (some 29) rfl rfl Try.func46 (by kernel_rfl) rfl #[.slice A0 l0.length c0] rfl (by (try simp only [List.map_toArray, List.map_cons, List.map_nil]); first | done | rfl | (simp only [List.length_drop, List.length_take]; rfl)) ?_; (with_reducible refine (dataset_Lay.calls _ _ l0 t163 t164 _ ?side1 ?side2 A9.out).mono ?_); (case side1 => repeat (first | exact (Kd.C_below HR0.out HB.out) | (with_reducible refine Kd.C_alloc ?_ _) | (with_reducible refine Kd.C_drewN ?_ _) | (with_reducible refine Kd.C_drew ?_))); (case side2 => exact HC0.out); rintro e w13 ⟨rfl, hb⟩; refine ⟨_, rfl, ?_⟩; have n0_ := Aside0.mk (below_step (by repeat (first | (with_reducible first | exact HB.out | apply below_alloc | apply pw_below_drewN | apply below_drew1) | exact HB.out)) hb); clear HB; have HB := n0_; clear n0_; (try clear hb); (try clear hb2); (try clear hk); (try clear hi)) | ((with_reducible refine gate_callee (f := 47) rfl ?_); refine goesL_ (some 34) rfl rfl Try.func47 (by kernel_rfl) rfl #[.slice A0 l0.length c0] rfl (by (try simp only [List.map_toArray, List.map_cons, List.map_nil]); first | done | rfl | (simp only [List.length_drop, List.length_take]; rfl)) ?_; (with_reducible refine (chainmanref10_Right.calls kj2 _ _ l0 t165 _ ?side1 ?side2 A10.out).mono ?_); (case side1 => repeat (first | exact (Kd.C_below HR0.out HB.out) | (with_reducible refine Kd.C_alloc ?_ _) | (with_reducible refine Kd.C_drewN ?_ _) | (with_reducible refine Kd.C_drew ?_))); (case side2 => exact HC0.out); rintro e w' ⟨rfl, ⟨nd, rfl⟩⟩; refine ⟨_, rfl, ?_⟩) | (go_at_call 47; refine calls_of_args (args' := #[.slice A0 l0.length c0]) (by first | rfl) ?_; (with_reducible refine (chainmanref10_Right.calls kj2 _ _ l0 t165 _ ?side1 ?side2 A10.out).mono ?_); (case side1 => repeat (first | exact (Kd.C_below HR0.out HB.out) | (with_reducible refine Kd.C_alloc ?_ _) | (with_reducible refine Kd.C_drewN ?_ _) | (with_reducible refine Kd.C_drew ?_))); (case side2 => exact HC0.out); rintro e w' ⟨rfl, ⟨nd, rfl⟩⟩))
          (try simp only [Act.put, List.setIfInBounds_toArray, List.set_cons_zero, List.set_cons_succ])
          go_cut [] (fun wc => ∃ (kq : Nat), Aside0 (chainmanlaw10_DatasetBack.j4 kq a1 = some r) ∧ Aside0 (kq ≤ kj2) ∧ Aside0 (Below w.heap.size w wc))
          case first =>
            have H := HC12.out
            clear HC12
            by_cases c14 : t164 = true
            · subst c14
              have H1 : ((dataset_Parse.f kj2 t163).bind fun bt166 => (if bt166.2 = 0 then ((chainmanref10_Same.f kj2 bt166.1 l0).bind fun t170 => (chainmanlaw10_DatasetBack.j1 kj2 l0 a1 t163 (!t170))) else (chainmanlaw10_DatasetBack.j1 kj2 l0 a1 t163 true))) = some r := by rw [if_pos rfl] at H; exact H
              clear H
              have H := H1
              clear H1
              replace H := Option.bind_eq_some_iff.mp H
              obtain ⟨⟨t166, t167⟩, A150, H⟩ := H
              replace H : (if t167 = 0 then ((chainmanref10_Same.f kj2 t166 l0).bind fun t170 => (chainmanlaw10_DatasetBack.j1 kj2 l0 a1 t163 (!t170))) else (chainmanlaw10_DatasetBack.j1 kj2 l0 a1 t163 true)) = some r := H
              have A15 := Aside0.mk A150
              clear A150
              have HC16 := Aside0.mk H
              clear H
              go_upto_region 8 with (first | ((with_reducible refine gate_callee (f := 48) rfl ?_); refine goesL_ (some 39) rfl rfl Try.func48 (by kernel_rfl) rfl #[.string t163] rfl (by (try simp only [List.map_toArray, List.map_cons, List.map_nil]); first | done | rfl | (simp only [List.length_drop, List.length_take]; rfl)) ?_; (with_reducible refine (dataset_Parse.calls kj2 t163 t166 t167 _ A15.out).mono ?_); rintro e w17 ⟨v168, rfl, ho0, hb⟩; refine ⟨_, rfl, ?_⟩; have n0_ := Aside0.mk (Kd.S_lower ho0 (below_size (by repeat (first | (with_reducible first | exact HB.out | apply below_alloc | apply pw_below_drewN | apply below_drew1) | exact HB.out)))); have n1_ := Aside0.mk (below_step (by repeat (first | (with_reducible first | exact HB.out | apply below_alloc | apply pw_below_drewN | apply below_drew1) | exact HB.out)) hb); clear HB; have HO169 := n0_; have HB := n1_; clear n0_ n1_; (try clear hb); (try clear hb2); (try clear hk); (try clear hi); (try clear ho0)))
              (try simp only [Act.put, List.setIfInBounds_toArray, List.set_cons_zero, List.set_cons_succ])
              go_cut [49] (fun v49 wc => ∃ (kq : Nat) (x49_15 : Bool), v49 = .bool x49_15 ∧ Aside0 (chainmanlaw10_DatasetBack.j1 kq l0 a1 t163 x49_15 = some r) ∧ Aside0 (kq ≤ kj2) ∧ Aside0 (Below w.heap.size w wc))
              case first =>
                have H := HC16.out
                clear HC16
                by_cases c18 : t167 = 0
                · rw [if_pos c18] at H
                  have c18b0 : (t167 == 0) = true := beq_iff_eq.mpr c18
                  have c18b1 : (t167 != 0) = false := bne_eq_false_iff_eq.mpr c18
                  clear c18
                  (first | rw [c18b0] | (simp only [i64_w, i32_w]; rw [c18b0]) | skip)
                  replace H := Option.bind_eq_some_iff.mp H
                  obtain ⟨t170, A190, H⟩ := H
                  replace H : (chainmanlaw10_DatasetBack.j1 kj2 l0 a1 t163 (!t170)) = some r := H
                  have A19 := Aside0.mk A190
                  clear A190
                  have H' := Aside0.mk H
                  clear H
                  obtain ⟨Ao20, co20, eo20⟩ := Kd.S_slice HO169.out
                  subst eo20
                  go_wp2_with (first | (go_at_call 49; (with_reducible refine (chainmanref10_Same.calls kj2 _ _ t166 _ _ l0 t170 _ ?side1 ?side2 ?side3 ?side4 A19.out).mono ?_); (case side1 => repeat (first | exact (Kd.S_reads' HO169.out).2.2 | (with_reducible refine Kd.C_alloc ?_ _) | (with_reducible refine Kd.C_drewN ?_ _) | (with_reducible refine Kd.C_drew ?_))); (case side2 => exact (Kd.S_reads' HO169.out).2.1); (case side3 => repeat (first | exact (Kd.C_below HR0.out HB.out) | (with_reducible refine Kd.C_alloc ?_ _) | (with_reducible refine Kd.C_drewN ?_ _) | (with_reducible refine Kd.C_drew ?_))); (case side4 => exact HC0.out); rintro e w' ⟨rfl, ⟨nd, rfl⟩⟩) | (go_at_call 49; refine calls_of_args (args' := #[.slice Ao20 t166.length co20, .slice A0 l0.length c0]) (by first | rfl) ?_; (with_reducible refine (chainmanref10_Same.calls kj2 _ _ t166 _ _ l0 t170 _ ?side1 ?side2 ?side3 ?side4 A19.out).mono ?_); (case side1 => repeat (first | exact (Kd.S_reads' HO169.out).2.2 | (with_reducible refine Kd.C_alloc ?_ _) | (with_reducible refine Kd.C_drewN ?_ _) | (with_reducible refine Kd.C_drew ?_))); (case side2 => exact (Kd.S_reads' HO169.out).2.1); (case side3 => repeat (first | exact (Kd.C_below HR0.out HB.out) | (with_reducible refine Kd.C_alloc ?_ _) | (with_reducible refine Kd.C_drewN ?_ _) | (with_reducible refine Kd.C_drew ?_))); (case side4 => exact HC0.out); rintro e w' ⟨rfl, ⟨nd, rfl⟩⟩))
                  go_meet
                  case rel => exact ⟨_, (!t170), (by first | rfl | (simp; done) | (simp [*]; done)), H', ⟨by have := HJ2.out; first | omega | exact Nat.le_refl _⟩, ⟨by repeat (first | (with_reducible first | exact HB.out | apply below_alloc | apply pw_below_drewN | apply below_drew1) | exact HB.out)⟩⟩
                · rw [if_neg c18] at H
                  have c18b0 : (t167 == 0) = false := beq_eq_false_iff_ne.mpr c18
                  have c18b1 : (t167 != 0) = true := bne_iff_ne.mpr c18
                  (first | rw [c18b0] | (simp only [i64_w, i32_w]; rw [c18b0]) | skip)
                  have H' := Aside0.mk H
                  clear H
                  go_wp2
                  go_meet
                  case rel => exact ⟨_, (true), (by first | rfl | (simp; done) | (simp [*]; done)), H', ⟨by have := HJ2.out; first | omega | exact Nat.le_refl _⟩, ⟨by repeat (first | (with_reducible first | exact HB.out | apply below_alloc | apply pw_below_drewN | apply below_drew1) | exact HB.out)⟩⟩
              case rest =>
                clear HC16
                try clear c1
                try clear p2
                try clear c4
                try clear c5
                try clear c6
                try clear c8
                try clear c11
                try clear c11b0
                try clear c11b1
                try clear c11b2
                try clear c14
                try clear c18
                try clear c18b0
                try clear c18b1
                try clear p2
                obtain ⟨kq, x49_15, rfl, HA, HJ15, HB⟩ := hcut
                cases kq with
                | zero => exact absurd HA.out (by simp [chainmanlaw10_DatasetBack.j1])
                | succ kj15 =>
                  have H := HA.out
                  clear HA
                  simp only [chainmanlaw10_DatasetBack.j1] at H
                  by_cases c21 : x49_15 = true
                  · subst c21
                    have H1 : (none) = some r := by rw [if_pos rfl] at H; exact H
                    clear H
                    have H := H1
                    clear H1
                    exact absurd H (by simp)
                  · replace c21 := Bool.eq_false_iff.mpr c21
                    subst c21
                    have H1 : (if 0 < (l0.length : Int) then (chainmanlaw10_DatasetBack.l0 kj15 l0 a1 t163 ((rd_L1 l0 0).length : Int) 0) else (none)) = some r := by rw [if_neg (show ¬ (false = true) by decide)] at H; exact H
                    clear H
                    have H := H1
                    clear H1
                    by_cases c22 : 0 < (l0.length : Int)
                    · rw [if_pos c22] at H
                      have c22b0 : decide (0 < (l0.length : Int)) = true := decide_eq_true c22
                      have c22b1 : decide (0 < l0.length) = true := decide_eq_true (by omega)
                      clear c22
                      have H' := Aside0.mk H
                      clear H
                      have p171 : 0 ≤ (0 : Int) := (by omega)
                      have q171 : 0 < (l0.length : Int) := of_decide_eq_true (by first | (with_reducible assumption) | assumption)
                      obtain ⟨ad171, A171_0, c171_0, e171, hx171_0, hl171_0, hi171_0⟩ := at_L1 HR0.out 0 p171 q171
                      cases e171
                      have qi171 : (0 < l0.length) = True := eq_true (by omega)
                      (try rw [show ((0 : Int)).toNat = 0 from rfl] at hx171_0)
                      (try rw [Addr.add_zero'] at hx171_0)
                      replace hx171_0 := (HB.out.cell (World.block_lt_of_cell? w _ hx171_0)).trans hx171_0
                      have HR171_0 := Aside0.mk hi171_0
                      have HC171_0 := Aside0.mk hl171_0
                      clear hi171_0 hl171_0
                      replace p171 := eq_true p171
                      replace q171 := eq_true q171
                      go_wp2
                      go_loopg [10] kj15 (fun kq v10 w' => ∃ (x10_3 : Int), v10 = .int .i64 x10_3 ∧ Aside0 (chainmanlaw10_DatasetBack.l0 kq l0 a1 t163 ((rd_L1 l0 0).length : Int) x10_3 = some r) ∧ Aside0 (kq ≤ kj15) ∧ Aside0 (Below w.heap.size w w'))
                      case atStart => exact ⟨(0), (by first | rfl | (simp; done) | (simp [*]; done)), H', ⟨Nat.le_refl _⟩, ⟨by repeat (first | (with_reducible first | exact HB.out | apply below_alloc | apply pw_below_drewN | apply below_drew1) | exact HB.out)⟩⟩
                      case round =>
                        clear H'
                        try clear c1
                        try clear p1
                        try clear q1
                        try clear hx1
                        try clear qi1
                        try clear c2
                        try clear p2
                        try clear c4
                        try clear c5
                        try clear c6
                        try clear c8
                        try clear c11
                        try clear c11b0
                        try clear c11b1
                        try clear c11b2
                        try clear c14
                        try clear c17
                        try clear p17
                        try clear q17
                        try clear hx17
                        try clear qi17
                        try clear c18
                        try clear c18b0
                        try clear c18b1
                        try clear c21
                        try clear c22
                        try clear c22b0
                        try clear c22b1
                        try clear hx171_0
                        try clear p171
                        try clear p2
                        try clear q171
                        obtain ⟨x10_3, rfl, HA, HK3, HB⟩ := hrel
                        cases gk with
                        | zero => exact absurd HA.out (by simp [chainmanlaw10_DatasetBack.l0])
                        | succ k3 =>
                          have H := HA.out
                          clear HA
                          simp only [chainmanlaw10_DatasetBack.l0] at H
                          by_cases c23 : x10_3 < (l0.length : Int)
                          · rw [if_pos c23] at H
                            have c23b0 : decide (x10_3 < (l0.length : Int)) = true := decide_eq_true c23
                            clear c23
                            replace H := Option.bind_eq_some_iff.mp H
                            obtain ⟨t172, A240, H⟩ := H
                            replace H : (if t172 < 10 then (chainmanlaw10_DatasetBack.j3 k3 l0 a1 t163 ((rd_L1 l0 0).length : Int) x10_3 t172 true) else (chainmanlaw10_DatasetBack.j3 k3 l0 a1 t163 ((rd_L1 l0 0).length : Int) x10_3 t172 (decide (t172 > (wrap64 ((t163.size : Int) - (wrap64 (4 * ((rd_L1 l0 0).length : Int))))))))) = some r := H
                            have A24 := Aside0.mk A240
                            clear A240
                            have HC25 := Aside0.mk H
                            clear H
                            go_upto_region 15 with (first | ((with_reducible refine gate_callee (f := 50) rfl ?_); refine goesL_ (some 62) rfl rfl Try.func50 (by kernel_rfl) rfl #[.int .i64 ((rd_L1 l0 0).length : Int), .int .i64 x10_3] rfl (by (try simp only [List.map_toArray, List.map_cons, List.map_nil]); first | done | rfl | (simp only [List.length_drop, List.length_take]; rfl)) ?_; (with_reducible refine (dataset_Place.calls ((rd_L1 l0 0).length : Int) x10_3 t172 _ A24.out).mono ?_); rintro e w' ⟨rfl, ⟨nd, rfl⟩⟩; refine ⟨_, rfl, ?_⟩) | (go_at_call 50; refine calls_of_args (args' := #[.int .i64 ((rd_L1 l0 0).length : Int), .int .i64 x10_3]) (by first | rfl) ?_; (with_reducible refine (dataset_Place.calls ((rd_L1 l0 0).length : Int) x10_3 t172 _ A24.out).mono ?_); rintro e w' ⟨rfl, ⟨nd, rfl⟩⟩))
                            (try simp only [Act.put, List.setIfInBounds_toArray, List.set_cons_zero, List.set_cons_succ])
                            go_cut [73] (fun v73 wc => ∃ (kq : Nat) (x73_24 : Bool), v73 = .bool x73_24 ∧ Aside0 (chainmanlaw10_DatasetBack.j3 kq l0 a1 t163 ((rd_L1 l0 0).length : Int) x10_3 t172 x73_24 = some r) ∧ Aside0 (kq ≤ k3) ∧ Aside0 (Below w.heap.size w wc))
                            case first =>
                              have H := HC25.out
                              clear HC25
                              by_cases c26 : t172 < 10
                              · rw [if_pos c26] at H
                                have c26b0 : decide (t172 < 10) = true := decide_eq_true c26
                                clear c26
                                (first | rw [c26b0] | (simp only [i64_w, i32_w]; rw [c26b0]) | skip)
                                have H' := Aside0.mk H
                                clear H
                                go_wp2
                                go_meet
                                case rel => exact ⟨_, (true), (by first | rfl | (simp; done) | (simp [*]; done)), H', ⟨by have := HJ2.out; have := HJ15.out; have := HK3.out; first | omega | exact Nat.le_refl _⟩, ⟨by repeat (first | (with_reducible first | exact HB.out | apply below_alloc | apply pw_below_drewN | apply below_drew1) | exact HB.out)⟩⟩
                              · rw [if_neg c26] at H
                                have c26b0 : decide (t172 < 10) = false := decide_eq_false c26
                                clear c26
                                (first | rw [c26b0] | (simp only [i64_w, i32_w]; rw [c26b0]) | skip)
                                have H' := Aside0.mk H
                                clear H
                                go_wp2
                                go_meet
                                case rel => exact ⟨_, (decide (t172 > (wrap64 ((t163.size : Int) - (wrap64 (4 * ((rd_L1 l0 0).length : Int))))))), (by first | rfl | (simp; done) | (simp [*]; done)), H', ⟨by have := HJ2.out; have := HJ15.out; have := HK3.out; first | omega | exact Nat.le_refl _⟩, ⟨by repeat (first | (with_reducible first | exact HB.out | apply below_alloc | apply pw_below_drewN | apply below_drew1) | exact HB.out)⟩⟩
                            case rest =>
                              clear HC25
                              try clear c1
                              try clear p1
                              try clear q1
                              try clear hx1
                              try clear qi1
                              try clear c2
                              try clear p2
                              try clear c4
                              try clear c5
                              try clear c6
                              try clear p6
                              try clear c8
                              try clear c11
                              try clear c11b0
                              try clear c11b1
                              try clear c11b2
                              try clear c14
                              try clear c17
                              try clear p17
                              try clear q17
                              try clear hx17
                              try clear qi17
                              try clear c18
                              try clear c18b0
                              try clear c18b1
                              try clear c21
                              try clear c22
                              try clear c22b0
                              try clear c22b1
                              try clear c23
                              try clear c23b0
                              try clear c26
                              try clear c26b0
                              try clear hx171_0
                              try clear p1
                              try clear p17
                              try clear p171
                              try clear p2
                              try clear q1
                              try clear q17
                              try clear q171
                              obtain ⟨kq, x73_24, rfl, HA, HJ24, HB⟩ := hcut
                              cases kq with
                              | zero => exact absurd HA.out (by simp [chainmanlaw10_DatasetBack.j3])
                              | succ kj24 =>
                                have H := HA.out
                                clear HA
                                simp only [chainmanlaw10_DatasetBack.j3] at H
                                by_cases c27 : x73_24 = true
                                · subst c27
                                  have H1 : (none) = some r := by rw [if_pos rfl] at H; exact H
                                  clear H
                                  have H := H1
                                  clear H1
                                  exact absurd H (by simp)
                                · replace c27 := Bool.eq_false_iff.mpr c27
                                  subst c27
                                  have H1 : (if 0 ≤ t172 then (if t172 ≤ (wrap64 (t172 + (wrap64 (4 * ((rd_L1 l0 0).length : Int))))) then (if (wrap64 (t172 + (wrap64 (4 * ((rd_L1 l0 0).length : Int))))) ≤ (t163.size : Int) then ((dataset_Vector.f kj24 (t163.extract (t172 : Int).toNat ((wrap64 (t172 + (wrap64 (4 * ((rd_L1 l0 0).length : Int))))) : Int).toNat) ((rd_L1 l0 0).length : Int)).bind fun bt173 => (if bt173.2 = true then (if 0 ≤ x10_3 then (if x10_3 < (l0.length : Int) then ((chainmanref10_SameList.f kj24 bt173.1 (rd_L1 l0 x10_3)).bind fun t178 => (if t178 = true then (chainmanlaw10_DatasetBack.l0 kj24 l0 a1 t163 ((rd_L1 l0 0).length : Int) (wrap64 (x10_3 + 1))) else (none))) else (none)) else (none)) else (none))) else (none)) else (none)) else (none)) = some r := by rw [if_neg (show ¬ (false = true) by decide)] at H; exact H
                                  clear H
                                  have H := H1
                                  clear H1
                                  by_cases c28 : 0 ≤ t172
                                  · rw [if_pos c28] at H
                                    have c28b0 := eq_true c28
                                    have c28b1 : decide (0 ≤ t172) = true := decide_eq_true c28
                                    clear c28
                                    by_cases c29 : t172 ≤ (wrap64 (t172 + (wrap64 (4 * ((rd_L1 l0 0).length : Int)))))
                                    · rw [if_pos c29] at H
                                      have c29b0 := eq_true c29
                                      have c29b1 : decide (t172 ≤ (wrap64 (t172 + (wrap64 (4 * ((rd_L1 l0 0).length : Int)))))) = true := decide_eq_true c29
                                      by_cases c30 : (wrap64 (t172 + (wrap64 (4 * ((rd_L1 l0 0).length : Int))))) ≤ (t163.size : Int)
                                      · rw [if_pos c30] at H
                                        have c30b0 := eq_true c30
                                        have c30b1 : decide ((wrap64 (t172 + (wrap64 (4 * ((rd_L1 l0 0).length : Int))))) ≤ (t163.size : Int)) = true := decide_eq_true c30
                                        replace H := Option.bind_eq_some_iff.mp H
                                        obtain ⟨⟨t173, t174⟩, A310, H⟩ := H
                                        replace H : (if t174 = true then (if 0 ≤ x10_3 then (if x10_3 < (l0.length : Int) then ((chainmanref10_SameList.f kj24 t173 (rd_L1 l0 x10_3)).bind fun t178 => (if t178 = true then (chainmanlaw10_DatasetBack.l0 kj24 l0 a1 t163 ((rd_L1 l0 0).length : Int) (wrap64 (x10_3 + 1))) else (none))) else (none)) else (none)) else (none)) = some r := H
                                        have A31 := Aside0.mk A310
                                        clear A310
                                        by_cases c32 : t174 = true
                                        · subst c32
                                          have H1 : (if 0 ≤ x10_3 then (if x10_3 < (l0.length : Int) then ((chainmanref10_SameList.f kj24 t173 (rd_L1 l0 x10_3)).bind fun t178 => (if t178 = true then (chainmanlaw10_DatasetBack.l0 kj24 l0 a1 t163 ((rd_L1 l0 0).length : Int) (wrap64 (x10_3 + 1))) else (none))) else (none)) else (none)) = some r := by rw [if_pos rfl] at H; exact H
                                          clear H
                                          have H := H1
                                          clear H1
                                          by_cases c33 : 0 ≤ x10_3
                                          · rw [if_pos c33] at H
                                            have c33b0 : decide (0 ≤ x10_3) = true := decide_eq_true c33
                                            clear c33
                                            by_cases c34 : x10_3 < (l0.length : Int)
                                            · rw [if_pos c34] at H
                                              have c34b0 : decide (x10_3 < (l0.length : Int)) = true := decide_eq_true c34
                                              clear c34
                                              replace H := Option.bind_eq_some_iff.mp H
                                              obtain ⟨t178, A350, H⟩ := H
                                              replace H : (if t178 = true then (chainmanlaw10_DatasetBack.l0 kj24 l0 a1 t163 ((rd_L1 l0 0).length : Int) (wrap64 (x10_3 + 1))) else (none)) = some r := H
                                              have A35 := Aside0.mk A350
                                              clear A350
                                              by_cases c36 : t178 = true
                                              · subst c36
                                                have H1 : (chainmanlaw10_DatasetBack.l0 kj24 l0 a1 t163 ((rd_L1 l0 0).length : Int) (wrap64 (x10_3 + 1))) = some r := by rw [if_pos rfl] at H; exact H
                                                clear H
                                                have H := H1
                                                clear H1
                                                have H' := Aside0.mk H
                                                clear H
                                                go_wp2_with (first | ((with_reducible refine gate_callee (f := 51) rfl ?_); refine goesL_ (some 83) rfl rfl Try.func51 (by kernel_rfl) rfl #[.string (t163.extract (t172 : Int).toNat ((wrap64 (t172 + (wrap64 (4 * ((rd_L1 l0 0).length : Int))))) : Int).toNat), .int .i64 ((rd_L1 l0 0).length : Int)] rfl (by (try simp only [List.map_toArray, List.map_cons, List.map_nil]); first | done | rfl | (simp only [List.length_drop, List.length_take]; rfl)) ?_; (with_reducible refine (dataset_Vector.calls kj24 (t163.extract (t172 : Int).toNat ((wrap64 (t172 + (wrap64 (4 * ((rd_L1 l0 0).length : Int))))) : Int).toNat) ((rd_L1 l0 0).length : Int) t173 true _ A31.out).mono ?_); rintro e w37 ⟨v175, rfl, ho0, hb⟩; refine ⟨_, rfl, ?_⟩; have n0_ := Aside0.mk (Kd.R_lower ho0 (below_size (by repeat (first | (with_reducible first | exact HB.out | apply below_alloc | apply pw_below_drewN | apply below_drew1) | exact HB.out)))); have n1_ := Aside0.mk (below_step (by repeat (first | (with_reducible first | exact HB.out | apply below_alloc | apply pw_below_drewN | apply below_drew1) | exact HB.out)) hb); clear HB; have HO176 := n0_; have HB := n1_; clear n0_ n1_; (try clear hb); (try clear hb2); (try clear hk); (try clear hi); (try clear ho0); have p177 : 0 ≤ (x10_3 : Int) := of_decide_eq_true (by first | (with_reducible assumption) | assumption); have q177 : x10_3 < (l0.length : Int) := of_decide_eq_true (by first | (with_reducible assumption) | assumption); obtain ⟨ad177, A177_0, c177_0, e177, hx177_0, hl177_0, hi177_0⟩ := at_L1 HR0.out x10_3 p177 q177; obtain rfl : ad171 = ad177 := (by injection e177); replace hx177_0 := (HB.out.cell (World.block_lt_of_cell? w _ hx177_0)).trans hx177_0; have HR177_0 := Aside0.mk hi177_0; have HC177_0 := Aside0.mk hl177_0; clear hi177_0 hl177_0; replace p177 := eq_true p177; replace q177 := eq_true q177; obtain ⟨Ao38, co38, eo38⟩ := Kd.R_slice HO176.out; subst eo38) | (go_at_call 52; (with_reducible refine (chainmanref10_SameList.calls kj24 _ _ t173 _ _ (rd_L1 l0 x10_3) true _ ?side1 ?side2 ?side3 ?side4 A35.out).mono ?_); (case side1 => repeat (first | exact (Kd.R_reads' HO176.out).2.2 | (with_reducible refine Kd.C_alloc ?_ _) | (with_reducible refine Kd.C_drewN ?_ _) | (with_reducible refine Kd.C_drew ?_))); (case side2 => exact (Kd.R_reads' HO176.out).2.1); (case side3 => repeat (first | exact (Kd.C_below HR177_0.out HB.out) | (with_reducible refine Kd.C_alloc ?_ _) | (with_reducible refine Kd.C_drewN ?_ _) | (with_reducible refine Kd.C_drew ?_))); (case side4 => exact HC177_0.out); rintro e w' ⟨rfl, ⟨nd, rfl⟩⟩) | (go_at_call 52; refine calls_of_args (args' := #[.slice Ao38 t173.length co38, .slice A177_0 (rd_L1 l0 x10_3).length c177_0]) (by first | rfl) ?_; (with_reducible refine (chainmanref10_SameList.calls kj24 _ _ t173 _ _ (rd_L1 l0 x10_3) true _ ?side1 ?side2 ?side3 ?side4 A35.out).mono ?_); (case side1 => repeat (first | exact (Kd.R_reads' HO176.out).2.2 | (with_reducible refine Kd.C_alloc ?_ _) | (with_reducible refine Kd.C_drewN ?_ _) | (with_reducible refine Kd.C_drew ?_))); (case side2 => exact (Kd.R_reads' HO176.out).2.1); (case side3 => repeat (first | exact (Kd.C_below HR177_0.out HB.out) | (with_reducible refine Kd.C_alloc ?_ _) | (with_reducible refine Kd.C_drewN ?_ _) | (with_reducible refine Kd.C_drew ?_))); (case side4 => exact HC177_0.out); rintro e w' ⟨rfl, ⟨nd, rfl⟩⟩))
                                                go_roundg kj24
                                                case measure => have := HJ2.out; have := HJ15.out; have := HK3.out; have := HJ24.out; omega
                                                case rel => exact ⟨(wrap64 (x10_3 + 1)), (by first | rfl | (simp; done) | (simp [*]; done)), H', ⟨by have := HJ2.out; have := HJ15.out; have := HK3.out; have := HJ24.out; omega⟩, ⟨by repeat (first | (with_reducible first | exact HB.out | apply below_alloc | apply pw_below_drewN | apply below_drew1) | exact HB.out)⟩⟩
                                              · replace c36 := Bool.eq_false_iff.mpr c36
                                                subst c36
                                                have H1 : (none) = some r := by rw [if_neg (show ¬ (false = true) by decide)] at H; exact H
                                                clear H
                                                have H := H1
                                                clear H1
                                                exact absurd H (by simp)
                                            · rw [if_neg c34] at H
                                              exact absurd H (by simp)
                                          · rw [if_neg c33] at H
                                            exact absurd H (by simp)
                                        · replace c32 := Bool.eq_false_iff.mpr c32
                                          subst c32
                                          have H1 : (none) = some r := by rw [if_neg (show ¬ (false = true) by decide)] at H; exact H
                                          clear H
                                          have H := H1
                                          clear H1
                                          exact absurd H (by simp)
                                      · rw [if_neg c30] at H
                                        exact absurd H (by simp)
                                    · rw [if_neg c29] at H
                                      exact absurd H (by simp)
                                  · rw [if_neg c28] at H
                                    exact absurd H (by simp)
                          · rw [if_neg c23] at H
                            have c23b0 : decide (x10_3 < (l0.length : Int)) = false := decide_eq_false c23
                            clear c23
                            have H' := Aside0.mk H
                            clear H
                            go_wp2
                            go_meet
                            case rel => exact ⟨_, H', ⟨by have := HJ2.out; have := HJ15.out; have := HK3.out; first | omega | exact Nat.le_refl _⟩, ⟨by repeat (first | (with_reducible first | exact HB.out | apply below_alloc | apply pw_below_drewN | apply below_drew1) | exact HB.out)⟩⟩
                    · rw [if_neg c22] at H
                      exact absurd H (by simp)
            · replace c14 := Bool.eq_false_iff.mpr c14
              subst c14
              have H1 : (chainmanlaw10_DatasetBack.j4 kj2 a1) = some r := by rw [if_neg (show ¬ (false = true) by decide)] at H; exact H
              clear H
              have H := H1
              clear H1
              have H' := Aside0.mk H
              clear H
              go_wp2
              go_meet
              case rel => exact ⟨_, H', ⟨by have := HJ2.out; first | omega | exact Nat.le_refl _⟩, ⟨by repeat (first | (with_reducible first | exact HB.out | apply below_alloc | apply pw_below_drewN | apply below_drew1) | exact HB.out)⟩⟩
          case rest =>
            clear HC12
            try clear c1
            try clear p1
            try clear q1
            try clear hx1
            try clear qi1
            try clear c2
            try clear p2
            try clear c3
            try clear c4
            try clear c5
            try clear c6
            try clear p6
            try clear c8
            try clear c11
            try clear c11b0
            try clear c11b1
            try clear c11b2
            try clear c14
            try clear c17
            try clear p17
            try clear q17
            try clear hx17
            try clear qi17
            try clear c18
            try clear c18b0
            try clear c18b1
            try clear c21
            try clear c22
            try clear c22b0
            try clear c22b1
            try clear c23
            try clear c23b0
            try clear c26
            try clear c26b0
            try clear c27
            try clear c28
            try clear c28b0
            try clear c28b1
            try clear c29
            try clear c29b0
            try clear c29b1
            try clear c30
            try clear c30b0
            try clear c30b1
            try clear c32
            try clear c33
            try clear c33b0
            try clear c34
            try clear c34b0
            try clear c36
            try clear hx171_0
            try clear hx177_0
            try clear p1
            try clear p17
            try clear p171
            try clear p177
            try clear p2
            try clear p6
            try clear q1
            try clear q17
            try clear q171
            try clear q177
            obtain ⟨kq, HA, HJ11, HB⟩ := hcut
            cases kq with
            | zero => exact absurd HA.out (by simp [chainmanlaw10_DatasetBack.j4])
            | succ kj11 =>
              have H := HA.out
              clear HA
              simp only [chainmanlaw10_DatasetBack.j4] at H
              replace H := Option.bind_eq_some_iff.mp H
              obtain ⟨⟨t179, t180⟩, A390, H⟩ := H
              replace H : (if t180 = 0 then ((dataset_Lay.f t179).bind fun bt183 => (if bt183.2 = true then (if bt183.1.toList = a1.toList then ((chainmanlaw10_awake.f kj11).bind fun t185 => (some t185)) else (none)) else (none))) else (if t180 = 7 then (if (t179.length : Int) = 0 then ((chainmanlaw10_awake.f kj11).bind fun t186 => (some t186)) else (none)) else (none))) = some r := H
              have A39 := Aside0.mk A390
              clear A390
              by_cases c40 : t180 = 0
              · rw [if_pos c40] at H
                have c40b0 : (t180 == 0) = true := beq_iff_eq.mpr c40
                have c40b1 : (t180 != 0) = false := bne_eq_false_iff_eq.mpr c40
                clear c40
                replace H := Option.bind_eq_some_iff.mp H
                obtain ⟨⟨t183, t184⟩, A410, H⟩ := H
                replace H : (if t184 = true then (if t183.toList = a1.toList then ((chainmanlaw10_awake.f kj11).bind fun t185 => (some t185)) else (none)) else (none)) = some r := H
                have A41 := Aside0.mk A410
                clear A410
                by_cases c42 : t184 = true
                · subst c42
                  have H1 : (if t183.toList = a1.toList then ((chainmanlaw10_awake.f kj11).bind fun t185 => (some t185)) else (none)) = some r := by rw [if_pos rfl] at H; exact H
                  clear H
                  have H := H1
                  clear H1
                  by_cases c43 : t183.toList = a1.toList
                  · rw [if_pos c43] at H
                    have c43b0 : (t183.toList == a1.toList) = true := beq_iff_eq.mpr c43
                    have c43b1 : (t183.toList != a1.toList) = false := bne_eq_false_iff_eq.mpr c43
                    clear c43
                    replace H := Option.bind_eq_some_iff.mp H
                    obtain ⟨t185, A440, H⟩ := H
                    replace H : (some t185) = some r := H
                    have A44 := Aside0.mk A440
                    clear A440
                    obtain rfl := Option.some.inj H
                    go_wp2_with (first | ((with_reducible refine gate_callee (f := 48) rfl ?_); refine goesL_ (some 99) rfl rfl Try.func48 (by kernel_rfl) rfl #[.string a1] rfl (by (try simp only [List.map_toArray, List.map_cons, List.map_nil]); first | done | rfl | (simp only [List.length_drop, List.length_take]; rfl)) ?_; (with_reducible refine (dataset_Parse.calls kj11 a1 t179 t180 _ A39.out).mono ?_); rintro e w45 ⟨v181, rfl, ho0, hb⟩; refine ⟨_, rfl, ?_⟩; have n0_ := Aside0.mk (Kd.S_lower ho0 (below_size (by repeat (first | (with_reducible first | exact HB.out | apply below_alloc | apply pw_below_drewN | apply below_drew1) | exact HB.out)))); have n1_ := Aside0.mk (below_step (by repeat (first | (with_reducible first | exact HB.out | apply below_alloc | apply pw_below_drewN | apply below_drew1) | exact HB.out)) hb); clear HB; have HO182 := n0_; have HB := n1_; clear n0_ n1_; (try clear hb); (try clear hb2); (try clear hk); (try clear hi); (try clear ho0); obtain ⟨Ao46, co46, eo46⟩ := Kd.S_slice HO182.out; subst eo46) | ((with_reducible refine gate_callee (f := 46) rfl ?_); refine goesL_ (some 116) rfl rfl Try.func46 (by kernel_rfl) rfl #[.slice Ao46 t179.length co46] rfl (by (try simp only [List.map_toArray, List.map_cons, List.map_nil]); first | done | rfl | (simp only [List.length_drop, List.length_take]; rfl)) ?_; (with_reducible refine (dataset_Lay.calls _ _ t179 t183 true _ ?side1 ?side2 A41.out).mono ?_); (case side1 => repeat (first | exact (Kd.S_reads' HO182.out).2.2 | (with_reducible refine Kd.C_alloc ?_ _) | (with_reducible refine Kd.C_drewN ?_ _) | (with_reducible refine Kd.C_drew ?_))); (case side2 => exact (Kd.S_reads' HO182.out).2.1); rintro e w47 ⟨rfl, hb⟩; refine ⟨_, rfl, ?_⟩; have n0_ := Aside0.mk (Kd.S_below (by (with_reducible repeat (first | apply Kd.S_alloc | apply Kd.S_drewN | apply Kd.S_drew)); exact HO182.out) hb); have n1_ := Aside0.mk (below_step (by repeat (first | (with_reducible first | exact HB.out | apply below_alloc | apply pw_below_drewN | apply below_drew1) | exact HB.out)) hb); clear HO182; clear HB; have HO182 := n0_; have HB := n1_; clear n0_ n1_; (try clear hb); (try clear hb2); (try clear hk); (try clear hi)) | (go_at_call 45; (with_reducible refine (chainmanlaw10_awake.calls kj11  t185 _ A44.out).mono ?_); rintro e w48 ⟨rfl, hb⟩; have n0_ := Aside0.mk (Kd.S_below (by (with_reducible repeat (first | apply Kd.S_alloc | apply Kd.S_drewN | apply Kd.S_drew)); exact HO182.out) hb); have n1_ := Aside0.mk (below_step (by repeat (first | (with_reducible first | exact HB.out | apply below_alloc | apply pw_below_drewN | apply below_drew1) | exact HB.out)) hb); clear HO182; clear HB; have HO182 := n0_; have HB := n1_; clear n0_ n1_; (try clear hb); (try clear hb2); (try clear hk); (try clear hi)))
                    go_ret
                    exact ⟨by first | rfl | (simp [errW_none, errW_some] <;> rfl) | (simp [*, errW_none, errW_some] <;> rfl), by repeat (first | (with_reducible first | exact HB.out | apply below_alloc | apply pw_below_drewN | apply below_drew1) | exact HB.out)⟩
                  · rw [if_neg c43] at H
                    exact absurd H (by simp)
                · replace c42 := Bool.eq_false_iff.mpr c42
                  subst c42
                  have H1 : (none) = some r := by rw [if_neg (show ¬ (false = true) by decide)] at H; exact H
                  clear H
                  have H := H1
                  clear H1
                  exact absurd H (by simp)
              · rw [if_neg c40] at H
                have c40b0 : (t180 == 0) = false := beq_eq_false_iff_ne.mpr c40
                have c40b1 : (t180 != 0) = true := bne_iff_ne.mpr c40
                by_cases c49 : t180 = 7
                · rw [if_pos c49] at H
                  have c49b0 : (t180 == 7) = true := beq_iff_eq.mpr c49
                  have c49b1 : (t180 != 7) = false := bne_eq_false_iff_eq.mpr c49
                  clear c49
                  by_cases c50 : (t179.length : Int) = 0
                  · rw [if_pos c50] at H
                    have c50b0 : ((t179.length : Int) == 0) = true := beq_iff_eq.mpr c50
                    have c50b1 : ((t179.length : Int) != 0) = false := bne_eq_false_iff_eq.mpr c50
                    clear c50
                    replace H := Option.bind_eq_some_iff.mp H
                    obtain ⟨t186, A510, H⟩ := H
                    replace H : (some t186) = some r := H
                    have A51 := Aside0.mk A510
                    clear A510
                    obtain rfl := Option.some.inj H
                    go_wp2_with (first | ((with_reducible refine gate_callee (f := 48) rfl ?_); refine goesL_ (some 99) rfl rfl Try.func48 (by kernel_rfl) rfl #[.string a1] rfl (by (try simp only [List.map_toArray, List.map_cons, List.map_nil]); first | done | rfl | (simp only [List.length_drop, List.length_take]; rfl)) ?_; (with_reducible refine (dataset_Parse.calls kj11 a1 t179 t180 _ A39.out).mono ?_); rintro e w52 ⟨v181, rfl, ho0, hb⟩; refine ⟨_, rfl, ?_⟩; have n0_ := Aside0.mk (Kd.S_lower ho0 (below_size (by repeat (first | (with_reducible first | exact HB.out | apply below_alloc | apply pw_below_drewN | apply below_drew1) | exact HB.out)))); have n1_ := Aside0.mk (below_step (by repeat (first | (with_reducible first | exact HB.out | apply below_alloc | apply pw_below_drewN | apply below_drew1) | exact HB.out)) hb); clear HB; have HO182 := n0_; have HB := n1_; clear n0_ n1_; (try clear hb); (try clear hb2); (try clear hk); (try clear hi); (try clear ho0); obtain ⟨Ao53, co53, eo53⟩ := Kd.S_slice HO182.out; subst eo53) | (go_at_call 45; (with_reducible refine (chainmanlaw10_awake.calls kj11  t186 _ A51.out).mono ?_); rintro e w54 ⟨rfl, hb⟩; have n0_ := Aside0.mk (Kd.S_below (by (with_reducible repeat (first | apply Kd.S_alloc | apply Kd.S_drewN | apply Kd.S_drew)); exact HO182.out) hb); have n1_ := Aside0.mk (below_step (by repeat (first | (with_reducible first | exact HB.out | apply below_alloc | apply pw_below_drewN | apply below_drew1) | exact HB.out)) hb); clear HO182; clear HB; have HO182 := n0_; have HB := n1_; clear n0_ n1_; (try clear hb); (try clear hb2); (try clear hk); (try clear hi)))
                    go_ret
                    exact ⟨by first | rfl | (simp [errW_none, errW_some] <;> rfl) | (simp [*, errW_none, errW_some] <;> rfl), by repeat (first | (with_reducible first | exact HB.out | apply below_alloc | apply pw_below_drewN | apply below_drew1) | exact HB.out)⟩
                  · rw [if_neg c50] at H
                    exact absurd H (by simp)
                · rw [if_neg c49] at H
                  exact absurd H (by simp)

/-- THE ONE PURE STATEMENT of chainmanlaw10_DatasetBack. -/
def chainmanlaw10_DatasetBack.Pure : Prop := ∀ (l0 : List (List Int)) (a1 : ByteArray), (l0.length ≤ maxLen ∧ ∀ y0_ ∈ l0, (y0_.length ≤ maxLen ∧ ∀ y1_ ∈ y0_, (Lit.int .i64 y1_).wf = true)) → a1.size ≤ 140737488351232 → ∃ k, chainmanlaw10_DatasetBack.f k l0 a1 = some true
theorem chainmanlaw10_DatasetBack.walk (P : chainmanlaw10_DatasetBack.Pure) (A0 : Option Addr) (c0 : Nat) (l0 : List (List Int)) (a1 : ByteArray) (w : World) (hr0 : Kd.C (Kd.slice 3 (Kd.int .i64)) w A0 l0.length l0) (hc0 : l0.length ≤ c0) (w0 : (l0.length ≤ maxLen ∧ ∀ y0_ ∈ l0, (y0_.length ≤ maxLen ∧ ∀ y1_ ∈ y0_, (Lit.int .i64 y1_).wf = true))) (w1 : a1.size ≤ 140737488351232) :
    Calls Try.prog 8 #[.slice A0 l0.length c0, .string a1] w fun e w' => e = .returned (.bool true) ∧ Below w.heap.size w w' := by
  obtain ⟨k, h⟩ := P l0 a1 w0 w1
  refine (chainmanlaw10_DatasetBack.calls k _ _ l0 a1 true w hr0 hc0  h).mono ?_
  rintro e w' ⟨rfl, hd⟩
  exact ⟨rfl, hd⟩


end Go.Proofs.Ytmacpgkcokpgjaa.PDatasetBack
