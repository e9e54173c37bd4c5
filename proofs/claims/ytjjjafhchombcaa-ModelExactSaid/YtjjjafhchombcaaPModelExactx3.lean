/- The Go functions that the law reaches, and walks to them; printed by wip/tool/mkprint.py. -/
import Derived.Test.YtjjjafhchombcaaPModelExactx0
namespace Go.Proofs.Ytjjjafhchombcaa.PModelExact
open Go.RowKit Go.Proofs.YtjjjafhchombcaaW.PrintWords Go.Proofs.YtjjjafhchombcaaW.PrintLast Go.Proofs.YtjjjafhchombcaaW.PrintMore
attribute [local go_sem] max2_int min2_int max_two min_two max_three min_three max_four min_four   -- for this text's walks alone
set_option linter.unusedVariables false
set_option linter.unusedSimpArgs false

/-! ### chainmanref10_Few: function 42 -/
mutual
def chainmanref10_Few.l0 : Nat → List (List Int) → Int → Int → Int → Option (Bool)
 | 0, _, _, _, _ => none
 | k + 1, x0, x1, x2, x7 => if x7 < (x0.length : Int) then (chainmanref10_Few.j1 k x0 x1 x2 x7 (decide (x7 < x1))) else (chainmanref10_Few.j1 k x0 x1 x2 x7 false)
def chainmanref10_Few.j1 : Nat → List (List Int) → Int → Int → Int → Bool → Option (Bool)
 | 0, _, _, _, _, _ => none
 | k + 1, x0, x1, x2, x7, x16 => if x16 = true then (if 0 ≤ x7 then (if x7 < (x0.length : Int) then (if ((rd_L1 x0 x7).length : Int) > x2 then (some false) else (chainmanref10_Few.l0 k x0 x1 x2 (wrap64 (x7 + 1)))) else (none)) else (none)) else (some (decide ((x0.length : Int) ≤ x1)))
end
def chainmanref10_Few.f (k : Nat) (l0 : List (List Int)) (a1 : Int) (a2 : Int) : Option (Bool) := chainmanref10_Few.l0 k l0 a1 a2 0
theorem chainmanref10_Few.mono_l : ∀ k, (∀ y0 y1 y2 y3, LeO (chainmanref10_Few.l0 k y0 y1 y2 y3) (chainmanref10_Few.l0 (k + 1) y0 y1 y2 y3)) ∧ (∀ y0 y1 y2 y3 y4, LeO (chainmanref10_Few.j1 k y0 y1 y2 y3 y4) (chainmanref10_Few.j1 (k + 1) y0 y1 y2 y3 y4))
 | 0 => ⟨fun _ _ _ _ r h => by simp [chainmanref10_Few.l0] at h, fun _ _ _ _ _ r h => by simp [chainmanref10_Few.j1] at h⟩
 | k + 1 => by
  obtain ⟨ih0, ih1⟩ := chainmanref10_Few.mono_l k
  refine ⟨?_, ?_⟩
  ·intro y0 y1 y2 y3
   unfold chainmanref10_Few.l0
   repeat' first
   | (with_reducible exact ih0 _ _ _ _)
   | (with_reducible exact ih1 _ _ _ _ _)
   | (with_reducible exact LeO.refl _)
   | (with_reducible exact LeO.none _)
   | (with_reducible refine LeO.ite ?_ ?_)
   | (with_reducible refine LeO.bind ?_ (fun _ => ?_))
   | exact ih0 _ _ _ _
   | exact ih1 _ _ _ _ _
   | exact LeO.none _
   | refine LeO.ite ?_ ?_
   | refine LeO.bind ?_ (fun _ => ?_)
  ·intro y0 y1 y2 y3 y4
   unfold chainmanref10_Few.j1
   repeat' first
   | (with_reducible exact ih0 _ _ _ _)
   | (with_reducible exact ih1 _ _ _ _ _)
   | (with_reducible exact LeO.refl _)
   | (with_reducible exact LeO.none _)
   | (with_reducible refine LeO.ite ?_ ?_)
   | (with_reducible refine LeO.bind ?_ (fun _ => ?_))
   | exact ih0 _ _ _ _
   | exact ih1 _ _ _ _ _
   | exact LeO.none _
   | refine LeO.ite ?_ ?_
   | refine LeO.bind ?_ (fun _ => ?_)
theorem chainmanref10_Few.mono : ∀ a0 a1 a2 k, LeO (chainmanref10_Few.f k a0 a1 a2) (chainmanref10_Few.f (k + 1) a0 a1 a2) := by
 intro a0 a1 a2 k
 obtain ⟨ih0, ih1⟩ := chainmanref10_Few.mono_l k
 unfold chainmanref10_Few.f
 repeat' first
   | (with_reducible exact ih0 _ _ _ _)
   | (with_reducible exact ih1 _ _ _ _ _)
   | (with_reducible exact LeO.refl _)
   | (with_reducible exact LeO.none _)
   | (with_reducible refine LeO.ite ?_ ?_)
   | (with_reducible refine LeO.bind ?_ (fun _ => ?_))
   | exact ih0 _ _ _ _
   | exact ih1 _ _ _ _ _
   | exact LeO.none _
   | refine LeO.ite ?_ ?_
   | refine LeO.bind ?_ (fun _ => ?_)
set_option maxHeartbeats 8000000 in
set_option maxRecDepth 100000 in
theorem chainmanref10_Few.calls (k : Nat) (A0 : Option Addr) (c0 : Nat) (l0 : List (List Int)) (a1 : Int) (a2 : Int) (r : Bool) (w : World) (hr0 : Kd.C (Kd.slice 3 (Kd.int .i64)) w A0 l0.length l0) (hc0 : l0.length ≤ c0) (h : chainmanref10_Few.f k l0 a1 a2 = some r) :
  Calls Try.prog 42 #[.slice A0 l0.length c0, .int .i64 a1, .int .i64 a2] w fun e w' => e = .returned (.bool r) ∧ Drawn0 w w' := by
 have HR0 := Aside0.mk hr0
 have HC0 := Aside0.mk hc0
 clear hr0 hc0
 have H : (chainmanref10_Few.l0 k l0 a1 a2 0) = some r := h
 clear h
 have H' := Aside0.mk H
 clear H
 go_enter Try.func42, Try.ntmps42
 go_wp2
 go_loopg [7] k (fun kq v7 w' => ∃ (x7_1 : Int), v7 = .int .i64 x7_1 ∧ Aside0 (chainmanref10_Few.l0 kq l0 a1 a2 x7_1 = some r) ∧ Aside0 (kq ≤ k) ∧ Drawn0 w w')
 case atStart => exact ⟨(0), (by first | rfl | (simp; done) | (simp [*]; done)), H', ⟨Nat.le_refl _⟩, by repeat (first | exact Drawn0.refl _ | apply Drawn0.step)⟩
 case round =>
  clear H'
  try clear p2
  obtain ⟨x7_1, rfl, HA, HK1, ⟨m1, rfl⟩⟩ := hrel
  cases gk with
  | zero => exact absurd HA.out (by simp [chainmanref10_Few.l0])
  | succ k1 =>
   have H := HA.out
   clear HA
   simp only [chainmanref10_Few.l0] at H
   have HC4 := Aside0.mk H
   clear H
   go_upto_region 2 with (fail)
   go_cut [16] (fun v16 wc => ∃ (kq : Nat) (x16_3 : Bool), v16 = .bool x16_3 ∧ Aside0 (chainmanref10_Few.j1 kq l0 a1 a2 x7_1 x16_3 = some r) ∧ Aside0 (kq ≤ k1) ∧ Drawn0 w wc)
   case first =>
    have H := HC4.out
    clear HC4
    by_cases c5 : x7_1 < (l0.length : Int)
    ·rw [if_pos c5] at H
     have c5b0 : decide (x7_1 < (l0.length : Int)) = true := decide_eq_true c5
     clear c5
     (first | rw [c5b0] | (simp only [i64_w, i32_w]; rw [c5b0]) | skip)
     have H' := Aside0.mk H
     clear H
     go_wp2
     go_meet
     case rel => exact ⟨_, (decide (x7_1 < a1)), (by first | rfl | (simp; done) | (simp [*]; done)), H', ⟨by have := HK1.out; first | omega | exact Nat.le_refl _⟩, by repeat (first | exact Drawn0.refl _ | apply Drawn0.step)⟩
    ·rw [if_neg c5] at H
     have c5b0 : decide (x7_1 < (l0.length : Int)) = false := decide_eq_false c5
     clear c5
     (first | rw [c5b0] | (simp only [i64_w, i32_w]; rw [c5b0]) | skip)
     have H' := Aside0.mk H
     clear H
     go_wp2
     go_meet
     case rel => exact ⟨_, (false), (by first | rfl | (simp; done) | (simp [*]; done)), H', ⟨by have := HK1.out; first | omega | exact Nat.le_refl _⟩, by repeat (first | exact Drawn0.refl _ | apply Drawn0.step)⟩
   case rest =>
    clear HC4
    try clear p2
    try clear c4
    try clear c5
    try clear c5b0
    try clear p2
    obtain ⟨kq, x16_3, rfl, HA, HJ3, ⟨mc3, rfl⟩⟩ := hcut
    cases kq with
    | zero => exact absurd HA.out (by simp [chainmanref10_Few.j1])
    | succ kj3 =>
     have H := HA.out
     clear HA
     simp only [chainmanref10_Few.j1] at H
     by_cases c6 : x16_3 = true
     ·subst c6
      have H1 : (if 0 ≤ x7_1 then (if x7_1 < (l0.length : Int) then (if ((rd_L1 l0 x7_1).length : Int) > a2 then (some false) else (chainmanref10_Few.l0 kj3 l0 a1 a2 (wrap64 (x7_1 + 1)))) else (none)) else (none)) = some r := by rw [if_pos rfl] at H; exact H
      clear H
      have H := H1
      clear H1
      by_cases c7 : 0 ≤ x7_1
      ·rw [if_pos c7] at H
       have c7b0 : decide (0 ≤ x7_1) = true := decide_eq_true c7
       clear c7
       by_cases c8 : x7_1 < (l0.length : Int)
       ·rw [if_pos c8] at H
        have c8b0 : decide (x7_1 < (l0.length : Int)) = true := decide_eq_true c8
        clear c8
        by_cases c9 : ((rd_L1 l0 x7_1).length : Int) > a2
        ·rw [if_pos c9] at H
         have c9b0 : decide (a2 < ((rd_L1 l0 x7_1).length : Int)) = true := decide_eq_true c9
         clear c9
         obtain rfl := Option.some.inj H
         have p101 : 0 ≤ (x7_1 : Int) := of_decide_eq_true (by assumption)
         have q101 : x7_1 < (l0.length : Int) := of_decide_eq_true (by assumption)
         obtain ⟨ad101, A101_0, c101_0, e101, hx101_0, hl101_0, hi101_0⟩ := at_L1 HR0.out x7_1 p101 q101
         cases e101
         have HR101_0 := Aside0.mk hi101_0
         have HC101_0 := Aside0.mk hl101_0
         clear hi101_0 hl101_0
         replace p101 := eq_true p101
         replace q101 := eq_true q101
         go_wp2
         go_ret
         exact ⟨by first | rfl | (simp; done) | (simp [*]; done), by repeat (first | exact Drawn0.refl _ | apply Drawn0.step)⟩
        ·rw [if_neg c9] at H
         have c9b0 : decide (a2 < ((rd_L1 l0 x7_1).length : Int)) = false := decide_eq_false c9
         clear c9
         have H' := Aside0.mk H
         clear H
         have p101 : 0 ≤ (x7_1 : Int) := of_decide_eq_true (by assumption)
         have q101 : x7_1 < (l0.length : Int) := of_decide_eq_true (by assumption)
         obtain ⟨ad101, A101_0, c101_0, e101, hx101_0, hl101_0, hi101_0⟩ := at_L1 HR0.out x7_1 p101 q101
         cases e101
         have HR101_0 := Aside0.mk hi101_0
         have HC101_0 := Aside0.mk hl101_0
         clear hi101_0 hl101_0
         replace p101 := eq_true p101
         replace q101 := eq_true q101
         go_wp2
         go_roundg kj3
         case measure => have := HK1.out; have := HJ3.out; omega
         case rel => exact ⟨(wrap64 (x7_1 + 1)), (by first | rfl | (simp; done) | (simp [*]; done)), H', ⟨by have := HK1.out; have := HJ3.out; omega⟩, by repeat (first | exact Drawn0.refl _ | apply Drawn0.step)⟩
       ·rw [if_neg c8] at H
        exact absurd H (by simp)
      ·rw [if_neg c7] at H
       exact absurd H (by simp)
     ·replace c6 := Bool.eq_false_iff.mpr c6
      subst c6
      have H1 : (some (decide ((l0.length : Int) ≤ a1))) = some r := by rw [if_neg (show ¬ (false = true) by decide)] at H; exact H
      clear H
      have H := H1
      clear H1
      obtain rfl := Option.some.inj H
      go_wp2
      go_ret
      exact ⟨by first | rfl | (simp; done) | (simp [*]; done), by repeat (first | exact Drawn0.refl _ | apply Drawn0.step)⟩

/-! ### chainmanlaw33_few: function 10 -/
def chainmanlaw33_few.f (k : Nat) (l0 : List (List Int)) : Option (Bool) := (chainmanref10_Few.f k l0 12 6).bind fun t102 => (some t102)
theorem chainmanlaw33_few.mono : ∀ a0 k, LeO (chainmanlaw33_few.f k a0) (chainmanlaw33_few.f (k + 1) a0) := by
 intro a0 k
 unfold chainmanlaw33_few.f
 repeat' first
   | (with_reducible exact chainmanref10_Few.mono _ _ _ _)
   | (with_reducible exact LeO.refl _)
   | (with_reducible exact LeO.none _)
   | (with_reducible refine LeO.ite ?_ ?_)
   | (with_reducible refine LeO.bind ?_ (fun _ => ?_))
   | exact chainmanref10_Few.mono _ _ _ _
   | exact LeO.none _
   | refine LeO.ite ?_ ?_
   | refine LeO.bind ?_ (fun _ => ?_)
set_option maxHeartbeats 8000000 in
set_option maxRecDepth 100000 in
theorem chainmanlaw33_few.calls (k : Nat) (A0 : Option Addr) (c0 : Nat) (l0 : List (List Int)) (r : Bool) (w : World) (hr0 : Kd.C (Kd.slice 3 (Kd.int .i64)) w A0 l0.length l0) (hc0 : l0.length ≤ c0) (h : chainmanlaw33_few.f k l0 = some r) :
  Calls Try.prog 10 #[.slice A0 l0.length c0] w fun e w' => e = .returned (.bool r) ∧ Drawn0 w w' := by
 have HR0 := Aside0.mk hr0
 have HC0 := Aside0.mk hc0
 clear hr0 hc0
 have H : ((chainmanref10_Few.f k l0 12 6).bind fun t102 => (some t102)) = some r := h
 clear h
 replace H := Option.bind_eq_some_iff.mp H
 obtain ⟨t102, A20, H⟩ := H
 replace H : (some t102) = some r := H
 have A2 := Aside0.mk A20
 clear A20
 obtain rfl := Option.some.inj H
 go_enter Try.func10, Try.ntmps10
 go_wp2_with (first | ((with_reducible refine gate_callee (f := 42) rfl ?_); refine goesL_ (some 4) rfl rfl Try.func42 (by kernel_rfl) rfl #[.slice A0 l0.length c0, .int .i64 12, .int .i64 6] rfl (by (try simp only [List.map_toArray, List.map_cons, List.map_nil]); first | done | rfl) ?_; (with_reducible refine (chainmanref10_Few.calls k _ _ l0 12 6 t102 _ ?side1 ?side2 A2.out).mono ?_); (case side1 => repeat (first | exact HR0.out | (with_reducible first | refine Kd.C_alloc ?_ _ | refine Kd.C_drewN ?_ _ | refine Kd.C_drew ?_))); (case side2 => exact HC0.out); rintro e w' ⟨rfl, ⟨nd, rfl⟩⟩; refine ⟨_, rfl, ?_⟩))
 go_ret
 exact ⟨by first | rfl | (simp; done) | (simp [*]; done), by repeat (first | exact Drawn0.refl _ | apply Drawn0.step)⟩

/-! ### slices_IndexFunc_int_int: function 122 -/
/-- A row of rows, at one of them. -/
theorem slices_IndexFunc_int_int.at {w : World} {A : Option Addr} {n : Nat} {ll : List (List Int)} (h : Kd.C (Kd.slice 3 (Kd.int .i64)) w A n ll) (x : Nat) (hx : x < ll.length) (hn : n = ll.length) :
  ∃ ad Ai ci, A = some ad ∧ w.cell? (ad.add x) = some (.slice Ai ll[x].length ci) ∧ ll[x].length ≤ ci ∧ Kd.C (Kd.int .i64) w Ai ll[x].length ll[x] := by
 obtain ⟨ad, cs, e1, _, hK, hc⟩ := Kd.C_get h [] (x : Int) (by omega) (by omega)
 rw [Int.toNat_natCast] at hK hc
 have hg : ll.getD x [] = ll[x] := by rw [List.getD_eq_getElem?_getD, List.getElem?_eq_getElem hx]; rfl
 rw [hg] at hK
 obtain ⟨Ai, ci, e2, h1, h2⟩ := hK
 refine ⟨ad, Ai, ci, e1, ?_, h1, h2⟩
 have := hc 0 (.slice Ai ll[x].length ci) (by rw [e2]; rfl)
 have e3 : x * (Kd.slice 3 (Kd.int .i64)).sz + 0 = x := by show x * 1 + 0 = x; omega
 rw [e3] at this
 exact this
def slices_IndexFunc_int_int.ix (p : List Int → Bool) (l : List (List Int)) : Int := match l.findIdx? p with | some i => (i : Int) | none => -1
theorem slices_IndexFunc_int_int.found (p : List Int → Bool) (l : List (List Int)) (x : Nat) (h : x < l.length) (hp : p l[x] = true) (hb : ∀ j (hj : j < l.length), j < x → p l[j] = false) : slices_IndexFunc_int_int.ix p l = (x : Int) := by
 unfold slices_IndexFunc_int_int.ix
 have : l.findIdx? p = some x := by
  rw [List.findIdx?_eq_some_iff_getElem]
  exact ⟨h, hp, fun j hj => by rw [hb j (by omega) hj]; decide⟩
 rw [this]
theorem slices_IndexFunc_int_int.nowhere (p : List Int → Bool) (l : List (List Int)) (hb : ∀ j (hj : j < l.length), p l[j] = false) : slices_IndexFunc_int_int.ix p l = -1 := by
 unfold slices_IndexFunc_int_int.ix
 have : l.findIdx? p = none := by
  rw [List.findIdx?_eq_none_iff]
  intro y hy
  obtain ⟨j, hj, rfl⟩ := List.mem_iff_getElem.mp hy
  exact hb j hj
 rw [this]
set_option maxHeartbeats 4000000 in
set_option maxRecDepth 100000 in
theorem slices_IndexFunc_int_int.runs (p : List Int → Bool) (g : Nat) (lb : Array Value) (eg : ∀ args w, (callFunc g args).run Try.prog w = .ok (.enter g args) w) (A0 : Option Addr) (c0 : Nat) (l0 : List (List Int)) (w : World) (hr0 : Kd.C (Kd.slice 3 (Kd.int .i64)) w A0 l0.length l0) (hc0 : l0.length ≤ c0) (hm : l0.length ≤ 1000000000)
  (hp : ∀ (x : List Int) (Ax : Option Addr) (cx : Nat) (W : World), x ∈ l0 → Below w.heap.size w W → Kd.C (Kd.int .i64) W Ax x.length x → x.length ≤ cx → Calls Try.prog g (#[.slice Ax x.length cx] ++ lb) W fun e w' => e = .returned (.bool (p x)) ∧ Below W.heap.size W w') :
  Calls Try.prog 122 #[.slice A0 l0.length c0, .func (.func g) #[] lb] w fun e w' => e = .returned (.int .i64 (slices_IndexFunc_int_int.ix p l0)) ∧ Below w.heap.size w w' := by
 have HR := Aside0.mk hr0
 have HM := Aside0.mk hm
 have HP := Aside0.mk hp
 clear hr0 hp
 go_enter Try.func122, Try.ntmps122
 go_wp2
 go_loopw [8] (fun i wr => ∃ x : Nat, i = .int .i64 (x : Int) ∧ x ≤ l0.length ∧ Aside0 (∀ j (hj : j < l0.length), j < x → p l0[j] = false) ∧ Aside0 (Below w.heap.size w wr)) (fun i _ => l0.length - (intOf i).toNat)
 case atStart => exact ⟨0, rfl, Nat.zero_le _, ⟨fun j _ h => absurd h (Nat.not_lt_zero _)⟩, ⟨Below.refl _ _⟩⟩
 case round =>
  obtain ⟨x, rfl, hx, HQ, HB⟩ := hrel
  by_cases hlt : x < l0.length
  ·obtain ⟨ad, Ai, ci, ead, h0, hci, hCi⟩ := slices_IndexFunc_int_int.at (Kd.C_below HR.out HB.out) x hlt rfl
   cases ead
   have hcall := fun (W : World) (hW : Below w.heap.size w W) (hC : Kd.C (Kd.int .i64) W Ai (l0[x]'hlt).length (l0[x]'hlt)) => HP.out (l0[x]'hlt) Ai ci W (List.getElem_mem hlt) hW hC hci
   generalize hz : l0[x] = z at h0 hci hCi hcall
   have HX := Aside0.mk hlt
   have HZ := Aside0.mk hz
   have HCI := Aside0.mk hCi
   clear hz hCi hci
   have b1 : decide ((x : Int) < (l0.length : Int)) = true := decide_eq_true (by omega)
   have b2 : ((0 : Int) ≤ (x : Int)) = True := eq_true (by omega)
   have b3 : ((x : Int) < (l0.length : Int)) = True := eq_true (by omega)
   have hm := HM.out
   cases hpz : p z with
   | false =>
    rw [hpz] at hcall
    go_wp2_with (first | (go_at_fn g; refine (hcall _ HB.out HCI.out).mono ?_; rintro e w1 ⟨rfl, hb'⟩; have HB1 := Aside0.mk (below_step HB.out hb'); clear HB hb' h0 hcall HCI))
    go_roundw
    case rel => exact ⟨x + 1, by go_num, HX.out, ⟨fun j hj h => by
     rcases Nat.lt_or_eq_of_le (Nat.le_of_lt_succ h) with h | rfl
     ·exact HQ.out j hj h
     ·rw [HZ.out]; exact hpz⟩, HB1⟩
    case measure => have := HX.out; simp [intOf]; omega
   | true =>
    rw [hpz] at hcall
    go_wp2_with (first | (go_at_fn g; refine (hcall _ HB.out HCI.out).mono ?_; rintro e w1 ⟨rfl, hb'⟩; have HB1 := Aside0.mk (below_step HB.out hb'); clear HB hb' h0 hcall HCI))
    go_ret
    exact ⟨by rw [slices_IndexFunc_int_int.found p l0 x hlt (by rw [HZ.out]; exact hpz) HQ.out]; rfl, HB1.out⟩
  ·obtain rfl : x = l0.length := by omega
   have b1 : decide ((l0.length : Int) < (l0.length : Int)) = false := decide_eq_false (by omega)
   go_wp2
   go_ret
   exact ⟨by rw [slices_IndexFunc_int_int.nowhere p l0 (fun j hj => HQ.out j hj hj)]; rfl, HB.out⟩

/-! ### slices_ContainsFunc_int_int: function 92 -/
theorem slices_ContainsFunc_int_int.ix_any (p : List Int → Bool) (l : List (List Int)) : decide (slices_IndexFunc_int_int.ix p l ≥ 0) = l.any p := by
 unfold slices_IndexFunc_int_int.ix
 cases h : l.findIdx? p with
 | none =>
  have := List.findIdx?_eq_none_iff.mp h
  rw [show l.any p = false from List.any_eq_false.mpr (fun x hx => by rw [this x hx]; decide)]
  rfl
 | some i =>
  obtain ⟨hi, hp, _⟩ := List.findIdx?_eq_some_iff_getElem.mp h
  rw [show l.any p = true from List.any_eq_true.mpr ⟨_, List.getElem_mem hi, hp⟩]
  exact decide_eq_true (by show (0 : Int) ≤ (i : Int); omega)
set_option maxHeartbeats 4000000 in
set_option maxRecDepth 100000 in
theorem slices_ContainsFunc_int_int.runs (p : List Int → Bool) (g : Nat) (lb : Array Value) (eg : ∀ args w, (callFunc g args).run Try.prog w = .ok (.enter g args) w) (A0 : Option Addr) (c0 : Nat) (l0 : List (List Int)) (w : World) (hr0 : Kd.C (Kd.slice 3 (Kd.int .i64)) w A0 l0.length l0) (hc0 : l0.length ≤ c0) (hm : l0.length ≤ 1000000000)
  (hp : ∀ (x : List Int) (Ax : Option Addr) (cx : Nat) (W : World), x ∈ l0 → Below w.heap.size w W → Kd.C (Kd.int .i64) W Ax x.length x → x.length ≤ cx → Calls Try.prog g (#[.slice Ax x.length cx] ++ lb) W fun e w' => e = .returned (.bool (p x)) ∧ Below W.heap.size W w') :
  Calls Try.prog 92 #[.slice A0 l0.length c0, .func (.func g) #[] lb] w fun e w' => e = .returned (.bool (l0.any p)) ∧ Below w.heap.size w w' := by
 have hI := slices_IndexFunc_int_int.runs p g lb eg A0 c0 l0 w hr0 hc0 hm hp
 rw [← slices_ContainsFunc_int_int.ix_any p l0]
 clear hr0 hp
 generalize slices_IndexFunc_int_int.ix p l0 = q at hI
 have d1 : decide ((0 : Int) ≤ q) = decide (q ≥ 0) := rfl
 by_cases hq : q ≥ 0
 ·have b1 : decide ((0 : Int) ≤ q) = true := decide_eq_true hq
  rw [decide_eq_true hq]
  clear d1
  go_enter Try.func92, Try.ntmps92
  go_wp2_with (first | (go_at_call 122; refine hI.mono ?_; rintro e w1 ⟨rfl, hb1⟩; have HB1 := Aside0.mk hb1; clear hb1 hI))
  go_ret
  exact ⟨rfl, HB1.out⟩
 ·have b1 : decide ((0 : Int) ≤ q) = false := decide_eq_false hq
  rw [decide_eq_false hq]
  clear d1
  go_enter Try.func92, Try.ntmps92
  go_wp2_with (first | (go_at_call 122; refine hI.mono ?_; rintro e w1 ⟨rfl, hb1⟩; have HB1 := Aside0.mk hb1; clear hb1 hI))
  go_ret
  exact ⟨rfl, HB1.out⟩

/-! ### dist_Right: function 94 -/
def dist_Right.isfar (x : Int) : Bool := decide (x < -16777215) || decide (16777215 < x)
def dist_Right.f (l0 : List Int) : Option Bool := some (decide (0 < l0.length) && decide (l0.length ≤ 4096) && !l0.any dist_Right.isfar)
set_option maxHeartbeats 2000000 in
set_option maxRecDepth 100000 in
theorem dist_Right.far (x : Int) (w : World) : Calls Try.prog 123 #[.int .i64 x] w fun e w' => e = .returned (.bool (dist_Right.isfar x)) ∧ Drawn0 w w' := by
 unfold dist_Right.isfar
 by_cases h1 : x < -16777215
 ·have b1 : decide (x < -16777215) = true := decide_eq_true h1
  rw [b1]
  clear h1
  go_enter Try.func123, Try.ntmps123
  go_wp2
  go_ret
  exact ⟨rfl, by repeat (first | exact Drawn0.refl _ | apply Drawn0.step)⟩
 ·have b1 : decide (x < -16777215) = false := decide_eq_false h1
  rw [b1, Bool.false_or]
  clear h1
  go_enter Try.func123, Try.ntmps123
  go_wp2
  go_ret
  exact ⟨rfl, by repeat (first | exact Drawn0.refl _ | apply Drawn0.step)⟩
set_option maxHeartbeats 4000000 in
set_option maxRecDepth 100000 in
theorem dist_Right.index (A0 : Option Addr) (c0 : Nat) (l0 : List Int) (w : World) (hr0 : Kd.C (Kd.int .i64) w A0 l0.length l0) (hc0 : l0.length ≤ c0) :
  Calls Try.prog 156 #[.slice A0 l0.length c0, .func (.func 123) #[] #[]] w fun e w' => (∃ r : Int, e = .returned (.int .i64 r) ∧ decide (0 ≤ r) = l0.any dist_Right.isfar) ∧ Below w.heap.size w w' := by
 have HR := Aside0.mk hr0
 have HM := Aside0.mk (Kd.C_max hr0)
 clear hr0
 go_enter Try.func156, Try.ntmps156
 go_wp2
 go_loopg [5, 8] l0.length (fun gg _ s8 wr => ∃ x : Int, Aside0 (0 ≤ x ∧ x ≤ (l0.length : Int) ∧ l0.length - x.toNat ≤ gg) ∧ s8 = .int .i64 x ∧ Aside0 (Below w.heap.size w wr) ∧ Aside0 (∀ j, j < x.toNat → dist_Right.isfar (l0.getD j 0) = false))
 case atStart => exact ⟨0, ⟨by omega, by omega, by omega⟩, rfl, ⟨Below.refl _ w⟩, ⟨fun j hj => absurd hj (Nat.not_lt_zero _)⟩⟩
 case round =>
  obtain ⟨x, HK, rfl, HB, HJ⟩ := hrel
  by_cases hlt : x < (l0.length : Int)
  ·have hk0 : 0 ≤ x := HK.out.1
   obtain ⟨ad, ead, hx⟩ := Kd.at_int HR.out x hk0 hlt
   cases ead
   replace hx := (HB.out.cell (World.block_lt_of_cell? w _ hx)).trans hx
   have HY : Aside0 (rd l0 x = l0.getD x.toNat 0) := ⟨rfl⟩
   generalize rd l0 x = y at hx HY
   have HL := Aside0.mk hlt
   replace hk0 := eq_true hk0
   have hlb : decide (x < (l0.length : Int)) = true := decide_eq_true hlt
   replace hlt := eq_true hlt
   have hcall := fun W => dist_Right.far y W
   cases hq : dist_Right.isfar y with
   | true =>
    rw [hq] at hcall
    have HQ := Aside0.mk hq
    clear hq
    go_wp2_with (go_at_call 123; refine (hcall _).mono ?_; rintro e w' ⟨rfl, ⟨nd, rfl⟩⟩)
    go_ret
    refine ⟨⟨_, rfl, ?_⟩, by repeat (first | exact HB.out | apply below_alloc | apply pw_below_drewN | apply below_drew1)⟩
    have hm : y ∈ l0 := by
     rw [HY.out]
     have : x.toNat < l0.length := by have := HL.out; have := HK.out; omega
     rw [List.getD_eq_getElem?_getD, List.getElem?_eq_getElem this]
     exact List.getElem_mem this
    rw [List.any_eq_true.mpr ⟨y, hm, HQ.out⟩]
    exact decide_eq_true HK.out.1
   | false =>
    rw [hq] at hcall
    have HQ := Aside0.mk hq
    clear hq
    go_wp2_with (go_at_call 123; refine (hcall _).mono ?_; rintro e w' ⟨rfl, ⟨nd, rfl⟩⟩)
    go_roundg (l0.length - (x.toNat + 1))
    case measure => have := HK.out; have := HL.out; omega
    case rel =>
     have := HL.out
     have hm := HM.out
     have hk := HK.out
     have ew : wrap64 (x + 1) = x + 1 := by unfold wrap64; omega
     refine ⟨x + 1, ⟨by omega, by omega, by omega⟩, ?_, ⟨by repeat (first | exact HB.out | apply below_alloc | apply pw_below_drewN | apply below_drew1)⟩, ⟨fun j hj => ?_⟩⟩
     ·simp [i64_w, ew]
     ·by_cases e : j = x.toNat
      ·subst e
       rw [← HY.out]; exact HQ.out
      ·exact HJ.out j (by omega)
  ·have hlb : decide (x < (l0.length : Int)) = false := decide_eq_false hlt
   have HL := Aside0.mk hlt
   clear hlt
   go_wp2
   go_ret
   refine ⟨⟨_, rfl, ?_⟩, by repeat (first | exact HB.out | apply below_alloc | apply pw_below_drewN | apply below_drew1)⟩
   rw [show l0.any dist_Right.isfar = false from List.any_eq_false.mpr fun y hy => ?_]
   ·rfl
   ·obtain ⟨j, hj, rfl⟩ := List.getElem_of_mem hy
    have := HJ.out j (by have := HL.out; have := HK.out; omega)
    rw [List.getD_eq_getElem?_getD, List.getElem?_eq_getElem hj] at this
    simpa using this
set_option maxHeartbeats 2000000 in
set_option maxRecDepth 100000 in
theorem dist_Right.contains (A0 : Option Addr) (c0 : Nat) (l0 : List Int) (w : World) (hr0 : Kd.C (Kd.int .i64) w A0 l0.length l0) (hc0 : l0.length ≤ c0) :
  Calls Try.prog 124 #[.slice A0 l0.length c0, .func (.func 123) #[] #[]] w fun e w' => e = .returned (.bool (l0.any dist_Right.isfar)) ∧ Below w.heap.size w w' := by
 have hi := dist_Right.index A0 c0 l0 w hr0 hc0
 clear hr0 hc0
 generalize l0.any dist_Right.isfar = q at hi ⊢
 go_enter Try.func124, Try.ntmps124
 go_wp2_with (go_at_call 156; refine hi.mono ?_; rintro e w' ⟨⟨r, rfl, rfl⟩, hb⟩)
 go_ret
 exact ⟨rfl, hb⟩
set_option maxHeartbeats 2000000 in
set_option maxRecDepth 100000 in
theorem dist_Right.calls (A0 : Option Addr) (c0 : Nat) (l0 : List Int) (r : Bool) (w : World) (hr0 : Kd.C (Kd.int .i64) w A0 l0.length l0) (hc0 : l0.length ≤ c0) (h : dist_Right.f l0 = some r) :
  Calls Try.prog 94 #[.slice A0 l0.length c0] w fun e w' => e = .returned (.bool r) ∧ Below w.heap.size w w' := by
 unfold dist_Right.f at h
 obtain rfl := Option.some.inj h
 clear h
 have hi := fun W (hW : Kd.C (Kd.int .i64) W A0 l0.length l0) => dist_Right.contains A0 c0 l0 W hW hc0
 have HR := Aside0.mk hr0
 clear hr0
 have hz : decide (0 < l0.length) = decide ((0 : Int) < (l0.length : Int)) := by simp
 have hz2 : decide (l0.length ≤ 4096) = decide ((l0.length : Int) ≤ 4096) := decide_eq_decide.mpr (by omega)
 rw [hz, hz2]
 clear hz hz2
 generalize l0.any dist_Right.isfar = q at hi ⊢
 cases b1 : decide ((0 : Int) < (l0.length : Int)) with
 | false =>
  have b1p : (0 < l0.length) = False := eq_false (by have := of_decide_eq_false b1; omega)
  go_enter Try.func94, Try.ntmps94
  go_wp2
  go_ret
  exact ⟨rfl, by repeat (first | exact Below.refl _ _ | apply pw_below_drewN | apply below_drew1)⟩
 | true =>
  have b1p : (0 < l0.length) = True := eq_true (by have := of_decide_eq_true b1; omega)
  cases b2 : decide ((l0.length : Int) ≤ 4096) with
  | false =>
   go_enter Try.func94, Try.ntmps94
   go_wp2
   go_ret
   exact ⟨rfl, by repeat (first | exact Below.refl _ _ | apply pw_below_drewN | apply below_drew1)⟩
  | true =>
   go_enter Try.func94, Try.ntmps94
   go_wp2_with (go_at_call 124; refine (hi _ (by repeat (first | exact HR.out | apply Kd.C_drew | apply Kd.C_drewN))).mono ?_; rintro e w' ⟨rfl, hb⟩)
   go_ret
   exact ⟨by cases q <;> rfl, below_step (by repeat (first | exact Below.refl _ _ | apply pw_below_drewN | apply below_drew1)) hb⟩


/-! ### model_right: function 52 -/
/-- Whether one is as long as the first, of numbers that may be. -/
def model_right.one_ (m : Nat) (x : List Int) : Bool := decide (x.length = m) && (decide (0 < x.length) && decide (x.length ≤ 4096) && !x.any dist_Right.isfar)
def model_right.f (l0 : List (List Int)) : Option Bool := some (decide (0 < l0.length) && decide (l0.length ≤ 1048576) && l0.all (model_right.one_ (l0.getD 0 []).length))
set_option maxHeartbeats 4000000 in
set_option maxRecDepth 100000 in
theorem model_right.one (A0 : Option Addr) (c0 : Nat) (l0 : List (List Int)) (g : Nat) (x : List Int) (Ax : Option Addr) (cx : Nat) (W : World) (hg : W.cell? ⟨g, 0, none⟩ = some (.slice A0 l0.length c0)) (hA : Kd.C (Kd.slice 3 (Kd.int .i64)) W A0 l0.length l0) (hp : 0 < l0.length) (hC : Kd.C (Kd.int .i64) W Ax x.length x) (hcx : x.length ≤ cx) :
  Calls Try.prog 93 #[.slice Ax x.length cx, .pointer (some ⟨g, 0, none⟩)] W fun e w' => e = .returned (.bool (!model_right.one_ (l0.getD 0 []).length x)) ∧ Below W.heap.size W w' := by
 have hK := fun (W' : World) (hW : Kd.C (Kd.int .i64) W' Ax x.length x) => dist_Right.calls Ax cx x _ W' hW hcx rfl
 obtain ⟨ad, Ai, ci, rfl, h0, hx1, hx2⟩ := slices_IndexFunc_int_int.at hA 0 hp rfl
 have hget : (l0.getD 0 []) = l0[0] := by rw [List.getD_eq_getElem?_getD, List.getElem?_eq_getElem hp]; rfl
 rw [hget]
 clear hx1 hx2
 replace h0 := (show W.cell? ad = some _ from h0)
 have HC := Aside0.mk hC
 clear hA hC hget
 have b2 : ((0 : Int) < (l0.length : Int)) = True := eq_true (by omega)
 have hp' : (0 < l0.length) = True := eq_true hp
 unfold model_right.one_
 generalize l0[0] = z at h0
 clear hp
 generalize (decide (0 < x.length) && decide (x.length ≤ 4096) && !x.any dist_Right.isfar) = q at hK
 have hneq : decide (x.length = z.length) = decide ((x.length : Int) = (z.length : Int)) := decide_eq_decide.mpr (by omega)
 rw [hneq]
 clear hneq
 cases b1 : decide ((x.length : Int) = (z.length : Int)) with
 | false =>
  have e3 : ((x.length : Int) != (z.length : Int)) = true := bne_iff_ne.mpr (of_decide_eq_false b1)
  have e4 : ((x.length : Int) == (z.length : Int)) = false := beq_eq_false_iff_ne.mpr (of_decide_eq_false b1)
  clear b1
  go_enter Try.func93, Try.ntmps93
  go_wp2
  go_ret
  exact ⟨rfl, by repeat (first | exact Below.refl _ _ | apply pw_below_drewN | apply below_drew1)⟩
 | true =>
  have e3 : ((x.length : Int) != (z.length : Int)) = false := by rw [of_decide_eq_true b1]; exact bne_self_eq_false _
  have e4 : ((x.length : Int) == (z.length : Int)) = true := by rw [of_decide_eq_true b1]; exact beq_self_eq_true _
  clear b1
  go_enter Try.func93, Try.ntmps93
  go_wp2_with (first | (go_at_call 94; refine (hK _ (by repeat (first | exact HC.out | apply Kd.C_drew | apply Kd.C_drewN))).mono ?_; rintro e w1 ⟨rfl, hb1⟩; have HB1 := Aside0.mk hb1; clear hb1 hK))
  go_ret
  exact ⟨by cases q <;> rfl, below_step (by repeat (first | exact Below.refl _ _ | apply pw_below_drewN | apply below_drew1)) HB1.out⟩
set_option maxHeartbeats 4000000 in
set_option maxRecDepth 100000 in
theorem model_right.calls (A0 : Option Addr) (c0 : Nat) (l0 : List (List Int)) (r : Bool) (w : World) (hr0 : Kd.C (Kd.slice 3 (Kd.int .i64)) w A0 l0.length l0) (hc0 : l0.length ≤ c0) (h : model_right.f l0 = some r) :
  Calls Try.prog 52 #[.slice A0 l0.length c0] w fun e w' => e = .returned (.bool r) ∧ Below w.heap.size w w' := by
 unfold model_right.f at h
 obtain rfl := Option.some.inj h
 clear h
 have hz : decide (0 < l0.length) = !decide ((l0.length : Int) = 0) := by
  by_cases hq : l0.length = 0
  ·simp [hq]
  ·rw [decide_eq_true (by omega), decide_eq_false (by omega)]; rfl
 have hz2 : decide (l0.length ≤ 1048576) = !decide ((1048576 : Int) < (l0.length : Int)) := by
  by_cases hq : l0.length ≤ 1048576
  ·rw [decide_eq_true hq, decide_eq_false (by omega)]; rfl
  ·rw [decide_eq_false hq, decide_eq_true (by omega)]; rfl
 rw [hz, hz2]
 clear hz hz2
 have hba := below_alloc (Below.refl w.heap.size w) (.cells #[.slice A0 l0.length c0] 22)
 have hra := blk_new w (.cells #[.slice A0 l0.length c0] 22)
 have HBA := Aside0.mk hba
 cases b1 : decide ((l0.length : Int) = 0) with
 | true =>
  clear hr0 hba hra
  obtain rfl : l0 = [] := List.eq_nil_of_length_eq_zero (by have := of_decide_eq_true b1; omega)
  go_enter Try.func52, Try.ntmps52
  go_wp2
  go_ret
  exact ⟨rfl, HBA.out⟩
 | false =>
 have hpos : 0 < l0.length := by have := of_decide_eq_false b1; omega
 have e0 : ((l0.length : Int) == 0) = false := beq_eq_false_iff_ne.mpr (by omega)
 have e1 : (l0 = []) = False := eq_false (fun h => by rw [h] at hpos; exact absurd hpos (by decide))
 cases b2 : decide ((1048576 : Int) < (l0.length : Int)) with
 | true =>
  clear hr0 hba hra hpos
  go_enter Try.func52, Try.ntmps52
  go_wp2
  go_ret
  exact ⟨rfl, HBA.out⟩
 | false =>
 have hle : l0.length ≤ 1000000000 := by have := of_decide_eq_false b2; omega
 have hT : ∀ (x : List Int) (Ax : Option Addr) (cx : Nat) (W : World), x ∈ l0 → Below (w.alloc (.cells #[.slice A0 l0.length c0] 22)).heap.size (w.alloc (.cells #[.slice A0 l0.length c0] 22)) W → Kd.C (Kd.int .i64) W Ax x.length x → x.length ≤ cx → Calls Try.prog 93 (#[.slice Ax x.length cx] ++ #[.pointer (some ⟨w.heap.size, 0, none⟩)]) W fun e w' => e = .returned (.bool (!model_right.one_ (l0.getD 0 []).length x)) ∧ Below W.heap.size W w' := fun x Ax cx W hx hb hC hcx =>
  model_right.one A0 c0 l0 w.heap.size x Ax cx W ((blk_cell (blk_below hra hb) 0).trans rfl) (Kd.C_below (Kd.C_below hr0 hba) hb) hpos hC hcx
 have hN := slices_ContainsFunc_int_int.runs (fun x => !model_right.one_ (l0.getD 0 []).length x) 93 #[.pointer (some ⟨w.heap.size, 0, none⟩)] (enters_of Try.func93 (by kernel_rfl) rfl) A0 c0 l0 _ (Kd.C_below hr0 hba) hc0 hle hT
 rw [List.all_eq_not_any_not]
 clear hr0 hT hpos hle
 generalize (l0.any fun x => !model_right.one_ (l0.getD 0 []).length x) = q at hN
 clear hba hra
 go_enter Try.func52, Try.ntmps52
 go_wp2_with (first | (go_at_call 92; refine hN.mono ?_; rintro e w1 ⟨rfl, hb1⟩; have HB1 := Aside0.mk hb1; clear hb1 hN))
 go_ret
 exact ⟨by cases q <;> rfl, below_step HBA.out HB1.out⟩


/-! ### dist_Square: function 99 -/
section
open Go.Shelf
attribute [local go_sem] Oper.semAt_some
def dist_Square.step (la lb : List Int) (k : Nat) (s : Int) : Int := wrap64 (s + wrap64 (wrap64 (rd la (k : Int) - rd lb (k : Int)) * wrap64 (rd la (k : Int) - rd lb (k : Int))))
/-- The sum of the first k squares. -/
def dist_Square.sum (la lb : List Int) : Nat → Int
 | 0 => 0
 | k + 1 => dist_Square.step la lb k (dist_Square.sum la lb k)
/-- What has come when k rounds are over. -/
def dist_Square.upto (la lb : List Int) (k : Nat) : List Int := (List.range k).map (fun j => dist_Square.sum la lb (j + 1))
theorem dist_Square.upto_succ (la lb : List Int) (k : Nat) : dist_Square.upto la lb (k + 1) = dist_Square.upto la lb k ++ [dist_Square.sum la lb (k + 1)] := by simp [dist_Square.upto, List.range_succ]
theorem dist_Square.upto_length (la lb : List Int) (k : Nat) : (dist_Square.upto la lb k).length = k := by simp [dist_Square.upto]
/-- What a round keeps: what lay below n₀, and the box at B. -/
def dist_Square.Keep (n₀ B : Nat) (A A' : World) : Prop := Below n₀ A A' ∧ ∀ v, A.cell? ⟨B, 0, none⟩ = some v → A'.cell? ⟨B, 0, none⟩ = some v
theorem dist_Square.keep_t {n₀ B : Nat} {A A' A'' : World} (h : dist_Square.Keep n₀ B A A') (k : dist_Square.Keep n₀ B A' A'') : dist_Square.Keep n₀ B A A'' := ⟨h.1.trans k.1, fun v hv => k.2 v (h.2 v hv)⟩
theorem dist_Square.keep_b {n₀ B : Nat} {w : World} (hn : n₀ ≤ w.heap.size) (W : World) (l : Nat) (o o' : Obj) (hl : w.heap.size ≤ l) (h : W.heap[l]? = some o) (hc : o.isCells = false) (hw : o.isWalk = false) : dist_Square.Keep n₀ B W (W.putObj l o') :=
 ⟨belowK_b hn W l o o' hl h hc hw, fun v hv => cell_kept hv (grownBy_putObj' W l o') (fun r e => by cases e; exact ⟨_, h, hc⟩)⟩
set_option maxRecDepth 100000 in
set_option maxHeartbeats 4000000 in
theorem dist_Square.squares1 (l Ba Bb : Nat) (w0 : World) (A0 A1 : Option Addr) (c0 c1 : Nat) (la lb : List Int) (hl : lb.length = la.length)
  (hA : Kd.C (Kd.int .i64) w0 A0 la.length la) (hB : Kd.C (Kd.int .i64) w0 A1 lb.length lb) (J Jx : List Int → World → Prop)
  (hY : ∀ pre x W, J pre W → pre.length < la.length → YieldAt Fence.wide 3 Try.prog l #[.int .i64 x] W fun e W' =>
   (e = .returned (.bool true) ∧ J (pre ++ [x]) W' ∧ dist_Square.Keep w0.heap.size Bb W W') ∨ (e = .returned (.bool false) ∧ Jx (pre ++ [x]) W'))
  (W : World) (hW : Below w0.heap.size w0 W) (hBa : W.cell? ⟨Ba, 0, none⟩ = some (.slice A0 la.length c0)) (hBb : W.cell? ⟨Bb, 0, none⟩ = some (.slice A1 lb.length c1)) (h0 : J [] W) :
  CallsIn Fence.wide 4 Try.prog 125 #[.func (.yield l) #[] #[], .pointer (some ⟨Ba, 0, none⟩), .pointer (some ⟨Bb, 0, none⟩)] W fun e W' => (∃ v, e = .returned v) ∧
   ((∃ ys, ys = dist_Square.upto la lb la.length ∧ J ys W') ∨ (∃ pre, (∃ k, k ≤ la.length ∧ pre = dist_Square.upto la lb k) ∧ Jx pre W')) := by
 have hbig : la.length ≤ 9223372036854775807 := Kd.C_max hA
 have HA := Aside0.mk hA
 have HB := Aside0.mk hB
 clear hA hB
 refine callsIn_of_wp Try.func125 rfl trivial ?_ rfl
 simp only [Try.ntmps125, List.size_toArray, List.length_cons, List.length_nil, Nat.reduceAdd, Nat.reduceSub, Array.replicate_succ, Array.replicate_zero, List.push_toArray, List.append_toArray, List.nil_append, List.cons_append]
 gi_wp2
 gi_loopw [4, 10] (fun s i wr => ∃ x : Int, 0 ≤ x ∧ x ≤ (la.length : Int) ∧ i = .int .i64 x ∧ s = .int .i64 (dist_Square.sum la lb x.toNat) ∧ J (dist_Square.upto la lb x.toNat) wr ∧ dist_Square.Keep w0.heap.size Bb W wr)
  (fun _ i _ => la.length - (intOf i).toNat)
 case atStart => exact ⟨0, by omega, by omega, rfl, rfl, h0, Below.refl _ _, fun v hv => hv⟩
 case round =>
  obtain ⟨x, hx0, hx1, rfl, rfl, hJs, hnx⟩ := hrel
  by_cases hlt : x < (la.length : Int)
  ·obtain ⟨ad0, e0, k0⟩ := Kd.at_int HA.out x hx0 hlt
   cases e0
   obtain ⟨ad1, e1, k1⟩ := Kd.at_int HB.out x hx0 (by omega)
   cases e1
   have hwr := hW.trans hnx.1
   replace k0 := (hwr.cell (World.block_lt_of_cell? w0 _ k0)).trans k0
   replace k1 := (hwr.cell (World.block_lt_of_cell? w0 _ k1)).trans k1
   have hbb := hnx.2 _ hBb
   have HS : Aside0 (dist_Square.sum la lb (x.toNat + 1) = wrap64 (dist_Square.sum la lb x.toNat + wrap64 (wrap64 (rd la x - rd lb x) * wrap64 (rd la x - rd lb x)))) := ⟨by
    show dist_Square.step la lb x.toNat _ = _
    unfold dist_Square.step
    rw [Int.toNat_of_nonneg hx0]⟩
   generalize rd la x = y at k0 HS
   generalize rd lb x = z at k1 HS
   have HL := Aside0.mk (show 0 ≤ x ∧ x ≤ (la.length : Int) ∧ x < (la.length : Int) from ⟨hx0, hx1, hlt⟩)
   have HK := Aside0.mk hnx
   have HJ := Aside0.mk hJs
   clear hnx hJs hwr hx1
   have hY1 := hY _ (wrap64 (dist_Square.sum la lb x.toNat + wrap64 (wrap64 (y - z) * wrap64 (y - z)))) wr HJ.out (by rw [dist_Square.upto_length]; have := HL.out; omega)
   generalize dist_Square.sum la lb x.toNat = s at HS hY1
   have hlt2 : x < (lb.length : Int) := by omega
   have b1 : decide (x < (la.length : Int)) = true := decide_eq_true hlt
   have b2 : decide (x < (lb.length : Int)) = true := decide_eq_true hlt2
   replace hx0 := eq_true hx0
   replace hlt := eq_true hlt
   replace hlt2 := eq_true hlt2
   obtain ⟨fn, tmps, assign, body, hy, hR⟩ := hY1
   clear hY
   gi_wp2
   refine hR.mono ?_
   rintro e W3 (⟨rfl, hJ3, hk3⟩ | ⟨rfl, hJx3⟩)
   ·gi_wp2
    go_roundw
    case rel =>
     have hl := HL.out
     have ew : wrap64 (x + 1) = x + 1 := by unfold wrap64; omega
     have en : (x + 1).toNat = x.toNat + 1 := by omega
     refine ⟨x + 1, by omega, by omega, by simp [i64_w, ew], by rw [en, HS.out], by rw [en, dist_Square.upto_succ, HS.out]; exact hJ3, dist_Square.keep_t HK.out hk3⟩
    case measure =>
     have hl := HL.out
     have ew : wrap64 (x + 1) = x + 1 := by unfold wrap64; omega
     simp [i64_w, ew, intOf]
     omega
   ·gi_wp2
    refine bodyPost_ret (results_none rfl _ _ _) rfl ?_
    have hl := HL.out
    exact ⟨⟨_, rfl⟩, .inr ⟨_, ⟨x.toNat + 1, by omega, by rw [dist_Square.upto_succ, HS.out]⟩, hJx3⟩⟩
  ·obtain rfl : x = (la.length : Int) := by omega
   have b1 : decide ((la.length : Int) < (la.length : Int)) = false := decide_eq_false (by omega)
   gi_wp2
   go_end0
   exact ⟨⟨_, rfl⟩, .inl (by rw [Int.toNat_natCast] at hJs; exact hJs)⟩
/-- dist.squares: the two slices are boxed; the function value captures the boxes. -/
theorem dist_Square.squares (A0 A1 : Option Addr) (n0 n1 c0 c1 : Nat) (w : World) :
  CallsIn Fence.wide 4 Try.prog 95 #[.slice A0 n0 c0, .slice A1 n1 c1] w fun e w' => e = .returned (.func (.func 125) #[] #[.pointer (some ⟨w.heap.size, 0, none⟩), .pointer (some ⟨w.heap.size + 1, 0, none⟩)]) ∧ w' = (w.alloc (.cells #[.slice A0 n0 c0] 35)).alloc (.cells #[.slice A1 n1 c1] 35) := by
 refine callsIn_of_wp Try.func95 rfl trivial ?_ rfl
 simp only [Try.ntmps95, List.size_toArray, List.length_cons, List.length_nil, Nat.reduceAdd, Nat.reduceSub, Array.replicate_succ, Array.replicate_zero, List.push_toArray, List.append_toArray, List.nil_append, List.cons_append]
 gi_wp2
 go_ret
 exact ⟨by simp, rfl⟩
theorem dist_Square.squares_stops (Ba Bb : Nat) (w0 : World) (A0 A1 : Option Addr) (c0 c1 : Nat) (la lb : List Int) (hl : lb.length = la.length)
  (hA : Kd.C (Kd.int .i64) w0 A0 la.length la) (hB : Kd.C (Kd.int .i64) w0 A1 lb.length lb) (w : World) (hw : Below w0.heap.size w0 w) (ha : Ba < w.heap.size) (hb : Bb < w.heap.size)
  (hBa : w.cell? ⟨Ba, 0, none⟩ = some (.slice A0 la.length c0)) (hBb : w.cell? ⟨Bb, 0, none⟩ = some (.slice A1 lb.length c1)) :
  SeqStopsK Fence.wide 4 Try.prog 125 #[.pointer (some ⟨Ba, 0, none⟩), .pointer (some ⟨Bb, 0, none⟩)] (fun x : Int => #[Value.int .i64 x]) (dist_Square.Keep w0.heap.size Bb) (fun ys => ys = dist_Square.upto la lb la.length)
   (fun pre => ∃ k, k ≤ la.length ∧ pre = dist_Square.upto la lb k) la.length w := fun l J Jx W hW _ _ hY h0 =>
 dist_Square.squares1 l Ba Bb w0 A0 A1 c0 c1 la lb hl hA hB J Jx hY W (hw.trans (hW.mono hw.size)) ((hW.cell (p := ⟨Ba, 0, none⟩) ha).trans hBa) ((hW.cell (p := ⟨Bb, 0, none⟩) hb).trans hBb) h0
theorem dist_Square.cell_box {W : World} {b : Nat} {v : Value} {t : TypeId} (h : W.heap[b]? = some (.cells #[v] t)) : W.cell? ⟨b, 0, none⟩ = some v ∧ W.frozen? ⟨b, 0, none⟩ = false := by
 constructor
 ·simp [World.cell?, h]
 ·simp [World.frozen?, h]
theorem dist_Square.cell_new (W : World) (v : Value) (t : TypeId) : (W.alloc (.cells #[v] t)).cell? ⟨W.heap.size, 0, none⟩ = some v ∧ (W.alloc (.cells #[v] t)).frozen? ⟨W.heap.size, 0, none⟩ = false := dist_Square.cell_box (World.alloc_heap_new W _)
theorem dist_Square.cell_old {W : World} {a : Addr} {v : Value} (o : Obj) (h : W.cell? a = some v) : (W.alloc o).cell? a = some v := cell_kept h (World.grownBy_alloc W o none) (fun r e => by cases e)
theorem dist_Square.frozen_old {W : World} {a : Addr} {v : Value} (o : Obj) (h : W.cell? a = some v) (hf : W.frozen? a = false) : (W.alloc o).frozen? a = false := (frozen_kept h (World.grownBy_alloc W o none) (fun r e => by cases e)).trans hf
theorem dist_Square.upto_last (la lb : List Int) (k : Nat) : (dist_Square.upto la lb k).getLastD 0 = dist_Square.sum la lb k := by
 cases k with
 | zero => rfl
 | succ k => rw [dist_Square.upto_succ]; simp
theorem dist_Square.upto_sub {la lb : List Int} {k n : Nat} (hk : k ≤ n) {y : Int} (hy : y ∈ dist_Square.upto la lb k) : y ∈ dist_Square.upto la lb n := by
 unfold dist_Square.upto at hy ⊢
 obtain ⟨j, hj, rfl⟩ := List.mem_map.1 hy
 exact List.mem_map.2 ⟨j, List.mem_range.2 (by have := List.mem_range.1 hj; omega), rfl⟩
def dist_Square.right (l : List Int) : Bool := (dist_Right.f l).getD false
def dist_Square.f (l0 l1 : List Int) : Option (Int × Int) :=
 if l0.length = l1.length then (if dist_Square.right l0 = true then (if dist_Square.right l1 = true then some (dist_Square.sum l0 l1 l0.length, 0) else some (0, 1)) else some (0, 1)) else some (0, 1)
theorem dist_Square.rightc (A0 : Option Addr) (c0 : Nat) (l0 : List Int) (w : World) (hr0 : Kd.C (Kd.int .i64) w A0 l0.length l0) (hc0 : l0.length ≤ c0) :
  CallsIn Fence.wide 4 Try.prog 94 #[.slice A0 l0.length c0] w fun e w' => e = .returned (.bool (dist_Square.right l0)) ∧ Below w.heap.size w w' :=
 callsIn_wide.2 (dist_Right.calls A0 c0 l0 _ w hr0 hc0 rfl)
set_option maxRecDepth 100000 in
set_option maxHeartbeats 4000000 in
theorem dist_Square.calls (A0 : Option Addr) (c0 : Nat) (l0 : List Int) (A1 : Option Addr) (c1 : Nat) (l1 : List Int) (r1 : Int) (r2 : Int) (w : World) (hr0 : Kd.C (Kd.int .i64) w A0 l0.length l0) (hc0 : l0.length ≤ c0) (hr1 : Kd.C (Kd.int .i64) w A1 l1.length l1) (hc1 : l1.length ≤ c1) (h : dist_Square.f l0 l1 = some (r1, r2)) :
  Calls Try.prog 99 #[.slice A0 l0.length c0, .slice A1 l1.length c1] w fun e w' => e = .returned (.tuple #[.int .i64 r1, .int .i64 r2]) ∧ Below w.heap.size w w' := by
 refine (callsIn_wide (n := 5)).1 ?_
 have HA := Aside0.mk hr0
 have HB := Aside0.mk hr1
 have hR0 := fun W hW => dist_Square.rightc A0 c0 l0 W hW hc0
 have hR1 := fun W hW => dist_Square.rightc A1 c1 l1 W hW hc1
 clear hr0 hr1 hc0 hc1
 have HH := Aside0.mk h
 clear h
 by_cases e1 : (l0.length : Int) = (l1.length : Int)
 ·have b1 : ((l0.length : Int) != (l1.length : Int)) = false := bne_eq_false_iff_eq.mpr e1
  have b2 : ((l0.length : Int) == (l1.length : Int)) = true := beq_iff_eq.mpr e1
  have HE := Aside0.mk e1
  clear e1
  cases hp : dist_Square.right l0 with
  | false =>
   rw [hp] at hR0
   have HP := Aside0.mk hp
   clear hp
   refine callsIn_of_wp_marks Try.func99 rfl trivial ?_ rfl
   simp only [Try.ntmps99, List.size_toArray, List.length_cons, List.length_nil, Nat.reduceAdd, Nat.reduceSub, Array.replicate_succ, Array.replicate_zero, List.push_toArray, List.append_toArray, List.nil_append, List.cons_append]
   gi_wp2_with (first | (refine ⟨trivial, ?_⟩; gi_at_call 94; (with_reducible refine (hR0 _ ?h0).mono ?_); (case h0 => exact HA.out); rintro e w1 ⟨rfl, hb1⟩) | (refine And.intro (show Fence.wide.fn 94 from trivial) ?_))
   refine ⟨_, results_tmp2 rfl _ _ _, ?_, ?_⟩
   ·have h := HH.out
    unfold dist_Square.f at h
    rw [if_pos (by have := HE.out; omega), if_neg (by rw [HP.out]; decide)] at h
    simp only [Option.some.injEq, Prod.mk.injEq] at h
    obtain ⟨rfl, rfl⟩ := h
    rfl
   ·exact hb1
  | true =>
   rw [hp] at hR0
   have HP := Aside0.mk hp
   clear hp
   cases hq : dist_Square.right l1 with
   | false =>
    rw [hq] at hR1
    have HQ := Aside0.mk hq
    clear hq
    refine callsIn_of_wp_marks Try.func99 rfl trivial ?_ rfl
    simp only [Try.ntmps99, List.size_toArray, List.length_cons, List.length_nil, Nat.reduceAdd, Nat.reduceSub, Array.replicate_succ, Array.replicate_zero, List.push_toArray, List.append_toArray, List.nil_append, List.cons_append]
    gi_wp2_with (first | (refine ⟨trivial, ?_⟩; gi_at_call 94; (with_reducible refine (hR0 _ ?h0).mono ?_); (case h0 => exact HA.out); rintro e w1 ⟨rfl, hb1⟩) | (refine ⟨trivial, ?_⟩; gi_at_call 94; (with_reducible refine (hR1 _ ?h0).mono ?_); (case h0 => exact Kd.C_below HB.out hb1); rintro e w2 ⟨rfl, hb2⟩) | (refine And.intro (show Fence.wide.fn 94 from trivial) ?_))
    refine ⟨_, results_tmp2 rfl _ _ _, ?_, ?_⟩
    ·have h := HH.out
     unfold dist_Square.f at h
     rw [if_pos (by have := HE.out; omega), if_pos HP.out, if_neg (by rw [HQ.out]; decide)] at h
     simp only [Option.some.injEq, Prod.mk.injEq] at h
     obtain ⟨rfl, rfl⟩ := h
     rfl
    ·exact hb1.trans (hb2.mono hb1.size)
   | true =>
    rw [hq] at hR1
    have HQ := Aside0.mk hq
    clear hq
    refine callsIn_of_wp_marks Try.func99 rfl trivial ?_ rfl
    simp only [Try.ntmps99, List.size_toArray, List.length_cons, List.length_nil, Nat.reduceAdd, Nat.reduceSub, Array.replicate_succ, Array.replicate_zero, List.push_toArray, List.append_toArray, List.nil_append, List.cons_append]
    gi_wp2_with (first | (refine ⟨trivial, ?_⟩; gi_at_call 94; (with_reducible refine (hR0 _ ?h0).mono ?_); (case h0 => exact HA.out); rintro e w1 ⟨rfl, hb1⟩) | (refine ⟨trivial, ?_⟩; gi_at_call 94; (with_reducible refine (hR1 _ ?h0).mono ?_); (case h0 => exact Kd.C_below HB.out hb1); rintro e w2 ⟨rfl, hb2⟩) | (refine ⟨trivial, ?_⟩; gi_at_call 95; (with_reducible refine (dist_Square.squares _ _ _ _ _ _ _).mono ?_); rintro e w3 ⟨rfl, rfl⟩))
    have hlen : Aside0 (l1.length = l0.length) := ⟨by have := HE.out; omega⟩
    have hb12 : Below w.heap.size w w2 := hb1.trans (hb2.mono hb1.size)
    have q0 := dist_Square.cell_new w2 (.int .i64 0) 3
    have q1 := dist_Square.cell_new (w2.alloc (.cells #[.int .i64 0] 3)) (.slice A0 l0.length c0) 35
    have q2 := dist_Square.cell_new ((w2.alloc (.cells #[.int .i64 0] 3)).alloc (.cells #[.slice A0 l0.length c0] 35)) (.slice A1 l1.length c1) 35
    simp only [World.size_alloc] at q1 q2
    have hB0 : Below w.heap.size w (((w2.alloc (.cells #[.int .i64 0] 3)).alloc (.cells #[.slice A0 l0.length c0] 35)).alloc (.cells #[.slice A1 l1.length c1] 35)) := ((hb12.alloc hb12.size _).alloc (by have := hb12.size; simp; omega) _).alloc (by have := hb12.size; simp; omega) _
    have HX := Aside0.mk hB0
    refine wpIn_rangeFunc_ownF rfl (by decide) (gf := 125) (lb := #[.pointer (some ⟨w2.heap.size + 1, 0, none⟩), .pointer (some ⟨w2.heap.size + 1 + 1, 0, none⟩)]) rfl trivial (enters_of Try.func125 (by kernel_rfl) rfl)
     (dist_Square.squares_stops (w2.heap.size + 1) (w2.heap.size + 1 + 1) w A0 A1 c0 c1 l0 l1 hlen.out HA.out HB.out _ hB0 (by simp only [World.size_alloc]; omega) (by simp only [World.size_alloc]; omega) (dist_Square.cell_old _ q1.1) q2.1) dist_Square.keep_t (dist_Square.keep_b (by have := hb12.size; simp; omega)) (Below.refl _ _) (fun _ => rfl)
     (fun pre W => (W.cell? ⟨w2.heap.size, 0, none⟩ = some (.int .i64 (pre.getLastD 0)) ∧ W.frozen? ⟨w2.heap.size, 0, none⟩ = false) ∧ Below w.heap.size w W)
     (fun _ _ _ => False)
     (OwnFrom.and (Own.from (fun s A B row hs hg hr => ⟨cell_kept hs.1 hg hr, (frozen_kept hs.1 hg hr).trans hs.2⟩) _) (ownFrom_below (Nat.le_refl _) (by have := hb12.size; simp; omega)))
     (fun _ _ _ _ _ hs _ _ => hs)
     ⟨⟨dist_Square.cell_old _ (dist_Square.cell_old _ q0.1), dist_Square.frozen_old _ (dist_Square.cell_old _ q0.1) (dist_Square.frozen_old _ q0.1 q0.2)⟩, hB0⟩
     (fun x => { tmps := #[.slice A0 l0.length c0, .slice A1 l1.length c1, undef, undef, .int .i64 0, .int .i64 0, .pointer (some ⟨w2.heap.size, 0, none⟩), .int .i64 x, .slice A0 l0.length c0, .int .i64 l0.length, .slice A1 l1.length c1, .int .i64 l1.length, .bool false, .bool false, .slice A0 l0.length c0, .bool true, .bool false, .bool false, .bool false, .slice A1 l1.length c1, .bool true, .bool false, .bool false, .slice A0 l0.length c0, .slice A1 l1.length c1, .func (.func 125) #[] #[.pointer (some ⟨w2.heap.size + 1, 0, none⟩), .pointer (some ⟨w2.heap.size + 1 + 1, 0, none⟩)], .int .i64 x, undef, undef], defers := [] }) ?assign ?body ?done ?stop
    case assign =>
     intro l x W K hK
     gi_wp2
     exact hK
    case body =>
     rintro l pre x W ⟨⟨hc, hf⟩, hB⟩ _
     gi_wp2
     refine ⟨KeepsOthers.setCell _ _ _, ⟨(Below.refl w.heap.size W).setCell (p := ⟨w2.heap.size, 0, none⟩) hb12.size _, fun v hv => ?_⟩, ⟨?_, by rw [World.frozen?_setCell]; exact hf⟩, hB.setCell (p := ⟨w2.heap.size, 0, none⟩) hb12.size _⟩
     ·exact (World.cell?_setCell_far W ⟨w2.heap.size, 0, none⟩ ⟨w2.heap.size + 1 + 1, 0, none⟩ _ (by show w2.heap.size ≠ w2.heap.size + 1 + 1; omega)).trans hv
     ·rw [show (pre ++ [x]).getLastD 0 = x by simp]
      exact World.cell?_setCell_same' _ _ _ (by rw [hc]; rfl)
    case done =>
     rintro D ys W hD rfl ⟨⟨hc, _⟩, hB⟩ hK
     rw [dist_Square.upto_last] at hc
     gi_wp2
     refine ⟨by simp, .inl ⟨_, _, rfl, run_takeDeferred hK, ?_⟩⟩
     have hz := HX.out.size
     refine ⟨_, results_tmp2 rfl _ _ _, ?_, hB.trans (belowK_b (w := w) (Nat.le_refl _) W D _ _ (by simp at hD; simp at hz; omega) hK rfl rfl)⟩
     have h := HH.out
     unfold dist_Square.f at h
     rw [if_pos (by have := HE.out; omega), if_pos HP.out, if_pos HQ.out] at h
     simp only [Option.some.injEq, Prod.mk.injEq] at h
     obtain ⟨rfl, rfl⟩ := h
     rfl
    case stop =>
     rintro D c pre W _ _ h _
     exact h.elim
 ·have b1 : ((l0.length : Int) != (l1.length : Int)) = true := bne_iff_ne.mpr e1
  have b2 : ((l0.length : Int) == (l1.length : Int)) = false := beq_eq_false_iff_ne.mpr e1
  have HE := Aside0.mk e1
  clear e1
  refine callsIn_of_wp_marks Try.func99 rfl trivial ?_ rfl
  simp only [Try.ntmps99, List.size_toArray, List.length_cons, List.length_nil, Nat.reduceAdd, Nat.reduceSub, Array.replicate_succ, Array.replicate_zero, List.push_toArray, List.append_toArray, List.nil_append, List.cons_append]
  gi_wp2_with (first | (refine And.intro (show Fence.wide.fn 94 from trivial) ?_))
  refine ⟨_, results_tmp2 rfl _ _ _, ?_, ?_⟩
  ·have h := HH.out
   unfold dist_Square.f at h
   rw [if_neg (by have := HE.out; omega)] at h
   simp only [Option.some.injEq, Prod.mk.injEq] at h
   obtain ⟨rfl, rfl⟩ := h
   rfl
  ·exact Below.refl _ _
end


end Go.Proofs.Ytjjjafhchombcaa.PModelExact
