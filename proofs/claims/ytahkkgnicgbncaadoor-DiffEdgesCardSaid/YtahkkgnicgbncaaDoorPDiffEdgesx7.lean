/- The Go functions that the law reaches, and walks to them; printed by wip/tool/mkprint.py. -/
import Derived.Test.YtahkkgnicgbncaaDoorPDiffEdgesx0
import Derived.Test.YtahkkgnicgbncaaDoorPDiffEdgesx4
import Derived.Test.YtahkkgnicgbncaaDoorPDiffEdgesx6
namespace Go.Proofs.YtahkkgnicgbncaaDoor.PDiffEdges
open Go.RowKit Go.Proofs.YtahkkgnicgbncaaDoorW.PrintWords Go.Proofs.YtahkkgnicgbncaaDoorW.PrintLast Go.Proofs.YtahkkgnicgbncaaDoorW.PrintMore
attribute [local go_sem] max2_int min2_int max_two min_two max_three min_three max_four min_four   -- for this text's walks alone
set_option linter.unusedVariables false
set_option linter.unusedSimpArgs false

/-! ### diff_beside: function 18 -/
/-! ### two lists, one beside the other -/
/-- Who comes next, and whether it is of the first and of the second. -/
def diff_beside.bs {α : Type} (lt : α → α → Bool) : List α → List α → List (α × Bool × Bool)
 | [], [] => []
 | a :: l, [] => (a, true, false) :: diff_beside.bs lt l []
 | [], b :: m => (b, false, true) :: diff_beside.bs lt [] m
 | a :: l, b :: m => if lt a b then (a, true, false) :: diff_beside.bs lt l (b :: m) else if lt b a then (b, false, true) :: diff_beside.bs lt (a :: l) m else (b, true, true) :: diff_beside.bs lt l m
termination_by l m => l.length + m.length
def diff_beside.next {α : Type} (lt : α → α → Bool) : List α → List α → Option ((α × Bool × Bool) × List α × List α)
 | [], [] => none
 | a :: l, [] => some ((a, true, false), l, [])
 | [], b :: m => some ((b, false, true), [], m)
 | a :: l, b :: m => if lt a b then some ((a, true, false), l, b :: m) else if lt b a then some ((b, false, true), a :: l, m) else some ((b, true, true), l, m)
theorem diff_beside.bs_next {α : Type} (lt : α → α → Bool) (l m : List α) : diff_beside.bs lt l m = match diff_beside.next lt l m with
  | none => []
  | some (t, l', m') => t :: diff_beside.bs lt l' m' := by
 cases l <;> cases m
 ·rw [diff_beside.bs]; rfl
 ·rw [diff_beside.bs]; rfl
 ·rw [diff_beside.bs]; rfl
 ·rename_i a l b m
  rw [diff_beside.bs, diff_beside.next]
  cases lt a b with
  | true => rfl
  | false => cases lt b a <;> rfl
def diff_beside.lt (a b : S33) : Bool := decide (a.f0 < b.f0 ∨ (a.f0 = b.f0 ∧ a.f1 < b.f1))
theorem diff_beside.order_eq (a b : S33) : diff_order.f 4 a.f0 a.f1 b.f0 b.f1 = some (if diff_beside.lt a b then -1 else if diff_beside.lt b a then 1 else 0) := by
 have hc : ∀ x y : Int, cmp_Compare_int.f x y = some (if x < y then -1 else if y < x then 1 else 0) := fun x y => by
  simp [cmp_Compare_int.f, cmp_isNaN_int.f]
  by_cases h1 : x < y
  ·rw [if_pos h1, if_pos h1]
  ·rw [if_neg h1, if_neg h1]
   by_cases h2 : y < x
   ·rw [if_pos h2, if_pos h2]
   ·rw [if_neg h2, if_neg h2]
 have ho : ∀ x y : Int, cmp_Or_int.f 4 [x, y] = some (if x = 0 then y else x) := fun x y => by
  have w1 : wrap64 1 = 1 := by unfold wrap64; omega
  have w2 : wrap64 2 = 2 := by unfold wrap64; omega
  by_cases h1 : x = 0
  ·by_cases h2 : y = 0
   ·simp [cmp_Or_int.f, cmp_Or_int.l0, rd, h1, h2, w1, w2]
   ·simp [cmp_Or_int.f, cmp_Or_int.l0, rd, h1, h2, w1, w2]
  ·simp [cmp_Or_int.f, cmp_Or_int.l0, rd, h1, w1, w2]
 unfold diff_order.f
 rw [hc, Option.bind_some, hc, Option.bind_some, ho]
 unfold diff_beside.lt
 by_cases h1 : a.f0 < b.f0
 ·simp [h1]
 ·by_cases h2 : b.f0 < a.f0
  ·have h3 : ¬ a.f0 = b.f0 := by omega
   have h4 : ¬ b.f0 = a.f0 := by omega
   simp [h1, h2, h3]
  ·have h3 : a.f0 = b.f0 := by omega
   simp [h3]
section
open Go.Shelf
attribute [local go_sem] Oper.semAt_some
def diff_beside.blen (g : Nat) (W : World) : Nat := match W.heap[g]? with
 | some (.cells cs _ _) => match cs[0]? with
  | some (Value.slice _ n _) => n
  | _ => 0
 | _ => 0
/-- The box at g holds a list that lies in blocks of 'ok'. -/
def diff_beside.Box (ok : Nat → Prop) (g : Nat) (x : List S33) (W : World) : Prop := ∃ A c, W.heap[g]? = some (.cells #[.slice A x.length c] 22) ∧ x.length ≤ c ∧ Kd.F k33 W ok A x.length x
theorem diff_beside.Box.len {ok : Nat → Prop} {g : Nat} {x : List S33} {W : World} (h : diff_beside.Box ok g x W) : diff_beside.blen g W = x.length := by
 obtain ⟨A, c, h, _⟩ := h
 unfold diff_beside.blen
 rw [h]
 rfl
theorem diff_beside.at0 {W : World} {A : Option Addr} {a : S33} {x : List S33} (h : Kd.C k33 W A (a :: x).length (a :: x)) : ∃ ad, A = some ad ∧ W.cell? ad = some (.int .i64 a.f0) ∧ W.cell? ⟨ad.block, ad.off + 1, none⟩ = some (.int .i64 a.f1) := by
 obtain ⟨ad, e, h0, h1⟩ := at_T33 h 0 (by omega) (by simp)
 exact ⟨ad, e, by simpa [Addr.add, rd_T33] using h0, by simpa [Addr.add, rd_T33] using h1⟩
theorem diff_beside.bset {B : Nat} {w W : World} (h : Below B w W) {p : Addr} (hp : B ≤ p.block) (u : Value) : Below B w (W.setCell p u) :=
 ⟨h.os, h.tape, h.output, by simpa [World.setCell] using h.size, fun k hk => (Below.heap_setCell W p u k (by omega)).trans (h.block k hk)⟩
/-- All is kept but for the two boxes. -/
def diff_beside.Kp (B : Nat) (w W : World) : Prop := Kept w W (fun k => k = B ∨ k = B + 1) ∧ Below B w W
theorem diff_beside.Kp.below {B : Nat} {w W W2 : World} (h : diff_beside.Kp B w W) (hB : B ≤ w.heap.size) (hb : Below W.heap.size W W2) : diff_beside.Kp B w W2 := ⟨h.1.below hb, h.2.trans (hb.mono (Nat.le_trans hB h.2.size))⟩
theorem diff_beside.Kp.drew {B : Nat} {w W : World} (h : diff_beside.Kp B w W) : diff_beside.Kp B w W.drew := ⟨h.1, h.2.os, h.2.tape, h.2.output, h.2.size, h.2.block⟩
theorem diff_beside.Kp.set {B : Nat} {w W : World} (h : diff_beside.Kp B w W) {p : Addr} (hp : p.block = B ∨ p.block = B + 1 ∨ w.heap.size ≤ p.block) (hB : B ≤ w.heap.size) (u : Value) : diff_beside.Kp B w (W.setCell p u) :=
 ⟨h.1.setCell (by rcases hp with h | h | h; exact .inl (.inl h); exact .inl (.inr h); exact .inr h) u, diff_beside.bset h.2 (by omega) u⟩
theorem diff_beside.sizeP : (Tryd.prog.info? 33).map (fun i => i.size) = some 2 := by kernel_rfl
theorem diff_beside.next_cases {lt : S33 → S33 → Bool} {x y x' y' : List S33} {t : S33 × Bool × Bool} (h : diff_beside.next lt x y = some (t, x', y')) :
  (∃ a, x = a :: x' ∧ y = y' ∧ t = (a, true, false)) ∨ (∃ b, x = x' ∧ y = b :: y' ∧ t = (b, false, true)) ∨ (∃ a b, x = a :: x' ∧ y = b :: y' ∧ t = (b, true, true)) := by
 cases x with
 | nil =>
  cases y with
  | nil => cases h
  | cons b y => cases h; exact .inr (.inl ⟨b, rfl, rfl, rfl⟩)
 | cons a x =>
  cases y with
  | nil => cases h; exact .inl ⟨a, rfl, rfl, rfl⟩
  | cons b y =>
   rw [diff_beside.next] at h
   split at h
   ·cases h; exact .inl ⟨a, rfl, rfl, rfl⟩
   ·split at h
    ·cases h; exact .inr (.inl ⟨b, rfl, rfl, rfl⟩)
    ·cases h; exact .inr (.inr ⟨a, b, rfl, rfl, rfl⟩)
set_option maxRecDepth 100000 in
set_option maxHeartbeats 4000000 in
theorem diff_beside.iter1 (l B : Nat) (ok : Nat → Prop) (hok : ∀ k, ok k → k ≠ B ∧ k ≠ B + 1) (J : List S33 → List S33 → World → Prop) (Done : World → Prop)
  (hbox : ∀ x y W, J x y W → diff_beside.Box ok B x W ∧ diff_beside.Box ok (B + 1) y W ∧ x.length + y.length ≤ 1000000000)
  (hyield : ∀ x y W0 W t x' y', J x y W0 → diff_beside.next diff_beside.lt x y = some (t, x', y') → diff_beside.Kp B W0 W → diff_beside.Box ok B x' W → diff_beside.Box ok (B + 1) y' W →
   YieldAt Fence.wide 3 Tryd.prog l #[.agg #[.int .i64 t.1.f0, .int .i64 t.1.f1], .agg #[.bool t.2.1, .bool t.2.2]] W fun e W' => (e = .returned (.bool true) ∧ J x' y' W') ∨ (e = .returned (.bool false) ∧ Done W'))
  (hdone : ∀ W, J [] [] W → Done W) (W : World) (x y : List S33) (h0 : J x y W) :
  CallsIn Fence.wide 4 Tryd.prog 34 #[.func (.yield l) #[] #[], .pointer (some ⟨B, 0, none⟩), .pointer (some ⟨B + 1, 0, none⟩)] W fun e W' => (∃ v, e = .returned v) ∧ Done W' := by
 refine callsIn_wide.2 ?_
 have hu33 := Tryd.underlying33
 go_enter Tryd.func34, Tryd.ntmps34
 go_wp2
 go_loopw [] (fun wr => ∃ x y, J x y wr) (fun wr => diff_beside.blen B wr + diff_beside.blen (B + 1) wr)
 case atStart => exact ⟨x, y, h0⟩
 case round =>
  obtain ⟨x, y, hJ⟩ := hrel
  obtain ⟨⟨A, c, hB0, hc, hF⟩, ⟨A', c', hB1, hc', hF'⟩, hlen⟩ := hbox x y wr hJ
  have HBZ := Aside0.mk (show B + 1 < wr.heap.size from blk_lt hB1)
  have HF := Aside0.mk hF
  have HF' := Aside0.mk hF'
  have HJ := Aside0.mk hJ
  have HLN := Aside0.mk hlen
  have HC := Aside0.mk (And.intro hc hc')
  clear hF hF' hJ hlen hc hc'
  obtain ⟨n, hn⟩ : ∃ n, n = x.length := ⟨_, rfl⟩
  obtain ⟨m, hm⟩ : ∃ m, m = y.length := ⟨_, rfl⟩
  rw [← hn] at hB0
  rw [← hm] at hB1
  have HN := Aside0.mk (And.intro hn hm)
  have hb0 : wr.cell? ⟨B, 0, none⟩ = some (.slice A n c) := (blk_cell hB0 0).trans rfl
  have hb1 : wr.cell? ⟨B + 1, 0, none⟩ = some (.slice A' m c') := (blk_cell hB1 0).trans rfl
  by_cases hnil : n = 0 ∧ m = 0
  ·obtain ⟨rfl, rfl⟩ := hnil
   obtain rfl := List.eq_nil_of_length_eq_zero hn.symm
   obtain rfl := List.eq_nil_of_length_eq_zero hm.symm
   clear hn hm
   go_wp2
   go_end0
   exact ⟨⟨_, rfl⟩, hdone _ HJ.out⟩
  have hsum : wrap64 ((n : Int) + (m : Int)) = (n : Int) + (m : Int) := by have := HLN.out; unfold wrap64; omega
  have hpos : decide ((0 : Int) < (n : Int) + (m : Int)) = true := decide_eq_true (by omega)
  have HNN := Aside0.mk hnil
  clear hnil hn hm
  go_upto_block 2 with (first | ((with_reducible refine gate_dst (N := 4) rfl ?_); refine box_event ?hg (N := 4) ?hd (cs := #[.bool false, .bool false]) (t := 51) ?hr ?_; (case hd => rfl); (case hg => rfl); (case hr => first | (go_simp; done) | (go_simp; rfl)); intro gw hgw w1 hw1 hk1; have hB01 := blk_below hB0 hk1; have hB11 := blk_below hB1 hk1; have hneB : B ≠ gw := (by have := HBZ.out; omega); have hneB1 : B + 1 ≠ gw := (by have := HBZ.out; omega); have HW1 := Aside0.mk hw1; have HK1 := Aside0.mk hk1; have HGW := Aside0.mk hgw; clear hb0 hb1; have hb0 : w1.cell? ⟨B, 0, none⟩ = some (.slice A n c) := (blk_cell hB01 0).trans rfl; have hb1 : w1.cell? ⟨B + 1, 0, none⟩ = some (.slice A' m c') := (blk_cell hB11 0).trans rfl; have hz0 : w1.cell? ⟨gw, 0, none⟩ = some (.bool false) := (blk_cell hw1 0).trans rfl; have hz1 : w1.cell? ⟨gw, 1, none⟩ = some (.bool false) := (blk_cell hw1 1).trans rfl; have hf0 := blk_frozen hw1 0; have hf1 := blk_frozen hw1 1; clear hgw hw1 hk1))
  clear hsum hpos
  simp only [Act.put, List.setIfInBounds_toArray, List.set_cons_zero, List.set_cons_succ]
  go_cut [] from 5 to 33 (fun wx => Aside0 (Kept wr wx (fun _ => False) ∧ Below B wr wx) ∧ ∃ t x' y', diff_beside.next diff_beside.lt x y = some (t, x', y') ∧ wx.heap[gw]? = some (.cells #[.bool t.2.1, .bool t.2.2] 51 (0, 0)))
  case first =>
   cases x with
   | nil =>
    obtain rfl : n = 0 := HN.out.1
    cases y with
    | nil => exact absurd ⟨rfl, HN.out.2⟩ HNN.out
    | cons b y =>
     have hm1 : m = y.length + 1 := HN.out.2
     have hm0 : ((m : Int) == 0) = false := by simp; omega
     have hm2 : (m = 0) = False := eq_false (by omega)
     clear hm1
     go_wp2
     go_meet
     case rel => exact ⟨⟨(Kept.of_below HK1.out _).setCell (.inr (Nat.le_of_eq HGW.out.symm)) _, diff_beside.bset (HK1.out.mono (by have := HBZ.out; omega)) (by have := HBZ.out; have := HGW.out; show B ≤ gw; omega) _⟩, (b, false, true), [], y, rfl, blk_put (cs' := #[.bool false, .bool true]) HW1.out 1 _ rfl⟩
   | cons a x =>
    have hn1 : n = x.length + 1 := HN.out.1
    have hn0 : ((n : Int) == 0) = false := by simp; omega
    have hn2 : (n = 0) = False := eq_false (by omega)
    clear hn1
    cases y with
    | nil =>
     obtain rfl : m = 0 := HN.out.2
     go_wp2
     go_meet
     case rel => exact ⟨⟨(Kept.of_below HK1.out _).setCell (.inr (Nat.le_of_eq HGW.out.symm)) _, diff_beside.bset (HK1.out.mono (by have := HBZ.out; omega)) (by have := HBZ.out; have := HGW.out; show B ≤ gw; omega) _⟩, (a, true, false), x, [], rfl, blk_put (cs' := #[.bool true, .bool false]) HW1.out 0 _ rfl⟩
    | cons b y =>
     have hm1 : m = y.length + 1 := HN.out.2
     have hm0 : ((m : Int) == 0) = false := by simp; omega
     have hm2 : (m = 0) = False := eq_false (by omega)
     clear hm1
     obtain ⟨ad, rfl, ea0, ea1⟩ := diff_beside.at0 (Kd.F_now (Kd.F_below HF.out HK1.out))
     obtain ⟨ad', rfl, eb0, eb1⟩ := diff_beside.at0 (Kd.F_now (Kd.F_below HF'.out HK1.out))
     have hOr := fun W => diff_order.calls 4 a.f0 a.f1 b.f0 b.f1 _ W (diff_beside.order_eq a b)
     obtain ⟨q, f, s, t, x', y', hq, hq1, hq2, hnx, ht1, ht2⟩ : ∃ q f s t x' y', (if diff_beside.lt a b = true then (-1 : Int) else if diff_beside.lt b a = true then 1 else 0) = q ∧ decide (q ≤ 0) = f ∧ decide (0 ≤ q) = s ∧ diff_beside.next diff_beside.lt (a :: x) (b :: y) = some (t, x', y') ∧ t.2.1 = f ∧ t.2.2 = s := by
      rw [diff_beside.next]
      cases diff_beside.lt a b with
      | true => exact ⟨-1, true, false, _, _, _, rfl, by decide, by decide, rfl, rfl, rfl⟩
      | false =>
       cases diff_beside.lt b a with
       | true => exact ⟨1, false, true, _, _, _, rfl, by decide, by decide, rfl, rfl, rfl⟩
       | false => exact ⟨0, true, true, _, _, _, rfl, by decide, by decide, rfl, rfl, rfl⟩
     rw [hq] at hOr
     have HQ := Aside0.mk (And.intro hnx (And.intro ht1 ht2))
     clear hq hnx ht1 ht2
     have hn3 : (0 < n) = True := eq_true (by have := hn2; simp at this; omega)
     have hm3 : (0 < m) = True := eq_true (by have := hm2; simp at this; omega)
     go_upto_region 2 with (fail)
     refine start_ (ds := []) (n := 8) (S := fun W => Below w1.heap.size w1 W) #[false, false, false, false, false, false, false, false] (by kernel_rfl) rfl (by rfl) (below_drew (Below.refl _ _)) (fun hHeld => ?_)
     refine take_ (i := 0) (N := (some 13)) (v := ?_) (a' := ?_) #[true, false, false, false, false, false, false, false] rfl rfl (by kernel_rfl) (fun _ _ _ h => h) (Or.inl ⟨by rfl, ?_⟩) hHeld ?_ ?_
     rotate_left
     ·intro w' hw'
      have q0 : w'.cell? ⟨B, 0, none⟩ = some (.slice (some ad) n c) := (blk_cell (blk_below hB01 hw') 0).trans rfl
      go_simp
      first | done | with_reducible rfl | rfl
     rotate_left
     ·simp only [Act.put, List.setIfInBounds_toArray, List.set_cons_zero, List.set_cons_succ, i64_w, i32_w]
      rfl
     refine pure_ (i := 1) (N := (some 14)) (v := ?_) (a' := ?_) #[true, true, false, false, false, false, false, false] rfl rfl (by kernel_rfl) (fun _ _ _ h => h) (Or.inl ⟨by rfl, ?_⟩) ?_ ?_
     rotate_left
     ·intro w'
      go_simp
      first | with_reducible rfl | rfl
     rotate_left
     ·simp only [Act.put, List.setIfInBounds_toArray, List.set_cons_zero, List.set_cons_succ, i64_w, i32_w]
      rfl
     refine take_ (i := 2) (N := (some 15)) (v := ?_) (a' := ?_) #[true, true, true, false, false, false, false, false] rfl rfl (by kernel_rfl) (fun _ _ _ h => h) (Or.inl ⟨by rfl, ?_⟩) hHeld ?_ ?_
     rotate_left
     ·intro w' hw'
      have q0 := (hw'.cell (World.block_lt_of_cell? w1 _ ea0)).trans ea0
      have q1 := (hw'.cell (World.block_lt_of_cell? w1 _ ea1)).trans ea1
      go_simp
      first | done | with_reducible rfl | rfl
     rotate_left
     ·simp only [Act.put, List.setIfInBounds_toArray, List.set_cons_zero, List.set_cons_succ, i64_w, i32_w]
      rfl
     refine take_ (i := 3) (N := (some 16)) (v := ?_) (a' := ?_) #[true, true, true, true, false, false, false, false] rfl rfl (by kernel_rfl) (fun _ _ _ h => h) (Or.inl ⟨by rfl, ?_⟩) hHeld ?_ ?_
     rotate_left
     ·intro w' hw'
      have q0 : w'.cell? ⟨B + 1, 0, none⟩ = some (.slice (some ad') m c') := (blk_cell (blk_below hB11 hw') 0).trans rfl
      go_simp
      first | done | with_reducible rfl | rfl
     rotate_left
     ·simp only [Act.put, List.setIfInBounds_toArray, List.set_cons_zero, List.set_cons_succ, i64_w, i32_w]
      rfl
     refine pure_ (i := 4) (N := (some 17)) (v := ?_) (a' := ?_) #[true, true, true, true, true, false, false, false] rfl rfl (by kernel_rfl) (fun _ _ _ h => h) (Or.inl ⟨by rfl, ?_⟩) ?_ ?_
     rotate_left
     ·intro w'
      go_simp
      first | with_reducible rfl | rfl
     rotate_left
     ·simp only [Act.put, List.setIfInBounds_toArray, List.set_cons_zero, List.set_cons_succ, i64_w, i32_w]
      rfl
     refine take_ (i := 5) (N := (some 18)) (v := ?_) (a' := ?_) #[true, true, true, true, true, true, false, false] rfl rfl (by kernel_rfl) (fun _ _ _ h => h) (Or.inl ⟨by rfl, ?_⟩) hHeld ?_ ?_
     rotate_left
     ·intro w' hw'
      have q0 := (hw'.cell (World.block_lt_of_cell? w1 _ eb0)).trans eb0
      have q1 := (hw'.cell (World.block_lt_of_cell? w1 _ eb1)).trans eb1
      go_simp
      first | done | with_reducible rfl | rfl
     rotate_left
     ·simp only [Act.put, List.setIfInBounds_toArray, List.set_cons_zero, List.set_cons_succ, i64_w, i32_w]
      rfl
     refine one_ (i := 6) (N := (some 19)) #[true, true, true, true, true, true, true, false] rfl rfl (by kernel_rfl) (by decide) (fun K hK => ?_)
     refine goes_ Tryd.func25 (by kernel_rfl) rfl #[.agg #[.int .i64 a.f0, .int .i64 a.f1], .agg #[.int .i64 b.f0, .int .i64 b.f1]] (by rfl) rfl rfl (by (try simp only [List.map_toArray, List.map_cons, List.map_nil]); first | done | rfl) ?_
     have hO_ := hOr w1.drew
     refine Calls.mono hO_ ?_
     rintro e wS ⟨rfl, hbS⟩
     refine ⟨_, rfl, ?_⟩
     refine hK.out _ _ (below_step hHeld hbS) (fun hHeld => ?_)
     clear hK K
     refine norm_ (a' := ?_) ?_ ?_
     rotate_left
     ·show Act.put _ (some 19) _ = _
      simp only [Act.put, List.setIfInBounds_toArray, List.set_cons_zero, List.set_cons_succ, i64_w, i32_w]
      rfl
     refine pure_ (i := 7) (N := (some 5)) (v := ?_) (a' := ?_) #[true, true, true, true, true, true, true, true] rfl rfl (by kernel_rfl) (fun _ _ _ h => h) (Or.inl ⟨by rfl, ?_⟩) ?_ ?_
     rotate_left
     ·intro w'
      go_simp
      first | with_reducible rfl | rfl
     rotate_left
     ·simp only [Act.put, List.setIfInBounds_toArray, List.set_cons_zero, List.set_cons_succ, i64_w, i32_w]
      rfl
     refine done_ (by kernel_rfl) ?_
     have HR := Aside0.mk hHeld
     clear hHeld
     have hw5 := blk_below HW1.out HR.out
     have hz0 : wS.cell? ⟨gw, 0, none⟩ = some (.bool false) := (blk_cell hw5 0).trans rfl
     have hz1 : wS.cell? ⟨gw, 1, none⟩ = some (.bool false) := (blk_cell hw5 1).trans rfl
     have hf0 := blk_frozen hw5 0
     have hf1 := blk_frozen hw5 1
     have HW5 := Aside0.mk hw5
     clear hw5
     go_wp2
     go_meet
     case rel => exact ⟨⟨(((Kept.of_below HK1.out _).below HR.out).setCell (.inr (Nat.le_of_eq HGW.out.symm)) _).setCell (.inr (Nat.le_of_eq HGW.out.symm)) _, diff_beside.bset (diff_beside.bset ((below_step HK1.out HR.out).mono (by have := HBZ.out; omega)) (by have := HBZ.out; have := HGW.out; show B ≤ gw; omega) _) (by have := HBZ.out; have := HGW.out; show B ≤ gw; omega) _⟩, t, x', y', HQ.out.1, by rw [HQ.out.2.1, HQ.out.2.2]; exact blk_put (cs' := #[.bool f, .bool s]) (blk_put (cs' := #[.bool f, .bool false]) HW5.out 0 _ rfl) 1 _ rfl⟩
  case rest =>
   obtain ⟨HKc, t, x', y', hnx, hgc⟩ := hcut
   have HWc := Aside0.mk hgc
   have HNX := Aside0.mk hnx
   have HBc := Aside0.mk (blk_kept hB0 HKc.out.1 (by simp))
   have HOc := Aside0.mk (blk_kept hB1 HKc.out.1 (by simp))
   have HL := Aside0.mk hB1
   clear hgc hB0 hB1 hb0 hb1 hz0 hz1 hf0 hf1 hB01 hB11 hneB hneB1
   rcases diff_beside.next_cases hnx with ⟨a, rfl, rfl, rfl⟩ | ⟨b, rfl, rfl, rfl⟩ | ⟨a, b, rfl, rfl, rfl⟩
   ·clear hnx
    have cw0 : wc.cell? ⟨gw, 0, none⟩ = some (.bool true) := (blk_cell HWc.out 0).trans rfl
    have cw1 : wc.cell? ⟨gw, 1, none⟩ = some (.bool false) := (blk_cell HWc.out 1).trans rfl
    have hn3 : (0 < n) = True := eq_true (by have h := HN.out.1; simp at h; omega)
    obtain ⟨Ad, rfl, ea0, ea1⟩ := diff_beside.at0 (Kd.F_now HF.out)
    have hea := Kd.F_in HF.out rfl (by simp) (by decide)
    have nea : ¬ (Ad.block = B ∨ Ad.block = B + 1) := fun h => h.elim (hok _ hea).1 (hok _ hea).2
    obtain ⟨A1, c1, sea, lea, Fea_⟩ : ∃ A1 c1, (∀ W : World, (Instr.slice 22 (.slice (some Ad) n c) (some (.int .i64 1)) none none).run Tryd.prog W = .ok (.slice A1 x'.length c1) W) ∧ x'.length ≤ c1 ∧ Kd.F k33 wr ok A1 x'.length x' := by
     obtain ⟨i_, hi_, hz_⟩ := Option.map_eq_some_iff.1 diff_beside.sizeP
     have hz2 : i_.size = 2 := hz_
     have hcc := HC.out
     have hnn := HN.out
     have h1 := cut_from (P := Tryd.prog) 22 33 .i64 Tryd.underlying22 hi_ 2 hz2 (some Ad) n c 1 (by omega) (by have : n = x'.length + 1 := hnn.1; omega)
     have h2 := Kd.F_cut (m := 1) (c := c) HF.out (by simp) hcc.1
     have h3 : n - 1 = x'.length := by have : n = x'.length + 1 := hnn.1; omega
     rw [show (1 : Int).toNat = 1 from rfl, h3] at h1
     refine ⟨_, _, h1, ?_, h2⟩
     have h4 : x'.length + 1 ≤ c := hcc.1
     omega
    have Fea := Aside0.mk Fea_
    clear Fea_
    have HZ := Aside0.mk (And.intro (show wr.heap.size ≤ gw from Nat.le_of_eq HGW.out.symm) HBZ.out)
    go_upto_region 10 with (first | ((with_reducible refine gate_dst (N := 6) rfl ?_); refine box_event ?hg (N := 6) ?hd (cs := #[.int .i64 0, .int .i64 0]) (t := 33) ?hr ?_; (case hd => rfl); (case hg => rfl); (case hr => first | (go_simp; done) | (go_simp; rfl)); intro gp hgp w2 hp2 hk2; have HW2 := Aside0.mk (blk_below HWc.out hk2); have HB2 := Aside0.mk (blk_below HBc.out hk2); have HO2 := Aside0.mk (blk_below HOc.out hk2); have HP2 := Aside0.mk hp2; have HK2 := Aside0.mk (show diff_beside.Kp B wr w2 from diff_beside.Kp.below ⟨HKc.out.1.mono (fun _ h => h.elim), HKc.out.2⟩ (by have := HBZ.out; omega) hk2); have HGP := Aside0.mk (show gw < gp by rw [hgp]; exact blk_lt HWc.out); clear cw0 cw1; have cw0 : w2.cell? ⟨gw, 0, none⟩ = some (.bool true) := (blk_cell HW2.out 0).trans rfl; have cw1 : w2.cell? ⟨gw, 1, none⟩ = some (.bool false) := (blk_cell HW2.out 1).trans rfl; clear hgp hp2 hk2))
    have hBw : B ≤ wr.heap.size := by have := HBZ.out; omega
    have hgpz : wr.heap.size ≤ gp := by have h1 := HZ.out; have h2 := HGP.out; omega
    have hzz := HZ.out
    have hgg := HGP.out
    refine start_ (ds := [6]) (n := 7) (S := fun W => diff_beside.Kp B wr W ∧ W.heap[B]? = some (.cells #[.slice (some Ad) n c] 22)) #[false, false, false, false, false, false, false] (by kernel_rfl) rfl (by rfl) (⟨HK2.out.drew, HB2.out⟩) (fun hHeld => ?_)
    refine take_ (i := 0) (N := (some 37)) (v := ?_) (a' := ?_) #[true, false, false, false, false, false, false] rfl rfl (by kernel_rfl) (fun _ _ _ h => h) (Or.inl ⟨by rfl, ?_⟩) hHeld ?_ ?_
    rotate_left
    ·intro w' hw'
     have q0 : w'.cell? ⟨B, 0, none⟩ = some (.slice (some Ad) n c) := (blk_cell hw'.2 0).trans rfl
     go_simp
     first | done | with_reducible rfl | rfl
    rotate_left
    ·simp only [Act.put, List.setIfInBounds_toArray, List.set_cons_zero, List.set_cons_succ, i64_w, i32_w]
     rfl
    refine pure_ (i := 1) (N := (some 38)) (v := ?_) (a' := ?_) #[true, true, false, false, false, false, false] rfl rfl (by kernel_rfl) (fun _ _ _ h => h) (Or.inl ⟨by rfl, ?_⟩) ?_ ?_
    rotate_left
    ·intro w'
     go_simp
     first | with_reducible rfl | rfl
    rotate_left
    ·simp only [Act.put, List.setIfInBounds_toArray, List.set_cons_zero, List.set_cons_succ, i64_w, i32_w]
     rfl
    refine take_ (i := 2) (N := (some 39)) (v := ?_) (a' := ?_) #[true, true, true, false, false, false, false] rfl rfl (by kernel_rfl) (fun _ _ _ h => h) (Or.inl ⟨by rfl, ?_⟩) hHeld ?_ ?_
    rotate_left
    ·intro w' hw'
     have q0 := Go.Proofs.YtahkkgnicgbncaaDoorW.PrintWords.cell_kept ea0 hw'.1.1 nea
     have q1 := Go.Proofs.YtahkkgnicgbncaaDoorW.PrintWords.cell_kept ea1 hw'.1.1 nea
     go_simp
     first | done | with_reducible rfl | rfl
    rotate_left
    ·simp only [Act.put, List.setIfInBounds_toArray, List.set_cons_zero, List.set_cons_succ, i64_w, i32_w]
     rfl
    refine take_ (i := 3) (N := (some 40)) (v := ?_) (a' := ?_) #[true, true, true, true, false, false, false] rfl rfl (by kernel_rfl) (fun _ _ _ h => h) (Or.inl ⟨by rfl, ?_⟩) hHeld ?_ ?_
    rotate_left
    ·intro w' hw'
     have q0 : w'.cell? ⟨B, 0, none⟩ = some (.slice (some Ad) n c) := (blk_cell hw'.2 0).trans rfl
     go_simp
     first | done | with_reducible rfl | rfl
    rotate_left
    ·simp only [Act.put, List.setIfInBounds_toArray, List.set_cons_zero, List.set_cons_succ, i64_w, i32_w]
     rfl
    refine pure_ (i := 4) (N := (some 41)) (v := ?_) (a' := ?_) #[true, true, true, true, true, false, false] rfl rfl (by kernel_rfl) (fun _ _ _ h => h) (Or.inl ⟨by rfl, ?_⟩) ?_ ?_
    rotate_left
    ·intro w'
     go_simp
     first | with_reducible rfl | rfl
    rotate_left
    ·simp only [Act.put, List.setIfInBounds_toArray, List.set_cons_zero, List.set_cons_succ, i64_w, i32_w]
     rfl
    refine one_ (i := 5) (N := none) #[true, true, true, true, true, true, false] rfl rfl (by kernel_rfl) (by decide) (fun K hK => ?_)
    have p0 : w2.cell? ⟨gp, 0, none⟩ = some (.int .i64 0) := (blk_cell (show w2.heap[gp]? = _ from HP2.out) 0).trans rfl
    have p1 : w2.cell? ⟨gp, 1, none⟩ = some (.int .i64 0) := (blk_cell (show w2.heap[gp]? = _ from HP2.out) 1).trans rfl
    have pf0 := blk_frozen (show w2.heap[gp]? = _ from HP2.out) 0
    have pf1 := blk_frozen (show w2.heap[gp]? = _ from HP2.out) 1
    refine skip_ (w1 := ?_) (by rfl) rfl ?_ ?_
    rotate_left
    ·go_simp
     rfl
    refine hK.out _ _ (⟨((hHeld.1).set (.inr (.inr hgpz)) hBw _).set (.inr (.inr hgpz)) hBw _, blk_far (blk_far hHeld.2 (p := ⟨gp, 0, none⟩) (show B ≠ gp by omega) _) (p := ⟨gp, 1, none⟩) (show B ≠ gp by omega) _⟩) (fun hHeld => ?_)
    clear hK K p0 p1 pf0 pf1
    refine last_ (i := 6) (N := none) #[true, true, true, true, true, true, true] rfl rfl (by kernel_rfl) (by decide) (fun K hK => ?_)
    have p0 : (((w2).setCell ⟨gp, 0, none⟩ (.int .i64 a.f0)).setCell ⟨gp, 1, none⟩ (.int .i64 a.f1)).cell? ⟨B, 0, none⟩ = some (.slice (some Ad) n c) := (blk_cell hHeld.2 0).trans rfl
    have pf0 := blk_frozen hHeld.2 0
    refine skip_ (w1 := ?_) (by rfl) rfl ?_ ?_
    rotate_left
    ·go_simp
     rfl
    refine hK.out _ _ ?_
    clear hK K p0 pf0
    refine done_ (by kernel_rfl) ?_
    have HP3 := Aside0.mk (show (((((w2).setCell ⟨gp, 0, none⟩ (.int .i64 a.f0)).setCell ⟨gp, 1, none⟩ (.int .i64 a.f1)).setCell ⟨B, 0, none⟩ (.slice A1 x'.length c1)).drew).heap[gp]? = some (.cells #[.int .i64 a.f0, .int .i64 a.f1] 33 (0, 0)) from blk_far (blk_put (cs' := #[.int .i64 a.f0, .int .i64 a.f1]) (blk_put (cs' := #[.int .i64 a.f0, .int .i64 0]) (show w2.heap[gp]? = _ from HP2.out) 0 _ rfl) 1 _ rfl) (p := ⟨B, 0, none⟩) (show gp ≠ B by omega) (.slice A1 x'.length c1))
    have HW3 := Aside0.mk (show (((((w2).setCell ⟨gp, 0, none⟩ (.int .i64 a.f0)).setCell ⟨gp, 1, none⟩ (.int .i64 a.f1)).setCell ⟨B, 0, none⟩ (.slice A1 x'.length c1)).drew).heap[gw]? = some (.cells #[.bool true, .bool false] 51 (0, 0)) from blk_far (blk_far (blk_far (show w2.heap[gw]? = _ from HW2.out) (p := ⟨gp, 0, none⟩) (show gw ≠ gp by omega) (.int .i64 a.f0)) (p := ⟨gp, 1, none⟩) (show gw ≠ gp by omega) (.int .i64 a.f1)) (p := ⟨B, 0, none⟩) (show gw ≠ B by omega) (.slice A1 x'.length c1))
    have HB3 := Aside0.mk (show (((((w2).setCell ⟨gp, 0, none⟩ (.int .i64 a.f0)).setCell ⟨gp, 1, none⟩ (.int .i64 a.f1)).setCell ⟨B, 0, none⟩ (.slice A1 x'.length c1)).drew).heap[B]? = some (.cells #[.slice A1 x'.length c1] 22) from blk_put (cs' := #[.slice A1 x'.length c1]) hHeld.2 0 _ rfl)
    have HO3 := Aside0.mk (show (((((w2).setCell ⟨gp, 0, none⟩ (.int .i64 a.f0)).setCell ⟨gp, 1, none⟩ (.int .i64 a.f1)).setCell ⟨B, 0, none⟩ (.slice A1 x'.length c1)).drew).heap[B + 1]? = _ from blk_far (blk_far (blk_far (show w2.heap[B + 1]? = _ from HO2.out) (p := ⟨gp, 0, none⟩) (show B + 1 ≠ gp by omega) (.int .i64 a.f0)) (p := ⟨gp, 1, none⟩) (show B + 1 ≠ gp by omega) (.int .i64 a.f1)) (p := ⟨B, 0, none⟩) (show B + 1 ≠ B by omega) (.slice A1 x'.length c1))
    have HK3 := Aside0.mk (show diff_beside.Kp B wr (((((w2).setCell ⟨gp, 0, none⟩ (.int .i64 a.f0)).setCell ⟨gp, 1, none⟩ (.int .i64 a.f1)).setCell ⟨B, 0, none⟩ (.slice A1 x'.length c1)).drew) from (hHeld.1).set (p := ⟨B, 0, none⟩) (.inl rfl) hBw (.slice A1 x'.length c1))
    clear hHeld cw0 cw1 hzz hgg hgpz hBw
    generalize ((((w2).setCell ⟨gp, 0, none⟩ (.int .i64 a.f0)).setCell ⟨gp, 1, none⟩ (.int .i64 a.f1)).setCell ⟨B, 0, none⟩ (.slice A1 x'.length c1)).drew = w3 at HP3 HW3 HB3 HO3 HK3 ⊢
    have cw0 : w3.cell? ⟨gw, 0, none⟩ = some (.bool true) := (blk_cell HW3.out 0).trans rfl
    have cw1 : w3.cell? ⟨gw, 1, none⟩ = some (.bool false) := (blk_cell HW3.out 1).trans rfl
    obtain ⟨fn, tmps, assign, body, hy, hRd⟩ := hyield _ _ wr w3 _ _ _ HJ.out HNX.out HK3.out (⟨A1, c1, HB3.out, lea, Kd.F_kept Fea.out HK3.out.1 (fun k hk h => h.elim (hok k hk).1 (hok k hk).2)⟩) (⟨A', c', by rw [← HN.out.2]; exact HO3.out, HC.out.2, Kd.F_kept HF'.out HK3.out.1 (fun k hk h => h.elim (hok k hk).1 (hok k hk).2)⟩)
    have pz0 : w3.cell? ⟨gp, 0, none⟩ = some (.int .i64 a.f0) := (blk_cell HP3.out 0).trans rfl
    have pz1 : w3.cell? ⟨gp, 1, none⟩ = some (.int .i64 a.f1) := (blk_cell HP3.out 1).trans rfl
    go_upto_region 13 with (fail)
    refine (wpIn_wide (n := 4)).1 ?_
    gi_wp2
    refine hRd.mono ?_
    rintro e W3 (⟨rfl, hJ3⟩ | ⟨rfl, hD⟩)
    ·gi_wp2
     try go_wp2
     go_roundw
     case rel => exact ⟨_, _, hJ3⟩
     case measure =>
      obtain ⟨q1, q2, _⟩ := hbox _ _ _ hJ3
      obtain ⟨q3, q4, _⟩ := hbox _ _ _ HJ.out
      rw [q1.len, q2.len, q3.len, q4.len]
      simp only [List.length_cons]
      omega
    ·gi_wp2
     try go_wp2
     refine bodyPost_ret (results_none rfl _ _ _) rfl ?_
     exact ⟨⟨_, rfl⟩, hD⟩
   ·clear hnx
    have cw0 : wc.cell? ⟨gw, 0, none⟩ = some (.bool false) := (blk_cell HWc.out 0).trans rfl
    have cw1 : wc.cell? ⟨gw, 1, none⟩ = some (.bool true) := (blk_cell HWc.out 1).trans rfl
    have hm3 : (0 < m) = True := eq_true (by have h := HN.out.2; simp at h; omega)
    obtain ⟨A'd, rfl, eb0, eb1⟩ := diff_beside.at0 (Kd.F_now HF'.out)
    have heb := Kd.F_in HF'.out rfl (by simp) (by decide)
    have neb : ¬ (A'd.block = B ∨ A'd.block = B + 1) := fun h => h.elim (hok _ heb).1 (hok _ heb).2
    obtain ⟨A2, c2, seb, leb, Feb_⟩ : ∃ A1 c1, (∀ W : World, (Instr.slice 22 (.slice (some A'd) m c') (some (.int .i64 1)) none none).run Tryd.prog W = .ok (.slice A1 y'.length c1) W) ∧ y'.length ≤ c1 ∧ Kd.F k33 wr ok A1 y'.length y' := by
     obtain ⟨i_, hi_, hz_⟩ := Option.map_eq_some_iff.1 diff_beside.sizeP
     have hz2 : i_.size = 2 := hz_
     have hcc := HC.out
     have hnn := HN.out
     have h1 := cut_from (P := Tryd.prog) 22 33 .i64 Tryd.underlying22 hi_ 2 hz2 (some A'd) m c' 1 (by omega) (by have : m = y'.length + 1 := hnn.2; omega)
     have h2 := Kd.F_cut (m := 1) (c := c') HF'.out (by simp) hcc.2
     have h3 : m - 1 = y'.length := by have : m = y'.length + 1 := hnn.2; omega
     rw [show (1 : Int).toNat = 1 from rfl, h3] at h1
     refine ⟨_, _, h1, ?_, h2⟩
     have h4 : y'.length + 1 ≤ c' := hcc.2
     omega
    have Feb := Aside0.mk Feb_
    clear Feb_
    have HZ := Aside0.mk (And.intro (show wr.heap.size ≤ gw from Nat.le_of_eq HGW.out.symm) HBZ.out)
    go_upto_region 12 with (first | ((with_reducible refine gate_dst (N := 6) rfl ?_); refine box_event ?hg (N := 6) ?hd (cs := #[.int .i64 0, .int .i64 0]) (t := 33) ?hr ?_; (case hd => rfl); (case hg => rfl); (case hr => first | (go_simp; done) | (go_simp; rfl)); intro gp hgp w2 hp2 hk2; have HW2 := Aside0.mk (blk_below HWc.out hk2); have HB2 := Aside0.mk (blk_below HBc.out hk2); have HO2 := Aside0.mk (blk_below HOc.out hk2); have HP2 := Aside0.mk hp2; have HK2 := Aside0.mk (show diff_beside.Kp B wr w2 from diff_beside.Kp.below ⟨HKc.out.1.mono (fun _ h => h.elim), HKc.out.2⟩ (by have := HBZ.out; omega) hk2); have HGP := Aside0.mk (show gw < gp by rw [hgp]; exact blk_lt HWc.out); clear cw0 cw1; have cw0 : w2.cell? ⟨gw, 0, none⟩ = some (.bool false) := (blk_cell HW2.out 0).trans rfl; have cw1 : w2.cell? ⟨gw, 1, none⟩ = some (.bool true) := (blk_cell HW2.out 1).trans rfl; clear hgp hp2 hk2))
    have hBw : B ≤ wr.heap.size := by have := HBZ.out; omega
    have hgpz : wr.heap.size ≤ gp := by have h1 := HZ.out; have h2 := HGP.out; omega
    have hzz := HZ.out
    have hgg := HGP.out
    refine start_ (ds := [6]) (n := 7) (S := fun W => diff_beside.Kp B wr W ∧ W.heap[B + 1]? = some (.cells #[.slice (some A'd) m c'] 22)) #[false, false, false, false, false, false, false] (by kernel_rfl) rfl (by rfl) (⟨HK2.out.drew, HO2.out⟩) (fun hHeld => ?_)
    refine take_ (i := 0) (N := (some 44)) (v := ?_) (a' := ?_) #[true, false, false, false, false, false, false] rfl rfl (by kernel_rfl) (fun _ _ _ h => h) (Or.inl ⟨by rfl, ?_⟩) hHeld ?_ ?_
    rotate_left
    ·intro w' hw'
     have q0 : w'.cell? ⟨B + 1, 0, none⟩ = some (.slice (some A'd) m c') := (blk_cell hw'.2 0).trans rfl
     go_simp
     first | done | with_reducible rfl | rfl
    rotate_left
    ·simp only [Act.put, List.setIfInBounds_toArray, List.set_cons_zero, List.set_cons_succ, i64_w, i32_w]
     rfl
    refine pure_ (i := 1) (N := (some 45)) (v := ?_) (a' := ?_) #[true, true, false, false, false, false, false] rfl rfl (by kernel_rfl) (fun _ _ _ h => h) (Or.inl ⟨by rfl, ?_⟩) ?_ ?_
    rotate_left
    ·intro w'
     go_simp
     first | with_reducible rfl | rfl
    rotate_left
    ·simp only [Act.put, List.setIfInBounds_toArray, List.set_cons_zero, List.set_cons_succ, i64_w, i32_w]
     rfl
    refine take_ (i := 2) (N := (some 46)) (v := ?_) (a' := ?_) #[true, true, true, false, false, false, false] rfl rfl (by kernel_rfl) (fun _ _ _ h => h) (Or.inl ⟨by rfl, ?_⟩) hHeld ?_ ?_
    rotate_left
    ·intro w' hw'
     have q0 := Go.Proofs.YtahkkgnicgbncaaDoorW.PrintWords.cell_kept eb0 hw'.1.1 neb
     have q1 := Go.Proofs.YtahkkgnicgbncaaDoorW.PrintWords.cell_kept eb1 hw'.1.1 neb
     go_simp
     first | done | with_reducible rfl | rfl
    rotate_left
    ·simp only [Act.put, List.setIfInBounds_toArray, List.set_cons_zero, List.set_cons_succ, i64_w, i32_w]
     rfl
    refine take_ (i := 3) (N := (some 47)) (v := ?_) (a' := ?_) #[true, true, true, true, false, false, false] rfl rfl (by kernel_rfl) (fun _ _ _ h => h) (Or.inl ⟨by rfl, ?_⟩) hHeld ?_ ?_
    rotate_left
    ·intro w' hw'
     have q0 : w'.cell? ⟨B + 1, 0, none⟩ = some (.slice (some A'd) m c') := (blk_cell hw'.2 0).trans rfl
     go_simp
     first | done | with_reducible rfl | rfl
    rotate_left
    ·simp only [Act.put, List.setIfInBounds_toArray, List.set_cons_zero, List.set_cons_succ, i64_w, i32_w]
     rfl
    refine pure_ (i := 4) (N := (some 48)) (v := ?_) (a' := ?_) #[true, true, true, true, true, false, false] rfl rfl (by kernel_rfl) (fun _ _ _ h => h) (Or.inl ⟨by rfl, ?_⟩) ?_ ?_
    rotate_left
    ·intro w'
     go_simp
     first | with_reducible rfl | rfl
    rotate_left
    ·simp only [Act.put, List.setIfInBounds_toArray, List.set_cons_zero, List.set_cons_succ, i64_w, i32_w]
     rfl
    refine one_ (i := 5) (N := none) #[true, true, true, true, true, true, false] rfl rfl (by kernel_rfl) (by decide) (fun K hK => ?_)
    have p0 : w2.cell? ⟨gp, 0, none⟩ = some (.int .i64 0) := (blk_cell (show w2.heap[gp]? = _ from HP2.out) 0).trans rfl
    have p1 : w2.cell? ⟨gp, 1, none⟩ = some (.int .i64 0) := (blk_cell (show w2.heap[gp]? = _ from HP2.out) 1).trans rfl
    have pf0 := blk_frozen (show w2.heap[gp]? = _ from HP2.out) 0
    have pf1 := blk_frozen (show w2.heap[gp]? = _ from HP2.out) 1
    refine skip_ (w1 := ?_) (by rfl) rfl ?_ ?_
    rotate_left
    ·go_simp
     rfl
    refine hK.out _ _ (⟨((hHeld.1).set (.inr (.inr hgpz)) hBw _).set (.inr (.inr hgpz)) hBw _, blk_far (blk_far hHeld.2 (p := ⟨gp, 0, none⟩) (show B + 1 ≠ gp by omega) _) (p := ⟨gp, 1, none⟩) (show B + 1 ≠ gp by omega) _⟩) (fun hHeld => ?_)
    clear hK K p0 p1 pf0 pf1
    refine last_ (i := 6) (N := none) #[true, true, true, true, true, true, true] rfl rfl (by kernel_rfl) (by decide) (fun K hK => ?_)
    have p0 : (((w2).setCell ⟨gp, 0, none⟩ (.int .i64 b.f0)).setCell ⟨gp, 1, none⟩ (.int .i64 b.f1)).cell? ⟨B + 1, 0, none⟩ = some (.slice (some A'd) m c') := (blk_cell hHeld.2 0).trans rfl
    have pf0 := blk_frozen hHeld.2 0
    refine skip_ (w1 := ?_) (by rfl) rfl ?_ ?_
    rotate_left
    ·go_simp
     rfl
    refine hK.out _ _ ?_
    clear hK K p0 pf0
    refine done_ (by kernel_rfl) ?_
    have HP3 := Aside0.mk (show (((((w2).setCell ⟨gp, 0, none⟩ (.int .i64 b.f0)).setCell ⟨gp, 1, none⟩ (.int .i64 b.f1)).setCell ⟨B + 1, 0, none⟩ (.slice A2 y'.length c2)).drew).heap[gp]? = some (.cells #[.int .i64 b.f0, .int .i64 b.f1] 33 (0, 0)) from blk_far (blk_put (cs' := #[.int .i64 b.f0, .int .i64 b.f1]) (blk_put (cs' := #[.int .i64 b.f0, .int .i64 0]) (show w2.heap[gp]? = _ from HP2.out) 0 _ rfl) 1 _ rfl) (p := ⟨B + 1, 0, none⟩) (show gp ≠ B + 1 by omega) (.slice A2 y'.length c2))
    have HW3 := Aside0.mk (show (((((w2).setCell ⟨gp, 0, none⟩ (.int .i64 b.f0)).setCell ⟨gp, 1, none⟩ (.int .i64 b.f1)).setCell ⟨B + 1, 0, none⟩ (.slice A2 y'.length c2)).drew).heap[gw]? = some (.cells #[.bool false, .bool true] 51 (0, 0)) from blk_far (blk_far (blk_far (show w2.heap[gw]? = _ from HW2.out) (p := ⟨gp, 0, none⟩) (show gw ≠ gp by omega) (.int .i64 b.f0)) (p := ⟨gp, 1, none⟩) (show gw ≠ gp by omega) (.int .i64 b.f1)) (p := ⟨B + 1, 0, none⟩) (show gw ≠ B + 1 by omega) (.slice A2 y'.length c2))
    have HO3 := Aside0.mk (show (((((w2).setCell ⟨gp, 0, none⟩ (.int .i64 b.f0)).setCell ⟨gp, 1, none⟩ (.int .i64 b.f1)).setCell ⟨B + 1, 0, none⟩ (.slice A2 y'.length c2)).drew).heap[B + 1]? = some (.cells #[.slice A2 y'.length c2] 22) from blk_put (cs' := #[.slice A2 y'.length c2]) hHeld.2 0 _ rfl)
    have HB3 := Aside0.mk (show (((((w2).setCell ⟨gp, 0, none⟩ (.int .i64 b.f0)).setCell ⟨gp, 1, none⟩ (.int .i64 b.f1)).setCell ⟨B + 1, 0, none⟩ (.slice A2 y'.length c2)).drew).heap[B]? = _ from blk_far (blk_far (blk_far (show w2.heap[B]? = _ from HB2.out) (p := ⟨gp, 0, none⟩) (show B ≠ gp by omega) (.int .i64 b.f0)) (p := ⟨gp, 1, none⟩) (show B ≠ gp by omega) (.int .i64 b.f1)) (p := ⟨B + 1, 0, none⟩) (show B ≠ B + 1 by omega) (.slice A2 y'.length c2))
    have HK3 := Aside0.mk (show diff_beside.Kp B wr (((((w2).setCell ⟨gp, 0, none⟩ (.int .i64 b.f0)).setCell ⟨gp, 1, none⟩ (.int .i64 b.f1)).setCell ⟨B + 1, 0, none⟩ (.slice A2 y'.length c2)).drew) from (hHeld.1).set (p := ⟨B + 1, 0, none⟩) (.inr (.inl rfl)) hBw (.slice A2 y'.length c2))
    clear hHeld cw0 cw1 hzz hgg hgpz hBw
    generalize ((((w2).setCell ⟨gp, 0, none⟩ (.int .i64 b.f0)).setCell ⟨gp, 1, none⟩ (.int .i64 b.f1)).setCell ⟨B + 1, 0, none⟩ (.slice A2 y'.length c2)).drew = w3 at HP3 HW3 HO3 HB3 HK3 ⊢
    have cw0 : w3.cell? ⟨gw, 0, none⟩ = some (.bool false) := (blk_cell HW3.out 0).trans rfl
    have cw1 : w3.cell? ⟨gw, 1, none⟩ = some (.bool true) := (blk_cell HW3.out 1).trans rfl
    obtain ⟨fn, tmps, assign, body, hy, hRd⟩ := hyield _ _ wr w3 _ _ _ HJ.out HNX.out HK3.out (⟨A, c, by rw [← HN.out.1]; exact HB3.out, HC.out.1, Kd.F_kept HF.out HK3.out.1 (fun k hk h => h.elim (hok k hk).1 (hok k hk).2)⟩) (⟨A2, c2, HO3.out, leb, Kd.F_kept Feb.out HK3.out.1 (fun k hk h => h.elim (hok k hk).1 (hok k hk).2)⟩)
    have pz0 : w3.cell? ⟨gp, 0, none⟩ = some (.int .i64 b.f0) := (blk_cell HP3.out 0).trans rfl
    have pz1 : w3.cell? ⟨gp, 1, none⟩ = some (.int .i64 b.f1) := (blk_cell HP3.out 1).trans rfl
    go_upto_region 13 with (fail)
    refine (wpIn_wide (n := 4)).1 ?_
    gi_wp2
    refine hRd.mono ?_
    rintro e W3 (⟨rfl, hJ3⟩ | ⟨rfl, hD⟩)
    ·gi_wp2
     try go_wp2
     go_roundw
     case rel => exact ⟨_, _, hJ3⟩
     case measure =>
      obtain ⟨q1, q2, _⟩ := hbox _ _ _ hJ3
      obtain ⟨q3, q4, _⟩ := hbox _ _ _ HJ.out
      rw [q1.len, q2.len, q3.len, q4.len]
      simp only [List.length_cons]
      omega
    ·gi_wp2
     try go_wp2
     refine bodyPost_ret (results_none rfl _ _ _) rfl ?_
     exact ⟨⟨_, rfl⟩, hD⟩
   ·clear hnx
    have cw0 : wc.cell? ⟨gw, 0, none⟩ = some (.bool true) := (blk_cell HWc.out 0).trans rfl
    have cw1 : wc.cell? ⟨gw, 1, none⟩ = some (.bool true) := (blk_cell HWc.out 1).trans rfl
    have hn3 : (0 < n) = True := eq_true (by have h := HN.out.1; simp at h; omega)
    have hm3 : (0 < m) = True := eq_true (by have h := HN.out.2; simp at h; omega)
    obtain ⟨Ad, rfl, ea0, ea1⟩ := diff_beside.at0 (Kd.F_now HF.out)
    have hea := Kd.F_in HF.out rfl (by simp) (by decide)
    have nea : ¬ (Ad.block = B ∨ Ad.block = B + 1) := fun h => h.elim (hok _ hea).1 (hok _ hea).2
    obtain ⟨A1, c1, sea, lea, Fea_⟩ : ∃ A1 c1, (∀ W : World, (Instr.slice 22 (.slice (some Ad) n c) (some (.int .i64 1)) none none).run Tryd.prog W = .ok (.slice A1 x'.length c1) W) ∧ x'.length ≤ c1 ∧ Kd.F k33 wr ok A1 x'.length x' := by
     obtain ⟨i_, hi_, hz_⟩ := Option.map_eq_some_iff.1 diff_beside.sizeP
     have hz2 : i_.size = 2 := hz_
     have hcc := HC.out
     have hnn := HN.out
     have h1 := cut_from (P := Tryd.prog) 22 33 .i64 Tryd.underlying22 hi_ 2 hz2 (some Ad) n c 1 (by omega) (by have : n = x'.length + 1 := hnn.1; omega)
     have h2 := Kd.F_cut (m := 1) (c := c) HF.out (by simp) hcc.1
     have h3 : n - 1 = x'.length := by have : n = x'.length + 1 := hnn.1; omega
     rw [show (1 : Int).toNat = 1 from rfl, h3] at h1
     refine ⟨_, _, h1, ?_, h2⟩
     have h4 : x'.length + 1 ≤ c := hcc.1
     omega
    have Fea := Aside0.mk Fea_
    clear Fea_
    obtain ⟨A'd, rfl, eb0, eb1⟩ := diff_beside.at0 (Kd.F_now HF'.out)
    have heb := Kd.F_in HF'.out rfl (by simp) (by decide)
    have neb : ¬ (A'd.block = B ∨ A'd.block = B + 1) := fun h => h.elim (hok _ heb).1 (hok _ heb).2
    obtain ⟨A2, c2, seb, leb, Feb_⟩ : ∃ A1 c1, (∀ W : World, (Instr.slice 22 (.slice (some A'd) m c') (some (.int .i64 1)) none none).run Tryd.prog W = .ok (.slice A1 y'.length c1) W) ∧ y'.length ≤ c1 ∧ Kd.F k33 wr ok A1 y'.length y' := by
     obtain ⟨i_, hi_, hz_⟩ := Option.map_eq_some_iff.1 diff_beside.sizeP
     have hz2 : i_.size = 2 := hz_
     have hcc := HC.out
     have hnn := HN.out
     have h1 := cut_from (P := Tryd.prog) 22 33 .i64 Tryd.underlying22 hi_ 2 hz2 (some A'd) m c' 1 (by omega) (by have : m = y'.length + 1 := hnn.2; omega)
     have h2 := Kd.F_cut (m := 1) (c := c') HF'.out (by simp) hcc.2
     have h3 : m - 1 = y'.length := by have : m = y'.length + 1 := hnn.2; omega
     rw [show (1 : Int).toNat = 1 from rfl, h3] at h1
     refine ⟨_, _, h1, ?_, h2⟩
     have h4 : y'.length + 1 ≤ c' := hcc.2
     omega
    have Feb := Aside0.mk Feb_
    clear Feb_
    have HZ := Aside0.mk (And.intro (show wr.heap.size ≤ gw from Nat.le_of_eq HGW.out.symm) HBZ.out)
    go_upto_region 10 with (first | ((with_reducible refine gate_dst (N := 6) rfl ?_); refine box_event ?hg (N := 6) ?hd (cs := #[.int .i64 0, .int .i64 0]) (t := 33) ?hr ?_; (case hd => rfl); (case hg => rfl); (case hr => first | (go_simp; done) | (go_simp; rfl)); intro gp hgp w2 hp2 hk2; have HW2 := Aside0.mk (blk_below HWc.out hk2); have HB2 := Aside0.mk (blk_below HBc.out hk2); have HO2 := Aside0.mk (blk_below HOc.out hk2); have HP2 := Aside0.mk hp2; have HK2 := Aside0.mk (show diff_beside.Kp B wr w2 from diff_beside.Kp.below ⟨HKc.out.1.mono (fun _ h => h.elim), HKc.out.2⟩ (by have := HBZ.out; omega) hk2); have HGP := Aside0.mk (show gw < gp by rw [hgp]; exact blk_lt HWc.out); clear cw0 cw1; have cw0 : w2.cell? ⟨gw, 0, none⟩ = some (.bool true) := (blk_cell HW2.out 0).trans rfl; have cw1 : w2.cell? ⟨gw, 1, none⟩ = some (.bool true) := (blk_cell HW2.out 1).trans rfl; clear hgp hp2 hk2))
    have hBw : B ≤ wr.heap.size := by have := HBZ.out; omega
    have hgpz : wr.heap.size ≤ gp := by have h1 := HZ.out; have h2 := HGP.out; omega
    have hzz := HZ.out
    have hgg := HGP.out
    refine start_ (ds := [6]) (n := 7) (S := fun W => diff_beside.Kp B wr W ∧ W.heap[B]? = some (.cells #[.slice (some Ad) n c] 22)) #[false, false, false, false, false, false, false] (by kernel_rfl) rfl (by rfl) (⟨HK2.out.drew, HB2.out⟩) (fun hHeld => ?_)
    refine take_ (i := 0) (N := (some 37)) (v := ?_) (a' := ?_) #[true, false, false, false, false, false, false] rfl rfl (by kernel_rfl) (fun _ _ _ h => h) (Or.inl ⟨by rfl, ?_⟩) hHeld ?_ ?_
    rotate_left
    ·intro w' hw'
     have q0 : w'.cell? ⟨B, 0, none⟩ = some (.slice (some Ad) n c) := (blk_cell hw'.2 0).trans rfl
     go_simp
     first | done | with_reducible rfl | rfl
    rotate_left
    ·simp only [Act.put, List.setIfInBounds_toArray, List.set_cons_zero, List.set_cons_succ, i64_w, i32_w]
     rfl
    refine pure_ (i := 1) (N := (some 38)) (v := ?_) (a' := ?_) #[true, true, false, false, false, false, false] rfl rfl (by kernel_rfl) (fun _ _ _ h => h) (Or.inl ⟨by rfl, ?_⟩) ?_ ?_
    rotate_left
    ·intro w'
     go_simp
     first | with_reducible rfl | rfl
    rotate_left
    ·simp only [Act.put, List.setIfInBounds_toArray, List.set_cons_zero, List.set_cons_succ, i64_w, i32_w]
     rfl
    refine take_ (i := 2) (N := (some 39)) (v := ?_) (a' := ?_) #[true, true, true, false, false, false, false] rfl rfl (by kernel_rfl) (fun _ _ _ h => h) (Or.inl ⟨by rfl, ?_⟩) hHeld ?_ ?_
    rotate_left
    ·intro w' hw'
     have q0 := Go.Proofs.YtahkkgnicgbncaaDoorW.PrintWords.cell_kept ea0 hw'.1.1 nea
     have q1 := Go.Proofs.YtahkkgnicgbncaaDoorW.PrintWords.cell_kept ea1 hw'.1.1 nea
     go_simp
     first | done | with_reducible rfl | rfl
    rotate_left
    ·simp only [Act.put, List.setIfInBounds_toArray, List.set_cons_zero, List.set_cons_succ, i64_w, i32_w]
     rfl
    refine take_ (i := 3) (N := (some 40)) (v := ?_) (a' := ?_) #[true, true, true, true, false, false, false] rfl rfl (by kernel_rfl) (fun _ _ _ h => h) (Or.inl ⟨by rfl, ?_⟩) hHeld ?_ ?_
    rotate_left
    ·intro w' hw'
     have q0 : w'.cell? ⟨B, 0, none⟩ = some (.slice (some Ad) n c) := (blk_cell hw'.2 0).trans rfl
     go_simp
     first | done | with_reducible rfl | rfl
    rotate_left
    ·simp only [Act.put, List.setIfInBounds_toArray, List.set_cons_zero, List.set_cons_succ, i64_w, i32_w]
     rfl
    refine pure_ (i := 4) (N := (some 41)) (v := ?_) (a' := ?_) #[true, true, true, true, true, false, false] rfl rfl (by kernel_rfl) (fun _ _ _ h => h) (Or.inl ⟨by rfl, ?_⟩) ?_ ?_
    rotate_left
    ·intro w'
     go_simp
     first | with_reducible rfl | rfl
    rotate_left
    ·simp only [Act.put, List.setIfInBounds_toArray, List.set_cons_zero, List.set_cons_succ, i64_w, i32_w]
     rfl
    refine one_ (i := 5) (N := none) #[true, true, true, true, true, true, false] rfl rfl (by kernel_rfl) (by decide) (fun K hK => ?_)
    have p0 : w2.cell? ⟨gp, 0, none⟩ = some (.int .i64 0) := (blk_cell (show w2.heap[gp]? = _ from HP2.out) 0).trans rfl
    have p1 : w2.cell? ⟨gp, 1, none⟩ = some (.int .i64 0) := (blk_cell (show w2.heap[gp]? = _ from HP2.out) 1).trans rfl
    have pf0 := blk_frozen (show w2.heap[gp]? = _ from HP2.out) 0
    have pf1 := blk_frozen (show w2.heap[gp]? = _ from HP2.out) 1
    refine skip_ (w1 := ?_) (by rfl) rfl ?_ ?_
    rotate_left
    ·go_simp
     rfl
    refine hK.out _ _ (⟨((hHeld.1).set (.inr (.inr hgpz)) hBw _).set (.inr (.inr hgpz)) hBw _, blk_far (blk_far hHeld.2 (p := ⟨gp, 0, none⟩) (show B ≠ gp by omega) _) (p := ⟨gp, 1, none⟩) (show B ≠ gp by omega) _⟩) (fun hHeld => ?_)
    clear hK K p0 p1 pf0 pf1
    refine last_ (i := 6) (N := none) #[true, true, true, true, true, true, true] rfl rfl (by kernel_rfl) (by decide) (fun K hK => ?_)
    have p0 : (((w2).setCell ⟨gp, 0, none⟩ (.int .i64 a.f0)).setCell ⟨gp, 1, none⟩ (.int .i64 a.f1)).cell? ⟨B, 0, none⟩ = some (.slice (some Ad) n c) := (blk_cell hHeld.2 0).trans rfl
    have pf0 := blk_frozen hHeld.2 0
    refine skip_ (w1 := ?_) (by rfl) rfl ?_ ?_
    rotate_left
    ·go_simp
     rfl
    refine hK.out _ _ ?_
    clear hK K p0 pf0
    refine done_ (by kernel_rfl) ?_
    have HP3 := Aside0.mk (show (((((w2).setCell ⟨gp, 0, none⟩ (.int .i64 a.f0)).setCell ⟨gp, 1, none⟩ (.int .i64 a.f1)).setCell ⟨B, 0, none⟩ (.slice A1 x'.length c1)).drew).heap[gp]? = some (.cells #[.int .i64 a.f0, .int .i64 a.f1] 33 (0, 0)) from blk_far (blk_put (cs' := #[.int .i64 a.f0, .int .i64 a.f1]) (blk_put (cs' := #[.int .i64 a.f0, .int .i64 0]) (show w2.heap[gp]? = _ from HP2.out) 0 _ rfl) 1 _ rfl) (p := ⟨B, 0, none⟩) (show gp ≠ B by omega) (.slice A1 x'.length c1))
    have HW3 := Aside0.mk (show (((((w2).setCell ⟨gp, 0, none⟩ (.int .i64 a.f0)).setCell ⟨gp, 1, none⟩ (.int .i64 a.f1)).setCell ⟨B, 0, none⟩ (.slice A1 x'.length c1)).drew).heap[gw]? = some (.cells #[.bool true, .bool true] 51 (0, 0)) from blk_far (blk_far (blk_far (show w2.heap[gw]? = _ from HW2.out) (p := ⟨gp, 0, none⟩) (show gw ≠ gp by omega) (.int .i64 a.f0)) (p := ⟨gp, 1, none⟩) (show gw ≠ gp by omega) (.int .i64 a.f1)) (p := ⟨B, 0, none⟩) (show gw ≠ B by omega) (.slice A1 x'.length c1))
    have HB3 := Aside0.mk (show (((((w2).setCell ⟨gp, 0, none⟩ (.int .i64 a.f0)).setCell ⟨gp, 1, none⟩ (.int .i64 a.f1)).setCell ⟨B, 0, none⟩ (.slice A1 x'.length c1)).drew).heap[B]? = some (.cells #[.slice A1 x'.length c1] 22) from blk_put (cs' := #[.slice A1 x'.length c1]) hHeld.2 0 _ rfl)
    have HO3 := Aside0.mk (show (((((w2).setCell ⟨gp, 0, none⟩ (.int .i64 a.f0)).setCell ⟨gp, 1, none⟩ (.int .i64 a.f1)).setCell ⟨B, 0, none⟩ (.slice A1 x'.length c1)).drew).heap[B + 1]? = _ from blk_far (blk_far (blk_far (show w2.heap[B + 1]? = _ from HO2.out) (p := ⟨gp, 0, none⟩) (show B + 1 ≠ gp by omega) (.int .i64 a.f0)) (p := ⟨gp, 1, none⟩) (show B + 1 ≠ gp by omega) (.int .i64 a.f1)) (p := ⟨B, 0, none⟩) (show B + 1 ≠ B by omega) (.slice A1 x'.length c1))
    have HK3 := Aside0.mk (show diff_beside.Kp B wr (((((w2).setCell ⟨gp, 0, none⟩ (.int .i64 a.f0)).setCell ⟨gp, 1, none⟩ (.int .i64 a.f1)).setCell ⟨B, 0, none⟩ (.slice A1 x'.length c1)).drew) from (hHeld.1).set (p := ⟨B, 0, none⟩) (.inl rfl) hBw (.slice A1 x'.length c1))
    clear hHeld cw0 cw1 hzz hgg hgpz hBw
    generalize ((((w2).setCell ⟨gp, 0, none⟩ (.int .i64 a.f0)).setCell ⟨gp, 1, none⟩ (.int .i64 a.f1)).setCell ⟨B, 0, none⟩ (.slice A1 x'.length c1)).drew = w3 at HP3 HW3 HB3 HO3 HK3 ⊢
    have cw0 : w3.cell? ⟨gw, 0, none⟩ = some (.bool true) := (blk_cell HW3.out 0).trans rfl
    have cw1 : w3.cell? ⟨gw, 1, none⟩ = some (.bool true) := (blk_cell HW3.out 1).trans rfl
    go_upto_region 12 with (fail)
    have hBw : B ≤ wr.heap.size := by have := HBZ.out; omega
    have hgpz : wr.heap.size ≤ gp := by have h1 := HZ.out; have h2 := HGP.out; omega
    have hzz := HZ.out
    have hgg := HGP.out
    refine start_ (ds := [6]) (n := 7) (S := fun W => diff_beside.Kp B wr W ∧ W.heap[B + 1]? = some (.cells #[.slice (some A'd) m c'] 22)) #[false, false, false, false, false, false, false] (by kernel_rfl) rfl (by rfl) (⟨HK3.out.drew, HO3.out⟩) (fun hHeld => ?_)
    refine take_ (i := 0) (N := (some 44)) (v := ?_) (a' := ?_) #[true, false, false, false, false, false, false] rfl rfl (by kernel_rfl) (fun _ _ _ h => h) (Or.inl ⟨by rfl, ?_⟩) hHeld ?_ ?_
    rotate_left
    ·intro w' hw'
     have q0 : w'.cell? ⟨B + 1, 0, none⟩ = some (.slice (some A'd) m c') := (blk_cell hw'.2 0).trans rfl
     go_simp
     first | done | with_reducible rfl | rfl
    rotate_left
    ·simp only [Act.put, List.setIfInBounds_toArray, List.set_cons_zero, List.set_cons_succ, i64_w, i32_w]
     rfl
    refine pure_ (i := 1) (N := (some 45)) (v := ?_) (a' := ?_) #[true, true, false, false, false, false, false] rfl rfl (by kernel_rfl) (fun _ _ _ h => h) (Or.inl ⟨by rfl, ?_⟩) ?_ ?_
    rotate_left
    ·intro w'
     go_simp
     first | with_reducible rfl | rfl
    rotate_left
    ·simp only [Act.put, List.setIfInBounds_toArray, List.set_cons_zero, List.set_cons_succ, i64_w, i32_w]
     rfl
    refine take_ (i := 2) (N := (some 46)) (v := ?_) (a' := ?_) #[true, true, true, false, false, false, false] rfl rfl (by kernel_rfl) (fun _ _ _ h => h) (Or.inl ⟨by rfl, ?_⟩) hHeld ?_ ?_
    rotate_left
    ·intro w' hw'
     have q0 := Go.Proofs.YtahkkgnicgbncaaDoorW.PrintWords.cell_kept eb0 hw'.1.1 neb
     have q1 := Go.Proofs.YtahkkgnicgbncaaDoorW.PrintWords.cell_kept eb1 hw'.1.1 neb
     go_simp
     first | done | with_reducible rfl | rfl
    rotate_left
    ·simp only [Act.put, List.setIfInBounds_toArray, List.set_cons_zero, List.set_cons_succ, i64_w, i32_w]
     rfl
    refine take_ (i := 3) (N := (some 47)) (v := ?_) (a' := ?_) #[true, true, true, true, false, false, false] rfl rfl (by kernel_rfl) (fun _ _ _ h => h) (Or.inl ⟨by rfl, ?_⟩) hHeld ?_ ?_
    rotate_left
    ·intro w' hw'
     have q0 : w'.cell? ⟨B + 1, 0, none⟩ = some (.slice (some A'd) m c') := (blk_cell hw'.2 0).trans rfl
     go_simp
     first | done | with_reducible rfl | rfl
    rotate_left
    ·simp only [Act.put, List.setIfInBounds_toArray, List.set_cons_zero, List.set_cons_succ, i64_w, i32_w]
     rfl
    refine pure_ (i := 4) (N := (some 48)) (v := ?_) (a' := ?_) #[true, true, true, true, true, false, false] rfl rfl (by kernel_rfl) (fun _ _ _ h => h) (Or.inl ⟨by rfl, ?_⟩) ?_ ?_
    rotate_left
    ·intro w'
     go_simp
     first | with_reducible rfl | rfl
    rotate_left
    ·simp only [Act.put, List.setIfInBounds_toArray, List.set_cons_zero, List.set_cons_succ, i64_w, i32_w]
     rfl
    refine one_ (i := 5) (N := none) #[true, true, true, true, true, true, false] rfl rfl (by kernel_rfl) (by decide) (fun K hK => ?_)
    have p0 : w3.cell? ⟨gp, 0, none⟩ = some (.int .i64 a.f0) := (blk_cell (show w3.heap[gp]? = _ from HP3.out) 0).trans rfl
    have p1 : w3.cell? ⟨gp, 1, none⟩ = some (.int .i64 a.f1) := (blk_cell (show w3.heap[gp]? = _ from HP3.out) 1).trans rfl
    have pf0 := blk_frozen (show w3.heap[gp]? = _ from HP3.out) 0
    have pf1 := blk_frozen (show w3.heap[gp]? = _ from HP3.out) 1
    refine skip_ (w1 := ?_) (by rfl) rfl ?_ ?_
    rotate_left
    ·go_simp
     rfl
    refine hK.out _ _ (⟨((hHeld.1).set (.inr (.inr hgpz)) hBw _).set (.inr (.inr hgpz)) hBw _, blk_far (blk_far hHeld.2 (p := ⟨gp, 0, none⟩) (show B + 1 ≠ gp by omega) _) (p := ⟨gp, 1, none⟩) (show B + 1 ≠ gp by omega) _⟩) (fun hHeld => ?_)
    clear hK K p0 p1 pf0 pf1
    refine last_ (i := 6) (N := none) #[true, true, true, true, true, true, true] rfl rfl (by kernel_rfl) (by decide) (fun K hK => ?_)
    have p0 : (((w3).setCell ⟨gp, 0, none⟩ (.int .i64 b.f0)).setCell ⟨gp, 1, none⟩ (.int .i64 b.f1)).cell? ⟨B + 1, 0, none⟩ = some (.slice (some A'd) m c') := (blk_cell hHeld.2 0).trans rfl
    have pf0 := blk_frozen hHeld.2 0
    refine skip_ (w1 := ?_) (by rfl) rfl ?_ ?_
    rotate_left
    ·go_simp
     rfl
    refine hK.out _ _ ?_
    clear hK K p0 pf0
    refine done_ (by kernel_rfl) ?_
    have HP4 := Aside0.mk (show (((((w3).setCell ⟨gp, 0, none⟩ (.int .i64 b.f0)).setCell ⟨gp, 1, none⟩ (.int .i64 b.f1)).setCell ⟨B + 1, 0, none⟩ (.slice A2 y'.length c2)).drew).heap[gp]? = some (.cells #[.int .i64 b.f0, .int .i64 b.f1] 33 (0, 0)) from blk_far (blk_put (cs' := #[.int .i64 b.f0, .int .i64 b.f1]) (blk_put (cs' := #[.int .i64 b.f0, .int .i64 a.f1]) (show w3.heap[gp]? = _ from HP3.out) 0 _ rfl) 1 _ rfl) (p := ⟨B + 1, 0, none⟩) (show gp ≠ B + 1 by omega) (.slice A2 y'.length c2))
    have HW4 := Aside0.mk (show (((((w3).setCell ⟨gp, 0, none⟩ (.int .i64 b.f0)).setCell ⟨gp, 1, none⟩ (.int .i64 b.f1)).setCell ⟨B + 1, 0, none⟩ (.slice A2 y'.length c2)).drew).heap[gw]? = some (.cells #[.bool true, .bool true] 51 (0, 0)) from blk_far (blk_far (blk_far (show w3.heap[gw]? = _ from HW3.out) (p := ⟨gp, 0, none⟩) (show gw ≠ gp by omega) (.int .i64 b.f0)) (p := ⟨gp, 1, none⟩) (show gw ≠ gp by omega) (.int .i64 b.f1)) (p := ⟨B + 1, 0, none⟩) (show gw ≠ B + 1 by omega) (.slice A2 y'.length c2))
    have HO4 := Aside0.mk (show (((((w3).setCell ⟨gp, 0, none⟩ (.int .i64 b.f0)).setCell ⟨gp, 1, none⟩ (.int .i64 b.f1)).setCell ⟨B + 1, 0, none⟩ (.slice A2 y'.length c2)).drew).heap[B + 1]? = some (.cells #[.slice A2 y'.length c2] 22) from blk_put (cs' := #[.slice A2 y'.length c2]) hHeld.2 0 _ rfl)
    have HB4 := Aside0.mk (show (((((w3).setCell ⟨gp, 0, none⟩ (.int .i64 b.f0)).setCell ⟨gp, 1, none⟩ (.int .i64 b.f1)).setCell ⟨B + 1, 0, none⟩ (.slice A2 y'.length c2)).drew).heap[B]? = _ from blk_far (blk_far (blk_far (show w3.heap[B]? = _ from HB3.out) (p := ⟨gp, 0, none⟩) (show B ≠ gp by omega) (.int .i64 b.f0)) (p := ⟨gp, 1, none⟩) (show B ≠ gp by omega) (.int .i64 b.f1)) (p := ⟨B + 1, 0, none⟩) (show B ≠ B + 1 by omega) (.slice A2 y'.length c2))
    have HK4 := Aside0.mk (show diff_beside.Kp B wr (((((w3).setCell ⟨gp, 0, none⟩ (.int .i64 b.f0)).setCell ⟨gp, 1, none⟩ (.int .i64 b.f1)).setCell ⟨B + 1, 0, none⟩ (.slice A2 y'.length c2)).drew) from (hHeld.1).set (p := ⟨B + 1, 0, none⟩) (.inr (.inl rfl)) hBw (.slice A2 y'.length c2))
    clear hHeld cw0 cw1 hzz hgg hgpz hBw
    generalize ((((w3).setCell ⟨gp, 0, none⟩ (.int .i64 b.f0)).setCell ⟨gp, 1, none⟩ (.int .i64 b.f1)).setCell ⟨B + 1, 0, none⟩ (.slice A2 y'.length c2)).drew = w4 at HP4 HW4 HO4 HB4 HK4 ⊢
    have cw0 : w4.cell? ⟨gw, 0, none⟩ = some (.bool true) := (blk_cell HW4.out 0).trans rfl
    have cw1 : w4.cell? ⟨gw, 1, none⟩ = some (.bool true) := (blk_cell HW4.out 1).trans rfl
    obtain ⟨fn, tmps, assign, body, hy, hRd⟩ := hyield _ _ wr w4 _ _ _ HJ.out HNX.out HK4.out (⟨A1, c1, HB4.out, lea, Kd.F_kept Fea.out HK4.out.1 (fun k hk h => h.elim (hok k hk).1 (hok k hk).2)⟩) (⟨A2, c2, HO4.out, leb, Kd.F_kept Feb.out HK4.out.1 (fun k hk h => h.elim (hok k hk).1 (hok k hk).2)⟩)
    have pz0 : w4.cell? ⟨gp, 0, none⟩ = some (.int .i64 b.f0) := (blk_cell HP4.out 0).trans rfl
    have pz1 : w4.cell? ⟨gp, 1, none⟩ = some (.int .i64 b.f1) := (blk_cell HP4.out 1).trans rfl
    go_upto_region 13 with (fail)
    refine (wpIn_wide (n := 4)).1 ?_
    gi_wp2
    refine hRd.mono ?_
    rintro e W3 (⟨rfl, hJ3⟩ | ⟨rfl, hD⟩)
    ·gi_wp2
     try go_wp2
     go_roundw
     case rel => exact ⟨_, _, hJ3⟩
     case measure =>
      obtain ⟨q1, q2, _⟩ := hbox _ _ _ hJ3
      obtain ⟨q3, q4, _⟩ := hbox _ _ _ HJ.out
      rw [q1.len, q2.len, q3.len, q4.len]
      simp only [List.length_cons]
      omega
    ·gi_wp2
     try go_wp2
     refine bodyPost_ret (results_none rfl _ _ _) rfl ?_
     exact ⟨⟨_, rfl⟩, hD⟩
end
theorem diff_beside.upon_of {P : Program} {l n : Nat} {o : Oper} {a : Act} {next next' : Act → World → Prop} {Q : Exit → Act → World → Prop} {r : Result Next} (hn : ∀ a w, next a w → next' a w) (h : o.upon P a next Q r) : o.uponIn (Fence.wide.inRound l) n P a next' Q r := by
 cases r with
 | ok v w =>
  cases v with
  | value v => exact hn _ _ h
  | skip => exact hn _ _ h
  | defer d => exact hn _ _ h
  | enter f args => exact ⟨fun h => absurd h (by simp [Fence.wide, Fence.inRound]), CallsIn.inRound l (callsIn_wide.2 (Calls.mono h (by rintro e w' h; cases e <;> first | exact hn _ _ h | exact h)))⟩
  | row rw_ args => exact ⟨fun h => absurd h (by simp [Fence.wide, Fence.inRound]), fun c cs _ => let ⟨v, w', hr, hs⟩ := h c cs; ⟨v, w', hn _ _ hr, stepsIn_wide.2 hs⟩⟩
  | round l f tmps assign body => exact h.elim
  | _ => exact h.elim
 | halt hh w => cases hh <;> first | exact h | exact h.elim
def diff_beside.tame (o : Oper) : Bool := match o.op with
 | .defer _ => false
 | _ => true
/-- A list of operations in a round, out of its walk elsewhere. -/
theorem diff_beside.list_of {P : Program} {l n : Nat} {ops : Array Oper} {Q : Exit → Act → World → Prop} (hno : ¬ LetsOut Q) : ∀ (rest : List Oper), rest.all diff_beside.tame = true → ∀ a w, wpList P ops Q rest a w → wpListIn (Fence.wide.inRound l) n P ops Q rest a w
 | [], _, _, _, h => h
 | o :: rest, ht, a, w, h => by
  simp only [List.all_cons, Bool.and_eq_true] at ht
  have ih := diff_beside.list_of (P := P) (l := l) (n := n) (ops := ops) hno rest ht.2
  unfold wpList at h
  unfold wpListIn
  split
  ·rename_i hw
   rw [if_pos hw] at h
   rcases h with h | ⟨_, h⟩
   ·refine ⟨fun _ _ => trivial, ?_⟩
    rw [Oper.semAt_plain _ _ _ (by intro c hc; have h1 := ht.1; unfold diff_beside.tame at h1; rw [hc] at h1; cases h1)]
    exact diff_beside.upon_of (fun a w h => ih a w h) h
   ·exact absurd h hno
  ·rename_i hw
   rw [if_neg hw] at h
   exact ⟨fun _ _ => trivial, ih _ _ h⟩
/-- What is no cells, the two boxes, and the data, are kept. -/
def diff_beside.Off (B : Nat) (ok : Nat → Prop) (W W' : World) : Prop := W.heap.size ≤ W'.heap.size ∧ ∀ (i : Nat) (o : Obj), W.heap[i]? = some o → (o.isCells = false ∨ i = B ∨ i = B + 1 ∨ ok i) → W'.heap[i]? = some o
theorem diff_beside.Off.refl (B : Nat) (ok : Nat → Prop) (W : World) : diff_beside.Off B ok W W := ⟨Nat.le_refl _, fun _ _ h _ => h⟩
theorem diff_beside.Off.trans {B : Nat} {ok : Nat → Prop} {W W' W'' : World} (h : diff_beside.Off B ok W W') (k : diff_beside.Off B ok W' W'') : diff_beside.Off B ok W W'' := ⟨Nat.le_trans h.1 k.1, fun i o hi ho => k.2 i o (h.2 i o hi ho) ho⟩
theorem diff_beside.Off.below {B : Nat} {ok : Nat → Prop} {W W' : World} (h : Below W.heap.size W W') : diff_beside.Off B ok W W' := ⟨h.size, fun i o hi _ => blk_below hi h⟩
theorem diff_beside.Off.set {B : Nat} {ok : Nat → Prop} {W : World} {p : Addr} {cs : Array Value} {t : TypeId} {fz : Nat × Nat} (hp : W.heap[p.block]? = some (.cells cs t fz)) (h0 : p.block ≠ B) (h1 : p.block ≠ B + 1) (h2 : ¬ ok p.block) (u : Value) : diff_beside.Off B ok W (W.setCell p u) :=
 ⟨by simp [World.setCell], fun i o hi ho => (Below.heap_setCell W p u i (fun e => by
  subst e
  rw [hp] at hi
  cases hi
  rcases ho with ho | ho | ho | ho
  ·cases ho
  ·exact h0 ho
  ·exact h1 ho
  ·exact h2 ho)).trans hi⟩
theorem diff_beside.Off.grown {B : Nat} {ok : Nat → Prop} {W W' : World} {row : Option Nat} (hg : W.grownBy W' row) (hr : ∀ k, row = some k → k ≠ B ∧ k ≠ B + 1 ∧ ¬ ok k ∧ ∀ o, W.heap[k]? = some o → o.isCells = true) : diff_beside.Off B ok W W' :=
 ⟨hg.size, fun i o hi ho => (hg.block i (Array.getElem?_eq_some_iff.1 hi).1 (fun e => by
  obtain ⟨h0, h1, h2, h3⟩ := hr i e.symm
  have h4 := h3 o hi
  rcases ho with ho | ho | ho | ho
  ·rw [ho] at h4; cases h4
  ·exact h0 ho
  ·exact h1 ho
  ·exact h2 ho)).trans hi⟩
theorem diff_beside.Box.off {B g : Nat} {ok : Nat → Prop} {x : List S33} {W W' : World} (h : diff_beside.Box ok g x W) (k : diff_beside.Off B ok W W') (hg : g = B ∨ g = B + 1) : diff_beside.Box ok g x W' := by
 obtain ⟨A, c, h0, h1, h2⟩ := h
 refine ⟨A, c, k.2 _ _ h0 (by rcases hg with h | h <;> simp [h]), h1, Kd.F_step h2 (fun i hi hlt => ?_)⟩
 have hs : W.heap[i]? = some W.heap[i] := Array.getElem?_eq_getElem hlt
 rw [hs]
 exact k.2 i _ hs (.inr (.inr (.inr hi)))
theorem diff_beside.Box.put {g l : Nat} {ok : Nat → Prop} {x : List S33} {W : World} {o o' : Obj} (h : diff_beside.Box ok g x W) (hl : W.heap[l]? = some o) (ho : o.isCells = false) (hk : ¬ ok l) : diff_beside.Box ok g x (W.putObj l o') := by
 obtain ⟨A, c, h0, h1, h2⟩ := h
 exact ⟨A, c, (World.putObj_heap_other (fun e => by subst e; rw [hl] at h0; cases h0; cases ho)).trans h0, h1, Kd.F_step h2 (fun i hi _ => World.putObj_heap_other (fun e => hk (e ▸ hi)))⟩
/-- A round that may make memory where its variables are assigned. -/
theorem diff_beside.told_round {P : Program} {l m : Nat} {r : Loop} {args : Array Value} {W : World} {Go Stop : World → Prop} (hl : W.heap[l]? = some (.loop r)) (hr : r.state = .ready) (hs : args.size = r.params.size)
  (h : r.assign.wpIn (Fence.wide.inRound l) m P (Exit.then (fun a₁ W1 => W1.heap[l]? = some (.loop r) ∧ ∀ WB, WB = W1.putObj l (.loop { r with state := .busy }) → r.body.wpIn (Fence.wide.inRound l) m P (fun e _ W3 => W3.heap[l]? = some (.loop { r with state := .busy }) ∧ (match e with
   | .normal => Go (W3.putObj l (.loop { r with state := .ready, pending := none }))
   | .ret => Stop (W3.putObj l (.loop { r with state := .done, pending := some .ret }))
   | .exit i => Stop (W3.putObj l (.loop { r with state := .done, pending := some (.exit i) }))
   | _ => False)) a₁ WB) (fun _ _ _ => False)) { tmps := (r.params.zip args).foldl (fun tmps (t, a) => tmps.setIfInBounds t a) r.tmps, defers := [] } W) :
  YieldAt Fence.wide m P l args W (fun e W' => (e = .returned (.bool true) ∧ Go W') ∨ (e = .returned (.bool false) ∧ Stop W')) := by
 refine ⟨r.fn, _, r.assign, r.body, run_yield hl hs, roundIn_of_wpIn trivial (wpIn_mono h ?_)⟩
 intro e a W1 h
 cases e with
 | normal =>
  obtain ⟨h1, h2⟩ := h
  refine ⟨_, run_beginRound h1 hr, wpIn_mono (h2 _ rfl) ?_⟩
  rintro e a3 W3 ⟨h3, hp⟩
  cases e with
  | normal => exact ⟨_, _, run_endRound none h3, .inl ⟨rfl, hp⟩⟩
  | ret => exact ⟨_, _, run_endRound (some .ret) h3, .inr ⟨rfl, hp⟩⟩
  | exit i => exact ⟨_, _, run_endRound (some (.exit i)) h3, .inr ⟨rfl, hp⟩⟩
  | goto t => exact hp.elim
  | panic ch => exact hp.elim
  | outgrown => exact hp.elim
 | _ => exact h.elim
theorem diff_beside.told_enter {P : Program} {g : Operand} {ps : Array Tmp} {assign body : Code} {Q : Exit → Act → World → Prop} {a : Act} {w : World} {n gf : Nat} {lb : Array Value}
  (hg : a.eval g = .func (.func gf) #[] lb) (eg : ∀ args w, (callFunc gf args).run P w = .ok (.enter gf args) w)
  (h : ∀ (fn : FuncId) (r : Loop) (W1 : World), r = { state := .ready, pending := none, fn := fn, tmps := a.tmps, params := ps, assign := assign, body := body, defers := w.heap.size } →
   W1 = (w.alloc (.deferred (some []))).alloc (.loop r) →
   CallsIn Fence.wide (n - 1) P gf (#[.func (.yield (w.heap.size + 1)) #[] #[]] ++ lb) W1 (rangePost Fence.wide n P (w.heap.size + 1) Q { a with defers := [{ target := .collected w.heap.size, args := #[] }] ++ a.defers })) :
  (Code.rangeFunc g ps assign body).wpIn Fence.wide n P Q a w := by
 refine wpIn_rangeFunc (fun fn _ => ?_)
 obtain ⟨r, hr⟩ : ∃ r : Loop, r = { state := .ready, pending := none, fn := fn, tmps := a.tmps, params := ps, assign := assign, body := body, defers := w.heap.size } := ⟨_, rfl⟩
 obtain ⟨W1, hW⟩ : ∃ W1, W1 = (w.alloc (.deferred (some []))).alloc (.loop r) := ⟨_, rfl⟩
 have hc := h fn r W1 hr hW
 refine ⟨w.heap.size + 1, [{ target := .collected w.heap.size, args := #[] }], W1, { target := .fn (.func gf) lb, args := #[.func (.yield (w.heap.size + 1)) #[] #[]] }, W1, gf, #[.func (.yield (w.heap.size + 1)) #[] #[]] ++ lb, W1, ?en, ?re, ?le, ?inv, ?dp, ?hc⟩
 case en => rw [hW, hr]; exact run_enterLoop_outer _ _ _ _ _
 case hc => exact hc
 case le => intro f' _; exact trivial
 case dp => intro hd; exact absurd hd (by decide)
 case re =>
  simp only [resolve, hg]
  simp [go_sem]
 case inv => simp [invoke, go_sem, eg]
theorem diff_beside.told_done {P : Program} {l n : Nat} {r : Loop} {Q : Exit → Act → World → Prop} {a' : Act} {v : Value} {W : World} (hl : W.heap[l]? = some (.loop r)) (hr : r.state = .ready) (hp : r.pending = none) (h : Q .normal a' (W.putObj l (.loop { r with state := .exhausted }))) :
  rangePost Fence.wide n P l Q a' (.returned v) W :=
 ⟨none, _, (run_endLoop (P := P) hl (by rw [hr]; simp)).trans (by rw [hp]), h⟩
theorem diff_beside.told_left {P : Program} {l n : Nat} {r : Loop} {Q : Exit → Act → World → Prop} {a' : Act} {v : Value} {W : World} {c : Code} (hl : W.heap[l]? = some (.loop r)) (hr : r.state = .done) (hp : r.pending = some c) (h : c.wpIn Fence.wide n P Q a' (W.putObj l (.loop { r with state := .exhausted }))) :
  rangePost Fence.wide n P l Q a' (.returned v) W :=
 ⟨some c, _, (run_endLoop (P := P) hl (by rw [hr]; simp)).trans (by rw [hp]), h⟩
/-- What is no cells, but for the block l, is kept where l is written. -/
theorem diff_beside.put_other {W : World} {l i : Nat} {o o' : Obj} (hi : W.heap[i]? = some o) (h : i ≠ l) : (W.putObj l o').heap[i]? = some o := (World.putObj_heap_other h).trans hi
set_option maxHeartbeats 4000000 in
/-- THE RANGE OVER TWO LISTS, ONE BESIDE THE OTHER: 'I x y' holds between rounds, x and y being what is left; 'Out c' where a round leaves by c. -/
theorem diff_beside.over {g : Operand} {p0 p1 : Tmp} {assign body : Code} {Q : Exit → Act → World → Prop} {a : Act} {w : World} (B : Nat) (ok : Nat → Prop) (x y : List S33)
  (hg : a.eval g = .func (.func 34) #[] #[.pointer (some ⟨B, 0, none⟩), .pointer (some ⟨B + 1, 0, none⟩)])
  (hok : ∀ k, ok k → k ≠ B ∧ k ≠ B + 1) (hlt : ∀ i, ok i → i < w.heap.size)
  (hbx : diff_beside.Box ok B x w) (hby : diff_beside.Box ok (B + 1) y w) (hlen : x.length + y.length ≤ 1000000000)
  (I : List S33 → List S33 → World → Prop) (Out : Code → World → Prop)
  (hkI : ∀ x y W W', I x y W → diff_beside.Kp B W W' → (∃ v, W'.heap[B]? = some (.cells #[v] 22)) → (∃ v, W'.heap[B + 1]? = some (.cells #[v] 22)) → I x y W') (hpI : ∀ x y W l o o', I x y W → W.heap[l]? = some o → o.isCells = false → w.heap.size ≤ l → I x y (W.putObj l o')) (hpO : ∀ c W l o o', Out c W → W.heap[l]? = some o → o.isCells = false → w.heap.size ≤ l → Out c (W.putObj l o'))
  (h0 : ∀ W, Below w.heap.size w W → I x y W)
  (hround : ∀ x y t x' y' l W, I x y W → diff_beside.next diff_beside.lt x y = some (t, x', y') → w.heap.size ≤ W.heap.size → assign.wpIn (Fence.wide.inRound l) 3 Tryd.prog (Exit.then (fun a₁ W1 => diff_beside.Off B ok W W1 ∧ ∀ o o', W1.heap[l]? = some o → o.isCells = false → w.heap.size ≤ l → body.wpIn (Fence.wide.inRound l) 3 Tryd.prog (fun e _ W3 => diff_beside.Off B ok (W1.putObj l o') W3 ∧ (match e with
   | .normal => I x' y' W3
   | .ret => Out .ret W3
   | .exit i => Out (.exit i) W3
   | _ => False)) a₁ (W1.putObj l o')) (fun _ _ _ => False)) { tmps := (a.tmps.setIfInBounds p0 (.agg #[.int .i64 t.1.f0, .int .i64 t.1.f1])).setIfInBounds p1 (.agg #[.bool t.2.1, .bool t.2.2]), defers := [] } W)
  (hdone : ∀ D W, w.heap.size ≤ D → I [] [] W → W.heap[D]? = some (.deferred (some [])) → Q .normal { a with defers := { target := .collected D, args := #[] } :: a.defers } W)
  (hstop : ∀ D c W, w.heap.size ≤ D → Out c W → W.heap[D]? = some (.deferred (some [])) → c.wp Tryd.prog Q { a with defers := { target := .collected D, args := #[] } :: a.defers } W) :
  (Code.rangeFunc g #[p0, p1] assign body).wp Tryd.prog Q a w := by
 refine (wpIn_wide (n := 5)).1 ?_
 refine diff_beside.told_enter hg (enters_of Tryd.func34 (by kernel_rfl) rfl) ?_
 intro fn r W1 hr hW1
 have hBz : B + 1 < w.heap.size := by obtain ⟨A, c, h, _⟩ := hby; exact blk_lt h
 obtain ⟨l, hl⟩ : ∃ l, l = w.heap.size + 1 := ⟨_, rfl⟩
 obtain ⟨D, hD⟩ : ∃ D, D = w.heap.size := ⟨_, rfl⟩
 have hrs : r.state = .ready := by rw [hr]
 have hrp : r.pending = none := by rw [hr]
 have hpar : r.params = #[p0, p1] := by rw [hr]
 have hras : r.assign = assign := by rw [hr]
 have hrb : r.body = body := by rw [hr]
 have hrt : r.tmps = a.tmps := by rw [hr]
 clear hr
 have hlW : W1.heap[l]? = some (.loop r) := by rw [hl, hW1]; have := blk_new (w.alloc (.deferred (some []))) (.loop r); rwa [World.size_alloc] at this
 have hDW : W1.heap[D]? = some (.deferred (some [])) := by rw [hD, hW1]; exact blk_alloc (blk_new _ _) _
 have hb1 : Below w.heap.size w W1 := by rw [hW1]; exact below_alloc (below_alloc (Below.refl _ _) _) _
 rw [← hl, ← hD]
 have hlD : l ≠ D := by omega
 have hwl : w.heap.size ≤ l := by omega
 have hkl : ¬ ok l := fun h => by have := hlt l h; omega
 -- what holds between two rounds
 let J : List S33 → List S33 → World → Prop := fun x y W => (I x y W ∧ diff_beside.Box ok B x W ∧ diff_beside.Box ok (B + 1) y W ∧ x.length + y.length ≤ 1000000000) ∧ W.heap[l]? = some (.loop r) ∧ W.heap[D]? = some (.deferred (some [])) ∧ w.heap.size ≤ W.heap.size
 let Done : World → Prop := fun W => W.heap[D]? = some (.deferred (some [])) ∧ ((I [] [] W ∧ W.heap[l]? = some (.loop r)) ∨ ∃ c, Out c W ∧ W.heap[l]? = some (.loop { r with state := .done, pending := some c }))
 have hit := diff_beside.iter1 l B ok hok J Done (fun x y W h => ⟨h.1.2.1, h.1.2.2.1, h.1.2.2.2⟩) ?hy (fun W h => ⟨h.2.2.1, .inl ⟨h.1.1, h.2.1⟩⟩) W1 x y ⟨⟨h0 _ hb1, hbx.off (.below hb1) (.inl rfl), hby.off (.below hb1) (.inr rfl), hlen⟩, hlW, hDW, hb1.size⟩
 case hy =>
  rintro x y W0 W t x' y' ⟨⟨hI, _, _, hln⟩, hl0, hD0, hz0⟩ hnx hk hbx' hby'
  have hlB : l ≠ B ∧ l ≠ B + 1 := by omega
  have hDB : D ≠ B ∧ D ≠ B + 1 := by omega
  have hl1 : W.heap[l]? = some (.loop r) := blk_kept hl0 hk.1 (fun h => h.elim hlB.1 hlB.2)
  have hD1 : W.heap[D]? = some (.deferred (some [])) := blk_kept hD0 hk.1 (fun h => h.elim hDB.1 hDB.2)
  have hI1 := hkI _ _ _ _ hI hk (by obtain ⟨A, c, h, _⟩ := hbx'; exact ⟨_, h⟩) (by obtain ⟨A, c, h, _⟩ := hby'; exact ⟨_, h⟩)
  have hz1 : w.heap.size ≤ W.heap.size := Nat.le_trans hz0 hk.1.1
  have hln' : x'.length + y'.length ≤ 1000000000 := by
   rcases diff_beside.next_cases hnx with ⟨_, rfl, rfl, _⟩ | ⟨_, rfl, rfl, _⟩ | ⟨_, _, rfl, rfl, _⟩ <;> simp only [List.length_cons] at hln <;> omega
  refine diff_beside.told_round hl1 hrs (by rw [hpar]; rfl) ?_
  have hro := hround x y t x' y' l W hI1 hnx hz1
  rw [← hras, ← hrb, ← hrt] at hro
  have e0 : ∀ v0 v1 : Value, (r.params.zip #[v0, v1]).foldl (fun tmps (t, a) => tmps.setIfInBounds t a) r.tmps = (r.tmps.setIfInBounds p0 v0).setIfInBounds p1 v1 := fun v0 v1 => by rw [hpar]; simp
  rw [e0]
  refine wpIn_mono hro ?_
  intro e a1 Wa h
  cases e with
  | normal =>
   obtain ⟨hoff, hbody⟩ := h
   have hla := hoff.2 _ _ hl1 (.inl rfl)
   refine ⟨hla, ?_⟩
   rintro WB rfl
   have hlWB : (Wa.putObj l (.loop { r with state := .busy })).heap[l]? = some (.loop { r with state := .busy }) := World.putObj_heap_same (blk_lt hla)
   have hDWB := diff_beside.put_other (o' := .loop { r with state := .busy }) (hoff.2 _ _ hD1 (.inl rfl)) hlD.symm
   have hbxB := (hbx'.off hoff (.inl rfl)).put (o' := .loop { r with state := .busy }) hla rfl hkl
   have hbyB := (hby'.off hoff (.inr rfl)).put (o' := .loop { r with state := .busy }) hla rfl hkl
   refine wpIn_mono (hbody _ (.loop { r with state := .busy }) hla rfl hwl) ?_
   rintro e a3 W3 ⟨hof3, hp⟩
   have hl3 := hof3.2 _ _ hlWB (.inl rfl)
   have hD3 := hof3.2 _ _ hDWB (.inl rfl)
   have hz3 : w.heap.size ≤ W3.heap.size := Nat.le_trans hz1 (Nat.le_trans hoff.1 (Nat.le_trans (by simp [World.putObj]) hof3.1))
   refine ⟨hl3, ?_⟩
   cases e with
   | normal =>
    have e1 : ({ r with state := .ready, pending := none } : Loop) = r := by cases r; simp only at hrs hrp; subst hrs hrp; rfl
    show J x' y' (W3.putObj l (.loop { r with state := .ready, pending := none }))
    rw [e1]
    exact ⟨⟨hpI _ _ _ _ _ _ hp hl3 rfl hwl, (hbxB.off hof3 (.inl rfl)).put hl3 rfl hkl, (hbyB.off hof3 (.inr rfl)).put hl3 rfl hkl, hln'⟩, World.putObj_heap_same (blk_lt hl3), diff_beside.put_other hD3 hlD.symm, by simpa [World.putObj] using hz3⟩
   | ret => exact ⟨diff_beside.put_other hD3 hlD.symm, .inr ⟨.ret, hpO _ _ _ _ _ hp hl3 rfl hwl, World.putObj_heap_same (blk_lt hl3)⟩⟩
   | exit i => exact ⟨diff_beside.put_other hD3 hlD.symm, .inr ⟨.exit i, hpO _ _ _ _ _ hp hl3 rfl hwl, World.putObj_heap_same (blk_lt hl3)⟩⟩
   | goto t => exact hp.elim
   | panic ch => exact hp.elim
   | outgrown => exact hp.elim
  | _ => exact h.elim
 refine CallsIn.mono hit ?_
 rintro e W ⟨⟨v, rfl⟩, hDd, h⟩
 rcases h with ⟨hI, hlr⟩ | ⟨c, hO, hlr⟩
 ·refine diff_beside.told_done hlr hrs hrp ?_
  exact hdone D _ (by omega) (hpI _ _ _ _ _ _ hI hlr rfl hwl) (diff_beside.put_other hDd hlD.symm)
 ·refine diff_beside.told_left hlr rfl rfl ?_
  exact wpIn_wide.2 (hstop D c _ (by omega) (hpO _ _ _ _ _ hO hlr rfl hwl) (diff_beside.put_other hDd hlD.symm))

theorem diff_beside.heap : Kd.Heap k33 := Kd.heap_iso _ (Kd.heap_pair (Kd.heap_int _) (Kd.heap_int _))
set_option maxRecDepth 100000 in
theorem diff_beside.call (A0 A1 : Option Addr) (n0 n1 c0 c1 : Nat) (w : World) :
  Calls Tryd.prog 18 #[.slice A0 n0 c0, .slice A1 n1 c1] w fun e w' => e = .returned (.func (.func 34) #[] #[.pointer (some ⟨w.heap.size, 0, none⟩), .pointer (some ⟨w.heap.size + 1, 0, none⟩)]) ∧ w' = (w.alloc (.cells #[.slice A0 n0 c0] 22)).alloc (.cells #[.slice A1 n1 c1] 22) := by
 go_enter Tryd.func18, Tryd.ntmps18
 go_wp2
 go_ret
 exact ⟨by simp, rfl⟩
/-- The two boxes, made. -/
theorem diff_beside.made {A0 A1 : Option Addr} {c0 c1 : Nat} {x y : List S33} {ok : Nat → Prop} {w w' : World} (hw : w' = (w.alloc (.cells #[.slice A0 x.length c0] 22)).alloc (.cells #[.slice A1 y.length c1] 22))
  (h0 : Kd.F k33 w ok A0 x.length x) (h1 : Kd.F k33 w ok A1 y.length y) (hc0 : x.length ≤ c0) (hc1 : y.length ≤ c1) :
  diff_beside.Box ok w.heap.size x w' ∧ diff_beside.Box ok (w.heap.size + 1) y w' ∧ Below w.heap.size w w' ∧ w'.heap.size = w.heap.size + 2 := by
 subst hw
 refine ⟨⟨A0, c0, blk_alloc (blk_new _ _) _, hc0, Kd.F_alloc (Kd.F_alloc h0 _) _⟩, ⟨A1, c1, ?_, hc1, Kd.F_alloc (Kd.F_alloc h1 _) _⟩, below_alloc (below_alloc (Below.refl _ _) _) _, by simp [World.size_alloc]⟩
 have := blk_new (w.alloc (.cells #[.slice A0 x.length c0] 22)) (.cells #[.slice A1 y.length c1] 22)
 rwa [World.size_alloc] at this

end Go.Proofs.YtahkkgnicgbncaaDoor.PDiffEdges
