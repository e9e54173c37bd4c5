/- The Go functions that the law reaches, and walks to them; printed by wip/tool/mkprint.py. -/
import Derived.Test.YtjjjafhchombcaaPDenseTellsx0
import Derived.Test.YtjjjafhchombcaaPDenseTellsx4
import Derived.Test.YtjjjafhchombcaaPDenseTellsx5
namespace Go.Proofs.Ytjjjafhchombcaa.PDenseTells
open Go.RowKit Go.Proofs.YtjjjafhchombcaaW.PrintWords Go.Proofs.YtjjjafhchombcaaW.PrintLast Go.Proofs.YtjjjafhchombcaaW.PrintMore
attribute [local go_sem] max2_int min2_int max_two min_two max_three min_three max_four min_four   -- for this text's walks alone
set_option linter.unusedVariables false
set_option linter.unusedSimpArgs false

/-! ### dense_Groups: function 22 -/
/-- What a call of 'reach' makes of the groups and of the stack. -/
def dense_Groups.rch (core : List Bool) (g o : Int) (s : List Int × List Int) : List Int × List Int := if rdOf false core o = true ∧ rd s.1 o < 0 then (s.1.set o.toNat g, s.2 ++ [o]) else s
/-- The groups and the stack, behind boxes at g11 and g12; what lay below w0's end is as it was. -/
structure dense_Groups.St (w0 W : World) (g11 g12 : Nat) (vo : Value) (s : List Int × List Int) : Prop where
 hb : Below w0.heap.size w0 W
 h11 : W.heap[g11]? = some (.cells #[vo] 35 (0, 0))
 ho : Kd.R (Kd.int .i64) 3 W w0.heap.size (fun k => k ≠ g11 ∧ k ≠ g12) vo s.1
 hs : ∃ vs, W.heap[g12]? = some (.cells #[vs] 35 (0, 0)) ∧ Kd.R (Kd.int .i64) 3 W w0.heap.size (fun k => (k ≠ g11 ∧ k ≠ g12) ∧ some k ≠ vo.ownBlock) vs s.2
theorem dense_Groups.St.drew {w0 W : World} {g11 g12 : Nat} {vo : Value} {s : List Int × List Int} (h : dense_Groups.St w0 W g11 g12 vo s) : dense_Groups.St w0 W.drew g11 g12 vo s := by
 obtain ⟨vs, h1, h2⟩ := h.hs
 exact ⟨below_drew1 h.hb, h.h11, Kd.R_drew h.ho, vs, h1, Kd.R_drew h2⟩
theorem dense_Groups.St.alloc {w0 W : World} {g11 g12 : Nat} {vo : Value} {s : List Int × List Int} (h : dense_Groups.St w0 W g11 g12 vo s) (o : Obj) : dense_Groups.St w0 (W.alloc o) g11 g12 vo s := by
 obtain ⟨vs, h1, h2⟩ := h.hs
 exact ⟨below_alloc h.hb _, blk_alloc h.h11 _, Kd.R_alloc h.ho _, vs, blk_alloc h1 _, Kd.R_alloc h2 _⟩
/-- A number is laid into the groups. -/
theorem dense_Groups.St.put {w0 W : World} {g11 g12 bo co n : Nat} {s : List Int × List Int} (h : dense_Groups.St w0 W g11 g12 (.slice (some ⟨bo, 0, none⟩) n co) s) (h1 : s.1.length = n) (hB : w0.heap.size ≤ g11 ∧ w0.heap.size ≤ g12) (i g : Int) : dense_Groups.St w0 (W.setCell ⟨bo, i.toNat, none⟩ (.int .i64 g)) g11 g12 (.slice (some ⟨bo, 0, none⟩) n co) (s.1.set i.toNat g, s.2) := by
 obtain ⟨vs, h3, h4⟩ := h.hs
 have hbo : w0.heap.size ≤ bo := Kd.R_base h.ho bo rfl
 have hne := h.ho.1 bo rfl
 have ho := h.ho
 subst h1
 refine ⟨below_set h.hb hbo, ?_, (Kd.R_put ho i g).1, vs, ?_, Kd.R_far h4 (fun k hk e => hk.2 (by rw [e]; rfl)) _⟩
 ·exact (Below.heap_setCell W _ _ g11 (fun e => hne.1 e.symm)).trans h.h11
 ·exact (Below.heap_setCell W _ _ g12 (fun e => hne.2 e.symm)).trans h3
/-- The stack is another one. -/
theorem dense_Groups.St.stack {w0 W w9 : World} {g11 g12 : Nat} {vo vs v9 : Value} {s : List Int × List Int} {st : List Int} (h : dense_Groups.St w0 W g11 g12 vo s) (hB : w0.heap.size ≤ g11 ∧ w0.heap.size ≤ g12) (hne : g11 ≠ g12) (hvs : W.heap[g12]? = some (.cells #[vs] 35 (0, 0))) (hrs : Kd.R (Kd.int .i64) 3 W w0.heap.size (fun k => (k ≠ g11 ∧ k ≠ g12) ∧ some k ≠ vo.ownBlock) vs s.2)
  (h9 : Kd.R (Kd.int .i64) 3 w9 w0.heap.size (fun k => (k ≠ g11 ∧ k ≠ g12) ∧ some k ≠ vo.ownBlock) v9 st) (hb9 : Below w0.heap.size w0 w9) (hg : W.grownBy w9 vs.ownBlock) : dense_Groups.St w0 (w9.setCell ⟨g12, 0, none⟩ v9) g11 g12 vo (s.1, st) ∧ w9.heap[g12]? = some (.cells #[vs] 35 (0, 0)) := by
 have n11 : some g11 ≠ vs.ownBlock := fun e => (hrs.1 g11 e.symm).1.1 rfl
 have n12 : some g12 ≠ vs.ownBlock := fun e => (hrs.1 g12 e.symm).1.2 rfl
 have k12 : w9.heap[g12]? = some (.cells #[vs] 35 (0, 0)) := (hg.block g12 (blk_lt hvs) n12).trans hvs
 have k11 : w9.heap[g11]? = some (.cells #[vo] 35 (0, 0)) := (hg.block g11 (blk_lt h.h11) n11).trans h.h11
 have ho9 : Kd.R (Kd.int .i64) 3 w9 w0.heap.size (fun k => k ≠ g11 ∧ k ≠ g12) vo s.1 := by
  cases hq : vs.ownBlock with
  | none => rw [hq] at hg; exact Kd.R_grown h.ho hg (fun k _ e => by cases e)
  | some k => exact Kd.R_grown1 h.ho rfl hg (fun e => (hrs.1 k hq).2 (by rw [← hq, e]))
 exact ⟨⟨below_set hb9 hB.2, (Below.heap_setCell w9 _ _ g11 hne).trans k11, Kd.R_far ho9 (fun k hk => hk.2) _, v9, blk_put k12 0 v9 rfl, Kd.R_far h9 (fun k hk => hk.1.2) _⟩, k12⟩
set_option maxHeartbeats 4000000 in
set_option maxRecDepth 100000 in
theorem dense_Groups.reach (w0 : World) (g10 g11 g12 : Nat) (core : List Bool) (A1 : Option Addr) (c1 n co : Nat) (bo : Nat) (hB : w0.heap.size ≤ g11 ∧ w0.heap.size ≤ g12) (hne : g11 ≠ g12) (h10 : w0.cell? ⟨g10, 0, none⟩ = some (.slice A1 n c1)) (hC : Kd.C Kd.bool w0 A1 n core) (hn : n ≤ 1048576)
  (i g : Int) (h0 : 0 ≤ i) (h1 : i < n) (s : List Int × List Int) (hl : s.1.length = n) (hs : s.2.length < 17592186044416) (W : World) (h : dense_Groups.St w0 W g11 g12 (.slice (some ⟨bo, 0, none⟩) n co) s) :
  Calls Try.prog 68 #[.int .i64 i, .int .i64 g, .pointer (some ⟨g10, 0, none⟩), .pointer (some ⟨g11, 0, none⟩), .pointer (some ⟨g12, 0, none⟩)] W fun e w' => e = .returned (.tuple #[]) ∧ dense_Groups.St w0 w' g11 g12 (.slice (some ⟨bo, 0, none⟩) n co) (dense_Groups.rch core g i s) := by
 obtain ⟨ad, ead, hx⟩ := Kd.at_bool hC i h0 h1
 cases ead
 have hcb := (h.hb.cell (World.block_lt_of_cell? w0 _ hx)).trans hx
 have c10 := (h.hb.cell (World.block_lt_of_cell? w0 _ h10)).trans h10
 have c11 : W.cell? ⟨g11, 0, none⟩ = some (.slice (some ⟨bo, 0, none⟩) n co) := (blk_cell h.h11 0).trans rfl
 have hho := h.ho
 rw [← hl] at hho
 obtain ⟨hocA, hof⟩ := Kd.R_cell (0 : Int) hho i h0 (by omega)
 have hoc : W.cell? ⟨bo, i.toNat, none⟩ = some (.int .i64 (rd s.1 i)) := hocA
 clear hocA
 have b1 : ((0 : Int) ≤ i) = True := eq_true h0
 have b2 : (i < (n : Int)) = True := eq_true h1
 have d1 : decide ((0 : Int) ≤ i) = true := decide_eq_true h0
 have d2 : decide (i < (n : Int)) = true := decide_eq_true h1
 have HS := Aside0.mk h
 have HH := Aside0.mk (And.intro hl (And.intro hs (And.intro h0 h1)))
 unfold dense_Groups.rch
 generalize hbq : rdOf false core i = bq at hcb
 generalize hrq : rd s.1 i = rq at hoc
 clear hx h10 hC h hho hl hs h0 h1 hbq hrq
 cases bq with
 | false =>
  rw [if_neg (by simp)]
  go_enter Try.func68, Try.ntmps68
  go_wp2
  go_end0
  exact ⟨rfl, HS.out⟩
 | true =>
  by_cases hr : rq < 0
  ·rw [if_pos ⟨rfl, hr⟩]
   have b3 : decide (rq < 0) = true := decide_eq_true hr
   clear hr
   obtain ⟨W1, hW1⟩ : ∃ W1, W.setCell ⟨bo, i.toNat, none⟩ (.int .i64 g) = W1 := ⟨_, rfl⟩
   have hs1 := HS.out.put HH.out.1 hB i g
   rw [hW1] at hs1
   have HS1 := Aside0.mk hs1
   obtain ⟨vs, hvs, hrs⟩ := hs1.hs
   have HV := Aside0.mk hvs
   have HRS := Aside0.mk hrs
   clear hs1 hvs hrs
   go_enter Try.func68, Try.ntmps68
   go_upto_region 2 with (fail)
   clear hW1 hcb c10 c11 hoc hof b1 b2 d1 d2 b3
   have c12 : W1.cell? ⟨g12, 0, none⟩ = some vs := (blk_cell HV.out 0).trans rfl
   go_wp2_with (first
    | ((with_reducible refine gate_builtin (b := .append) (xs := #[.tmp 22, .tmp 24]) rfl ?_); at_builtin; refine Kd.R_append (Kd.int .i64) (w0 := w0) w0.heap.size rfl (.tmp 22) (.tmp 24) 35 3 (.int .i64 0) 8 rfl Try.underlying35 info3 rfl (by decide) (by omega) vs s.2 i [.int .i64 i] (fun k => (k ≠ g11 ∧ k ≠ g12) ∧ some k ≠ (Value.slice (some ⟨bo, 0, none⟩) n co).ownBlock) (fun _ => False) rfl rfl ?aP (fun _ hk => hk.elim) ?aF ?aO ?aB ?aS ?aL ?_; (case aP => exact rfl); (case aB => exact HS1.out.hb); (case aF => exact (fun k hk => ⟨⟨by have h_ := blk_lt HS1.out.h11; omega, by have h_ := blk_lt HV.out; omega⟩, fun e => by have h_ := Kd.R_lt HS1.out.ho bo rfl; have e2_ := Option.some.inj (show some k = some bo from e); omega⟩)); (case aO => exact HRS.out); (case aS => exact HS1.out.hb.size); (case aL => have h_ := HH.out.2.1; omega); intro v9 w9 ho9 hb9 hg9 hat9; obtain ⟨A9, c9, rfl⟩ := Kd.R_slice ho9; have HP := Aside0.mk (HS1.out.stack hB hne HV.out HRS.out ho9 hb9 hg9); clear c12; have c12 : w9.cell? ⟨g12, 0, none⟩ = some vs := (blk_cell HP.out.2 0).trans rfl; have f12 := blk_frozen HP.out.2 0; clear ho9 hb9 hg9 hat9))
   go_end0
   exact ⟨rfl, by have h_ := HP.out.1; rw [List.length_append] at h_; exact h_⟩
  ·rw [if_neg (by simp; omega)]
   have b3 : decide (rq < 0) = false := decide_eq_false hr
   clear hr
   go_enter Try.func68, Try.ntmps68
   go_wp2
   go_end0
   exact ⟨rfl, HS.out⟩
mutual
def dense_Groups.l0 : Nat → List Bool → List (List Int) → List Int → Int → Nat → Option (List Int × Int)
 | 0, _, _, _, _, _ => none
 | k + 1, core, net, out, c, i => if i < net.length then (if rdOf false core (i : Int) = true ∧ rd out (i : Int) < 0 then dense_Groups.l1 k core net (dense_Groups.rch core (i : Int) (i : Int) (out, [])) (wrap64 (c + 1)) i else dense_Groups.l0 k core net out c (i + 1)) else dense_Groups.l3 k core net out c 0
def dense_Groups.l1 : Nat → List Bool → List (List Int) → List Int × List Int → Int → Nat → Option (List Int × Int)
 | 0, _, _, _, _, _ => none
 | k + 1, core, net, s, c, i => if 0 < s.2.length then (if 0 ≤ rd s.2 ((s.2.length : Int) - 1) ∧ rd s.2 ((s.2.length : Int) - 1) < net.length then dense_Groups.l2 k core net (s.1, s.2.take (s.2.length - 1)) c i (rd s.2 ((s.2.length : Int) - 1)).toNat 0 else none) else dense_Groups.l0 k core net s.1 c (i + 1)
def dense_Groups.l2 : Nat → List Bool → List (List Int) → List Int × List Int → Int → Nat → Nat → Nat → Option (List Int × Int)
 | 0, _, _, _, _, _, _, _ => none
 | k + 1, core, net, s, c, i, t, j => if j < (net.getD t []).length then (if 0 ≤ rd (net.getD t []) (j : Int) ∧ rd (net.getD t []) (j : Int) < net.length ∧ s.2.length < 17592186044416 then dense_Groups.l2 k core net (dense_Groups.rch core (i : Int) (rd (net.getD t []) (j : Int)) s) c i t (j + 1) else none) else dense_Groups.l1 k core net s c i
def dense_Groups.l3 : Nat → List Bool → List (List Int) → List Int → Int → Nat → Option (List Int × Int)
 | 0, _, _, _, _, _ => none
 | k + 1, core, net, out, c, i => if i < net.length then (if rdOf false core (i : Int) = true then dense_Groups.l3 k core net out c (i + 1) else (dense_least.f k (net.getD i []) core out).bind fun r => dense_Groups.l3 k core net (out.set i r) c (i + 1)) else some (out, c)
end
def dense_Groups.f (k : Nat) (l0 : List S47) (a1 : Int) (a2 : Int) : Option (List Int × Int) := (dense_of.f k l0 a1 a2).bind fun x => if x.2 = true then ((dense_net_cores.f k x.1 a2).bind fun core => if core.length = x.1.length ∧ x.1.length ≤ 1048576 ∧ (x.1.length : Int) = a1 then dense_Groups.l0 k core x.1 (List.replicate x.1.length (-1)) 0 0 else none) else some ([], 0)
theorem dense_Groups.mono_l : ∀ k, (∀ y0 y1 y2 y3 y4, LeO (dense_Groups.l0 k y0 y1 y2 y3 y4) (dense_Groups.l0 (k + 1) y0 y1 y2 y3 y4)) ∧ (∀ y0 y1 y2 y3 y4, LeO (dense_Groups.l1 k y0 y1 y2 y3 y4) (dense_Groups.l1 (k + 1) y0 y1 y2 y3 y4)) ∧ (∀ y0 y1 y2 y3 y4 y5 y6, LeO (dense_Groups.l2 k y0 y1 y2 y3 y4 y5 y6) (dense_Groups.l2 (k + 1) y0 y1 y2 y3 y4 y5 y6)) ∧ (∀ y0 y1 y2 y3 y4, LeO (dense_Groups.l3 k y0 y1 y2 y3 y4) (dense_Groups.l3 (k + 1) y0 y1 y2 y3 y4))
 | 0 => ⟨fun _ _ _ _ _ r h => by simp [dense_Groups.l0] at h, fun _ _ _ _ _ r h => by simp [dense_Groups.l1] at h, fun _ _ _ _ _ _ _ r h => by simp [dense_Groups.l2] at h, fun _ _ _ _ _ r h => by simp [dense_Groups.l3] at h⟩
 | k + 1 => by
  obtain ⟨ih0, ih1, ih2, ih3⟩ := dense_Groups.mono_l k
  refine ⟨?_, ?_, ?_, ?_⟩
  ·intro y0 y1 y2 y3 y4
   unfold dense_Groups.l0
   repeat' first
    | exact ih0 _ _ _ _ _
    | exact ih1 _ _ _ _ _
    | exact ih3 _ _ _ _ _
    | refine LeO.ite ?_ ?_
  ·intro y0 y1 y2 y3 y4
   unfold dense_Groups.l1
   repeat' first
    | exact ih0 _ _ _ _ _
    | exact ih2 _ _ _ _ _ _ _
    | exact LeO.none _
    | refine LeO.ite ?_ ?_
  ·intro y0 y1 y2 y3 y4 y5 y6
   unfold dense_Groups.l2
   repeat' first
    | exact ih1 _ _ _ _ _
    | exact ih2 _ _ _ _ _ _ _
    | exact LeO.none _
    | refine LeO.ite ?_ ?_
  ·intro y0 y1 y2 y3 y4
   unfold dense_Groups.l3
   repeat' first
    | exact ih3 _ _ _ _ _
    | exact dense_least.mono _ _ _ _
    | exact LeO.refl _
    | refine LeO.ite ?_ ?_
    | refine LeO.bind ?_ (fun _ => ?_)
theorem dense_Groups.mono : ∀ a0 a1 a2 k, LeO (dense_Groups.f k a0 a1 a2) (dense_Groups.f (k + 1) a0 a1 a2) := by
 intro l0 a1 a2 k
 unfold dense_Groups.f
 refine LeO.bind (dense_of.mono _ _ _ _) (fun x => LeO.ite (LeO.bind (dense_net_cores.mono _ _ _) (fun core => LeO.ite ((dense_Groups.mono_l k).1 _ _ _ _ _) (LeO.refl _))) (LeO.refl _))
theorem dense_Groups.lit (w : World) : Kd.C (Kd.int .i64) (w.alloc (.cells #[.int .i64 (-1)] 3)) (some ⟨w.heap.size, 0, none⟩) 1 [-1] :=
 (Kd.R_reads' (Kd.R_of_own (enc := Value.int .i64) (h1 := fun _ => rfl) (xs := [-1]) (ok := fun _ => True) (World.ownsRow_lit (base := w.heap.size) (e := 3) (size := 1) w #[.int .i64 (-1)] 1 (Nat.le_refl _) (by decide) rfl) (fun _ _ => trivial))).2.2
theorem dense_Groups.rep (n : Nat) (h : n ≤ 1048576) : slices_Repeat_int_int.f [-1] (n : Int) = some (List.replicate n (-1)) := by
 unfold slices_Repeat_int_int.f
 rw [if_pos ⟨rfl, by omega, by omega⟩, Int.toNat_natCast]; rfl
theorem dense_Groups.St.start {w0 W : World} {Ao : Option Addr} {co n : Nat} {out : List Int} (hb : Below w0.heap.size w0 W) (h : Kd.R (Kd.int .i64) 3 W w0.heap.size (fun _ => True) (.slice Ao n co) out) : dense_Groups.St w0 ((W.alloc (.cells #[.slice Ao n co] 35)).alloc (.cells #[.slice none 0 0] 35)) W.heap.size (W.heap.size + 1) (.slice Ao n co) (out, []) := by
 refine ⟨below_alloc (below_alloc hb _) _, blk_alloc (blk_new W _) _, Kd.R_alloc (Kd.R_alloc (Kd.R_mono (Kd.R_bound h) (fun k hk => ⟨by omega, by omega⟩)) _) _, _, ?_, Kd.R_nil _ _ _ _ _⟩
 have := blk_new (W.alloc (.cells #[.slice Ao n co] 35)) (.cells #[.slice none 0 0] 35)
 simpa using this
theorem dense_Groups.rowat {w : World} {A : Option Addr} {ll : List (List Int)} (h : Kd.C (Kd.slice 3 (Kd.int .i64)) w A ll.length ll) (t : Nat) (ht : t < ll.length) :
  ∃ ad Ar cr, A = some ad ∧ w.cell? (ad.add t) = some (.slice Ar (ll.getD t []).length cr) ∧ (ll.getD t []).length ≤ cr ∧ Kd.C (Kd.int .i64) w Ar (ll.getD t []).length (ll.getD t []) := by
 obtain ⟨ad, cs, e1, _, hK, hc⟩ := Kd.C_get h [] (t : Int) (by omega) (by omega)
 rw [Int.toNat_natCast] at hK hc
 obtain ⟨Ar, cr, e2, h1, h2⟩ := hK
 refine ⟨ad, Ar, cr, e1, ?_, h1, h2⟩
 have := hc 0 (.slice Ar (ll.getD t []).length cr) (by rw [e2]; rfl)
 have e3 : t * (Kd.slice 3 (Kd.int .i64)).sz + 0 = t := by show t * 1 + 0 = t; omega
 rw [e3] at this
 exact this
theorem dense_Groups.wsucc (m : Nat) (h : m < 9223372036854775807) : wrap64 ((m : Int) + 1) = ((m + 1 : Nat) : Int) := by unfold wrap64; omega
theorem dense_Groups.w64 (m : Nat) (h : m ≤ 9223372036854775806) : wrap64 (m : Int) = (m : Int) := by unfold wrap64; omega
theorem dense_Groups.St.drewN {w0 W : World} {g11 g12 : Nat} {vo : Value} {s : List Int × List Int} (h : dense_Groups.St w0 W g11 g12 vo s) (n : Nat) : dense_Groups.St w0 (W.drewN n) g11 g12 vo s := by
 obtain ⟨vs, h1, h2⟩ := h.hs
 exact ⟨pw_below_drewN h.hb n, h.h11, Kd.R_drewN h.ho n, vs, h1, Kd.R_drewN h2 n⟩
theorem dense_Groups.rch_len (core : List Bool) (g o : Int) (s : List Int × List Int) : (dense_Groups.rch core g o s).1.length = s.1.length := by
 unfold dense_Groups.rch
 split
 ·rw [List.length_set]
 ·rfl
set_option maxHeartbeats 8000000 in
set_option maxRecDepth 100000 in
theorem dense_Groups.calls (k : Nat) (A0 : Option Addr) (c0 : Nat) (l0 : List S47) (a1 : Int) (a2 : Int) (r1 : List Int) (r2 : Int) (w : World) (hr0 : Kd.C k47 w A0 l0.length l0) (hc0 : l0.length ≤ c0) (h : dense_Groups.f k l0 a1 a2 = some (r1, r2)) :
  Calls Try.prog 22 #[.slice A0 l0.length c0, .int .i64 a1, .int .i64 a2] w fun e w' => ∃ v0_ : Value, e = .returned (.tuple #[v0_, .int .i64 r2]) ∧ Kd.R (Kd.int .i64) 3 w' w.heap.size (fun _ => True) v0_ r1 ∧ Below w.heap.size w w' := by
 unfold dense_Groups.f at h
 obtain ⟨⟨net, ok⟩, hof, h1⟩ := Option.bind_eq_some_iff.mp h
 clear h
 have hOf := dense_of.calls k A0 c0 l0 a1 a2 net ok w hr0 hc0 hof
 clear hof hr0
 cases ok with
 | false =>
  replace h1 := Option.some.inj (show some (([] : List Int), (0 : Int)) = some (r1, r2) from h1)
  injection h1 with e1 e2
  subst e1 e2
  go_enter Try.func22, Try.ntmps22
  go_wp2_with (first | (go_at_call 65; refine hOf.mono ?_; rintro e w1 ⟨v8, rfl, hS8, hb1⟩; have HB1 := Aside0.mk hb1; clear hS8 hb1 hOf))
  go_ret2
  exact ⟨_, rfl, Kd.R_nil _ _ _ _ _, HB1.out⟩
 | true =>
 replace h1 := (show ((dense_net_cores.f k net a2).bind fun core => if core.length = net.length ∧ net.length ≤ 1048576 ∧ (net.length : Int) = a1 then dense_Groups.l0 k core net (List.replicate net.length (-1)) 0 0 else none) = some (r1, r2) from h1)
 obtain ⟨core, hcore, h2⟩ := Option.bind_eq_some_iff.mp h1
 clear h1
 by_cases hg : core.length = net.length ∧ net.length ≤ 1048576 ∧ (net.length : Int) = a1
 case neg => rw [if_neg hg] at h2; cases h2
 rw [if_pos hg] at h2
 obtain ⟨hcl, hnl, rfl⟩ := hg
 have HH := Aside0.mk h2
 have HCR := Aside0.mk hcore
 clear h2 hcore
 go_enter Try.func22, Try.ntmps22
 go_upto_region 5 with (first
  | (go_at_call 65; refine hOf.mono ?_; rintro e w1 ⟨v8, rfl, hS8, hb1⟩; obtain ⟨A8, c8, hv8, hc8, hC8⟩ := Kd.S_reads hS8; subst hv8; have HB1 := Aside0.mk hb1; have HN8 := Aside0.mk hC8; clear hS8 hb1 hOf hC8)
  | (go_at_call 66; refine (dense_net_cores.calls k A8 c8 net a2 core _ HN8.out hc8 HCR.out).mono ?_; rintro e w2 ⟨v1, rfl, hR1, hb2⟩; obtain ⟨A1, c1, hv1, hc1, hC1⟩ := Kd.R_reads hR1; subst hv1; have HB2 := Aside0.mk hb2; have HC1 := Aside0.mk hC1; have HCC := Aside0.mk hc1; clear hR1 hb2 hC1 hc1))
 obtain ⟨w0, hw0⟩ : ∃ w0, w2.alloc (.cells #[.slice A1 net.length c1] 43) = w0 := ⟨_, rfl⟩
 rw [hcl] at HC1
 have HB0 := Aside0.mk (show Below w.heap.size w w0 by rw [← hw0]; exact below_alloc (below_step HB1.out HB2.out) _)
 have HN := Aside0.mk (show Kd.C (Kd.slice 3 (Kd.int .i64)) w0 A8 net.length net by rw [← hw0]; exact Kd.C_alloc (Kd.C_below HN8.out HB2.out) _)
 have HC := Aside0.mk (show Kd.C Kd.bool w0 A1 net.length core by rw [← hw0]; exact Kd.C_alloc HC1.out _)
 obtain ⟨g10, hg10⟩ : ∃ g, w2.heap.size = g := ⟨_, rfl⟩
 have H10 := Aside0.mk (show w0.cell? ⟨g10, 0, none⟩ = some (.slice A1 net.length c1) by rw [← hw0, ← hg10]; exact (blk_cell (blk_new w2 _) 0).trans rfl)
 rw [hw0, hg10]
 clear hw0 hg10 HB1 HB2 HN8 HC1
 have HREP := Aside0.mk (dense_Groups.rep net.length hnl)
 go_wp2_with (first
  | (go_at_call 67; refine (slices_Repeat_int_int.calls _ 1 [-1] (net.length : Int) _ _ (dense_Groups.lit w0) (Nat.le_refl _) HREP.out).mono ?_; rintro e w4 ⟨vo, rfl, hRo, hbo⟩; obtain ⟨Ao, co, rfl⟩ := Kd.R_slice hRo; rw [List.length_replicate] at hRo; have HS0 := Aside0.mk (dense_Groups.St.start (below_step (below_alloc (Below.refl _ w0) _) hbo) (Kd.R_lower hRo (by simp))); have HG := Aside0.mk (show w0.heap.size ≤ w4.heap.size from (below_step (below_alloc (Below.refl _ w0) _) hbo).size); clear hRo hbo HREP))
 obtain ⟨g11, hg11⟩ : ∃ g, w4.heap.size = g := ⟨_, rfl⟩
 rw [hg11] at HS0 HG ⊢
 obtain ⟨g12, hg12⟩ : ∃ g, g11 + 1 = g := ⟨_, rfl⟩
 rw [hg12] at HS0 ⊢
 have hB : w0.heap.size ≤ g11 ∧ w0.heap.size ≤ g12 := ⟨HG.out, by have := HG.out; omega⟩
 have hne : g11 ≠ g12 := by omega
 clear hg11 hg12 HG
 have HB := Aside0.mk hB
 have HNE := Aside0.mk hne
 clear hB hne
 go_loopg [14, 39] k (fun kq v14 v39 w' => ∃ (c : Int) (i : Nat) (out : List Int), v14 = .int .i64 c ∧ v39 = .int .i64 (i : Int) ∧ out.length = net.length ∧ Aside0 (dense_Groups.l0 kq core net out c i = some (r1, r2)) ∧ Aside0 (kq ≤ k) ∧ Aside0 (dense_Groups.St w0 w' g11 g12 (.slice Ao net.length co) (out, [])))
 case atStart => exact ⟨0, 0, List.replicate net.length (-1), rfl, rfl, by simp, HH, ⟨Nat.le_refl _⟩, HS0⟩
 case round =>
  clear HS0 HH
  obtain ⟨c, i, out, rfl, rfl, hlo, HA, HK1, HS⟩ := hrel
  cases gk with
  | zero => exact absurd HA.out (by simp [dense_Groups.l0])
  | succ k1 =>
   have H := HA.out
   clear HA
   simp only [dense_Groups.l0] at H
   by_cases hi : i < net.length
   ·rw [if_pos hi] at H
    obtain ⟨bo, co', eo, _⟩ := Kd.R_form HS.out.ho (show 0 < out.length by omega)
    injection eo with e1 e2 e3
    subst e1
    clear e2 e3 co'
    obtain ⟨adc, eadc, hxb⟩ := Kd.at_bool HC.out (i : Int) (by omega) (by omega)
    cases eadc
    have hcb := (HS.out.hb.cell (World.block_lt_of_cell? w0 _ hxb)).trans hxb
    rw [Int.toNat_natCast] at hcb
    have c10 := (HS.out.hb.cell (World.block_lt_of_cell? w0 _ H10.out)).trans H10.out
    have c11 : wr.cell? ⟨g11, 0, none⟩ = some (.slice (some ⟨bo, 0, none⟩) net.length co) := (blk_cell HS.out.h11 0).trans rfl
    have hho := HS.out.ho
    rw [← hlo] at hho
    obtain ⟨hocA, _⟩ := Kd.R_cell (0 : Int) hho (i : Int) (by omega) (by omega)
    have hoc : wr.cell? ⟨bo, i, none⟩ = some (.int .i64 (rd out (i : Int))) := hocA
    clear hocA hho hxb
    have b1 : decide ((i : Int) < (net.length : Int)) = true := decide_eq_true (by omega)
    have b2 : ((0 : Int) ≤ (i : Int)) = True := eq_true (by omega)
    have b3 : ((i : Int) < (net.length : Int)) = True := eq_true (by omega)
    have HI := Aside0.mk (And.intro hi hlo)
    by_cases hcond : rdOf false core (i : Int) = true ∧ rd out (i : Int) < 0
    ·rw [if_pos hcond] at H
     have H' := Aside0.mk H
     rw [hcond.1] at hcb
     have b4 : decide ((0 : Int) ≤ rd out (i : Int)) = false := decide_eq_false (by omega)
     have HRE := Aside0.mk (dense_Groups.reach w0 g10 g11 g12 core (some adc) c1 net.length co bo HB.out HNE.out H10.out HC.out hnl (i : Int) (i : Int) (by omega) (by omega) (out, []) hlo (by simp) wr HS.out)
     clear H hcond hlo hi HS
     go_wp2_with (first | (go_at_call 68; refine HRE.out.mono ?_; rintro e w5 ⟨rfl, hs5⟩; have HS5 := Aside0.mk hs5; clear hs5 HRE c10 c11 hcb hoc))
     go_loopg [16] k1 (fun kq v16 w' => ∃ (s : List Int × List Int), s.1.length = net.length ∧ Aside0 (dense_Groups.l1 kq core net s (wrap64 (c + 1)) i = some (r1, r2)) ∧ Aside0 (kq ≤ k1) ∧ Aside0 (dense_Groups.St w0 w' g11 g12 (.slice (some ⟨bo, 0, none⟩) net.length co) s))
     case atStart => exact ⟨_, by rw [dense_Groups.rch_len]; exact HI.out.2, H', ⟨Nat.le_refl _⟩, HS5⟩
     case round =>
      clear HS5 H'
      obtain ⟨s, hls, HA, HK2, HS⟩ := hrel
      cases gk with
      | zero => exact absurd HA.out (by simp [dense_Groups.l1])
      | succ k2 =>
       have H := HA.out
       clear HA
       simp only [dense_Groups.l1] at H
       obtain ⟨vs, hvs, hrs⟩ := HS.out.hs
       obtain ⟨A5, c5, rfl⟩ := Kd.R_slice hrs
       have c12 : wr.cell? ⟨g12, 0, none⟩ = some (.slice A5 s.2.length c5) := (blk_cell hvs 0).trans rfl
       have f12 := blk_frozen hvs 0
       by_cases hst : 0 < s.2.length
       ·rw [if_pos hst] at H
        split at H
        case isFalse => exact absurd H (by simp)
        case isTrue hlast =>
        obtain ⟨m, hm⟩ : ∃ m, s.2.length = m + 1 := ⟨s.2.length - 1, by omega⟩
        obtain ⟨bs, cs5, es, _⟩ := Kd.R_form hrs hst
        injection es with e1 e2 e3
        subst e1
        clear e2 e3 cs5
        obtain ⟨hlc, _⟩ := Kd.R_cell (0 : Int) hrs (m : Int) (by omega) (by omega)
        have e1 : ((s.2.length : Int) - 1) = (m : Int) := by omega
        have e2 : s.2.length - 1 = m := by omega
        rw [e1, e2] at H
        rw [e1] at hlast
        have hlc : wr.cell? ⟨bs, m, none⟩ = some (.int .i64 (rd s.2 (m : Int))) := hlc
        obtain ⟨hl0, hl1⟩ := hlast
        have H' := Aside0.mk H
        clear H
        obtain ⟨o, ho⟩ : ∃ o, rd s.2 (m : Int) = o := ⟨_, rfl⟩
        rw [ho] at hlc hl0 hl1 H'
        obtain ⟨t, rfl⟩ := Int.eq_ofNat_of_zero_le hl0
        have htl : t < net.length := by omega
        clear ho hl0 hl1 e1 e2
        have hm5 : m + 1 ≤ c5 := by have := (Kd.R_reads' hrs).2.1; omega
        obtain ⟨i0, hi0, _, hsz0, _⟩ := info_parts info3
        have hcut : ∀ W : World, (Instr.slice 35 (.slice (some ⟨bs, 0, none⟩) (m + 1) c5) none (some (.int .i64 (m : Int))) none).run Try.prog W = .ok (.slice (some ⟨bs, 0, none⟩) m c5) W := fun W => by
         have := cut_to (P := Try.prog) 35 3 .i64 Try.underlying35 hi0 (some ⟨bs, 0, none⟩) (m + 1) c5 (m : Int) (by omega) (by omega) hm5 W
         rw [Int.toNat_natCast] at this
         exact this
        have hrs2 := Kd.R_take (m := m) hrs (by omega)
        have hst2 := (HS.out.stack HB.out HNE.out hvs hrs hrs2 HS.out.hb ⟨rfl, rfl, rfl, Nat.le_refl _, fun _ _ _ => rfl⟩).1
        obtain ⟨W2, hW2⟩ : ∃ W2, wr.setCell ⟨g12, 0, none⟩ (.slice (some ⟨bs, 0, none⟩) m c5) = W2 := ⟨_, rfl⟩
        rw [hW2] at hst2
        have HS2 := Aside0.mk hst2
        rw [hm] at c12
        obtain ⟨adn, eadn, hxn'⟩ : ∃ ad, A8 = some ad ∧ ∃ Ar cr, w0.cell? (ad.add t) = some (.slice Ar (net.getD t []).length cr) ∧ Kd.C (Kd.int .i64) w0 Ar (net.getD t []).length (net.getD t []) := by
         obtain ⟨ad, Ar, cr, e0, hx, _, hc⟩ := dense_Groups.rowat HN.out t (by omega)
         exact ⟨ad, e0, Ar, cr, hx, hc⟩
        subst eadn
        obtain ⟨Ar, cr, hxn, hcn⟩ := hxn'
        have hxr := (HS2.out.hb.cell (World.block_lt_of_cell? w0 _ hxn)).trans hxn
        obtain ⟨row, hrow⟩ : ∃ row, net.getD t [] = row := ⟨_, rfl⟩
        rw [hrow] at hxr hcn
        have HRW := Aside0.mk hrow
        have hrl : row.length ≤ 9223372036854775807 := Kd.C_max hcn
        have HROW := Aside0.mk hcn
        clear hrow
        have HT := Aside0.mk htl
        have HM := Aside0.mk hm
        have HMW := Aside0.mk (show m ≤ 9223372036854775806 by have := Kd.C_max (Kd.R_reads' hrs).2.2; omega)
        clear hst2 hrs2 hvs hrs hxn hcn hst hi0 hsz0 hm5
        have d1 : decide ((0 : Int) < (m : Int) + 1) = true := decide_eq_true (by omega)
        have d2 : ((m : Int) + 1 - 1) = (m : Int) := by omega
        have d4 : ((0 : Int) ≤ (m : Int)) = True := eq_true (by omega)
        have d5 : ((m : Int) < (m : Int) + 1) = True := eq_true (by omega)
        have d6 : ((t : Int) < (net.length : Int)) = True := eq_true (by omega)
        have d7 : ((0 : Int) ≤ (t : Int)) = True := eq_true (by omega)
        have d3 : wrap64 (m : Int) = (m : Int) := dense_Groups.w64 m (by have := HMW.out; omega)
        clear hm htl
        go_wp2
        clear d1 d2 d3 d4 d5 d6 d7
        go_loopg [79] k2 (fun kq v79 w' => ∃ (j : Nat) (s' : List Int × List Int), v79 = .int .i64 (j : Int) ∧ s'.1.length = net.length ∧ Aside0 (dense_Groups.l2 kq core net s' (wrap64 (c + 1)) i t j = some (r1, r2)) ∧ Aside0 (kq ≤ k2) ∧ Aside0 (dense_Groups.St w0 w' g11 g12 (.slice (some ⟨bo, 0, none⟩) net.length co) s'))
        case atStart => exact ⟨0, (s.1, s.2.take m), rfl, hls, H', ⟨Nat.le_refl _⟩, HS2⟩
        case round =>
         clear HS2 H' HS
         obtain ⟨j, s', rfl, hls', HA, HK3, HS⟩ := hrel
         cases gk with
         | zero => exact absurd HA.out (by simp [dense_Groups.l2])
         | succ k3 =>
          have H := HA.out
          clear HA
          simp only [dense_Groups.l2] at H
          rw [HRW.out] at H
          by_cases hj : j < row.length
          ·rw [if_pos hj] at H
           split at H
           case isFalse => exact absurd H (by simp)
           case isTrue ho =>
           obtain ⟨ho0, ho1, ho2⟩ := ho
           obtain ⟨adr, eadr, hxo'⟩ := Kd.at_int HROW.out (j : Int) (by omega) (by omega)
           cases eadr
           have hxo := (HS.out.hb.cell (World.block_lt_of_cell? w0 _ hxo')).trans hxo'
           rw [Int.toNat_natCast] at hxo
           have b4 : decide ((j : Int) < (row.length : Int)) = true := decide_eq_true (by omega)
           have b5 : ((0 : Int) ≤ (j : Int)) = True := eq_true (by omega)
           have b6 : ((j : Int) < (row.length : Int)) = True := eq_true (by omega)
           obtain ⟨o, hoo⟩ : ∃ o, rd row (j : Int) = o := ⟨_, rfl⟩
           rw [hoo] at H hxo ho0 ho1
           have HRE := Aside0.mk (dense_Groups.reach w0 g10 g11 g12 core (some adc) c1 net.length co bo HB.out HNE.out H10.out HC.out hnl o (i : Int) ho0 ho1 s' hls' ho2 wr HS.out)
           have H' := Aside0.mk H
           have HJ := Aside0.mk hj
           clear H hoo ho0 ho1 ho2 hxo' HS hj
           go_wp2_with (first | (go_at_call 68; refine HRE.out.mono ?_; rintro e w5 ⟨rfl, hs5⟩; have HS5 := Aside0.mk hs5; clear hs5 HRE hxo))
           go_roundg k3
           case measure => have := HK1.out; have := HK2.out; have := HK3.out; omega
           case rel => exact ⟨j + 1, _, by have := HJ.out; first | rw [dense_Groups.wsucc j (by omega)] | go_num, by rw [dense_Groups.rch_len]; exact hls', H', ⟨by have := HK3.out; omega⟩, HS5⟩
          ·rw [if_neg hj] at H
           have b4 : decide ((j : Int) < (row.length : Int)) = false := decide_eq_false (by omega)
           have H' := Aside0.mk H
           clear H
           go_wp2
           go_roundg k3
           case measure => have := HK1.out; have := HK2.out; have := HK3.out; omega
           case rel => exact ⟨s', hls', H', ⟨by have := HK2.out; have := HK3.out; omega⟩, HS⟩
       ·rw [if_neg hst] at H
        have hz : s.2.length = 0 := by omega
        have hs0 : s = (s.1, []) := by rw [← List.eq_nil_of_length_eq_zero hz]
        rw [hz] at c12
        have H' := Aside0.mk H
        have HS' := Aside0.mk (show dense_Groups.St w0 wr g11 g12 (.slice (some ⟨bo, 0, none⟩) net.length co) (s.1, []) by rw [← hs0]; exact HS.out)
        clear H hz hs0 hst
        go_wp2
        go_roundg k2
        case measure => have := HK1.out; have := HK2.out; omega
        case rel => exact ⟨wrap64 (c + 1), i + 1, s.1, rfl, by have := HI.out.1; first | rw [dense_Groups.wsucc i (by omega)] | go_num, hls, H', ⟨by have := HK1.out; have := HK2.out; omega⟩, HS'⟩
    ·rw [if_neg hcond] at H
     have H' := Aside0.mk H
     clear H
     cases hbq : rdOf false core (i : Int) with
     | false =>
      rw [hbq] at hcb
      clear hcond hbq
      go_wp2
      go_roundg k1
      case measure => have := HK1.out; omega
      case rel => exact ⟨c, i + 1, out, rfl, by go_num, hlo, H', ⟨by have := HK1.out; omega⟩, HS⟩
     | true =>
      rw [hbq] at hcb
      have b4 : decide ((0 : Int) ≤ rd out (i : Int)) = true := decide_eq_true (Int.not_lt.mp (fun h => hcond ⟨hbq, h⟩))
      clear hcond hbq
      go_wp2
      go_roundg k1
      case measure => have := HK1.out; omega
      case rel => exact ⟨c, i + 1, out, rfl, by go_num, hlo, H', ⟨by have := HK1.out; omega⟩, HS⟩
   ·rw [if_neg hi] at H
    have b1 : decide ((i : Int) < (net.length : Int)) = false := decide_eq_false (by omega)
    have H' := Aside0.mk H
    clear H
    go_wp2
    clear b1 hi
    go_loopg [91] k1 (fun kq v91 w' => ∃ (i : Nat) (out : List Int), v91 = .int .i64 (i : Int) ∧ out.length = net.length ∧ Aside0 (dense_Groups.l3 kq core net out c i = some (r1, r2)) ∧ Aside0 (kq ≤ k1) ∧ Aside0 (dense_Groups.St w0 w' g11 g12 (.slice Ao net.length co) (out, [])))
    case atStart => exact ⟨0, out, rfl, hlo, H', ⟨Nat.le_refl _⟩, HS⟩
    case round =>
     clear HS H' hlo
     obtain ⟨i, out, rfl, hlo, HA, HK2, HS⟩ := hrel
     cases gk with
     | zero => exact absurd HA.out (by simp [dense_Groups.l3])
     | succ k2 =>
      have H := HA.out
      clear HA
      simp only [dense_Groups.l3] at H
      have c10 := (HS.out.hb.cell (World.block_lt_of_cell? w0 _ H10.out)).trans H10.out
      by_cases hi : i < net.length
      ·rw [if_pos hi] at H
       obtain ⟨bo, co', eo, _⟩ := Kd.R_form HS.out.ho (show 0 < out.length by omega)
       injection eo with e1 e2 e3
       subst e1
       clear e2 e3 co'
       obtain ⟨adc, eadc, hxb⟩ := Kd.at_bool HC.out (i : Int) (by omega) (by omega)
       cases eadc
       have hcb := (HS.out.hb.cell (World.block_lt_of_cell? w0 _ hxb)).trans hxb
       rw [Int.toNat_natCast] at hcb
       have c11 : wr.cell? ⟨g11, 0, none⟩ = some (.slice (some ⟨bo, 0, none⟩) net.length co) := (blk_cell HS.out.h11 0).trans rfl
       have hho := HS.out.ho
       rw [← hlo] at hho
       obtain ⟨hocA, hof⟩ := Kd.R_cell (0 : Int) hho (i : Int) (by omega) (by omega)
       have hoc : wr.cell? ⟨bo, i, none⟩ = some (.int .i64 (rd out (i : Int))) := hocA
       rw [Int.toNat_natCast] at hof
       obtain ⟨adn, eadn, hxn'⟩ : ∃ ad, A8 = some ad ∧ ∃ Ar cr, w0.cell? (ad.add i) = some (.slice Ar (net.getD i []).length cr) ∧ (net.getD i []).length ≤ cr ∧ Kd.C (Kd.int .i64) w0 Ar (net.getD i []).length (net.getD i []) := by
        obtain ⟨ad, Ar, cr, e0, hx, hcr, hc⟩ := dense_Groups.rowat HN.out i (by omega)
        exact ⟨ad, e0, Ar, cr, hx, hcr, hc⟩
       subst eadn
       obtain ⟨Ar, cr, hxn, hcr, hcn⟩ := hxn'
       obtain ⟨row, hrow⟩ : ∃ row, net.getD i [] = row := ⟨_, rfl⟩
       rw [hrow] at hxn hcr hcn H
       have hxr := (HS.out.hb.cell (World.block_lt_of_cell? w0 _ hxn)).trans hxn
       have hcore1 := (show core.length ≤ c1 by have := HCC.out; omega)
       have b1 : decide ((i : Int) < (net.length : Int)) = true := decide_eq_true (by omega)
       have b2 : ((0 : Int) ≤ (i : Int)) = True := eq_true (by omega)
       have b3 : ((i : Int) < (net.length : Int)) = True := eq_true (by omega)
       cases hbq : rdOf false core (i : Int) with
       | true =>
        rw [hbq] at hcb
        rw [if_pos hbq] at H
        have H' := Aside0.mk H
        clear H hbq hocA hho hcn hxn hxb hrow
        go_wp2
        go_roundg k2
        case measure => have := HK1.out; have := HK2.out; omega
        case rel => exact ⟨i + 1, out, by go_num, hlo, H', ⟨by have := HK2.out; omega⟩, HS⟩
       | false =>
        rw [hbq] at hcb
        rw [if_neg (by rw [hbq]; decide)] at H
        obtain ⟨rr, hrr, H⟩ := Option.bind_eq_some_iff.mp H
        have H' := Aside0.mk H
        have HL := Aside0.mk (fun (W : World) (hS : dense_Groups.St w0 W g11 g12 (.slice (some ⟨bo, 0, none⟩) net.length co) (out, [])) => by
         have hq := (Kd.R_reads' hS.ho).2
         have h_ := dense_least.calls k2 Ar cr row (some adc) c1 core (some ⟨bo, 0, none⟩) co out rr W (Kd.C_below hcn hS.hb) hcr (by rw [hcl]; exact Kd.C_below HC.out hS.hb) hcore1 hq.2 (by rw [hlo]; exact hq.1) hrr
         rw [hcl, hlo] at h_
         exact h_)
        clear H hbq hrr hocA hho hcn hxn hxb hrow
        go_upto_region 28 with (fail)
        refine start_ (ds := [7]) (n := 8) (S := fun W => W.cell? ⟨g11, 0, none⟩ = some (.slice (some ⟨bo, 0, none⟩) net.length co) ∧ W.cell? ⟨g10, 0, none⟩ = some (.slice (some adc) net.length c1)) #[false, false, false, false, false, false, false, false] (by kernel_rfl) rfl (by rfl) ⟨c11, c10⟩ (fun hHeld => ?_)
        refine pure_ (i := 1) (N := some 102) (v := ?_) (a' := ?_) #[false, true, false, false, false, false, false, false] rfl rfl (by kernel_rfl) (fun _ _ _ h => h) (Or.inl ⟨by rfl, ?_⟩) ?_ ?_
        rotate_left
        ·intro w'
         go_simp
         first | done | with_reducible rfl | rfl
        rotate_left
        ·simp only [Act.put, List.setIfInBounds_toArray, List.set_cons_zero, List.set_cons_succ, i64_w, i32_w]
         rfl
        refine pure_ (i := 2) (N := some 103) (v := ?_) (a' := ?_) #[false, true, true, false, false, false, false, false] rfl rfl (by kernel_rfl) (fun _ _ _ h => h) (Or.inl ⟨by rfl, ?_⟩) ?_ ?_
        rotate_left
        ·intro w'
         go_simp
         first | done | with_reducible rfl | rfl
        rotate_left
        ·simp only [Act.put, List.setIfInBounds_toArray, List.set_cons_zero, List.set_cons_succ, i64_w, i32_w]
         rfl
        refine take_ (i := 0) (N := some 101) (v := ?_) (a' := ?_) #[true, true, true, false, false, false, false, false] rfl rfl (by kernel_rfl) (fun _ _ _ h => h) (Or.inl ⟨by rfl, ?_⟩) hHeld ?_ ?_
        rotate_left
        ·rintro w' ⟨s0, s1⟩
         go_simp
         first | done | with_reducible rfl | rfl
        rotate_left
        ·simp only [Act.put, List.setIfInBounds_toArray, List.set_cons_zero, List.set_cons_succ, i64_w, i32_w]
         rfl
        refine take_ (i := 3) (N := some 104) (v := ?_) (a' := ?_) #[true, true, true, true, false, false, false, false] rfl rfl (by kernel_rfl) (fun _ _ _ h => h) (Or.inl ⟨by rfl, ?_⟩) hHeld ?_ ?_
        rotate_left
        ·rintro w' ⟨s0, s1⟩
         go_simp
         first | done | with_reducible rfl | rfl
        rotate_left
        ·simp only [Act.put, List.setIfInBounds_toArray, List.set_cons_zero, List.set_cons_succ, i64_w, i32_w]
         rfl
        refine take_ (i := 4) (N := some 105) (v := ?_) (a' := ?_) #[true, true, true, true, true, false, false, false] rfl rfl (by kernel_rfl) (fun _ _ _ h => h) (Or.inl ⟨by rfl, ?_⟩) hHeld ?_ ?_
        rotate_left
        ·rintro w' ⟨s0, s1⟩
         go_simp
         first | done | with_reducible rfl | rfl
        rotate_left
        ·simp only [Act.put, List.setIfInBounds_toArray, List.set_cons_zero, List.set_cons_succ, i64_w, i32_w]
         rfl
        refine one_ (i := 5) (N := some 106) #[true, true, true, true, true, true, false, false] rfl rfl (by kernel_rfl) (by decide) (fun K hK => ?_)
        refine goes_ Try.func69 (by kernel_rfl) rfl #[.slice Ar row.length cr, .slice (some adc) net.length c1, .slice (some ⟨bo, 0, none⟩) net.length co] (by rfl) rfl rfl (by (try simp only [List.map_toArray, List.map_cons, List.map_nil]); first | done | rfl) ?_
        with_reducible refine (HL.out _ (dense_Groups.St.drew HS.out)).mono ?_
        rintro e w5 ⟨rfl, ⟨nd, rfl⟩⟩
        refine ⟨_, rfl, ?_⟩
        refine hK.out _ _ hHeld (fun hHeld => ?_)
        clear hK K
        refine norm_ (a' := ?_) ?_ ?_
        rotate_left
        ·show Act.put _ (some 106) _ = _
         simp only [Act.put, List.setIfInBounds_toArray, List.set_cons_zero, List.set_cons_succ, i64_w, i32_w]
         rfl
        refine pure_ (i := 6) (N := some 107) (v := ?_) (a' := ?_) #[true, true, true, true, true, true, true, false] rfl rfl (by kernel_rfl) (fun _ _ _ h => h) (Or.inl ⟨by rfl, ?_⟩) ?_ ?_
        rotate_left
        ·intro w'
         go_simp
         first | done | with_reducible rfl | rfl
        rotate_left
        ·simp only [Act.put, List.setIfInBounds_toArray, List.set_cons_zero, List.set_cons_succ, i64_w, i32_w]
         rfl
        refine last_ (i := 7) (N := none) #[true, true, true, true, true, true, true, true] rfl rfl (by kernel_rfl) (by decide) (fun K hK => ?_)
        refine skip_ (w1 := ?_) (by rfl) rfl ?_ ?_
        rotate_left
        ·go_simp
         rfl
        refine hK.out _ _ ?_
        clear hK K
        refine done_ (by kernel_rfl) ?_
        go_wp2
        go_roundg k2
        case measure => have := HK1.out; have := HK2.out; omega
        case rel => exact ⟨i + 1, out.set i rr, by go_num, by rw [List.length_set]; exact hlo, H', ⟨by have := HK2.out; omega⟩, ⟨by have h_ := (dense_Groups.St.drewN HS.out (1 + nd)).put hlo HB.out (i : Int) rr; rw [Int.toNat_natCast] at h_; exact h_⟩⟩
      ·rw [if_neg hi] at H
       injection (Option.some.inj H) with e1 e2
       subst e1 e2
       have c11 : wr.cell? ⟨g11, 0, none⟩ = some (.slice Ao net.length co) := (blk_cell HS.out.h11 0).trans rfl
       have b1 : decide ((i : Int) < (net.length : Int)) = false := decide_eq_false (by omega)
       clear H
       go_wp2
       go_ret2
       exact ⟨_, rfl, Kd.R_mono (Kd.R_lower HS.out.ho HB0.out.size) (fun _ _ => trivial), HB0.out.trans (HS.out.hb.mono HB0.out.size)⟩


/-! ### num_least: function 144 -/
def num_least.l0 : Nat → Int → List Int → Int → Int → Option (Int)
 | 0, _, _, _, _ => none
 | k + 1, x0, x7, x8, x9 => if x9 < x8 then (if 0 ≤ x9 then (if x9 < (x7.length : Int) then (num_least.l0 k (mn x0 (rd x7 x9)) x7 x8 (wrap64 (x9 + 1))) else (none)) else (none)) else (some x0)
def num_least.f (k : Nat) (a0 : Int) (l1 : List Int) : Option (Int) := num_least.l0 k a0 l1 (l1.length : Int) 0
theorem num_least.mono_l : ∀ k, (∀ y0 y1 y2 y3, LeO (num_least.l0 k y0 y1 y2 y3) (num_least.l0 (k + 1) y0 y1 y2 y3))
 | 0 => fun _ _ _ _ r h => by simp [num_least.l0] at h
 | k + 1 => by
  have ih0 := num_least.mono_l k
  ·intro y0 y1 y2 y3
   unfold num_least.l0
   repeat' first
   | (with_reducible exact ih0 _ _ _ _)
   | (with_reducible exact LeO.refl _)
   | (with_reducible exact LeO.none _)
   | (with_reducible refine LeO.ite ?_ ?_)
   | (with_reducible refine LeO.bind ?_ (fun _ => ?_))
   | exact ih0 _ _ _ _
   | exact LeO.none _
   | refine LeO.ite ?_ ?_
   | refine LeO.bind ?_ (fun _ => ?_)
theorem num_least.mono : ∀ a0 a1 k, LeO (num_least.f k a0 a1) (num_least.f (k + 1) a0 a1) := by
 intro a0 a1 k
 have ih0 := num_least.mono_l k
 unfold num_least.f
 repeat' first
   | (with_reducible exact ih0 _ _ _ _)
   | (with_reducible exact LeO.refl _)
   | (with_reducible exact LeO.none _)
   | (with_reducible refine LeO.ite ?_ ?_)
   | (with_reducible refine LeO.bind ?_ (fun _ => ?_))
   | exact ih0 _ _ _ _
   | exact LeO.none _
   | refine LeO.ite ?_ ?_
   | refine LeO.bind ?_ (fun _ => ?_)
set_option maxHeartbeats 8000000 in
set_option maxRecDepth 100000 in
theorem num_least.calls (k : Nat) (a0 : Int) (A1 : Option Addr) (c1 : Nat) (l1 : List Int) (r : Int) (w : World) (hr1 : Kd.C (Kd.int .i64) w A1 l1.length l1) (hc1 : l1.length ≤ c1) (h : num_least.f k a0 l1 = some r) :
  Calls Try.prog 144 #[.int .i64 a0, .slice A1 l1.length c1] w fun e w' => e = .returned (.int .i64 r) ∧ Below w.heap.size w w' := by
 have HR1 := Aside0.mk hr1
 have HC1 := Aside0.mk hc1
 clear hr1 hc1
 have HB := Aside0.mk (Below.refl w.heap.size w)
 have H : (num_least.l0 k a0 l1 (l1.length : Int) 0) = some r := h
 clear h
 have H' := Aside0.mk H
 clear H
 go_enter Try.func144, Try.ntmps144
 go_wp2
 go_loopg [0, 9] k (fun kq v0 v9 w' => ∃ (x0_1 : Int) (x9_1 : Int), v0 = .int .i64 x0_1 ∧ v9 = .int .i64 x9_1 ∧ Aside0 (num_least.l0 kq x0_1 l1 (l1.length : Int) x9_1 = some r) ∧ Aside0 (kq ≤ k) ∧ Aside0 (Below w.heap.size w w'))
 case atStart => exact ⟨(a0), (0), (by first | rfl | (simp; done) | (simp [*]; done)), (by first | rfl | (simp; done) | (simp [*]; done)), H', ⟨Nat.le_refl _⟩, ⟨by repeat (first | (with_reducible first | exact HB.out | apply below_alloc | apply pw_below_drewN | apply below_drew1) | exact HB.out)⟩⟩
 case round =>
  clear H'
  try clear c1
  try clear p2
  obtain ⟨x0_1, x9_1, rfl, rfl, HA, HK1, HB⟩ := hrel
  cases gk with
  | zero => exact absurd HA.out (by simp [num_least.l0])
  | succ k1 =>
   have H := HA.out
   clear HA
   simp only [num_least.l0] at H
   by_cases c3 : x9_1 < (l1.length : Int)
   ·rw [if_pos c3] at H
    have c3b0 : decide (x9_1 < (l1.length : Int)) = true := decide_eq_true c3
    clear c3
    by_cases c4 : 0 ≤ x9_1
    ·rw [if_pos c4] at H
     have c4b0 : decide (0 ≤ x9_1) = true := decide_eq_true c4
     clear c4
     by_cases c5 : x9_1 < (l1.length : Int)
     ·rw [if_pos c5] at H
      have c5b0 : decide (x9_1 < (l1.length : Int)) = true := decide_eq_true c5
      clear c5
      obtain ⟨ji6, hji6⟩ : ∃ j_ : Int, (mn x0_1 (rd l1 x9_1)) = j_ := ⟨_, rfl⟩
      replace H : (num_least.l0 k1 ji6 l1 (l1.length : Int) (wrap64 (x9_1 + 1))) = some r := by first | (rw [hji6] at H; exact H) | (simp only [hji6] at H ⊢; exact H)
      have hji6_ : (if (rd l1 x9_1) < x0_1 then (rd l1 x9_1) else x0_1) = ji6 := hji6
      have H' := Aside0.mk H
      clear H
      have p174 : 0 ≤ (x9_1 : Int) := of_decide_eq_true (by assumption)
      have q174 : x9_1 < (l1.length : Int) := of_decide_eq_true (by assumption)
      obtain ⟨ad174, e174, hx174_0⟩ := Kd.at_int HR1.out x9_1 p174 q174
      cases e174
      replace hx174_0 := (HB.out.cell (World.block_lt_of_cell? w _ hx174_0)).trans hx174_0
      replace p174 := eq_true p174
      replace q174 := eq_true q174
      go_wp2
      go_roundg k1
      case measure => have := HK1.out; omega
      case rel => exact ⟨(ji6), (wrap64 (x9_1 + 1)), (by first | rfl | (simp; done) | (simp only [← hji6] <;> (first | rfl | simp)) | (simp [*]; done)), (by first | rfl | (simp; done) | (simp [*]; done)), H', ⟨by have := HK1.out; omega⟩, ⟨by repeat (first | (with_reducible first | exact HB.out | apply below_alloc | apply pw_below_drewN | apply below_drew1) | exact HB.out)⟩⟩
     ·rw [if_neg c5] at H
      exact absurd H (by simp)
    ·rw [if_neg c4] at H
     exact absurd H (by simp)
   ·rw [if_neg c3] at H
    have c3b0 : decide (x9_1 < (l1.length : Int)) = false := decide_eq_false c3
    clear c3
    obtain rfl := Option.some.inj H
    go_wp2
    go_ret
    exact ⟨by first | rfl | (simp [errW_none, errW_some] <;> rfl) | (simp [*, errW_none, errW_some] <;> rfl), by repeat (first | (with_reducible first | exact HB.out | apply below_alloc | apply pw_below_drewN | apply below_drew1) | exact HB.out)⟩

/-! ### num_natural: function 107 -/
def num_natural.f (k : Nat) (l0 : List Int) : Option (Bool) := (num_least.f k 0 l0).bind fun t175 => (some (t175 == 0))
theorem num_natural.mono : ∀ a0 k, LeO (num_natural.f k a0) (num_natural.f (k + 1) a0) := by
 intro a0 k
 unfold num_natural.f
 repeat' first
   | (with_reducible exact num_least.mono _ _ _)
   | (with_reducible exact LeO.refl _)
   | (with_reducible exact LeO.none _)
   | (with_reducible refine LeO.ite ?_ ?_)
   | (with_reducible refine LeO.bind ?_ (fun _ => ?_))
   | exact num_least.mono _ _ _
   | exact LeO.none _
   | refine LeO.ite ?_ ?_
   | refine LeO.bind ?_ (fun _ => ?_)
set_option maxHeartbeats 8000000 in
set_option maxRecDepth 100000 in
theorem num_natural.calls (k : Nat) (A0 : Option Addr) (c0 : Nat) (l0 : List Int) (r : Bool) (w : World) (hr0 : Kd.C (Kd.int .i64) w A0 l0.length l0) (hc0 : l0.length ≤ c0) (h : num_natural.f k l0 = some r) :
  Calls Try.prog 107 #[.slice A0 l0.length c0] w fun e w' => e = .returned (.bool r) ∧ Below w.heap.size w w' := by
 have HR0 := Aside0.mk hr0
 have HC0 := Aside0.mk hc0
 clear hr0 hc0
 have HB := Aside0.mk (Below.refl w.heap.size w)
 have H : ((num_least.f k 0 l0).bind fun t175 => (some (t175 == 0))) = some r := h
 clear h
 replace H := Option.bind_eq_some_iff.mp H
 obtain ⟨t175, A20, H⟩ := H
 replace H : (some (t175 == 0)) = some r := H
 have A2 := Aside0.mk A20
 clear A20
 obtain rfl := Option.some.inj H
 go_enter Try.func107, Try.ntmps107
 go_wp2_with (first | ((with_reducible refine gate_callee (f := 144) rfl ?_); refine goesL_ (some 4) rfl rfl Try.func144 (by kernel_rfl) rfl #[.int .i64 0, .slice A0 l0.length c0] rfl (by (try simp only [List.map_toArray, List.map_cons, List.map_nil]); first | done | rfl) ?_; (with_reducible refine (num_least.calls k 0 _ _ l0 t175 _ ?side1 ?side2 A2.out).mono ?_); (case side1 => repeat (first | exact HR0.out | (with_reducible refine Kd.C_alloc ?_ _) | (with_reducible refine Kd.C_drewN ?_ _) | (with_reducible refine Kd.C_drew ?_))); (case side2 => exact HC0.out); rintro e w3 ⟨rfl, hb⟩; refine ⟨_, rfl, ?_⟩; have n0_ := Aside0.mk (below_step (by repeat (first | (with_reducible first | exact HB.out | apply below_alloc | apply pw_below_drewN | apply below_drew1) | exact HB.out)) hb); clear HB; have HB := n0_; clear n0_; (try clear hb); (try clear hb2); (try clear hk); (try clear hi)))
 go_ret
 exact ⟨by first | rfl | (simp [errW_none, errW_some] <;> rfl) | (simp [*, errW_none, errW_some] <;> rfl), by repeat (first | (with_reducible first | exact HB.out | apply below_alloc | apply pw_below_drewN | apply below_drew1) | exact HB.out)⟩

/-! ### bits_Add64: function 108 -/
/-- A call of a function without a body: the model's entry answers, and the world stays or turns as it says. -/
def bits_Add64.CallsX (P : Program) (f : FuncId) (args : Array Value) (w : World) (R : Ending → World → Prop) : Prop :=
 ∃ v w', (callFunc f args).run P w = .ok (.value v) w' ∧ R (.returned v) w'
theorem bits_Add64.CallsX.mono {P : Program} {f : FuncId} {args : Array Value} {w : World} {R R' : Ending → World → Prop} (h : bits_Add64.CallsX P f args w R) (hr : ∀ e w', R e w' → R' e w') : bits_Add64.CallsX P f args w R' := by
 obtain ⟨v, w', h1, h2⟩ := h
 exact ⟨v, w', h1, hr _ _ h2⟩
theorem bits_Add64.goesX_ {P : Program} {ops : Array Oper} {Q : Exit → Act → World → Prop} {rest : List Oper} {oi : Oper} {a : Act} {w : World} (N : Option Tmp) (hd : oi.dst = N) (hg : oi.guard = none) {f : FuncId} {fn : Func} {os : Array Operand} {ts : Array TypeId} (hf : P.funcs[f]? = some fn) (hname : (fn.name == "runtime.NumGoroutine") = false) (hb : true = true) (args : Array Value)
  (hop : oi.op = .call { callee := .value (.func f), args := os, argTypes := ts }) (hargs : os.map a.eval = args)
  (h : bits_Add64.CallsX P f args w fun e w' => ∃ v, e = .returned v ∧ wpList P ops Q rest (a.put N v) w') : wpList P ops Q (oi :: rest) a w := by
 refine wpList_plain hg fun K hK => ?_
 obtain ⟨v, w', hrun, v', he, hk⟩ := h
 cases he
 have hr : (execOp a.eval oi).run P w = .ok (.value v) w' := by
  unfold execOp
  simp [hop, resolve, Deferred.ofValue, invoke, Act.eval, hargs, hrun]
 unfold Oper.wp
 rw [hr]
 subst hd
 exact hK _ _ hk
def bits_Add64.f (a0 a1 a2 : Int) : Option (Int × Int) :=
 if 0 ≤ a0 ∧ 0 ≤ a1 ∧ 0 ≤ a2 ∧ a2 ≤ 1 then some ((a0 + a1 + a2) % 18446744073709551616, (a0 + a1 + a2) / 18446744073709551616) else none
theorem bits_Add64.calls (a0 a1 a2 : Int) (r1 r2 : Int) (w : World) (h : bits_Add64.f a0 a1 a2 = some (r1, r2)) :
  bits_Add64.CallsX Try.prog 108 #[.int .u64 a0, .int .u64 a1, .int .u64 a2] w fun e w' => e = .returned (.tuple #[.int .u64 r1, .int .u64 r2]) ∧ Drawn0 w w' := by
 unfold bits_Add64.f at h
 by_cases hg : 0 ≤ a0 ∧ 0 ≤ a1 ∧ 0 ≤ a2 ∧ a2 ≤ 1
 ·rw [if_pos hg] at h
  obtain ⟨h0, h1, h2, h3⟩ := hg
  simp only [Option.some.injEq, Prod.mk.injEq] at h
  obtain ⟨rfl, rfl⟩ := h
  refine ⟨_, w, ?_, rfl, Drawn0.refl _⟩
  rw [run_callFunc_extern Try.func108 (by kernel_rfl) (by kernel_rfl) (by kernel_rfl) (e := add64Entry) (by kernel_rfl), run_add64 a0 a1 a2 h0 h1 h2 h3]
  rfl
 ·rw [if_neg hg] at h; cases h


/-! ### num_Add: function 70 -/
def num_Add.f (k : Nat) (a0 : Int) (a1 : Int) (a2 : Int) : Option (Int) := (num_natural.f k (([a0, a1, a2] : List Int))).bind fun t179 => (if t179 = true then ((bits_Add64.f (IntKind.u64.wrap (a0)) (IntKind.u64.wrap (a1)) 0).bind fun bt180 => (if bt180.2 > 0 then (some a2) else (if bt180.1 > (IntKind.u64.wrap (a2)) then (some a2) else (some (wrap64 (bt180.1)))))) else (some 0))
theorem num_Add.mono : ∀ a0 a1 a2 k, LeO (num_Add.f k a0 a1 a2) (num_Add.f (k + 1) a0 a1 a2) := by
 intro a0 a1 a2 k
 unfold num_Add.f
 repeat' first
   | (with_reducible exact num_natural.mono _ _)
   | (with_reducible exact LeO.refl _)
   | (with_reducible exact LeO.none _)
   | (with_reducible refine LeO.ite ?_ ?_)
   | (with_reducible refine LeO.bind ?_ (fun _ => ?_))
   | exact num_natural.mono _ _
   | exact LeO.none _
   | refine LeO.ite ?_ ?_
   | refine LeO.bind ?_ (fun _ => ?_)
set_option maxHeartbeats 8000000 in
set_option maxRecDepth 100000 in
theorem num_Add.calls (k : Nat) (a0 : Int) (a1 : Int) (a2 : Int) (r : Int) (w : World) (h : num_Add.f k a0 a1 a2 = some r) :
  Calls Try.prog 70 #[.int .i64 a0, .int .i64 a1, .int .i64 a2] w fun e w' => e = .returned (.int .i64 r) ∧ Below w.heap.size w w' := by
 have HB := Aside0.mk (Below.refl w.heap.size w)
 have H : ((num_natural.f k (([a0, a1, a2] : List Int))).bind fun t179 => (if t179 = true then ((bits_Add64.f (IntKind.u64.wrap (a0)) (IntKind.u64.wrap (a1)) 0).bind fun bt180 => (if bt180.2 > 0 then (some a2) else (if bt180.1 > (IntKind.u64.wrap (a2)) then (some a2) else (some (wrap64 (bt180.1)))))) else (some 0))) = some r := h
 clear h
 obtain ⟨y176, hy176⟩ : ∃ y_ : List Int, y_ = (([a0, a1, a2] : List Int)) := ⟨_, rfl⟩
 replace H : ((num_natural.f k y176).bind fun t179 => (if t179 = true then ((bits_Add64.f (IntKind.u64.wrap (a0)) (IntKind.u64.wrap (a1)) 0).bind fun bt180 => (if bt180.2 > 0 then (some a2) else (if bt180.1 > (IntKind.u64.wrap (a2)) then (some a2) else (some (wrap64 (bt180.1)))))) else (some 0))) = some r := by first | (rw [hy176]; with_reducible exact H) | (have H2_ := (Option.bind_some _ _).symm.trans H; rw [hy176]; with_reducible exact H2_) | (have H2_ := (Option.bind_some _ _).symm.trans H; with_reducible exact H2_) | with_reducible exact H | (rw [hy176]; exact H) | exact H
 have Ny176 := Aside0.mk hy176
 clear hy176
 replace H := Option.bind_eq_some_iff.mp H
 obtain ⟨t179, A40, H⟩ := H
 replace H : (if t179 = true then ((bits_Add64.f (IntKind.u64.wrap (a0)) (IntKind.u64.wrap (a1)) 0).bind fun bt180 => (if bt180.2 > 0 then (some a2) else (if bt180.1 > (IntKind.u64.wrap (a2)) then (some a2) else (some (wrap64 (bt180.1)))))) else (some 0)) = some r := H
 have A4 := Aside0.mk A40
 clear A40
 by_cases c5 : t179 = true
 ·subst c5
  have H1 : ((bits_Add64.f (IntKind.u64.wrap (a0)) (IntKind.u64.wrap (a1)) 0).bind fun bt180 => (if bt180.2 > 0 then (some a2) else (if bt180.1 > (IntKind.u64.wrap (a2)) then (some a2) else (some (wrap64 (bt180.1)))))) = some r := by rw [if_pos rfl] at H; exact H
  clear H
  have H := H1
  clear H1
  replace H := Option.bind_eq_some_iff.mp H
  obtain ⟨⟨t180, t181⟩, A60, H⟩ := H
  replace H : (if t181 > 0 then (some a2) else (if t180 > (IntKind.u64.wrap (a2)) then (some a2) else (some (wrap64 (t180))))) = some r := H
  have A6 := Aside0.mk A60
  clear A60
  by_cases c7 : t181 > 0
  ·rw [if_pos c7] at H
   have c7b0 : decide (0 < t181) = true := decide_eq_true c7
   clear c7
   obtain rfl := Option.some.inj H
   go_enter Try.func70, Try.ntmps70
   go_wp2_with (first | ((with_reducible refine gate_dst (N := 12) rfl ?_); refine Kd.R_lit (Kd.int .i64) _ 3 ?hg (N := 12) ?hd (xs := ([a0, a1, a2] : List Int)) (inner := [.int .i64 a0, .int .i64 a1, .int .i64 a2]) (ok := fun _ => True) (okp := fun _ => True) ?hr ?hp (fun _ hk => hk) trivial (Below.refl _ _) (Nat.le_refl _) (by simp) ?_; (case hd => rfl); (case hg => rfl); (case hr => first | (go_simp; done) | (go_simp; rfl)); (case hp => exact (Reps.one (show Kd.M (Kd.int .i64) _ _ _ a0 [.int .i64 a0] from rfl) (Reps.one (show Kd.M (Kd.int .i64) _ _ _ a1 [.int .i64 a1] from rfl) (Reps.one (show Kd.M (Kd.int .i64) _ _ _ a2 [.int .i64 a2] from rfl) (Reps.none _ _))))); intro v177 w8 ho9 hb hg_ hnew_; clear hg_ hnew_; (first | rw [← Ny176.out] at ho9 | (simp only [Int.reduceToNat] at ho9; rw [← Ny176.out] at ho9)); have n0_ := Aside0.mk (Kd.R_lower ho9 (below_size (by repeat (first | (with_reducible first | exact HB.out | apply below_alloc | apply pw_below_drewN | apply below_drew1) | exact HB.out)))); have n1_ := Aside0.mk (below_step (by repeat (first | (with_reducible first | exact HB.out | apply below_alloc | apply pw_below_drewN | apply below_drew1) | exact HB.out)) hb); clear HB; have HO178 := n0_; have HB := n1_; clear n0_ n1_; clear hb ho9; obtain ⟨Ao10, co10, eo10⟩ := Kd.R_slice HO178.out; subst eo10) | ((with_reducible refine gate_callee (f := 107) rfl ?_); refine goesL_ (some 13) rfl rfl Try.func107 (by kernel_rfl) rfl #[.slice Ao10 y176.length co10] rfl (by (try simp only [List.map_toArray, List.map_cons, List.map_nil]); first | done | rfl) ?_; (with_reducible refine (num_natural.calls k _ _ y176 true _ ?side1 ?side2 A4.out).mono ?_); (case side1 => repeat (first | exact (Kd.R_reads' HO178.out).2.2 | (with_reducible refine Kd.C_alloc ?_ _) | (with_reducible refine Kd.C_drewN ?_ _) | (with_reducible refine Kd.C_drew ?_))); (case side2 => exact (Kd.R_reads' HO178.out).2.1); rintro e w11 ⟨rfl, hb⟩; refine ⟨_, rfl, ?_⟩; have n0_ := Aside0.mk (Kd.R_below (by (with_reducible repeat (first | apply Kd.R_alloc | apply Kd.R_drewN | apply Kd.R_drew)); exact HO178.out) hb); have n1_ := Aside0.mk (below_step (by repeat (first | (with_reducible first | exact HB.out | apply below_alloc | apply pw_below_drewN | apply below_drew1) | exact HB.out)) hb); clear HO178; clear HB; have HO178 := n0_; have HB := n1_; clear n0_ n1_; (try clear hb); (try clear hb2); (try clear hk); (try clear hi)) | ((with_reducible refine gate_callee (f := 108) rfl ?_); refine bits_Add64.goesX_ (some 20) rfl rfl Try.func108 (by kernel_rfl) rfl #[.int .u64 (IntKind.u64.wrap (a0)), .int .u64 (IntKind.u64.wrap (a1)), .int .u64 0] rfl (by (try simp only [List.map_toArray, List.map_cons, List.map_nil]); first | done | rfl) ?_; (with_reducible refine (bits_Add64.calls (IntKind.u64.wrap (a0)) (IntKind.u64.wrap (a1)) 0 t180 t181 _ A6.out).mono ?_); rintro e w' ⟨rfl, ⟨nd, rfl⟩⟩; refine ⟨_, rfl, ?_⟩) | (go_at_call 108; refine calls_of_args (args' := #[.int .u64 (IntKind.u64.wrap (a0)), .int .u64 (IntKind.u64.wrap (a1)), .int .u64 0]) (by first | rfl) ?_; (with_reducible refine (bits_Add64.calls (IntKind.u64.wrap (a0)) (IntKind.u64.wrap (a1)) 0 t180 t181 _ A6.out).mono ?_); rintro e w' ⟨rfl, ⟨nd, rfl⟩⟩))
   go_ret
   exact ⟨by first | rfl | (simp [errW_none, errW_some] <;> rfl) | (simp [*, errW_none, errW_some] <;> rfl), by repeat (first | (with_reducible first | exact HB.out | apply below_alloc | apply pw_below_drewN | apply below_drew1) | exact HB.out)⟩
  ·rw [if_neg c7] at H
   have c7b0 : decide (0 < t181) = false := decide_eq_false c7
   clear c7
   by_cases c12 : t180 > (IntKind.u64.wrap (a2))
   ·rw [if_pos c12] at H
    have c12b0 : decide ((IntKind.u64.wrap (a2)) < t180) = true := decide_eq_true c12
    clear c12
    obtain rfl := Option.some.inj H
    go_enter Try.func70, Try.ntmps70
    go_wp2_with (first | ((with_reducible refine gate_dst (N := 12) rfl ?_); refine Kd.R_lit (Kd.int .i64) _ 3 ?hg (N := 12) ?hd (xs := ([a0, a1, a2] : List Int)) (inner := [.int .i64 a0, .int .i64 a1, .int .i64 a2]) (ok := fun _ => True) (okp := fun _ => True) ?hr ?hp (fun _ hk => hk) trivial (Below.refl _ _) (Nat.le_refl _) (by simp) ?_; (case hd => rfl); (case hg => rfl); (case hr => first | (go_simp; done) | (go_simp; rfl)); (case hp => exact (Reps.one (show Kd.M (Kd.int .i64) _ _ _ a0 [.int .i64 a0] from rfl) (Reps.one (show Kd.M (Kd.int .i64) _ _ _ a1 [.int .i64 a1] from rfl) (Reps.one (show Kd.M (Kd.int .i64) _ _ _ a2 [.int .i64 a2] from rfl) (Reps.none _ _))))); intro v177 w13 ho14 hb hg_ hnew_; clear hg_ hnew_; (first | rw [← Ny176.out] at ho14 | (simp only [Int.reduceToNat] at ho14; rw [← Ny176.out] at ho14)); have n0_ := Aside0.mk (Kd.R_lower ho14 (below_size (by repeat (first | (with_reducible first | exact HB.out | apply below_alloc | apply pw_below_drewN | apply below_drew1) | exact HB.out)))); have n1_ := Aside0.mk (below_step (by repeat (first | (with_reducible first | exact HB.out | apply below_alloc | apply pw_below_drewN | apply below_drew1) | exact HB.out)) hb); clear HB; have HO178 := n0_; have HB := n1_; clear n0_ n1_; clear hb ho14; obtain ⟨Ao15, co15, eo15⟩ := Kd.R_slice HO178.out; subst eo15) | ((with_reducible refine gate_callee (f := 107) rfl ?_); refine goesL_ (some 13) rfl rfl Try.func107 (by kernel_rfl) rfl #[.slice Ao15 y176.length co15] rfl (by (try simp only [List.map_toArray, List.map_cons, List.map_nil]); first | done | rfl) ?_; (with_reducible refine (num_natural.calls k _ _ y176 true _ ?side1 ?side2 A4.out).mono ?_); (case side1 => repeat (first | exact (Kd.R_reads' HO178.out).2.2 | (with_reducible refine Kd.C_alloc ?_ _) | (with_reducible refine Kd.C_drewN ?_ _) | (with_reducible refine Kd.C_drew ?_))); (case side2 => exact (Kd.R_reads' HO178.out).2.1); rintro e w16 ⟨rfl, hb⟩; refine ⟨_, rfl, ?_⟩; have n0_ := Aside0.mk (Kd.R_below (by (with_reducible repeat (first | apply Kd.R_alloc | apply Kd.R_drewN | apply Kd.R_drew)); exact HO178.out) hb); have n1_ := Aside0.mk (below_step (by repeat (first | (with_reducible first | exact HB.out | apply below_alloc | apply pw_below_drewN | apply below_drew1) | exact HB.out)) hb); clear HO178; clear HB; have HO178 := n0_; have HB := n1_; clear n0_ n1_; (try clear hb); (try clear hb2); (try clear hk); (try clear hi)) | ((with_reducible refine gate_callee (f := 108) rfl ?_); refine bits_Add64.goesX_ (some 20) rfl rfl Try.func108 (by kernel_rfl) rfl #[.int .u64 (IntKind.u64.wrap (a0)), .int .u64 (IntKind.u64.wrap (a1)), .int .u64 0] rfl (by (try simp only [List.map_toArray, List.map_cons, List.map_nil]); first | done | rfl) ?_; (with_reducible refine (bits_Add64.calls (IntKind.u64.wrap (a0)) (IntKind.u64.wrap (a1)) 0 t180 t181 _ A6.out).mono ?_); rintro e w' ⟨rfl, ⟨nd, rfl⟩⟩; refine ⟨_, rfl, ?_⟩) | (go_at_call 108; refine calls_of_args (args' := #[.int .u64 (IntKind.u64.wrap (a0)), .int .u64 (IntKind.u64.wrap (a1)), .int .u64 0]) (by first | rfl) ?_; (with_reducible refine (bits_Add64.calls (IntKind.u64.wrap (a0)) (IntKind.u64.wrap (a1)) 0 t180 t181 _ A6.out).mono ?_); rintro e w' ⟨rfl, ⟨nd, rfl⟩⟩))
    go_ret
    exact ⟨by first | rfl | (simp [errW_none, errW_some] <;> rfl) | (simp [*, errW_none, errW_some] <;> rfl), by repeat (first | (with_reducible first | exact HB.out | apply below_alloc | apply pw_below_drewN | apply below_drew1) | exact HB.out)⟩
   ·rw [if_neg c12] at H
    have c12b0 : decide ((IntKind.u64.wrap (a2)) < t180) = false := decide_eq_false c12
    clear c12
    obtain rfl := Option.some.inj H
    go_enter Try.func70, Try.ntmps70
    go_wp2_with (first | ((with_reducible refine gate_dst (N := 12) rfl ?_); refine Kd.R_lit (Kd.int .i64) _ 3 ?hg (N := 12) ?hd (xs := ([a0, a1, a2] : List Int)) (inner := [.int .i64 a0, .int .i64 a1, .int .i64 a2]) (ok := fun _ => True) (okp := fun _ => True) ?hr ?hp (fun _ hk => hk) trivial (Below.refl _ _) (Nat.le_refl _) (by simp) ?_; (case hd => rfl); (case hg => rfl); (case hr => first | (go_simp; done) | (go_simp; rfl)); (case hp => exact (Reps.one (show Kd.M (Kd.int .i64) _ _ _ a0 [.int .i64 a0] from rfl) (Reps.one (show Kd.M (Kd.int .i64) _ _ _ a1 [.int .i64 a1] from rfl) (Reps.one (show Kd.M (Kd.int .i64) _ _ _ a2 [.int .i64 a2] from rfl) (Reps.none _ _))))); intro v177 w17 ho18 hb hg_ hnew_; clear hg_ hnew_; (first | rw [← Ny176.out] at ho18 | (simp only [Int.reduceToNat] at ho18; rw [← Ny176.out] at ho18)); have n0_ := Aside0.mk (Kd.R_lower ho18 (below_size (by repeat (first | (with_reducible first | exact HB.out | apply below_alloc | apply pw_below_drewN | apply below_drew1) | exact HB.out)))); have n1_ := Aside0.mk (below_step (by repeat (first | (with_reducible first | exact HB.out | apply below_alloc | apply pw_below_drewN | apply below_drew1) | exact HB.out)) hb); clear HB; have HO178 := n0_; have HB := n1_; clear n0_ n1_; clear hb ho18; obtain ⟨Ao19, co19, eo19⟩ := Kd.R_slice HO178.out; subst eo19) | ((with_reducible refine gate_callee (f := 107) rfl ?_); refine goesL_ (some 13) rfl rfl Try.func107 (by kernel_rfl) rfl #[.slice Ao19 y176.length co19] rfl (by (try simp only [List.map_toArray, List.map_cons, List.map_nil]); first | done | rfl) ?_; (with_reducible refine (num_natural.calls k _ _ y176 true _ ?side1 ?side2 A4.out).mono ?_); (case side1 => repeat (first | exact (Kd.R_reads' HO178.out).2.2 | (with_reducible refine Kd.C_alloc ?_ _) | (with_reducible refine Kd.C_drewN ?_ _) | (with_reducible refine Kd.C_drew ?_))); (case side2 => exact (Kd.R_reads' HO178.out).2.1); rintro e w20 ⟨rfl, hb⟩; refine ⟨_, rfl, ?_⟩; have n0_ := Aside0.mk (Kd.R_below (by (with_reducible repeat (first | apply Kd.R_alloc | apply Kd.R_drewN | apply Kd.R_drew)); exact HO178.out) hb); have n1_ := Aside0.mk (below_step (by repeat (first | (with_reducible first | exact HB.out | apply below_alloc | apply pw_below_drewN | apply below_drew1) | exact HB.out)) hb); clear HO178; clear HB; have HO178 := n0_; have HB := n1_; clear n0_ n1_; (try clear hb); (try clear hb2); (try clear hk); (try clear hi)) | ((with_reducible refine gate_callee (f := 108) rfl ?_); refine bits_Add64.goesX_ (some 20) rfl rfl Try.func108 (by kernel_rfl) rfl #[.int .u64 (IntKind.u64.wrap (a0)), .int .u64 (IntKind.u64.wrap (a1)), .int .u64 0] rfl (by (try simp only [List.map_toArray, List.map_cons, List.map_nil]); first | done | rfl) ?_; (with_reducible refine (bits_Add64.calls (IntKind.u64.wrap (a0)) (IntKind.u64.wrap (a1)) 0 t180 t181 _ A6.out).mono ?_); rintro e w' ⟨rfl, ⟨nd, rfl⟩⟩; refine ⟨_, rfl, ?_⟩) | (go_at_call 108; refine calls_of_args (args' := #[.int .u64 (IntKind.u64.wrap (a0)), .int .u64 (IntKind.u64.wrap (a1)), .int .u64 0]) (by first | rfl) ?_; (with_reducible refine (bits_Add64.calls (IntKind.u64.wrap (a0)) (IntKind.u64.wrap (a1)) 0 t180 t181 _ A6.out).mono ?_); rintro e w' ⟨rfl, ⟨nd, rfl⟩⟩))
    go_ret
    exact ⟨by first | rfl | (simp [errW_none, errW_some] <;> rfl) | (simp [*, errW_none, errW_some] <;> rfl), by repeat (first | (with_reducible first | exact HB.out | apply below_alloc | apply pw_below_drewN | apply below_drew1) | exact HB.out)⟩
 ·replace c5 := Bool.eq_false_iff.mpr c5
  subst c5
  have H1 : (some 0) = some r := by rw [if_neg (show ¬ (false = true) by decide)] at H; exact H
  clear H
  have H := H1
  clear H1
  obtain rfl := Option.some.inj H
  go_enter Try.func70, Try.ntmps70
  go_wp2_with (first | ((with_reducible refine gate_dst (N := 12) rfl ?_); refine Kd.R_lit (Kd.int .i64) _ 3 ?hg (N := 12) ?hd (xs := ([a0, a1, a2] : List Int)) (inner := [.int .i64 a0, .int .i64 a1, .int .i64 a2]) (ok := fun _ => True) (okp := fun _ => True) ?hr ?hp (fun _ hk => hk) trivial (Below.refl _ _) (Nat.le_refl _) (by simp) ?_; (case hd => rfl); (case hg => rfl); (case hr => first | (go_simp; done) | (go_simp; rfl)); (case hp => exact (Reps.one (show Kd.M (Kd.int .i64) _ _ _ a0 [.int .i64 a0] from rfl) (Reps.one (show Kd.M (Kd.int .i64) _ _ _ a1 [.int .i64 a1] from rfl) (Reps.one (show Kd.M (Kd.int .i64) _ _ _ a2 [.int .i64 a2] from rfl) (Reps.none _ _))))); intro v177 w21 ho22 hb hg_ hnew_; clear hg_ hnew_; (first | rw [← Ny176.out] at ho22 | (simp only [Int.reduceToNat] at ho22; rw [← Ny176.out] at ho22)); have n0_ := Aside0.mk (Kd.R_lower ho22 (below_size (by repeat (first | (with_reducible first | exact HB.out | apply below_alloc | apply pw_below_drewN | apply below_drew1) | exact HB.out)))); have n1_ := Aside0.mk (below_step (by repeat (first | (with_reducible first | exact HB.out | apply below_alloc | apply pw_below_drewN | apply below_drew1) | exact HB.out)) hb); clear HB; have HO178 := n0_; have HB := n1_; clear n0_ n1_; clear hb ho22; obtain ⟨Ao23, co23, eo23⟩ := Kd.R_slice HO178.out; subst eo23) | ((with_reducible refine gate_callee (f := 107) rfl ?_); refine goesL_ (some 13) rfl rfl Try.func107 (by kernel_rfl) rfl #[.slice Ao23 y176.length co23] rfl (by (try simp only [List.map_toArray, List.map_cons, List.map_nil]); first | done | rfl) ?_; (with_reducible refine (num_natural.calls k _ _ y176 false _ ?side1 ?side2 A4.out).mono ?_); (case side1 => repeat (first | exact (Kd.R_reads' HO178.out).2.2 | (with_reducible refine Kd.C_alloc ?_ _) | (with_reducible refine Kd.C_drewN ?_ _) | (with_reducible refine Kd.C_drew ?_))); (case side2 => exact (Kd.R_reads' HO178.out).2.1); rintro e w24 ⟨rfl, hb⟩; refine ⟨_, rfl, ?_⟩; have n0_ := Aside0.mk (Kd.R_below (by (with_reducible repeat (first | apply Kd.R_alloc | apply Kd.R_drewN | apply Kd.R_drew)); exact HO178.out) hb); have n1_ := Aside0.mk (below_step (by repeat (first | (with_reducible first | exact HB.out | apply below_alloc | apply pw_below_drewN | apply below_drew1) | exact HB.out)) hb); clear HO178; clear HB; have HO178 := n0_; have HB := n1_; clear n0_ n1_; (try clear hb); (try clear hb2); (try clear hk); (try clear hi)))
  go_ret
  exact ⟨by first | rfl | (simp [errW_none, errW_some] <;> rfl) | (simp [*, errW_none, errW_some] <;> rfl), by repeat (first | (with_reducible first | exact HB.out | apply below_alloc | apply pw_below_drewN | apply below_drew1) | exact HB.out)⟩

end Go.Proofs.Ytjjjafhchombcaa.PDenseTells
