/- The Go functions that the law reaches, and walks to them; printed by wip/tool/mkprint.py. -/
import Derived.Test.YtahkkgnicgbncaaDoorPDiffEdgesx0
import Derived.Test.YtahkkgnicgbncaaDoorPDiffEdgesx1
import Derived.Test.YtahkkgnicgbncaaDoorPDiffEdgesx4
import Derived.Test.YtahkkgnicgbncaaDoorPDiffEdgesx5
import Derived.Test.YtahkkgnicgbncaaDoorPDiffEdgesx7
import Derived.Test.YtahkkgnicgbncaaDoorPDiffEdgesx8
namespace Go.Proofs.YtahkkgnicgbncaaDoor.PDiffEdges
open Go.RowKit Go.Proofs.YtahkkgnicgbncaaDoorW.PrintWords Go.Proofs.YtahkkgnicgbncaaDoorW.PrintLast Go.Proofs.YtahkkgnicgbncaaDoorW.PrintMore
attribute [local go_sem] max2_int min2_int max_two min_two max_three min_three max_four min_four   -- for this text's walks alone
set_option linter.unusedVariables false
set_option linter.unusedSimpArgs false

attribute [local go_sem high] eqA33
/-! ### diff_Fits: function 16 -/
def diff_Fits.q1 (t : S33 × Bool × Bool) : Bool := t.2.2
def diff_Fits.q2 (t : S33 × Bool × Bool) : Bool := !(t.2.1 && t.2.2)
def diff_Fits.f (k : Nat) (g c l : List S33) : Option Bool := (diff_clean.f k [g, c, l]).bind fun b => if b = true then (if g.length + c.length + l.length ≤ 1000000 then some ((diff_beside.bs diff_beside.lt g l).all diff_Fits.q1 && (diff_beside.bs diff_beside.lt c l).all diff_Fits.q2) else none) else some false
theorem diff_Fits.mono : ∀ a0 a1 a2 k, LeO (diff_Fits.f k a0 a1 a2) (diff_Fits.f (k + 1) a0 a1 a2) := by
 intro l0 l1 l2 k
 unfold diff_Fits.f
 exact LeO.bind (diff_clean.mono _ _) (fun _ => LeO.refl _)
/-- Between two rounds. -/
structure diff_Fits.I (w : World) (s0 s1 : Value) (Ds : List Nat) (q : S33 × Bool × Bool → Bool) (a b x y : List S33) (W : World) : Prop where
 box : W.heap[w.heap.size]? = some (.cells #[s0, s1] 26)
 res : W.heap[w.heap.size + 1]? = some (.cells #[.bool false] 4)
 marks : ∀ D ∈ Ds, W.heap[D]? = some (.deferred (some []))
 below : Below w.heap.size w W
 all : (diff_beside.bs diff_beside.lt x y).all q = (diff_beside.bs diff_beside.lt a b).all q
/-- Where a round leaves. -/
structure diff_Fits.O (w : World) (Ds : List Nat) (q : S33 × Bool × Bool → Bool) (a b : List S33) (c : Code) (W : World) : Prop where
 ret : c = .ret
 res : W.heap[w.heap.size + 1]? = some (.cells #[.bool false] 4)
 marks : ∀ D ∈ Ds, W.heap[D]? = some (.deferred (some []))
 below : Below w.heap.size w W
 all : (diff_beside.bs diff_beside.lt a b).all q = false
theorem diff_Fits.I.kp {w : World} {s0 s1 : Value} {B : Nat} {Ds : List Nat} {q : S33 × Bool × Bool → Bool} {a b x y : List S33} {W W' : World} (h : diff_Fits.I w s0 s1 Ds q a b x y W) (k : diff_beside.Kp B W W') (h1 : w.heap.size + 1 < B) (h2 : ∀ D ∈ Ds, D < B) : diff_Fits.I w s0 s1 Ds q a b x y W' :=
 ⟨blk_kept h.box k.1 (by omega), blk_kept h.res k.1 (by omega), fun D hD => blk_kept (h.marks D hD) k.1 (by have := h2 D hD; omega), h.below.trans (k.2.mono (by omega)), h.all⟩
theorem diff_Fits.I.put {w : World} {s0 s1 : Value} {n0 l : Nat} {Ds : List Nat} {q : S33 × Bool × Bool → Bool} {a b x y : List S33} {W : World} (h : diff_Fits.I w s0 s1 Ds q a b x y W) (hn : n0 ≤ l) (h1 : w.heap.size + 1 < n0) (h2 : ∀ D ∈ Ds, D < n0) (o' : Obj) : diff_Fits.I w s0 s1 Ds q a b x y (W.putObj l o') :=
 ⟨(World.putObj_heap_other (by omega)).trans h.box, (World.putObj_heap_other (by omega)).trans h.res, fun D hD => (World.putObj_heap_other (by have := h2 D hD; omega)).trans (h.marks D hD), h.below.grown (grownBy_putObj' W l o') h.below.size (fun i e => by cases e; omega), h.all⟩
theorem diff_Fits.O.put {w : World} {n0 l : Nat} {Ds : List Nat} {q : S33 × Bool × Bool → Bool} {a b : List S33} {c : Code} {W : World} (h : diff_Fits.O w Ds q a b c W) (hn : n0 ≤ l) (h1 : w.heap.size + 1 < n0) (h2 : ∀ D ∈ Ds, D < n0) (o' : Obj) : diff_Fits.O w Ds q a b c (W.putObj l o') :=
 ⟨h.ret, (World.putObj_heap_other (by omega)).trans h.res, fun D hD => (World.putObj_heap_other (by have := h2 D hD; omega)).trans (h.marks D hD), h.below.grown (grownBy_putObj' W l o') h.below.size (fun i e => by cases e; omega), h.all⟩
theorem diff_Fits.I.below_ {w : World} {s0 s1 : Value} {Ds : List Nat} {q : S33 × Bool × Bool → Bool} {a b x y : List S33} {W W' : World} (h : diff_Fits.I w s0 s1 Ds q a b x y W) (hb : Below W.heap.size W W') : diff_Fits.I w s0 s1 Ds q a b x y W' :=
 ⟨blk_below h.box hb, blk_below h.res hb, fun D hD => blk_below (h.marks D hD) hb, below_step h.below hb, h.all⟩
theorem diff_Fits.all_next {lt : S33 → S33 → Bool} {q : S33 × Bool × Bool → Bool} {x y x' y' : List S33} {t : S33 × Bool × Bool} (h : diff_beside.next lt x y = some (t, x', y')) : (diff_beside.bs lt x y).all q = (q t && (diff_beside.bs lt x' y').all q) := by
 rw [diff_beside.bs_next lt x y, h]
 rfl
theorem diff_Fits.results_b {fn : Func} {p : Tmp} (h : fn.results = #[.cell p 4]) (tmps : Array Value) (w : World) (g : Nat) (v : Value) (hp : tmps.getD p undef = .pointer (some ⟨g, 0, none⟩)) (hc : w.cell? ⟨g, 0, none⟩ = some v) :
  (results fn tmps).run Tryd.prog w = .ok v w := by
 have h1 : tmps[p]?.getD undef = .pointer (some ⟨g, 0, none⟩) := by simpa using hp
 simp [results, h, h1, asAddr, loadVar, Tryd.isAgg4, hc, go_sem]
section
open Go.Shelf
attribute [local go_sem] Oper.semAt_some
set_option maxRecDepth 100000 in
set_option maxHeartbeats 4000000 in
theorem diff_Fits.calls (k : Nat) (A0_0 : Option Addr) (c0_0 : Nat) (l0_0 : List S33) (A0_1 : Option Addr) (c0_1 : Nat) (l0_1 : List S33) (A1 : Option Addr) (c1 : Nat) (l1 : List S33) (r : Bool) (w : World) (hr0_0 : Kd.C k33 w A0_0 l0_0.length l0_0) (hc0_0 : l0_0.length ≤ c0_0) (hr0_1 : Kd.C k33 w A0_1 l0_1.length l0_1) (hc0_1 : l0_1.length ≤ c0_1) (hr1 : Kd.C k33 w A1 l1.length l1) (hc1 : l1.length ≤ c1) (h : diff_Fits.f k l0_0 l0_1 l1 = some r) :
  Calls Tryd.prog 16 #[.agg #[.slice A0_0 l0_0.length c0_0, .slice A0_1 l0_1.length c0_1], .slice A1 l1.length c1] w fun e w' => e = .returned (.bool r) ∧ Below w.heap.size w w' := by
 unfold diff_Fits.f at h
 obtain ⟨bq, hb, h⟩ := Option.bind_eq_some_iff.mp h
 have hu26 := Tryd.underlying26
 obtain ⟨s0, hs0⟩ : ∃ s0, s0 = Value.slice A0_0 l0_0.length c0_0 := ⟨_, rfl⟩
 obtain ⟨s1, hs1⟩ : ∃ s1, s1 = Value.slice A0_1 l0_1.length c0_1 := ⟨_, rfl⟩
 obtain ⟨Wa, hWa⟩ : ∃ Wa, Wa = (w.alloc (.cells #[.slice A0_0 l0_0.length c0_0, .slice A0_1 l0_1.length c0_1] 26)).alloc (.cells #[.bool false] 4) := ⟨_, rfl⟩
 have hba : Below w.heap.size w Wa := by rw [hWa]; exact below_alloc (below_alloc (Below.refl _ _) _) _
 have hra : Wa.heap[w.heap.size]? = some (.cells #[.slice A0_0 l0_0.length c0_0, .slice A0_1 l0_1.length c0_1] 26) := by rw [hWa]; exact blk_alloc (blk_new _ _) _
 have hrb : Wa.heap[w.heap.size + 1]? = some (.cells #[.bool false] 4) := by rw [hWa]; have := blk_new (w.alloc (.cells #[.slice A0_0 l0_0.length c0_0, .slice A0_1 l0_1.length c0_1] 26)) (.cells #[.bool false] 4); rwa [World.size_alloc] at this
 have hC := diff_Pairs.litC (W := Wa) (vs := [.slice A0_0 l0_0.length c0_0, .slice A0_1 l0_1.length c0_1, .slice A1 l1.length c1]) (xs := [l0_0, l0_1, l1]) rfl (by simp) (fun j x hj => by
  rcases j with _ | _ | _ | j
  ·cases hj; exact ⟨A0_0, c0_0, rfl, hc0_0, Kd.C_below hr0_0 hba⟩
  ·cases hj; exact ⟨A0_1, c0_1, rfl, hc0_1, Kd.C_below hr0_1 hba⟩
  ·cases hj; exact ⟨A1, c1, rfl, hc1, Kd.C_below hr1 hba⟩
  ·simp at hj)
 have hK := diff_clean.calls k _ 3 [l0_0, l0_1, l1] bq _ hC (Nat.le_refl _) hb
 have hz : Wa.heap.size = w.heap.size + 1 + 1 := by rw [hWa]; simp only [World.size_alloc]
 rw [hz] at hK
 have HC := Aside0.mk (And.intro (And.intro hr0_0 (And.intro hr0_1 hr1)) (And.intro hc0_0 (And.intro hc0_1 hc1)))
 have HA := Aside0.mk (And.intro hba (And.intro hra hrb))
 clear hr0_0 hr0_1 hr1 hc0_0 hc0_1 hc1 hba hra hrb hC hb hs0 hs1
 subst hWa
 clear hz
 have H := Aside0.mk h
 clear h
 have FB := Aside0.mk fun (W : World) (gh : W.heap[w.heap.size]? = some (.cells #[.slice A0_0 l0_0.length c0_0, .slice A0_1 l0_1.length c0_1] 26)) => And.intro ((blk_cell gh 0).trans rfl : W.cell? ⟨w.heap.size, 0, none⟩ = some (.slice A0_0 l0_0.length c0_0)) ((blk_cell gh 1).trans rfl : W.cell? ⟨w.heap.size, 1, none⟩ = some (.slice A0_1 l0_1.length c0_1))
 have RB := Aside0.mk fun (W : World) (gh : W.heap[w.heap.size + 1]? = some (.cells #[.bool false] 4)) => And.intro ((blk_cell gh 0).trans rfl : W.cell? ⟨w.heap.size + 1, 0, none⟩ = some (.bool false)) (blk_frozen gh 0)
 refine (callsIn_wide (n := 5)).1 ?_
 refine callsIn_of_wp_marks Tryd.func16 rfl trivial ?_ rfl
 simp only [Tryd.ntmps16, List.size_toArray, List.length_cons, List.length_nil, Nat.reduceAdd, Nat.reduceSub, Array.replicate_succ, Array.replicate_zero, List.push_toArray, List.append_toArray, List.nil_append, List.cons_append]
 refine wpIn_wide.2 ?_
 cases bq with
 | false =>
  have h := H.out
  rw [if_neg (by decide)] at h
  obtain rfl : false = r := by simpa using h
  clear h H
  go_wp2_with (first | (go_at_call 17; refine Calls.mono hK ?_; rintro e w1 ⟨rfl, hb1⟩; have hg1 := blk_below (blk_alloc HA.out.2.2 _) hb1; have HG1 := Aside0.mk hg1; have HX1 := Aside0.mk (below_step (below_alloc HA.out.1 _) hb1); obtain ⟨z0, q0⟩ := RB.out w1 hg1; clear hg1 hb1 hK))
  refine ⟨_, diff_Fits.results_b rfl _ _ (w.heap.size + 1) _ rfl ((blk_cell (blk_put (cs' := #[.bool false]) HG1.out 0 _ rfl) 0).trans rfl), ?_⟩
  exact ⟨rfl, below_set HX1.out (by omega)⟩
 | true =>
  have h := H.out
  rw [if_pos rfl] at h
  split at h
  case isFalse => cases h
  case isTrue hlen =>
  obtain rfl : ((diff_beside.bs diff_beside.lt l0_0 l1).all diff_Fits.q1 && (diff_beside.bs diff_beside.lt l0_1 l1).all diff_Fits.q2) = r := by simpa using h
  clear h H
  have HL := Aside0.mk hlen
  clear hlen
  go_wp2_with (first | (go_at_call 17; refine Calls.mono hK ?_; rintro e w1 ⟨rfl, hb1⟩; have hg1 := blk_below (blk_alloc HA.out.2.1 _) hb1; have HG1 := Aside0.mk hg1; have HR1 := Aside0.mk (blk_below (blk_alloc HA.out.2.2 _) hb1); have HX1 := Aside0.mk (below_step (below_alloc HA.out.1 _) hb1); obtain ⟨z0, z1⟩ := FB.out w1 hg1; clear hg1 hb1 hK) | (go_at_call 18; refine Calls.mono (diff_beside.call A0_0 A1 _ _ c0_0 c1 _) ?_; rintro e w3 ⟨rfl, hw3⟩))
  clear z0 z1
  have hF0 := diff_Pairs.F_in HX1.out (Kd.C_F diff_beside.heap HC.out.1.1)
  have hF1 := diff_Pairs.F_in HX1.out (Kd.C_F diff_beside.heap HC.out.1.2.2)
  obtain ⟨hbx, hby, hk3, hz3⟩ := diff_beside.made (w := w1) rfl hF0 hF1 HC.out.2.1 HC.out.2.2.2
  generalize (w1.alloc (Obj.cells #[Value.slice A0_0 l0_0.length c0_0] 22)).alloc (Obj.cells #[Value.slice A1 l1.length c1] 22) = w3 at hbx hby hk3 hz3 ⊢
  have hlt2 : w.heap.size + 1 < w1.heap.size := blk_lt HR1.out
  refine diff_beside.over w1.heap.size (fun k => k < w.heap.size) l0_0 l1 rfl (fun k hk => by omega) (fun k hk => by omega) hbx hby (by have := HL.out; omega) (diff_Fits.I w (.slice A0_0 l0_0.length c0_0) (.slice A0_1 l0_1.length c0_1) [] diff_Fits.q1 l0_0 l1) (diff_Fits.O w [] diff_Fits.q1 l0_0 l1)
   (fun x y W W' h k _ _ => h.kp k hlt2 (by simp)) (fun x y W l o o' h hl ho hn => h.put hn (by omega) (by simp) o') (fun c W l o o' h hl ho hn => h.put hn (by omega) (by simp) o')
   (fun W hb => ⟨blk_below (blk_below HG1.out hk3) hb, blk_below (blk_below HR1.out hk3) hb, by simp, below_step (below_step HX1.out hk3) hb, rfl⟩) ?hround ?hdone ?hstop
  case hround =>
   intro x y t x' y' l W hI hnx hzW
   obtain ⟨p, f, s⟩ := t
   obtain ⟨q0, q1⟩ := p
   dsimp only
   simp only [List.setIfInBounds_toArray, List.set_cons_zero, List.set_cons_succ]
   have HI := Aside0.mk hI
   have HNX := Aside0.mk hnx
   have HZ := Aside0.mk (And.intro hlt2 hz3)
   clear hI hnx hzW hlt2 hz3 hbx hby hk3 hF0 hF1
   gi_wp2
   have hb4 : Below W.heap.size W (W.alloc (.cells #[.bool f, .bool s] 51)) := below_alloc (Below.refl _ _) _
   have HW4 := Aside0.mk (blk_new W (.cells #[.bool f, .bool s] 51))
   have HI4 := Aside0.mk (HI.out.below_ hb4)
   obtain ⟨gw, hgw⟩ : ∃ gw, gw = W.heap.size := ⟨_, rfl⟩
   refine ⟨diff_beside.Off.below hb4, ?_⟩
   generalize W.alloc (.cells #[.bool f, .bool s] 51) = W4 at hb4 HW4 HI4 ⊢
   rw [← hgw] at HW4 ⊢
   clear hgw
   intro o o' hlo hoc hl0
   obtain ⟨hlt2, hz3⟩ := HZ.out
   have hwl : gw ≠ l := fun e => by have h := HW4.out; rw [e, hlo] at h; cases h; cases hoc
   have HIB := HI4.out.put hl0 (by omega) (by simp) o'
   have HWB := Aside0.mk (diff_beside.put_other (o' := o') HW4.out hwl)
   clear HW4 HI4 hlo hb4 hwl hoc hl0 hlt2 hz3
   generalize W4.putObj l o' = WB at HIB HWB ⊢
   have z0 : WB.cell? ⟨gw, 0, none⟩ = some (.bool f) := (blk_cell HWB.out 0).trans rfl
   have z1 : WB.cell? ⟨gw, 1, none⟩ = some (.bool s) := (blk_cell HWB.out 1).trans rfl
   obtain ⟨r0, rf0⟩ := RB.out WB HIB.res
   have HB := Aside0.mk HIB
   clear HIB
   cases s with
   | true =>
    gi_wp2
    exact ⟨diff_beside.Off.refl _ _ _, HB.out.box, HB.out.res, HB.out.marks, HB.out.below, by rw [← HB.out.all, diff_Fits.all_next HNX.out]; simp [diff_Fits.q1]⟩
   | false =>
    gi_wp2
    obtain ⟨hlt2, hz3⟩ := HZ.out
    exact ⟨diff_beside.Off.set (p := ⟨w.heap.size + 1, 0, none⟩) HB.out.res (show w.heap.size + 1 ≠ w1.heap.size by omega) (show w.heap.size + 1 ≠ w1.heap.size + 1 by omega) (show ¬ w.heap.size + 1 < w.heap.size by omega) _, rfl, blk_put (cs' := #[.bool false]) HB.out.res 0 _ rfl, fun D hD => (Below.heap_setCell _ _ _ D (show D ≠ w.heap.size + 1 by simp at hD)).trans (HB.out.marks D hD), below_set HB.out.below (by omega), by rw [← HB.out.all, diff_Fits.all_next HNX.out]; simp [diff_Fits.q1]⟩
  case hstop =>
   rintro D c W hD hO hd
   obtain rfl := hO.ret
   have hdd := hd
   have HO := Aside0.mk hO
   have HZ := Aside0.mk (And.intro hlt2 (And.intro hz3 hD))
   have HD := Aside0.mk hd
   clear hO hd hdd hlt2 hz3 hD hbx hby hk3 hF0 hF1
   go_wp2
   obtain ⟨hlt2, hz3, hD⟩ := HZ.out
   refine ⟨by simp, .inl ⟨_, _, rfl, run_takeDeferred HD.out, ?_⟩⟩
   refine ⟨_, diff_Fits.results_b rfl _ _ (w.heap.size + 1) _ rfl ((blk_cell ((World.putObj_heap_other (show w.heap.size + 1 ≠ D by omega)).trans HO.out.res) 0).trans rfl), ?_⟩
   rw [HO.out.all]
   exact ⟨rfl, HO.out.below.grown (grownBy_putObj' _ D _) HO.out.below.size (fun i e => by cases e; omega)⟩
  case hdone =>
   intro D W hD hI hd
   obtain ⟨z0, z1⟩ := FB.out W hI.box
   have HI := Aside0.mk hI
   have HD := Aside0.mk hd
   have HZ := Aside0.mk (And.intro hlt2 (And.intro hz3 hD))
   clear hI hd hlt2 hz3 hD hbx hby hk3 hF0 hF1
   go_wp2_with (first | (go_at_call 18; refine Calls.mono (diff_beside.call A0_1 A1 _ _ c0_1 c1 _) ?_; rintro e w9 ⟨rfl, hw9⟩))
   clear z0 z1
   have hF0 := diff_Pairs.F_in HI.out.below (Kd.C_F diff_beside.heap HC.out.1.2.1)
   have hF1 := diff_Pairs.F_in HI.out.below (Kd.C_F diff_beside.heap HC.out.1.2.2)
   obtain ⟨hbx, hby, hk9, hz9⟩ := diff_beside.made (w := W) rfl hF0 hF1 HC.out.2.2.1 HC.out.2.2.2
   generalize (W.alloc (Obj.cells #[Value.slice A0_1 l0_1.length c0_1] 22)).alloc (Obj.cells #[Value.slice A1 l1.length c1] 22) = w9 at hbx hby hk9 hz9 ⊢
   have hltD : D < W.heap.size := blk_lt HD.out
   have hltR : w.heap.size + 1 < W.heap.size := blk_lt HI.out.res
   have hltw : w.heap.size + 1 < D := by have h := HZ.out; omega
   refine diff_beside.over W.heap.size (fun k => k < w.heap.size) l0_1 l1 rfl (fun k hk => by omega) (fun k hk => by omega) hbx hby (by have := HL.out; omega) (diff_Fits.I w (.slice A0_0 l0_0.length c0_0) (.slice A0_1 l0_1.length c0_1) [D] diff_Fits.q2 l0_1 l1) (diff_Fits.O w [D] diff_Fits.q2 l0_1 l1)
    (fun x y W W' h k _ _ => h.kp k hltR (by simpa using hltD)) (fun x y W l o o' h hl ho hn => h.put hn (by omega) (by simp; omega) o') (fun c W l o o' h hl ho hn => h.put hn (by omega) (by simp; omega) o')
    (fun W' hb => ⟨blk_below (blk_below HI.out.box hk9) hb, blk_below (blk_below HI.out.res hk9) hb, by intro D' hD'; rw [List.mem_singleton.mp hD']; exact blk_below (blk_below HD.out hk9) hb, below_step (below_step HI.out.below hk9) hb, rfl⟩) ?hround2 ?hdone2 ?hstop2
   case hround2 =>
    have HI1 := HI
    clear HI
    intro x y t x' y' l W' hI hnx hzW
    obtain ⟨p, f, s⟩ := t
    obtain ⟨q0, q1⟩ := p
    dsimp only
    simp only [List.setIfInBounds_toArray, List.set_cons_zero, List.set_cons_succ]
    have HI := Aside0.mk hI
    have HNX := Aside0.mk hnx
    have HZ2 := Aside0.mk (And.intro hltD (And.intro hltR (And.intro hltw hz9)))
    clear hI hnx hzW hltD hltR hltw hz9 hbx hby hk9 hF0 hF1
    gi_wp2
    have hb4 : Below W'.heap.size W' (W'.alloc (.cells #[.bool f, .bool s] 51)) := below_alloc (Below.refl _ _) _
    have HW4 := Aside0.mk (blk_new W' (.cells #[.bool f, .bool s] 51))
    have HI4 := Aside0.mk (HI.out.below_ hb4)
    obtain ⟨gw, hgw⟩ : ∃ gw, gw = W'.heap.size := ⟨_, rfl⟩
    refine ⟨diff_beside.Off.below hb4, ?_⟩
    generalize W'.alloc (.cells #[.bool f, .bool s] 51) = W4 at hb4 HW4 HI4 ⊢
    rw [← hgw] at HW4 ⊢
    clear hgw
    intro o o' hlo hoc hl0
    obtain ⟨hltD, hltR, hltw, hz9⟩ := HZ2.out
    have hwl : gw ≠ l := fun e => by have h := HW4.out; rw [e, hlo] at h; cases h; cases hoc
    have HIB := HI4.out.put hl0 (by omega) (by simp; omega) o'
    have HWB := Aside0.mk (diff_beside.put_other (o' := o') HW4.out hwl)
    clear HW4 HI4 hlo hb4 hwl hoc hl0 hltD hltR hltw hz9
    generalize W4.putObj l o' = WB at HIB HWB ⊢
    have z0 : WB.cell? ⟨gw, 0, none⟩ = some (.bool f) := (blk_cell HWB.out 0).trans rfl
    have z1 : WB.cell? ⟨gw, 1, none⟩ = some (.bool s) := (blk_cell HWB.out 1).trans rfl
    obtain ⟨r0, rf0⟩ := RB.out WB HIB.res
    have HB := Aside0.mk HIB
    clear HIB
    cases f with
    | false =>
     have hq : decide False = false := rfl
     gi_wp2
     exact ⟨diff_beside.Off.refl _ _ _, HB.out.box, HB.out.res, HB.out.marks, HB.out.below, by rw [← HB.out.all, diff_Fits.all_next HNX.out]; simp [diff_Fits.q2]⟩
    | true =>
     cases s with
     | false =>
      gi_wp2
      exact ⟨diff_beside.Off.refl _ _ _, HB.out.box, HB.out.res, HB.out.marks, HB.out.below, by rw [← HB.out.all, diff_Fits.all_next HNX.out]; simp [diff_Fits.q2]⟩
     | true =>
      gi_wp2
      obtain ⟨hltD, hltR, hltw, hz9⟩ := HZ2.out
      exact ⟨diff_beside.Off.set (p := ⟨w.heap.size + 1, 0, none⟩) HB.out.res (show w.heap.size + 1 ≠ W.heap.size by omega) (show w.heap.size + 1 ≠ W.heap.size + 1 by omega) (show ¬ w.heap.size + 1 < w.heap.size by omega) _, rfl, blk_put (cs' := #[.bool false]) HB.out.res 0 _ rfl, fun D hD => (Below.heap_setCell _ _ _ D (show D ≠ w.heap.size + 1 by rw [List.mem_singleton.mp hD]; omega)).trans (HB.out.marks D hD), below_set HB.out.below (by omega), by rw [← HB.out.all, diff_Fits.all_next HNX.out]; simp [diff_Fits.q2]⟩
   case hdone2 =>
    intro D2 W2 hD2 hI2 hd2
    obtain ⟨z0, zf0⟩ := RB.out W2 hI2.res
    have HI2 := Aside0.mk hI2
    have HZ2 := Aside0.mk (And.intro hltD (And.intro hltR (And.intro hltw (And.intro hz9 hD2))))
    have HD2_ := Aside0.mk hd2
    clear hI2 hd2 hltD hltR hltw hz9 hD2 hbx hby hk9 hF0 hF1
    go_wp2
    obtain ⟨hltD, hltR, hltw, hz9, hD2⟩ := HZ2.out
    have HM1 := (Below.heap_setCell W2 ⟨w.heap.size + 1, 0, none⟩ (.bool true) D (show D ≠ w.heap.size + 1 by omega)).trans (HI2.out.marks D (by simp))
    have HD2 := Aside0.mk ((Below.heap_setCell W2 ⟨w.heap.size + 1, 0, none⟩ (.bool true) D2 (show D2 ≠ w.heap.size + 1 by omega)).trans HD2_.out)
    have hres := blk_put (cs' := #[.bool true]) HI2.out.res 0 (.bool true) rfl
    have hb0 : Below w.heap.size w (W2.setCell ⟨w.heap.size + 1, 0, none⟩ (.bool true)) := below_set HI2.out.below (by omega)
    refine ⟨by simp, .inl ⟨_, _, rfl, run_takeDeferred HD2.out, ?_⟩⟩
    refine ⟨by simp, .inl ⟨_, _, rfl, run_takeDeferred ((World.putObj_heap_other (show D ≠ D2 by omega)).trans HM1), ?_⟩⟩
    refine ⟨_, diff_Fits.results_b rfl _ _ (w.heap.size + 1) _ rfl ((blk_cell ((World.putObj_heap_other (show w.heap.size + 1 ≠ D by omega)).trans ((World.putObj_heap_other (show w.heap.size + 1 ≠ D2 by omega)).trans hres)) 0).trans rfl), ?_⟩
    have e1 : (diff_beside.bs diff_beside.lt l0_0 l1).all diff_Fits.q1 = true := by rw [← HI.out.all]; simp [diff_beside.bs]
    have e2 : (diff_beside.bs diff_beside.lt l0_1 l1).all diff_Fits.q2 = true := by rw [← HI2.out.all]; simp [diff_beside.bs]
    rw [e1, e2]
    have h1 := hb0.grown (grownBy_putObj' _ D2 (.deferred none)) hb0.size (fun i e => by cases e; omega)
    exact ⟨rfl, h1.grown (grownBy_putObj' _ D _) h1.size (fun i e => by cases e; omega)⟩
   case hstop2 =>
    rintro D2 c W2 hD2 hO hd2
    obtain rfl := hO.ret
    have HO := Aside0.mk hO
    have HZ2 := Aside0.mk (And.intro hltD (And.intro hltR (And.intro hltw (And.intro hz9 hD2))))
    have HD2 := Aside0.mk hd2
    clear hO hd2 hltD hltR hltw hz9 hD2 hbx hby hk9 hF0 hF1
    go_wp2
    obtain ⟨hltD, hltR, hltw, hz9, hD2⟩ := HZ2.out
    have HM1 := HO.out.marks D (by simp)
    refine ⟨by simp, .inl ⟨_, _, rfl, run_takeDeferred HD2.out, ?_⟩⟩
    refine ⟨by simp, .inl ⟨_, _, rfl, run_takeDeferred ((World.putObj_heap_other (show D ≠ D2 by omega)).trans HM1), ?_⟩⟩
    refine ⟨_, diff_Fits.results_b rfl _ _ (w.heap.size + 1) _ rfl ((blk_cell ((World.putObj_heap_other (show w.heap.size + 1 ≠ D by omega)).trans ((World.putObj_heap_other (show w.heap.size + 1 ≠ D2 by omega)).trans HO.out.res)) 0).trans rfl), ?_⟩
    rw [HO.out.all, Bool.and_false]
    have h1 := HO.out.below.grown (grownBy_putObj' _ D2 (.deferred none)) HO.out.below.size (fun i e => by cases e; omega)
    exact ⟨rfl, h1.grown (grownBy_putObj' _ D _) h1.size (fun i e => by cases e; omega)⟩
end


/-! ### chainmanlaw50_awake: function 6 -/
def chainmanlaw50_awake.f (k : Nat)  : Option (Bool) := (diff_Pairs.f k (([(⟨0, 1⟩ : S33)] : List (S33))) (([(⟨0, 2⟩ : S33)] : List (S33)))).bind fun bt174 => (if bt174.2.2 = true then ((diff_Text.f k bt174.1 bt174.2.1).bind fun t182 => (if t182.toList = ([45, 32, 48, 32, 49, 10, 43, 32, 48, 32, 50, 10] : List UInt8) then ((diff_Fits.f k bt174.1 bt174.2.1 (([(⟨0, 1⟩ : S33)] : List (S33)))).bind fun t186 => (if t186 = true then ((diff_Fits.f k bt174.1 bt174.2.1 ([] : List (S33))).bind fun t187 => (some (!t187))) else (none))) else (none))) else (none))
theorem chainmanlaw50_awake.mono : ∀ k, LeO (chainmanlaw50_awake.f k ) (chainmanlaw50_awake.f (k + 1) ) := by
 intro  k
 unfold chainmanlaw50_awake.f
 repeat' first
   | (with_reducible exact diff_Fits.mono _ _ _ _)
   | (with_reducible exact diff_Pairs.mono _ _ _)
   | (with_reducible exact diff_Text.mono _ _ _)
   | (with_reducible exact LeO.refl _)
   | (with_reducible exact LeO.none _)
   | (with_reducible refine LeO.ite ?_ ?_)
   | (with_reducible refine LeO.bind ?_ (fun _ => ?_))
   | exact diff_Fits.mono _ _ _ _
   | exact diff_Pairs.mono _ _ _
   | exact diff_Text.mono _ _ _
   | exact LeO.none _
   | refine LeO.ite ?_ ?_
   | refine LeO.bind ?_ (fun _ => ?_)
set_option maxHeartbeats 8000000 in
set_option maxRecDepth 100000 in
theorem chainmanlaw50_awake.calls (k : Nat)  (r : Bool) (w : World) (h : chainmanlaw50_awake.f k  = some r) :
  Calls Tryd.prog 6 #[] w fun e w' => e = .returned (.bool r) ∧ Below w.heap.size w w' := by
 have hu33 := Tryd.underlying33
 have hu26 := Tryd.underlying26
 have HB := Aside0.mk (Below.refl w.heap.size w)
 have H : ((diff_Pairs.f k (([(⟨0, 1⟩ : S33)] : List (S33))) (([(⟨0, 2⟩ : S33)] : List (S33)))).bind fun bt174 => (if bt174.2.2 = true then ((diff_Text.f k bt174.1 bt174.2.1).bind fun t182 => (if t182.toList = ([45, 32, 48, 32, 49, 10, 43, 32, 48, 32, 50, 10] : List UInt8) then ((diff_Fits.f k bt174.1 bt174.2.1 (([(⟨0, 1⟩ : S33)] : List (S33)))).bind fun t186 => (if t186 = true then ((diff_Fits.f k bt174.1 bt174.2.1 ([] : List (S33))).bind fun t187 => (some (!t187))) else (none))) else (none))) else (none))) = some r := h
 clear h
 obtain ⟨y168, hy168⟩ : ∃ y_ : List (S33), y_ = (([(⟨0, 1⟩ : S33)] : List (S33))) := ⟨_, rfl⟩
 replace H : ((diff_Pairs.f k y168 (([(⟨0, 2⟩ : S33)] : List (S33)))).bind fun bt174 => (if bt174.2.2 = true then ((diff_Text.f k bt174.1 bt174.2.1).bind fun t182 => (if t182.toList = ([45, 32, 48, 32, 49, 10, 43, 32, 48, 32, 50, 10] : List UInt8) then ((diff_Fits.f k bt174.1 bt174.2.1 (([(⟨0, 1⟩ : S33)] : List (S33)))).bind fun t186 => (if t186 = true then ((diff_Fits.f k bt174.1 bt174.2.1 ([] : List (S33))).bind fun t187 => (some (!t187))) else (none))) else (none))) else (none))) = some r := by first | (rw [hy168]; with_reducible exact H) | (have H2_ := (Option.bind_some _ _).symm.trans H; rw [hy168]; with_reducible exact H2_) | (have H2_ := (Option.bind_some _ _).symm.trans H; with_reducible exact H2_) | with_reducible exact H | (rw [hy168]; exact H) | exact H
 have Ny168 := Aside0.mk hy168
 clear hy168
 obtain ⟨y171, hy171⟩ : ∃ y_ : List (S33), y_ = (([(⟨0, 2⟩ : S33)] : List (S33))) := ⟨_, rfl⟩
 replace H : ((diff_Pairs.f k y168 y171).bind fun bt174 => (if bt174.2.2 = true then ((diff_Text.f k bt174.1 bt174.2.1).bind fun t182 => (if t182.toList = ([45, 32, 48, 32, 49, 10, 43, 32, 48, 32, 50, 10] : List UInt8) then ((diff_Fits.f k bt174.1 bt174.2.1 (([(⟨0, 1⟩ : S33)] : List (S33)))).bind fun t186 => (if t186 = true then ((diff_Fits.f k bt174.1 bt174.2.1 ([] : List (S33))).bind fun t187 => (some (!t187))) else (none))) else (none))) else (none))) = some r := by first | (rw [hy171]; with_reducible exact H) | (have H2_ := (Option.bind_some _ _).symm.trans H; rw [hy171]; with_reducible exact H2_) | (have H2_ := (Option.bind_some _ _).symm.trans H; with_reducible exact H2_) | with_reducible exact H | (rw [hy171]; exact H) | exact H
 have Ny171 := Aside0.mk hy171
 clear hy171
 replace H := Option.bind_eq_some_iff.mp H
 obtain ⟨⟨t174, t177, t180⟩, A10, H⟩ := H
 replace H : (if t180 = true then ((diff_Text.f k t174 t177).bind fun t182 => (if t182.toList = ([45, 32, 48, 32, 49, 10, 43, 32, 48, 32, 50, 10] : List UInt8) then ((diff_Fits.f k t174 t177 (([(⟨0, 1⟩ : S33)] : List (S33)))).bind fun t186 => (if t186 = true then ((diff_Fits.f k t174 t177 ([] : List (S33))).bind fun t187 => (some (!t187))) else (none))) else (none))) else (none)) = some r := H
 have A1 := Aside0.mk A10
 clear A10
 by_cases c2 : t180 = true
 ·subst c2
  have H1 : ((diff_Text.f k t174 t177).bind fun t182 => (if t182.toList = ([45, 32, 48, 32, 49, 10, 43, 32, 48, 32, 50, 10] : List UInt8) then ((diff_Fits.f k t174 t177 (([(⟨0, 1⟩ : S33)] : List (S33)))).bind fun t186 => (if t186 = true then ((diff_Fits.f k t174 t177 ([] : List (S33))).bind fun t187 => (some (!t187))) else (none))) else (none))) = some r := by rw [if_pos rfl] at H; exact H
  clear H
  have H := H1
  clear H1
  replace H := Option.bind_eq_some_iff.mp H
  obtain ⟨t182, A30, H⟩ := H
  replace H : (if t182.toList = ([45, 32, 48, 32, 49, 10, 43, 32, 48, 32, 50, 10] : List UInt8) then ((diff_Fits.f k t174 t177 (([(⟨0, 1⟩ : S33)] : List (S33)))).bind fun t186 => (if t186 = true then ((diff_Fits.f k t174 t177 ([] : List (S33))).bind fun t187 => (some (!t187))) else (none))) else (none)) = some r := H
  have A3 := Aside0.mk A30
  clear A30
  by_cases c4 : t182.toList = ([45, 32, 48, 32, 49, 10, 43, 32, 48, 32, 50, 10] : List UInt8)
  ·rw [if_pos c4] at H
   have c4b0 : (t182.toList == ([45, 32, 48, 32, 49, 10, 43, 32, 48, 32, 50, 10] : List UInt8)) = true := beq_iff_eq.mpr c4
   have c4b1 : (t182.toList != ([45, 32, 48, 32, 49, 10, 43, 32, 48, 32, 50, 10] : List UInt8)) = false := bne_eq_false_iff_eq.mpr c4
   clear c4
   obtain ⟨y183, hy183⟩ : ∃ y_ : List (S33), y_ = (([(⟨0, 1⟩ : S33)] : List (S33))) := ⟨_, rfl⟩
   replace H : ((diff_Fits.f k t174 t177 y183).bind fun t186 => (if t186 = true then ((diff_Fits.f k t174 t177 ([] : List (S33))).bind fun t187 => (some (!t187))) else (none))) = some r := by first | (rw [hy183]; with_reducible exact H) | (have H2_ := (Option.bind_some _ _).symm.trans H; rw [hy183]; with_reducible exact H2_) | (have H2_ := (Option.bind_some _ _).symm.trans H; with_reducible exact H2_) | with_reducible exact H | (rw [hy183]; exact H) | exact H
   have Ny183 := Aside0.mk hy183
   clear hy183
   replace H := Option.bind_eq_some_iff.mp H
   obtain ⟨t186, A50, H⟩ := H
   replace H : (if t186 = true then ((diff_Fits.f k t174 t177 ([] : List (S33))).bind fun t187 => (some (!t187))) else (none)) = some r := H
   have A5 := Aside0.mk A50
   clear A50
   by_cases c6 : t186 = true
   ·subst c6
    have H1 : ((diff_Fits.f k t174 t177 ([] : List (S33))).bind fun t187 => (some (!t187))) = some r := by rw [if_pos rfl] at H; exact H
    clear H
    have H := H1
    clear H1
    replace H := Option.bind_eq_some_iff.mp H
    obtain ⟨t187, A70, H⟩ := H
    replace H : (some (!t187)) = some r := H
    have A7 := Aside0.mk A70
    clear A70
    obtain rfl := Option.some.inj H
    go_enter Tryd.func6, Tryd.ntmps6
    go_wp2_with (first | ((with_reducible refine gate_dst (N := 5) rfl ?_); (try (refine gate_guard (by rfl) ?_; dsimp only)); refine Kd.R_lit k33 _ 33 ?hg (N := 5) ?hd (xs := ([(⟨0, 1⟩ : S33)] : List (S33))) (inner := [.int .i64 0, .int .i64 1]) (ok := fun _ => True) (okp := fun _ => True) ?hr ?hp (fun _ hk => hk) trivial (Below.refl _ _) (Nat.le_refl _) (by simp) ?_; (case hd => rfl); (case hg => rfl); (case hr => first | (go_simp; done) | (go_simp; rfl)); (case hp => exact (Reps.c2 (show Kd.M k33 _ _ _ (⟨0, 1⟩ : S33) [.int .i64 0, .int .i64 1] from (k33_mkM _ _ _ (⟨0, 1⟩ : S33) )) (Reps.none _ _))); intro v169 w8 ho9 hb hg_ hnew_; clear hg_ hnew_; (first | rw [← Ny168.out] at ho9 | (simp only [Int.reduceToNat] at ho9; rw [← Ny168.out] at ho9)); have n0_ := Aside0.mk (Kd.R_lower ho9 (below_size (by repeat (first | (with_reducible first | exact HB.out | apply below_alloc | apply pw_below_drewN | apply below_drew1) | exact HB.out)))); have n1_ := Aside0.mk (below_step (by repeat (first | (with_reducible first | exact HB.out | apply below_alloc | apply pw_below_drewN | apply below_drew1) | exact HB.out)) hb); clear HB; have HO170 := n0_; have HB := n1_; clear n0_ n1_; clear hb ho9) | ((with_reducible refine gate_dst (N := 7) rfl ?_); (try (refine gate_guard (by rfl) ?_; dsimp only)); refine Kd.R_lit k33 _ 33 ?hg (N := 7) ?hd (xs := ([(⟨0, 2⟩ : S33)] : List (S33))) (inner := [.int .i64 0, .int .i64 2]) (ok := fun _ => True) (okp := fun _ => True) ?hr ?hp (fun _ hk => hk) trivial (Below.refl _ _) (Nat.le_refl _) (by simp) ?_; (case hd => rfl); (case hg => rfl); (case hr => first | (go_simp; done) | (go_simp; rfl)); (case hp => exact (Reps.c2 (show Kd.M k33 _ _ _ (⟨0, 2⟩ : S33) [.int .i64 0, .int .i64 2] from (k33_mkM _ _ _ (⟨0, 2⟩ : S33) )) (Reps.none _ _))); intro v172 w10 ho11 hb hg_ hnew_; clear hg_ hnew_; (first | rw [← Ny171.out] at ho11 | (simp only [Int.reduceToNat] at ho11; rw [← Ny171.out] at ho11)); have n0_ := Aside0.mk (Kd.R_elder' (by (with_reducible repeat (first | apply Kd.R_alloc | apply Kd.R_drewN | apply Kd.R_drew)); exact HO170.out) (Kd.R_base ho11) hb); have n1_ := Aside0.mk (Kd.R_lower (Kd.R_new' ho11 (Kd.R_lt (by (with_reducible repeat (first | apply Kd.R_alloc | apply Kd.R_drewN | apply Kd.R_drew)); exact HO170.out))) (below_size (by repeat (first | (with_reducible first | exact HB.out | apply below_alloc | apply pw_below_drewN | apply below_drew1) | exact HB.out)))); have n2_ := Aside0.mk (below_step (by repeat (first | (with_reducible first | exact HB.out | apply below_alloc | apply pw_below_drewN | apply below_drew1) | exact HB.out)) hb); clear HO170; clear HB; have HO170 := n0_; have HO173 := n1_; have HB := n2_; clear n0_ n1_ n2_; clear hb ho11; obtain ⟨Ao12, co12, eo12⟩ := Kd.R_slice HO170.out; subst eo12; obtain ⟨Ao13, co13, eo13⟩ := Kd.R_slice HO173.out; subst eo13) | ((with_reducible refine gate_callee (f := 7) rfl ?_); refine goesL_ (some 8) rfl rfl Tryd.func7 (by kernel_rfl) rfl #[.slice Ao12 y168.length co12, .slice Ao13 y171.length co13] rfl (by (try simp only [List.map_toArray, List.map_cons, List.map_nil]); first | done | rfl) ?_; (with_reducible refine (diff_Pairs.calls k _ _ y168 _ _ y171 t174 t177 true _ ?side1 ?side2 ?side3 ?side4 A1.out).mono ?_); (case side1 => repeat (first | exact (Kd.R_reads' HO170.out).2.2 | (with_reducible refine Kd.C_alloc ?_ _) | (with_reducible refine Kd.C_drewN ?_ _) | (with_reducible refine Kd.C_drew ?_))); (case side2 => exact (Kd.R_reads' HO170.out).2.1); (case side3 => repeat (first | exact (Kd.R_reads' HO173.out).2.2 | (with_reducible refine Kd.C_alloc ?_ _) | (with_reducible refine Kd.C_drewN ?_ _) | (with_reducible refine Kd.C_drew ?_))); (case side4 => exact (Kd.R_reads' HO173.out).2.1); rintro e w14 ⟨v175, v178, rfl, ho0, ho1, hb⟩; refine ⟨_, rfl, ?_⟩; have n0_ := Aside0.mk (Kd.R_mono (Kd.R_told (Kd.R_told (Kd.R_old (by (with_reducible repeat (first | apply Kd.R_alloc | apply Kd.R_drewN | apply Kd.R_drew)); exact HO170.out) hb) (Kd.R_base ho0)) (Kd.R_base ho1)) (fun _ h_ => h_.1)); have n1_ := Aside0.mk (Kd.R_mono (Kd.R_told (Kd.R_told (Kd.R_old (by (with_reducible repeat (first | apply Kd.R_alloc | apply Kd.R_drewN | apply Kd.R_drew)); exact HO173.out) hb) (Kd.R_base ho0)) (Kd.R_base ho1)) (fun _ h_ => h_.1)); have n2_ := Aside0.mk (Kd.R_lower (Kd.R_new' (Kd.R_new' ho0 (Kd.R_lt (by (with_reducible repeat (first | apply Kd.R_alloc | apply Kd.R_drewN | apply Kd.R_drew)); exact HO170.out))) (Kd.R_lt (by (with_reducible repeat (first | apply Kd.R_alloc | apply Kd.R_drewN | apply Kd.R_drew)); exact HO173.out))) (below_size (by repeat (first | (with_reducible first | exact HB.out | apply below_alloc | apply pw_below_drewN | apply below_drew1) | exact HB.out)))); have n3_ := Aside0.mk (Kd.R_lower (Kd.R_new' (Kd.R_new' ho1 (Kd.R_lt (by (with_reducible repeat (first | apply Kd.R_alloc | apply Kd.R_drewN | apply Kd.R_drew)); exact HO170.out))) (Kd.R_lt (by (with_reducible repeat (first | apply Kd.R_alloc | apply Kd.R_drewN | apply Kd.R_drew)); exact HO173.out))) (below_size (by repeat (first | (with_reducible first | exact HB.out | apply below_alloc | apply pw_below_drewN | apply below_drew1) | exact HB.out)))); have n4_ := Aside0.mk (below_step (by repeat (first | (with_reducible first | exact HB.out | apply below_alloc | apply pw_below_drewN | apply below_drew1) | exact HB.out)) hb); clear HO170; clear HO173; clear HB; have HO170 := n0_; have HO173 := n1_; have HO176 := n2_; have HO179 := n3_; have HB := n4_; clear n0_ n1_ n2_ n3_ n4_; (try clear hb); (try clear hb2); (try clear hk); (try clear hi); (try clear ho0); (try clear ho1)) | ((with_reducible refine gate_dst (N := 1) rfl ?_); (try (refine gate_guard (by rfl) ?_; dsimp only)); refine box_event ?hg (N := 1) ?hd (cs := #[.slice none 0 0, .slice none 0 0]) (t := 26) ?hr ?_; (case hd => rfl); (case hg => rfl); (case hr => first | (go_simp; done) | (go_simp; rfl)); intro gb181 hg w15 hbox hb; have n0_ := Aside0.mk (Kd.R_below (by (with_reducible repeat (first | apply Kd.R_alloc | apply Kd.R_drewN | apply Kd.R_drew)); exact HO170.out) hb); have n1_ := Aside0.mk (Kd.R_below (by (with_reducible repeat (first | apply Kd.R_alloc | apply Kd.R_drewN | apply Kd.R_drew)); exact HO173.out) hb); have n2_ := Aside0.mk (Kd.R_below (by (with_reducible repeat (first | apply Kd.R_alloc | apply Kd.R_drewN | apply Kd.R_drew)); exact HO176.out) hb); have n3_ := Aside0.mk (Kd.R_below (by (with_reducible repeat (first | apply Kd.R_alloc | apply Kd.R_drewN | apply Kd.R_drew)); exact HO179.out) hb); have n4_ := Aside0.mk (below_step (by repeat (first | (with_reducible first | exact HB.out | apply below_alloc | apply pw_below_drewN | apply below_drew1) | exact HB.out)) hb); have n5_ := Aside0.mk (hbox); have n6_ := Aside0.mk ((by rw [hg]; exact (below_size (by repeat (first | (with_reducible first | exact HB.out | apply below_alloc | apply pw_below_drewN | apply below_drew1) | exact HB.out))) : w.heap.size ≤ gb181)); have n7_ := Aside0.mk ((by rw [hg]; exact (below_size (by repeat (first | (with_reducible first | exact HB.out | apply below_alloc | apply pw_below_drewN | apply below_drew1) | exact HB.out))) : w.heap.size ≤ gb181)); clear HO170; clear HO173; clear HO176; clear HO179; clear HB; have HO170 := n0_; have HO173 := n1_; have HO176 := n2_; have HO179 := n3_; have HB := n4_; have BK181 := n5_; have GW181 := n6_; have GE181 := n7_; clear n0_ n1_ n2_ n3_ n4_ n5_ n6_ n7_; clear hb hbox hg; obtain ⟨Ao16, co16, eo16⟩ := Kd.R_slice HO176.out; subst eo16; have hcz17_0 : w15.cell? ⟨gb181, 0, none⟩ = some (.slice none 0 0) := (blk_cell BK181.out 0).trans rfl; have hcz17_1 : w15.cell? ⟨gb181, 1, none⟩ = some (.slice none 0 0) := (blk_cell BK181.out 1).trans rfl; have hfz17_0 := blk_frozen BK181.out 0; have hfz17_1 := blk_frozen BK181.out 1; obtain ⟨Ao18, co18, eo18⟩ := Kd.R_slice HO179.out; subst eo18) | (go_at_call 11; (with_reducible refine (diff_Text.calls k _ _ t174 _ _ t177 t182 _ ?side1 ?side2 ?side3 ?side4 A3.out).mono ?_); (case side1 => refine (Kd.R_reads' (e := 33) (base := w.heap.size) (ok := fun k_ => ((some k_ ≠ (.slice Ao18 t177.length co18 : Value).ownBlock ∧ some k_ ≠ (.slice Ao12 y168.length co12 : Value).ownBlock) ∧ some k_ ≠ (.slice Ao13 y171.length co13 : Value).ownBlock)) (n := t174.length) (c := co16) ?_).2.2; exact (by (with_reducible repeat (first | apply Kd.R_alloc | apply Kd.R_drewN | apply Kd.R_drew)); exact (Kd.R_mono (Kd.R_far (p := ⟨gb181, 1, none⟩) (Kd.R_far (p := ⟨gb181, 0, none⟩) (Kd.R_types HO176.out BK181.out (by decide)) (fun _ hk => hk.2) (.slice Ao16 t174.length co16)) (fun _ hk => hk.2) (.slice Ao18 t177.length co18)) (fun _ h_ => h_.1)))); (case side2 => exact (Kd.R_reads' HO176.out).2.1); (case side3 => refine (Kd.R_reads' (e := 33) (base := w.heap.size) (ok := fun k_ => ((some k_ ≠ (.slice Ao16 t174.length co16 : Value).ownBlock ∧ some k_ ≠ (.slice Ao12 y168.length co12 : Value).ownBlock) ∧ some k_ ≠ (.slice Ao13 y171.length co13 : Value).ownBlock)) (n := t177.length) (c := co18) ?_).2.2; exact (by (with_reducible repeat (first | apply Kd.R_alloc | apply Kd.R_drewN | apply Kd.R_drew)); exact (Kd.R_mono (Kd.R_far (p := ⟨gb181, 1, none⟩) (Kd.R_far (p := ⟨gb181, 0, none⟩) (Kd.R_types HO179.out BK181.out (by decide)) (fun _ hk => hk.2) (.slice Ao16 t174.length co16)) (fun _ hk => hk.2) (.slice Ao18 t177.length co18)) (fun _ h_ => h_.1)))); (case side4 => exact (Kd.R_reads' HO179.out).2.1); rintro e w19 ⟨rfl, hb⟩; have n0_ := Aside0.mk (Kd.R_below (by (with_reducible repeat (first | apply Kd.R_alloc | apply Kd.R_drewN | apply Kd.R_drew)); exact (Kd.R_mono (Kd.R_far (p := ⟨gb181, 1, none⟩) (Kd.R_far (p := ⟨gb181, 0, none⟩) (Kd.R_types HO170.out BK181.out (by decide)) (fun _ hk => hk.2) (.slice Ao16 t174.length co16)) (fun _ hk => hk.2) (.slice Ao18 t177.length co18)) (fun _ h_ => h_.1))) hb); have n1_ := Aside0.mk (Kd.R_below (by (with_reducible repeat (first | apply Kd.R_alloc | apply Kd.R_drewN | apply Kd.R_drew)); exact (Kd.R_mono (Kd.R_far (p := ⟨gb181, 1, none⟩) (Kd.R_far (p := ⟨gb181, 0, none⟩) (Kd.R_types HO173.out BK181.out (by decide)) (fun _ hk => hk.2) (.slice Ao16 t174.length co16)) (fun _ hk => hk.2) (.slice Ao18 t177.length co18)) (fun _ h_ => h_.1))) hb); have n2_ := Aside0.mk (Kd.R_below (by (with_reducible repeat (first | apply Kd.R_alloc | apply Kd.R_drewN | apply Kd.R_drew)); exact (Kd.R_mono (Kd.R_far (p := ⟨gb181, 1, none⟩) (Kd.R_far (p := ⟨gb181, 0, none⟩) (Kd.R_types HO176.out BK181.out (by decide)) (fun _ hk => hk.2) (.slice Ao16 t174.length co16)) (fun _ hk => hk.2) (.slice Ao18 t177.length co18)) (fun _ h_ => h_.1))) hb); have n3_ := Aside0.mk (Kd.R_below (by (with_reducible repeat (first | apply Kd.R_alloc | apply Kd.R_drewN | apply Kd.R_drew)); exact (Kd.R_mono (Kd.R_far (p := ⟨gb181, 1, none⟩) (Kd.R_far (p := ⟨gb181, 0, none⟩) (Kd.R_types HO179.out BK181.out (by decide)) (fun _ hk => hk.2) (.slice Ao16 t174.length co16)) (fun _ hk => hk.2) (.slice Ao18 t177.length co18)) (fun _ h_ => h_.1))) hb); have n4_ := Aside0.mk (blk_below (g := gb181) (o := .cells #[.slice Ao16 t174.length co16, .slice Ao18 t177.length co18] 26 (0, 0)) (by (with_reducible repeat (first | refine blk_drewN ?_ _ | refine blk_drew ?_ | refine blk_alloc ?_ _)); refine blk_put (cs := #[.slice Ao16 t174.length co16, .slice none 0 0]) ?_ 1 _ rfl; (with_reducible repeat (first | refine blk_drewN ?_ _ | refine blk_drew ?_ | refine blk_alloc ?_ _)); refine blk_put (cs := #[.slice none 0 0, .slice none 0 0]) ?_ 0 _ rfl; (with_reducible repeat (first | refine blk_drewN ?_ _ | refine blk_drew ?_ | refine blk_alloc ?_ _)); exact BK181.out) hb); have n5_ := Aside0.mk (below_step (by repeat (first | (with_reducible first | exact HB.out | apply below_alloc | apply pw_below_drewN | apply below_drew1 | refine below_set ?_ GE181.out) | exact HB.out)) hb); clear HO170; clear HO173; clear HO176; clear HO179; clear BK181; clear HB; have HO170 := n0_; have HO173 := n1_; have HO176 := n2_; have HO179 := n3_; have BK181 := n4_; have HB := n5_; clear n0_ n1_ n2_ n3_ n4_ n5_; (try clear hb); (try clear hb2); (try clear hk); (try clear hi); have hcz20_0 : w19.cell? ⟨gb181, 0, none⟩ = some (.slice Ao16 t174.length co16) := (blk_cell BK181.out 0).trans rfl; have hcz20_1 : w19.cell? ⟨gb181, 1, none⟩ = some (.slice Ao18 t177.length co18) := (blk_cell BK181.out 1).trans rfl; have hfz20_0 := blk_frozen BK181.out 0; have hfz20_1 := blk_frozen BK181.out 1) | ((with_reducible refine gate_dst (N := 20) rfl ?_); (try (refine gate_guard (by rfl) ?_; dsimp only)); refine Kd.R_lit k33 _ 33 ?hg (N := 20) ?hd (xs := ([(⟨0, 1⟩ : S33)] : List (S33))) (inner := [.int .i64 0, .int .i64 1]) (ok := fun _ => True) (okp := fun _ => True) ?hr ?hp (fun _ hk => hk) trivial (Below.refl _ _) (Nat.le_refl _) (by simp) ?_; (case hd => rfl); (case hg => rfl); (case hr => first | (go_simp; done) | (go_simp; rfl)); (case hp => exact (Reps.c2 (show Kd.M k33 _ _ _ (⟨0, 1⟩ : S33) [.int .i64 0, .int .i64 1] from (k33_mkM _ _ _ (⟨0, 1⟩ : S33) )) (Reps.none _ _))); intro v184 w21 ho22 hb hg_ hnew_; clear hg_ hnew_; (first | rw [← Ny183.out] at ho22 | (simp only [Int.reduceToNat] at ho22; rw [← Ny183.out] at ho22)); have n0_ := Aside0.mk (Kd.R_elder' (by (with_reducible repeat (first | apply Kd.R_alloc | apply Kd.R_drewN | apply Kd.R_drew)); exact HO170.out) (Kd.R_base ho22) hb); have n1_ := Aside0.mk (Kd.R_elder' (by (with_reducible repeat (first | apply Kd.R_alloc | apply Kd.R_drewN | apply Kd.R_drew)); exact HO173.out) (Kd.R_base ho22) hb); have n2_ := Aside0.mk (Kd.R_elder' (by (with_reducible repeat (first | apply Kd.R_alloc | apply Kd.R_drewN | apply Kd.R_drew)); exact HO176.out) (Kd.R_base ho22) hb); have n3_ := Aside0.mk (Kd.R_elder' (by (with_reducible repeat (first | apply Kd.R_alloc | apply Kd.R_drewN | apply Kd.R_drew)); exact HO179.out) (Kd.R_base ho22) hb); have n4_ := Aside0.mk (Kd.R_lower (Kd.R_new' (Kd.R_new' (Kd.R_new' (Kd.R_new' ho22 (Kd.R_lt (by (with_reducible repeat (first | apply Kd.R_alloc | apply Kd.R_drewN | apply Kd.R_drew)); exact HO170.out))) (Kd.R_lt (by (with_reducible repeat (first | apply Kd.R_alloc | apply Kd.R_drewN | apply Kd.R_drew)); exact HO173.out))) (Kd.R_lt (by (with_reducible repeat (first | apply Kd.R_alloc | apply Kd.R_drewN | apply Kd.R_drew)); exact HO176.out))) (Kd.R_lt (by (with_reducible repeat (first | apply Kd.R_alloc | apply Kd.R_drewN | apply Kd.R_drew)); exact HO179.out))) (below_size (by repeat (first | (with_reducible first | exact HB.out | apply below_alloc | apply pw_below_drewN | apply below_drew1 | refine below_set ?_ GE181.out) | exact HB.out)))); have n5_ := Aside0.mk (blk_below (g := gb181) (o := .cells #[.slice Ao16 t174.length co16, .slice Ao18 t177.length co18] 26 (0, 0)) (by (with_reducible repeat (first | refine blk_drewN ?_ _ | refine blk_drew ?_ | refine blk_alloc ?_ _)); exact BK181.out) hb); have n6_ := Aside0.mk (below_step (by repeat (first | (with_reducible first | exact HB.out | apply below_alloc | apply pw_below_drewN | apply below_drew1 | refine below_set ?_ GE181.out) | exact HB.out)) hb); clear HO170; clear HO173; clear HO176; clear HO179; clear BK181; clear HB; have HO170 := n0_; have HO173 := n1_; have HO176 := n2_; have HO179 := n3_; have HO185 := n4_; have BK181 := n5_; have HB := n6_; clear n0_ n1_ n2_ n3_ n4_ n5_ n6_; clear hb ho22; obtain ⟨Ao23, co23, eo23⟩ := Kd.R_slice HO185.out; subst eo23) | (go_at_call 16; (with_reducible refine (diff_Fits.calls k _ _ t174 _ _ t177 _ _ y183 true _ ?side1 ?side2 ?side3 ?side4 ?side5 ?side6 A5.out).mono ?_); (case side1 => repeat (first | exact (Kd.R_reads' HO176.out).2.2 | (with_reducible refine Kd.C_alloc ?_ _) | (with_reducible refine Kd.C_drewN ?_ _) | (with_reducible refine Kd.C_drew ?_))); (case side2 => exact (Kd.R_reads' HO176.out).2.1); (case side3 => repeat (first | exact (Kd.R_reads' HO179.out).2.2 | (with_reducible refine Kd.C_alloc ?_ _) | (with_reducible refine Kd.C_drewN ?_ _) | (with_reducible refine Kd.C_drew ?_))); (case side4 => exact (Kd.R_reads' HO179.out).2.1); (case side5 => repeat (first | exact (Kd.R_reads' HO185.out).2.2 | (with_reducible refine Kd.C_alloc ?_ _) | (with_reducible refine Kd.C_drewN ?_ _) | (with_reducible refine Kd.C_drew ?_))); (case side6 => exact (Kd.R_reads' HO185.out).2.1); rintro e w24 ⟨rfl, hb⟩; have n0_ := Aside0.mk (Kd.R_below (by (with_reducible repeat (first | apply Kd.R_alloc | apply Kd.R_drewN | apply Kd.R_drew)); exact HO170.out) hb); have n1_ := Aside0.mk (Kd.R_below (by (with_reducible repeat (first | apply Kd.R_alloc | apply Kd.R_drewN | apply Kd.R_drew)); exact HO173.out) hb); have n2_ := Aside0.mk (Kd.R_below (by (with_reducible repeat (first | apply Kd.R_alloc | apply Kd.R_drewN | apply Kd.R_drew)); exact HO176.out) hb); have n3_ := Aside0.mk (Kd.R_below (by (with_reducible repeat (first | apply Kd.R_alloc | apply Kd.R_drewN | apply Kd.R_drew)); exact HO179.out) hb); have n4_ := Aside0.mk (Kd.R_below (by (with_reducible repeat (first | apply Kd.R_alloc | apply Kd.R_drewN | apply Kd.R_drew)); exact HO185.out) hb); have n5_ := Aside0.mk (blk_below (g := gb181) (o := .cells #[.slice Ao16 t174.length co16, .slice Ao18 t177.length co18] 26 (0, 0)) (by (with_reducible repeat (first | refine blk_drewN ?_ _ | refine blk_drew ?_ | refine blk_alloc ?_ _)); exact BK181.out) hb); have n6_ := Aside0.mk (below_step (by repeat (first | (with_reducible first | exact HB.out | apply below_alloc | apply pw_below_drewN | apply below_drew1 | refine below_set ?_ GE181.out) | exact HB.out)) hb); clear HO170; clear HO173; clear HO176; clear HO179; clear HO185; clear BK181; clear HB; have HO170 := n0_; have HO173 := n1_; have HO176 := n2_; have HO179 := n3_; have HO185 := n4_; have BK181 := n5_; have HB := n6_; clear n0_ n1_ n2_ n3_ n4_ n5_ n6_; (try clear hb); (try clear hb2); (try clear hk); (try clear hi); have hcz25_0 : w24.cell? ⟨gb181, 0, none⟩ = some (.slice Ao16 t174.length co16) := (blk_cell BK181.out 0).trans rfl; have hcz25_1 : w24.cell? ⟨gb181, 1, none⟩ = some (.slice Ao18 t177.length co18) := (blk_cell BK181.out 1).trans rfl; have hfz25_0 := blk_frozen BK181.out 0; have hfz25_1 := blk_frozen BK181.out 1) | (go_at_call 16; refine calls_of_args (args' := #[.agg #[.slice Ao16 t174.length co16, .slice Ao18 t177.length co18], .slice none ([] : List (S33)).length 0]) (by rfl) ?_; (with_reducible refine (diff_Fits.calls k _ _ t174 _ _ t177 _ _ ([] : List (S33)) t187 _ ?side1 ?side2 ?side3 ?side4 ?side5 ?side6 A7.out).mono ?_); (case side1 => repeat (first | exact (Kd.R_reads' HO176.out).2.2 | (with_reducible refine Kd.C_alloc ?_ _) | (with_reducible refine Kd.C_drewN ?_ _) | (with_reducible refine Kd.C_drew ?_))); (case side2 => exact (Kd.R_reads' HO176.out).2.1); (case side3 => repeat (first | exact (Kd.R_reads' HO179.out).2.2 | (with_reducible refine Kd.C_alloc ?_ _) | (with_reducible refine Kd.C_drewN ?_ _) | (with_reducible refine Kd.C_drew ?_))); (case side4 => exact (Kd.R_reads' HO179.out).2.1); (case side5 => exact Kd.C_nil _ _); (case side6 => exact Nat.le_refl _); rintro e w26 ⟨rfl, hb⟩; have n0_ := Aside0.mk (Kd.R_below (by (with_reducible repeat (first | apply Kd.R_alloc | apply Kd.R_drewN | apply Kd.R_drew)); exact HO170.out) hb); have n1_ := Aside0.mk (Kd.R_below (by (with_reducible repeat (first | apply Kd.R_alloc | apply Kd.R_drewN | apply Kd.R_drew)); exact HO173.out) hb); have n2_ := Aside0.mk (Kd.R_below (by (with_reducible repeat (first | apply Kd.R_alloc | apply Kd.R_drewN | apply Kd.R_drew)); exact HO176.out) hb); have n3_ := Aside0.mk (Kd.R_below (by (with_reducible repeat (first | apply Kd.R_alloc | apply Kd.R_drewN | apply Kd.R_drew)); exact HO179.out) hb); have n4_ := Aside0.mk (Kd.R_below (by (with_reducible repeat (first | apply Kd.R_alloc | apply Kd.R_drewN | apply Kd.R_drew)); exact HO185.out) hb); have n5_ := Aside0.mk (blk_below (g := gb181) (o := .cells #[.slice Ao16 t174.length co16, .slice Ao18 t177.length co18] 26 (0, 0)) (by (with_reducible repeat (first | refine blk_drewN ?_ _ | refine blk_drew ?_ | refine blk_alloc ?_ _)); exact BK181.out) hb); have n6_ := Aside0.mk (below_step (by repeat (first | (with_reducible first | exact HB.out | apply below_alloc | apply pw_below_drewN | apply below_drew1 | refine below_set ?_ GE181.out) | exact HB.out)) hb); clear HO170; clear HO173; clear HO176; clear HO179; clear HO185; clear BK181; clear HB; have HO170 := n0_; have HO173 := n1_; have HO176 := n2_; have HO179 := n3_; have HO185 := n4_; have BK181 := n5_; have HB := n6_; clear n0_ n1_ n2_ n3_ n4_ n5_ n6_; (try clear hb); (try clear hb2); (try clear hk); (try clear hi)))
    go_ret
    exact ⟨by first | rfl | (simp [errW_none, errW_some] <;> rfl) | (simp [*, errW_none, errW_some] <;> rfl), by repeat (first | (with_reducible first | exact HB.out | apply below_alloc | apply pw_below_drewN | apply below_drew1 | refine below_set ?_ GE181.out) | exact HB.out)⟩
   ·replace c6 := Bool.eq_false_iff.mpr c6
    subst c6
    have H1 : (none) = some r := by rw [if_neg (show ¬ (false = true) by decide)] at H; exact H
    clear H
    have H := H1
    clear H1
    exact absurd H (by simp)
  ·rw [if_neg c4] at H
   exact absurd H (by simp)
 ·replace c2 := Bool.eq_false_iff.mpr c2
  subst c2
  have H1 : (none) = some r := by rw [if_neg (show ¬ (false = true) by decide)] at H; exact H
  clear H
  have H := H1
  clear H1
  exact absurd H (by simp)

/-! ### chainmanref30_SamePairs: function 10 -/
def chainmanref30_SamePairs.l0 : Nat → List (S33) → List (S33) → Int → Option (Bool)
 | 0, _, _, _ => none
 | k + 1, x0, x1, x5 => if x5 < (x0.length : Int) then (if 0 ≤ x5 then (if x5 < (x1.length : Int) then (if (!(((rd_T33 x0 x5).f0) == ((rd_T33 x1 x5).f0)) || (!(((rd_T33 x0 x5).f1) == ((rd_T33 x1 x5).f1)))) = true then (some false) else (chainmanref30_SamePairs.l0 k x0 x1 (wrap64 (x5 + 1)))) else (none)) else (none)) else (some true)
def chainmanref30_SamePairs.f (k : Nat) (l0 : List (S33)) (l1 : List (S33)) : Option (Bool) := if (l0.length : Int) = (l1.length : Int) then (chainmanref30_SamePairs.l0 k l0 l1 0) else (some false)
theorem chainmanref30_SamePairs.mono_l : ∀ k, (∀ y0 y1 y2, LeO (chainmanref30_SamePairs.l0 k y0 y1 y2) (chainmanref30_SamePairs.l0 (k + 1) y0 y1 y2))
 | 0 => fun _ _ _ r h => by simp [chainmanref30_SamePairs.l0] at h
 | k + 1 => by
  have ih0 := chainmanref30_SamePairs.mono_l k
  ·intro y0 y1 y2
   unfold chainmanref30_SamePairs.l0
   repeat' first
   | (with_reducible exact ih0 _ _ _)
   | (with_reducible exact LeO.refl _)
   | (with_reducible exact LeO.none _)
   | (with_reducible refine LeO.ite ?_ ?_)
   | (with_reducible refine LeO.bind ?_ (fun _ => ?_))
   | exact ih0 _ _ _
   | exact LeO.none _
   | refine LeO.ite ?_ ?_
   | refine LeO.bind ?_ (fun _ => ?_)
theorem chainmanref30_SamePairs.mono : ∀ a0 a1 k, LeO (chainmanref30_SamePairs.f k a0 a1) (chainmanref30_SamePairs.f (k + 1) a0 a1) := by
 intro a0 a1 k
 have ih0 := chainmanref30_SamePairs.mono_l k
 unfold chainmanref30_SamePairs.f
 repeat' first
   | (with_reducible exact ih0 _ _ _)
   | (with_reducible exact LeO.refl _)
   | (with_reducible exact LeO.none _)
   | (with_reducible refine LeO.ite ?_ ?_)
   | (with_reducible refine LeO.bind ?_ (fun _ => ?_))
   | exact ih0 _ _ _
   | exact LeO.none _
   | refine LeO.ite ?_ ?_
   | refine LeO.bind ?_ (fun _ => ?_)
set_option maxHeartbeats 8000000 in
set_option maxRecDepth 100000 in
theorem chainmanref30_SamePairs.calls (k : Nat) (A0 : Option Addr) (c0 : Nat) (l0 : List (S33)) (A1 : Option Addr) (c1 : Nat) (l1 : List (S33)) (r : Bool) (w : World) (hr0 : Kd.C k33 w A0 l0.length l0) (hc0 : l0.length ≤ c0) (hr1 : Kd.C k33 w A1 l1.length l1) (hc1 : l1.length ≤ c1) (h : chainmanref30_SamePairs.f k l0 l1 = some r) :
  Calls Tryd.prog 10 #[.slice A0 l0.length c0, .slice A1 l1.length c1] w fun e w' => e = .returned (.bool r) ∧ Drawn0 w w' := by
 have hu33 := Tryd.underlying33
 have HR0 := Aside0.mk hr0
 have HC0 := Aside0.mk hc0
 clear hr0 hc0
 have HR1 := Aside0.mk hr1
 have HC1 := Aside0.mk hc1
 clear hr1 hc1
 have H : (if (l0.length : Int) = (l1.length : Int) then (chainmanref30_SamePairs.l0 k l0 l1 0) else (some false)) = some r := h
 clear h
 by_cases c3 : (l0.length : Int) = (l1.length : Int)
 ·rw [if_pos c3] at H
  have c3b0 : ((l0.length : Int) == (l1.length : Int)) = true := beq_iff_eq.mpr c3
  have c3b1 : ((l0.length : Int) != (l1.length : Int)) = false := bne_eq_false_iff_eq.mpr c3
  have c3b2 : (l0.length == l1.length) = true := by first | simpa using c3 | (simp at c3 ⊢; omega)
  clear c3
  have H' := Aside0.mk H
  clear H
  go_enter Tryd.func10, Tryd.ntmps10
  go_wp2
  repeat (go_quiet (fail); try go_wp2)
  go_loopg [5] k (fun kq v5 w' => ∃ (x5_1 : Int), v5 = .int .i64 x5_1 ∧ Aside0 (chainmanref30_SamePairs.l0 kq l0 l1 x5_1 = some r) ∧ Aside0 (kq ≤ k) ∧ Drawn0 w w')
  case atStart => exact ⟨(0), (by first | rfl | (simp; done) | (simp [*]; done)), H', ⟨Nat.le_refl _⟩, by repeat (first | exact Drawn0.refl _ | apply Drawn0.step)⟩
  case round =>
   clear H'
   try clear c1
   try clear p2
   try clear c3
   try clear c3b0
   try clear c3b1
   try clear c3b2
   obtain ⟨x5_1, rfl, HA, HK1, ⟨m1, rfl⟩⟩ := hrel
   cases gk with
   | zero => exact absurd HA.out (by simp [chainmanref30_SamePairs.l0])
   | succ k1 =>
    have H := HA.out
    clear HA
    simp only [chainmanref30_SamePairs.l0] at H
    by_cases c4 : x5_1 < (l0.length : Int)
    ·rw [if_pos c4] at H
     have c4b0 : decide (x5_1 < (l0.length : Int)) = true := decide_eq_true c4
     clear c4
     by_cases c5 : 0 ≤ x5_1
     ·rw [if_pos c5] at H
      have c5b0 : decide (0 ≤ x5_1) = true := decide_eq_true c5
      clear c5
      by_cases c6 : x5_1 < (l1.length : Int)
      ·rw [if_pos c6] at H
       have c6b0 : decide (x5_1 < (l1.length : Int)) = true := decide_eq_true c6
       clear c6
       by_cases c7 : (!(((rd_T33 l0 x5_1).f0) == ((rd_T33 l1 x5_1).f0)) || (!(((rd_T33 l0 x5_1).f1) == ((rd_T33 l1 x5_1).f1)))) = true
       ·rw [if_pos c7] at H
        have c7b0 : (!(((rd_T33 l0 x5_1).f0) == ((rd_T33 l1 x5_1).f0)) || (!(((rd_T33 l0 x5_1).f1) == ((rd_T33 l1 x5_1).f1)))) = true := c7
        clear c7
        obtain rfl := Option.some.inj H
        have p188 : 0 ≤ (x5_1 : Int) := of_decide_eq_true (by assumption)
        have q188 : x5_1 < (l0.length : Int) := of_decide_eq_true (by assumption)
        obtain ⟨ad188, e188, hx188_0, hx188_1⟩ := at_T33 HR0.out x5_1 p188 q188
        cases e188
        replace p188 := eq_true p188
        replace q188 := eq_true q188
        have p189 : 0 ≤ (x5_1 : Int) := of_decide_eq_true (by assumption)
        have q189 : x5_1 < (l1.length : Int) := of_decide_eq_true (by assumption)
        obtain ⟨ad189, e189, hx189_0, hx189_1⟩ := at_T33 HR1.out x5_1 p189 q189
        cases e189
        replace p189 := eq_true p189
        replace q189 := eq_true q189
        go_wp2
        repeat (go_quiet (fail); try go_wp2)
        go_ret
        exact ⟨by first | rfl | (simp; done) | (simp [*]; done), by repeat (first | exact Drawn0.refl _ | apply Drawn0.step)⟩
       ·rw [if_neg c7] at H
        have c7b0 : (!(((rd_T33 l0 x5_1).f0) == ((rd_T33 l1 x5_1).f0)) || (!(((rd_T33 l0 x5_1).f1) == ((rd_T33 l1 x5_1).f1)))) = false := by simpa using c7
        clear c7
        have H' := Aside0.mk H
        clear H
        have p188 : 0 ≤ (x5_1 : Int) := of_decide_eq_true (by assumption)
        have q188 : x5_1 < (l0.length : Int) := of_decide_eq_true (by assumption)
        obtain ⟨ad188, e188, hx188_0, hx188_1⟩ := at_T33 HR0.out x5_1 p188 q188
        cases e188
        replace p188 := eq_true p188
        replace q188 := eq_true q188
        have p189 : 0 ≤ (x5_1 : Int) := of_decide_eq_true (by assumption)
        have q189 : x5_1 < (l1.length : Int) := of_decide_eq_true (by assumption)
        obtain ⟨ad189, e189, hx189_0, hx189_1⟩ := at_T33 HR1.out x5_1 p189 q189
        cases e189
        replace p189 := eq_true p189
        replace q189 := eq_true q189
        go_wp2
        repeat (go_quiet (fail); try go_wp2)
        go_roundg k1
        case measure => have := HK1.out; omega
        case rel => exact ⟨(wrap64 (x5_1 + 1)), (by first | rfl | (simp; done) | (simp [*]; done)), H', ⟨by have := HK1.out; omega⟩, by repeat (first | exact Drawn0.refl _ | apply Drawn0.step)⟩
      ·rw [if_neg c6] at H
       exact absurd H (by simp)
     ·rw [if_neg c5] at H
      exact absurd H (by simp)
    ·rw [if_neg c4] at H
     have c4b0 : decide (x5_1 < (l0.length : Int)) = false := decide_eq_false c4
     clear c4
     obtain rfl := Option.some.inj H
     go_wp2
     repeat (go_quiet (fail); try go_wp2)
     go_ret
     exact ⟨by first | rfl | (simp; done) | (simp [*]; done), by repeat (first | exact Drawn0.refl _ | apply Drawn0.step)⟩
 ·rw [if_neg c3] at H
  have c3b0 : ((l0.length : Int) == (l1.length : Int)) = false := beq_eq_false_iff_ne.mpr c3
  have c3b1 : ((l0.length : Int) != (l1.length : Int)) = true := bne_iff_ne.mpr c3
  have c3b2 : (l0.length == l1.length) = false := by first | simpa using c3 | (simp at c3 ⊢; omega)
  obtain rfl := Option.some.inj H
  go_enter Tryd.func10, Tryd.ntmps10
  go_wp2
  repeat (go_quiet (fail); try go_wp2)
  go_ret
  exact ⟨by first | rfl | (simp; done) | (simp [*]; done), by repeat (first | exact Drawn0.refl _ | apply Drawn0.step)⟩

/-! ### api_Near_52: function 52 -/
/-- A row of rows, at one of them. -/
theorem api_Near_52.at {w : World} {A : Option Addr} {n : Nat} {ll : List (List S41)} (h : Kd.C (Kd.slice 41 k41) w A n ll) (x : Nat) (hx : x < ll.length) (hn : n = ll.length) :
  ∃ ad Ai ci, A = some ad ∧ w.cell? (ad.add x) = some (.slice Ai ll[x].length ci) ∧ ll[x].length ≤ ci ∧ Kd.C k41 w Ai ll[x].length ll[x] := by
 obtain ⟨ad, cs, e1, _, hK, hc⟩ := Kd.C_get h [] (x : Int) (by omega) (by omega)
 rw [Int.toNat_natCast] at hK hc
 have hg : ll.getD x [] = ll[x] := by rw [List.getD_eq_getElem?_getD, List.getElem?_eq_getElem hx]; rfl
 rw [hg] at hK
 obtain ⟨Ai, ci, e2, h1, h2⟩ := hK
 refine ⟨ad, Ai, ci, e1, ?_, h1, h2⟩
 have := hc 0 (.slice Ai ll[x].length ci) (by rw [e2]; rfl)
 have e3 : x * (Kd.slice 41 k41).sz + 0 = x := by show x * 1 + 0 = x; omega
 rw [e3] at this
 exact this
def api_Near_52.ix (p : List S41 → Bool) (l : List (List S41)) : Int := match l.findIdx? p with | some i => (i : Int) | none => -1
theorem api_Near_52.found (p : List S41 → Bool) (l : List (List S41)) (x : Nat) (h : x < l.length) (hp : p l[x] = true) (hb : ∀ j (hj : j < l.length), j < x → p l[j] = false) : api_Near_52.ix p l = (x : Int) := by
 unfold api_Near_52.ix
 have : l.findIdx? p = some x := by
  rw [List.findIdx?_eq_some_iff_getElem]
  exact ⟨h, hp, fun j hj => by rw [hb j (by omega) hj]; decide⟩
 rw [this]
theorem api_Near_52.nowhere (p : List S41 → Bool) (l : List (List S41)) (hb : ∀ j (hj : j < l.length), p l[j] = false) : api_Near_52.ix p l = -1 := by
 unfold api_Near_52.ix
 have : l.findIdx? p = none := by
  rw [List.findIdx?_eq_none_iff]
  intro y hy
  obtain ⟨j, hj, rfl⟩ := List.mem_iff_getElem.mp hy
  exact hb j hj
 rw [this]
set_option maxHeartbeats 4000000 in
set_option maxRecDepth 100000 in
theorem api_Near_52.runs (p : List S41 → Bool) (g : Nat) (lb : Array Value) (eg : ∀ args w, (callFunc g args).run Tryd.prog w = .ok (.enter g args) w) (A0 : Option Addr) (c0 : Nat) (l0 : List (List S41)) (w : World) (hr0 : Kd.C (Kd.slice 41 k41) w A0 l0.length l0) (hc0 : l0.length ≤ c0) (hm : l0.length ≤ 1000000000)
  (hp : ∀ (x : List S41) (Ax : Option Addr) (cx : Nat) (W : World), x ∈ l0 → Below w.heap.size w W → Kd.C k41 W Ax x.length x → x.length ≤ cx → Calls Tryd.prog g (#[.slice Ax x.length cx] ++ lb) W fun e w' => e = .returned (.bool (p x)) ∧ Below W.heap.size W w') :
  Calls Tryd.prog 52 #[.slice A0 l0.length c0, .func (.func g) #[] lb] w fun e w' => e = .returned (.int .i64 (api_Near_52.ix p l0)) ∧ Below w.heap.size w w' := by
 have HR := Aside0.mk hr0
 have HM := Aside0.mk hm
 have HP := Aside0.mk hp
 clear hr0 hp
 go_enter Tryd.func52, Tryd.ntmps52
 go_wp2
 go_loopw [8] (fun i wr => ∃ x : Nat, i = .int .i64 (x : Int) ∧ x ≤ l0.length ∧ Aside0 (∀ j (hj : j < l0.length), j < x → p l0[j] = false) ∧ Aside0 (Below w.heap.size w wr)) (fun i _ => l0.length - (intOf i).toNat)
 case atStart => exact ⟨0, rfl, Nat.zero_le _, ⟨fun j _ h => absurd h (Nat.not_lt_zero _)⟩, ⟨Below.refl _ _⟩⟩
 case round =>
  obtain ⟨x, rfl, hx, HQ, HB⟩ := hrel
  by_cases hlt : x < l0.length
  ·obtain ⟨ad, Ai, ci, ead, h0, hci, hCi⟩ := api_Near_52.at (Kd.C_below HR.out HB.out) x hlt rfl
   cases ead
   have hcall := fun (W : World) (hW : Below w.heap.size w W) (hC : Kd.C k41 W Ai (l0[x]'hlt).length (l0[x]'hlt)) => HP.out (l0[x]'hlt) Ai ci W (List.getElem_mem hlt) hW hC hci
   generalize hz : l0[x] = z at h0 hci hCi hcall
   have HX := Aside0.mk hlt
   have HZ := Aside0.mk hz
   have HCI := Aside0.mk hCi
   clear hz hCi hci
   have b1 : decide ((x : Int) < (l0.length : Int)) = true := decide_eq_true (by omega)
   have b2 : ((0 : Int) ≤ (x : Int)) = True := eq_true (by omega)
   have b3 : ((x : Int) < (l0.length : Int)) = True := eq_true (by omega)
   have hm := HM.out
   cases hpz : p z with
   | false =>
    rw [hpz] at hcall
    go_wp2_with (first | (go_at_fn g; refine (hcall _ HB.out HCI.out).mono ?_; rintro e w1 ⟨rfl, hb'⟩; have HB1 := Aside0.mk (below_step HB.out hb'); clear HB hb' h0 hcall HCI))
    go_roundw
    case rel => exact ⟨x + 1, by go_num, HX.out, ⟨fun j hj h => by
     rcases Nat.lt_or_eq_of_le (Nat.le_of_lt_succ h) with h | rfl
     ·exact HQ.out j hj h
     ·rw [HZ.out]; exact hpz⟩, HB1⟩
    case measure => have := HX.out; simp [intOf]; omega
   | true =>
    rw [hpz] at hcall
    go_wp2_with (first | (go_at_fn g; refine (hcall _ HB.out HCI.out).mono ?_; rintro e w1 ⟨rfl, hb'⟩; have HB1 := Aside0.mk (below_step HB.out hb'); clear HB hb' h0 hcall HCI))
    go_ret
    exact ⟨by rw [api_Near_52.found p l0 x hlt (by rw [HZ.out]; exact hpz) HQ.out]; rfl, HB1.out⟩
  ·obtain rfl : x = l0.length := by omega
   have b1 : decide ((l0.length : Int) < (l0.length : Int)) = false := decide_eq_false (by omega)
   go_wp2
   go_ret
   exact ⟨by rw [api_Near_52.nowhere p l0 (fun j hj => HQ.out j hj hj)]; rfl, HB.out⟩

/-! ### api_Near_37: function 37 -/
theorem api_Near_37.ix_any (p : List S41 → Bool) (l : List (List S41)) : decide (api_Near_52.ix p l ≥ 0) = l.any p := by
 unfold api_Near_52.ix
 cases h : l.findIdx? p with
 | none =>
  have := List.findIdx?_eq_none_iff.mp h
  rw [show l.any p = false from List.any_eq_false.mpr (fun x hx => by rw [this x hx]; decide)]
  rfl
 | some i =>
  obtain ⟨hi, hp, _⟩ := List.findIdx?_eq_some_iff_getElem.mp h
  rw [show l.any p = true from List.any_eq_true.mpr ⟨_, List.getElem_mem hi, hp⟩]
  exact decide_eq_true (by show (0 : Int) ≤ (i : Int); omega)
set_option maxHeartbeats 4000000 in
set_option maxRecDepth 100000 in
theorem api_Near_37.runs (p : List S41 → Bool) (g : Nat) (lb : Array Value) (eg : ∀ args w, (callFunc g args).run Tryd.prog w = .ok (.enter g args) w) (A0 : Option Addr) (c0 : Nat) (l0 : List (List S41)) (w : World) (hr0 : Kd.C (Kd.slice 41 k41) w A0 l0.length l0) (hc0 : l0.length ≤ c0) (hm : l0.length ≤ 1000000000)
  (hp : ∀ (x : List S41) (Ax : Option Addr) (cx : Nat) (W : World), x ∈ l0 → Below w.heap.size w W → Kd.C k41 W Ax x.length x → x.length ≤ cx → Calls Tryd.prog g (#[.slice Ax x.length cx] ++ lb) W fun e w' => e = .returned (.bool (p x)) ∧ Below W.heap.size W w') :
  Calls Tryd.prog 37 #[.slice A0 l0.length c0, .func (.func g) #[] lb] w fun e w' => e = .returned (.bool (l0.any p)) ∧ Below w.heap.size w w' := by
 have hI := api_Near_52.runs p g lb eg A0 c0 l0 w hr0 hc0 hm hp
 rw [← api_Near_37.ix_any p l0]
 clear hr0 hp
 generalize api_Near_52.ix p l0 = q at hI
 have d1 : decide ((0 : Int) ≤ q) = decide (q ≥ 0) := rfl
 by_cases hq : q ≥ 0
 ·have b1 : decide ((0 : Int) ≤ q) = true := decide_eq_true hq
  rw [decide_eq_true hq]
  clear d1
  go_enter Tryd.func37, Tryd.ntmps37
  go_wp2_with (first | (go_at_call 52; refine hI.mono ?_; rintro e w1 ⟨rfl, hb1⟩; have HB1 := Aside0.mk hb1; clear hb1 hI))
  go_ret
  exact ⟨rfl, HB1.out⟩
 ·have b1 : decide ((0 : Int) ≤ q) = false := decide_eq_false hq
  rw [decide_eq_false hq]
  clear d1
  go_enter Tryd.func37, Tryd.ntmps37
  go_wp2_with (first | (go_at_call 52; refine hI.mono ?_; rintro e w1 ⟨rfl, hb1⟩; have HB1 := Aside0.mk hb1; clear hb1 hI))
  go_ret
  exact ⟨rfl, HB1.out⟩

/-! ### graphfile_order: function 53 -/
def graphfile_order.f (k : Nat) (a0_0 : Int) (a0_1 : Int) (a0_2 : Bool) (a1_0 : Int) (a1_1 : Int) (a1_2 : Bool) : Option (Int) := (cmp_Compare_int.f a0_0 a1_0).bind fun t192 => ((cmp_Compare_int.f a0_1 a1_1).bind fun t193 => ((cmp_Or_int.f k (([t192, t193] : List Int))).bind fun t197 => (some t197)))
theorem graphfile_order.mono : ∀ a0 a1 a2 a3 a4 a5 k, LeO (graphfile_order.f k a0 a1 a2 a3 a4 a5) (graphfile_order.f (k + 1) a0 a1 a2 a3 a4 a5) := by
 intro a0 a1 a2 a3 a4 a5 k
 unfold graphfile_order.f
 repeat' first
   | (with_reducible exact cmp_Or_int.mono _ _)
   | (with_reducible exact LeO.refl _)
   | (with_reducible exact LeO.none _)
   | (with_reducible refine LeO.ite ?_ ?_)
   | (with_reducible refine LeO.bind ?_ (fun _ => ?_))
   | exact cmp_Or_int.mono _ _
   | exact LeO.none _
   | refine LeO.ite ?_ ?_
   | refine LeO.bind ?_ (fun _ => ?_)
def graphfile_order.T1 : Bool × List (List Nat × List Nat) := (true, [([], []), ([0], [0]), ([], []), ([2], [2]), ([1, 3], [1, 3]), ([], []), ([5], [5]), ([], []), ([7], [7]), ([6, 8, 4], [6, 8]), ([4, 9], [4, 9]), ([10, 9], [10]), ([11, 11, 0, 1, 2, 3, 4, 5, 6, 7, 8, 9, 10, 11], [11])])
def graphfile_order.B1 : List Nat := [0, 1, 0, 4, 15, 0, 32, 0, 128, 511, 1023, 2047, 4095]
theorem graphfile_order.tab1 : rtab .any (opsOf Tryd.f53 1) = graphfile_order.T1 := by kernel_rfl
theorem graphfile_order.bits1 : waitsOk graphfile_order.T1.2 graphfile_order.B1 = true := by kernel_rfl
set_option maxHeartbeats 8000000 in
set_option maxRecDepth 100000 in
theorem graphfile_order.calls (k : Nat) (a0_0 : Int) (a0_1 : Int) (a0_2 : Bool) (a1_0 : Int) (a1_1 : Int) (a1_2 : Bool) (r : Int) (w : World) (h : graphfile_order.f k a0_0 a0_1 a0_2 a1_0 a1_1 a1_2 = some r) :
  Calls Tryd.prog 53 #[.agg #[.int .i64 a0_0, .int .i64 a0_1, .bool a0_2], .agg #[.int .i64 a1_0, .int .i64 a1_1, .bool a1_2]] w fun e w' => e = .returned (.int .i64 r) ∧ Below w.heap.size w w' := by
 have hu41 := Tryd.underlying41
 have HB := Aside0.mk (Below.refl w.heap.size w)
 have H : ((cmp_Compare_int.f a0_0 a1_0).bind fun t192 => ((cmp_Compare_int.f a0_1 a1_1).bind fun t193 => ((cmp_Or_int.f k (([t192, t193] : List Int))).bind fun t197 => (some t197)))) = some r := h
 clear h
 replace H := Option.bind_eq_some_iff.mp H
 obtain ⟨t192, A30, H⟩ := H
 replace H : ((cmp_Compare_int.f a0_1 a1_1).bind fun t193 => ((cmp_Or_int.f k (([t192, t193] : List Int))).bind fun t197 => (some t197))) = some r := H
 have A3 := Aside0.mk A30
 clear A30
 replace H := Option.bind_eq_some_iff.mp H
 obtain ⟨t193, A40, H⟩ := H
 replace H : ((cmp_Or_int.f k (([t192, t193] : List Int))).bind fun t197 => (some t197)) = some r := H
 have A4 := Aside0.mk A40
 clear A40
 obtain ⟨y194, hy194⟩ : ∃ y_ : List Int, y_ = (([t192, t193] : List Int)) := ⟨_, rfl⟩
 replace H : ((cmp_Or_int.f k y194).bind fun t197 => (some t197)) = some r := by first | (rw [hy194]; with_reducible exact H) | (have H2_ := (Option.bind_some _ _).symm.trans H; rw [hy194]; with_reducible exact H2_) | (have H2_ := (Option.bind_some _ _).symm.trans H; with_reducible exact H2_) | with_reducible exact H | (rw [hy194]; exact H) | exact H
 have Ny194 := Aside0.mk hy194
 clear hy194
 replace H := Option.bind_eq_some_iff.mp H
 obtain ⟨t197, A50, H⟩ := H
 replace H : (some t197) = some r := H
 have A5 := Aside0.mk A50
 clear A50
 obtain rfl := Option.some.inj H
 go_enter Tryd.func53, Tryd.ntmps53
 try go_wp2_with (first | ((with_reducible refine gate_dst (N := 2) rfl ?_); refine box_event ?hg (N := 2) ?hd (cs := #[.int .i64 a0_0, .int .i64 a0_1, .bool a0_2]) (t := 41) ?hr ?_; (case hd => rfl); (case hg => rfl); (case hr => first | (go_simp; done) | (go_simp; rfl)); intro gb190 hg w6 hbox hb; have n0_ := Aside0.mk (below_step (by repeat (first | (with_reducible first | exact HB.out | apply below_alloc | apply pw_below_drewN | apply below_drew1) | exact HB.out)) hb); have n1_ := Aside0.mk (hbox); have n2_ := Aside0.mk ((by rw [hg]; exact (below_size (by repeat (first | (with_reducible first | exact HB.out | apply below_alloc | apply pw_below_drewN | apply below_drew1) | exact HB.out))) : w.heap.size ≤ gb190)); have n3_ := Aside0.mk ((by rw [hg]; exact (below_size (by repeat (first | (with_reducible first | exact HB.out | apply below_alloc | apply pw_below_drewN | apply below_drew1) | exact HB.out))) : w.heap.size ≤ gb190)); clear HB; have HB := n0_; have BK190 := n1_; have GW190 := n2_; have GE190 := n3_; clear n0_ n1_ n2_ n3_; clear hb hbox hg) | ((with_reducible refine gate_dst (N := 3) rfl ?_); refine box_event ?hg (N := 3) ?hd (cs := #[.int .i64 a1_0, .int .i64 a1_1, .bool a1_2]) (t := 41) ?hr ?_; (case hd => rfl); (case hg => rfl); (case hr => first | (go_simp; done) | (go_simp; rfl)); intro gb191 hg w7 hbox hb; have n0_ := Aside0.mk (blk_below (g := gb190) (o := .cells #[.int .i64 a0_0, .int .i64 a0_1, .bool a0_2] 41 (0, 0)) (by (with_reducible repeat (first | refine blk_drewN ?_ _ | refine blk_drew ?_ | refine blk_alloc ?_ _)); exact BK190.out) hb); have n1_ := Aside0.mk (below_step (by repeat (first | (with_reducible first | exact HB.out | apply below_alloc | apply pw_below_drewN | apply below_drew1 | refine below_set ?_ GE190.out) | exact HB.out)) hb); have n2_ := Aside0.mk (hbox); have n3_ := Aside0.mk ((by rw [hg]; exact (below_size (by repeat (first | (with_reducible first | exact HB.out | apply below_alloc | apply pw_below_drewN | apply below_drew1 | refine below_set ?_ GE190.out) | exact HB.out))) : w.heap.size ≤ gb191)); have n4_ := Aside0.mk ((by rw [hg]; exact (below_size (by repeat (first | (with_reducible first | exact HB.out | apply below_alloc | apply pw_below_drewN | apply below_drew1 | refine below_set ?_ GE190.out) | exact HB.out))) : w.heap.size ≤ gb191)); have n5_ := Aside0.mk ((by rw [hg]; exact Nat.ne_of_lt (blk_lt (g := gb190) (o := .cells #[.int .i64 a0_0, .int .i64 a0_1, .bool a0_2] 41 (0, 0)) (by (with_reducible repeat (first | refine blk_drewN ?_ _ | refine blk_drew ?_ | refine blk_alloc ?_ _)); exact BK190.out)) : gb190 ≠ gb191)); have n6_ := Aside0.mk ((by rw [hg]; exact Nat.ne_of_gt (blk_lt (g := gb190) (o := .cells #[.int .i64 a0_0, .int .i64 a0_1, .bool a0_2] 41 (0, 0)) (by (with_reducible repeat (first | refine blk_drewN ?_ _ | refine blk_drew ?_ | refine blk_alloc ?_ _)); exact BK190.out)) : gb191 ≠ gb190)); clear BK190; clear HB; have BK190 := n0_; have HB := n1_; have BK191 := n2_; have GW191 := n3_; have GE191 := n4_; have NB190_191 := n5_; have NB191_190 := n6_; clear n0_ n1_ n2_ n3_ n4_ n5_ n6_; clear hb hbox hg))
 have n0_ := Aside0.mk (blk_drew BK190.out)
 have n1_ := Aside0.mk (blk_drew BK191.out)
 have n2_ := Aside0.mk (below_drew1 HB.out)
 clear BK190
 clear BK191
 clear HB
 have BK190 := n0_
 have BK191 := n1_
 have HB := n2_
 clear n0_ n1_ n2_
 refine start_ (n := 13) (S := fun w' => w'.cell? ⟨gb190, 0, none⟩ = some (.int .i64 a0_0) ∧ w'.cell? ⟨gb190, 1, none⟩ = some (.int .i64 a0_1) ∧ w'.cell? ⟨gb190, 2, none⟩ = some (.bool a0_2) ∧ w'.cell? ⟨gb191, 0, none⟩ = some (.int .i64 a1_0) ∧ w'.cell? ⟨gb191, 1, none⟩ = some (.int .i64 a1_1) ∧ w'.cell? ⟨gb191, 2, none⟩ = some (.bool a1_2)) (ds := []) #[false, false, false, false, false, false, false, false, false, false, false, false, false] (by kernel_rfl) rfl rfl ⟨(blk_cell BK190.out 0).trans rfl, (blk_cell BK190.out 1).trans rfl, (blk_cell BK190.out 2).trans rfl, (blk_cell BK191.out 0).trans rfl, (blk_cell BK191.out 1).trans rfl, (blk_cell BK191.out 2).trans rfl⟩ (fun hHeld => ?_); refine with_tabW graphfile_order.tab1 graphfile_order.bits1 (fun HT_ HW_ => ?_)
 generalize w7.drew = w8 at BK190 BK191 HB hHeld ⊢
 refine pure_ (i := 0) (N := some 5) (v := ?_) (a' := ?_) #[true, false, false, false, false, false, false, false, false, false, false, false, false] rfl rfl (any_of HT_.out (by kernel_rfl)) (fun _ _ _ h => h) (Or.inl ⟨by rfl, ?_⟩) ?_ ?_
 rotate_left
 ·intro w'
  go_simp
  with_reducible rfl
 rotate_left
 ·simp only [Act.put, List.setIfInBounds_toArray, List.set_cons_zero, List.set_cons_succ, i64_w, i32_w]
  rfl
 refine pure_ (i := 2) (N := some 7) (v := ?_) (a' := ?_) #[true, false, true, false, false, false, false, false, false, false, false, false, false] rfl rfl (any_of HT_.out (by kernel_rfl)) (fun _ _ _ h => h) (Or.inl ⟨by rfl, ?_⟩) ?_ ?_
 rotate_left
 ·intro w'
  go_simp
  with_reducible rfl
 rotate_left
 ·simp only [Act.put, List.setIfInBounds_toArray, List.set_cons_zero, List.set_cons_succ, i64_w, i32_w]
  rfl
 refine pure_ (i := 5) (N := some 10) (v := ?_) (a' := ?_) #[true, false, true, false, false, true, false, false, false, false, false, false, false] rfl rfl (any_of HT_.out (by kernel_rfl)) (fun _ _ _ h => h) (Or.inl ⟨by rfl, ?_⟩) ?_ ?_
 rotate_left
 ·intro w'
  go_simp
  with_reducible rfl
 rotate_left
 ·simp only [Act.put, List.setIfInBounds_toArray, List.set_cons_zero, List.set_cons_succ, i64_w, i32_w]
  rfl
 refine pure_ (i := 7) (N := some 12) (v := ?_) (a' := ?_) #[true, false, true, false, false, true, false, true, false, false, false, false, false] rfl rfl (any_of HT_.out (by kernel_rfl)) (fun _ _ _ h => h) (Or.inl ⟨by rfl, ?_⟩) ?_ ?_
 rotate_left
 ·intro w'
  go_simp
  with_reducible rfl
 rotate_left
 ·simp only [Act.put, List.setIfInBounds_toArray, List.set_cons_zero, List.set_cons_succ, i64_w, i32_w]
  rfl
 refine take_ (i := 1) (N := some 6) (v := ?_) (a' := ?_) #[true, true, true, false, false, true, false, true, false, false, false, false, false] rfl rfl (take_ofW HT_.out HW_.out (by kernel_rfl)) (fun _ _ _ h => h) (Or.inl ⟨by rfl, ?_⟩) hHeld ?_ ?_
 rotate_left
 ·rintro w' ⟨s0, s1, s2, s3, s4, s5⟩
  go_simp
  with_reducible rfl
 rotate_left
 ·simp only [Act.put, List.setIfInBounds_toArray, List.set_cons_zero, List.set_cons_succ, i64_w, i32_w]
  rfl
 refine take_ (i := 3) (N := some 8) (v := ?_) (a' := ?_) #[true, true, true, true, false, true, false, true, false, false, false, false, false] rfl rfl (take_ofW HT_.out HW_.out (by kernel_rfl)) (fun _ _ _ h => h) (Or.inl ⟨by rfl, ?_⟩) hHeld ?_ ?_
 rotate_left
 ·rintro w' ⟨s0, s1, s2, s3, s4, s5⟩
  go_simp
  with_reducible rfl
 rotate_left
 ·simp only [Act.put, List.setIfInBounds_toArray, List.set_cons_zero, List.set_cons_succ, i64_w, i32_w]
  rfl
 refine take_ (i := 6) (N := some 11) (v := ?_) (a' := ?_) #[true, true, true, true, false, true, true, true, false, false, false, false, false] rfl rfl (take_ofW HT_.out HW_.out (by kernel_rfl)) (fun _ _ _ h => h) (Or.inl ⟨by rfl, ?_⟩) hHeld ?_ ?_
 rotate_left
 ·rintro w' ⟨s0, s1, s2, s3, s4, s5⟩
  go_simp
  with_reducible rfl
 rotate_left
 ·simp only [Act.put, List.setIfInBounds_toArray, List.set_cons_zero, List.set_cons_succ, i64_w, i32_w]
  rfl
 refine take_ (i := 8) (N := some 13) (v := ?_) (a' := ?_) #[true, true, true, true, false, true, true, true, true, false, false, false, false] rfl rfl (take_ofW HT_.out HW_.out (by kernel_rfl)) (fun _ _ _ h => h) (Or.inl ⟨by rfl, ?_⟩) hHeld ?_ ?_
 rotate_left
 ·rintro w' ⟨s0, s1, s2, s3, s4, s5⟩
  go_simp
  with_reducible rfl
 rotate_left
 ·simp only [Act.put, List.setIfInBounds_toArray, List.set_cons_zero, List.set_cons_succ, i64_w, i32_w]
  rfl
 refine one_ (i := 4) (N := some 9) #[true, true, true, true, true, true, true, true, true, false, false, false, false] rfl rfl (one_of HT_.out (by kernel_rfl)) (by decide) (fun K hK => ?_)
 refine goes_ Tryd.func43 (by kernel_rfl) rfl #[.int .i64 a0_0, .int .i64 a1_0] (by rfl) rfl rfl (by (try simp only [List.map_toArray, List.map_cons, List.map_nil]); first | done | rfl) ?_
 with_reducible refine (cmp_Compare_int.calls a0_0 a1_0 t192 _ A3.out).mono ?_
 rintro e w' ⟨rfl, ⟨nd, rfl⟩⟩
 refine ⟨_, rfl, ?_⟩
 refine hK.out _ _ ⟨(blk_cell BK190.out 0).trans rfl, (blk_cell BK190.out 1).trans rfl, (blk_cell BK190.out 2).trans rfl, (blk_cell BK191.out 0).trans rfl, (blk_cell BK191.out 1).trans rfl, (blk_cell BK191.out 2).trans rfl⟩ (fun hHeld => ?_)
 clear hK K
 refine norm_ (a' := ?_) ?_ ?_
 rotate_left
 ·show Act.put _ (some 9) _ = _
  simp only [Act.put, List.setIfInBounds_toArray, List.set_cons_zero, List.set_cons_succ, i64_w, i32_w]
  rfl
 refine one_ (i := 9) (N := some 14) #[true, true, true, true, true, true, true, true, true, true, false, false, false] rfl rfl (one_of HT_.out (by kernel_rfl)) (by decide) (fun K hK => ?_)
 refine goes_ Tryd.func43 (by kernel_rfl) rfl #[.int .i64 a0_1, .int .i64 a1_1] (by rfl) rfl rfl (by (try simp only [List.map_toArray, List.map_cons, List.map_nil]); first | done | rfl) ?_
 with_reducible refine (cmp_Compare_int.calls a0_1 a1_1 t193 _ A4.out).mono ?_
 rintro e w' ⟨rfl, ⟨nd, rfl⟩⟩
 refine ⟨_, rfl, ?_⟩
 refine hK.out _ _ ⟨(blk_cell BK190.out 0).trans rfl, (blk_cell BK190.out 1).trans rfl, (blk_cell BK190.out 2).trans rfl, (blk_cell BK191.out 0).trans rfl, (blk_cell BK191.out 1).trans rfl, (blk_cell BK191.out 2).trans rfl⟩ (fun hHeld => ?_)
 clear hK K
 refine norm_ (a' := ?_) ?_ ?_
 rotate_left
 ·show Act.put _ (some 14) _ = _
  simp only [Act.put, List.setIfInBounds_toArray, List.set_cons_zero, List.set_cons_succ, i64_w, i32_w]
  rfl
 refine one_ (i := 10) (N := some 15) #[true, true, true, true, true, true, true, true, true, true, true, false, false] rfl rfl (one_of HT_.out (by kernel_rfl)) (by decide) (fun K hK => ?_)
 refine Kd.R_lit_step (Kd.int .i64) _ 3 ?hg (N := 15) ?hd (xs := ([t192, t193] : List Int)) (inner := [.int .i64 t192, .int .i64 t193]) (ok := fun _ => True) (okp := fun _ => True) ?hr ?hp (fun _ hk => hk) trivial (Below.refl _ _) (Nat.le_refl _) (by simp) ?_; (case hd => rfl); (case hg => rfl); (case hr => first | (go_simp; done) | (go_simp; rfl)); (case hp => exact (Reps.one (show Kd.M (Kd.int .i64) _ _ _ t192 [.int .i64 t192] from rfl) (Reps.one (show Kd.M (Kd.int .i64) _ _ _ t193 [.int .i64 t193] from rfl) (Reps.none _ _))))
 intro v195 w9 ho10 hb hg_ hnew_
 clear hg_ hnew_
 (first | rw [← Ny194.out] at ho10 | (simp only [Int.reduceToNat] at ho10; rw [← Ny194.out] at ho10))
 have n0_ := Aside0.mk (Kd.R_lower ho10 (below_size (by repeat (first | (with_reducible first | exact HB.out | apply below_alloc | apply pw_below_drewN | apply below_drew1 | refine below_set ?_ GE190.out | refine below_set ?_ GE191.out) | exact HB.out))))
 have n1_ := Aside0.mk (blk_below (g := gb190) (o := .cells #[.int .i64 a0_0, .int .i64 a0_1, .bool a0_2] 41 (0, 0)) (by (with_reducible repeat (first | refine blk_drewN ?_ _ | refine blk_drew ?_ | refine blk_alloc ?_ _)); exact BK190.out) hb)
 have n2_ := Aside0.mk (blk_below (g := gb191) (o := .cells #[.int .i64 a1_0, .int .i64 a1_1, .bool a1_2] 41 (0, 0)) (by (with_reducible repeat (first | refine blk_drewN ?_ _ | refine blk_drew ?_ | refine blk_alloc ?_ _)); exact BK191.out) hb)
 have n3_ := Aside0.mk (below_step (by repeat (first | (with_reducible first | exact HB.out | apply below_alloc | apply pw_below_drewN | apply below_drew1 | refine below_set ?_ GE190.out | refine below_set ?_ GE191.out) | exact HB.out)) hb)
 clear BK190
 clear BK191
 clear HB
 have HO196 := n0_
 have BK190 := n1_
 have BK191 := n2_
 have HB := n3_
 clear n0_ n1_ n2_ n3_
 clear hb ho10
 obtain ⟨Ao11, co11, eo11⟩ := Kd.R_slice HO196.out
 (first | subst eo11 | (injection eo11 with f1_ f2_ f3_; have f4_ := f1_.symm; have f5_ := f3_.symm; clear f1_ f2_ f3_; subst f4_; subst f5_))
 refine hK.out _ _ ⟨(blk_cell BK190.out 0).trans rfl, (blk_cell BK190.out 1).trans rfl, (blk_cell BK190.out 2).trans rfl, (blk_cell BK191.out 0).trans rfl, (blk_cell BK191.out 1).trans rfl, (blk_cell BK191.out 2).trans rfl⟩ (fun hHeld => ?_)
 clear hK K
 refine norm_ (a' := ?_) ?_ ?_
 rotate_left
 ·show Act.put _ (some 15) _ = _
  simp only [Act.put, List.setIfInBounds_toArray, List.set_cons_zero, List.set_cons_succ, i64_w, i32_w]
  rfl
 refine one_ (i := 11) (N := some 16) #[true, true, true, true, true, true, true, true, true, true, true, true, false] rfl rfl (one_of HT_.out (by kernel_rfl)) (by decide) (fun K hK => ?_)
 refine goes_ Tryd.func42 (by kernel_rfl) rfl #[.slice Ao11 y194.length co11] (by rfl) rfl rfl (by (try simp only [List.map_toArray, List.map_cons, List.map_nil]); first | done | rfl) ?_
 with_reducible refine (cmp_Or_int.calls k _ _ y194 t197 _ ?side1 ?side2 A5.out).mono ?_
 (case side1 => repeat (first | exact (Kd.R_reads' HO196.out).2.2 | (with_reducible refine Kd.C_alloc ?_ _) | (with_reducible refine Kd.C_drewN ?_ _) | (with_reducible refine Kd.C_drew ?_)))
 (case side2 => exact (Kd.R_reads' HO196.out).2.1)
 rintro e w' ⟨rfl, ⟨nd, rfl⟩⟩
 refine ⟨_, rfl, ?_⟩
 refine hK.out _ _ ⟨(blk_cell BK190.out 0).trans rfl, (blk_cell BK190.out 1).trans rfl, (blk_cell BK190.out 2).trans rfl, (blk_cell BK191.out 0).trans rfl, (blk_cell BK191.out 1).trans rfl, (blk_cell BK191.out 2).trans rfl⟩ (fun hHeld => ?_)
 clear hK K
 refine norm_ (a' := ?_) ?_ ?_
 rotate_left
 ·show Act.put _ (some 16) _ = _
  simp only [Act.put, List.setIfInBounds_toArray, List.set_cons_zero, List.set_cons_succ, i64_w, i32_w]
  rfl
 refine pure_ (i := 12) (N := some 4) (v := ?_) (a' := ?_) #[true, true, true, true, true, true, true, true, true, true, true, true, true] rfl rfl (any_of HT_.out (by kernel_rfl)) (fun _ _ _ h => h) (Or.inl ⟨by rfl, ?_⟩) ?_ ?_
 rotate_left
 ·intro w'
  go_simp
  with_reducible rfl
 rotate_left
 ·simp only [Act.put, List.setIfInBounds_toArray, List.set_cons_zero, List.set_cons_succ, i64_w, i32_w]
  rfl
 refine done_ (done_of HT_.out (by kernel_rfl)) ?_
 try go_wp2
 go_ret
 exact ⟨by first | rfl | (simp [errW_none, errW_some] <;> rfl) | (simp [*, errW_none, errW_some] <;> rfl), by repeat (first | (with_reducible first | exact HB.out | apply below_alloc | apply pw_below_drewN | apply below_drew1 | refine below_set ?_ GE190.out | refine below_set ?_ GE191.out) | exact HB.out)⟩

end Go.Proofs.YtahkkgnicgbncaaDoor.PDiffEdges
