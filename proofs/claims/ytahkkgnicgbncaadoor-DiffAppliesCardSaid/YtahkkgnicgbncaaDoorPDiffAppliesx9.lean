/- The Go functions that the law reaches, as plain Lean functions, and proofs that the calls of the machine come to them, or the row of the law over them, for every input that the row speaks of; written by a program of this session (wip/tool/mkprint.py) out of the translation and of hand-made templates. -/
import Derived.Test.YtahkkgnicgbncaaDoorPDiffAppliesx0
import Derived.Test.YtahkkgnicgbncaaDoorPDiffAppliesx1
import Derived.Test.YtahkkgnicgbncaaDoorPDiffAppliesx5
import Derived.Test.YtahkkgnicgbncaaDoorPDiffAppliesx7
import Derived.Test.YtahkkgnicgbncaaDoorPDiffAppliesx8
namespace Go.Proofs.YtahkkgnicgbncaaDoor.PDiffApplies
open Go.RowKit Go.Proofs.YtahkkgnicgbncaaDoorW.PrintWords Go.Proofs.YtahkkgnicgbncaaDoorW.PrintLast Go.Proofs.YtahkkgnicgbncaaDoorW.PrintMore
attribute [local go_sem] max2_int min2_int max_two min_two max_three min_three max_four min_four   -- for this text's walks alone
set_option linter.unusedVariables false
set_option linter.unusedSimpArgs false

attribute [local go_sem high] eqA33
/-! ### diff_Fits: function 16 -/
def diff_Fits.q1 (t : S33 × Bool × Bool) : Bool := t.2.2
def diff_Fits.q2 (t : S33 × Bool × Bool) : Bool := !(t.2.1 && t.2.2)
def diff_Fits.f (k : Nat) (g c l : List S33) : Option Bool := (diff_clean.f k [g, c, l]).bind fun b => if b = true then (if g.length + c.length + l.length ≤ 1000000 then some ((diff_beside.bs diff_beside.lt g l).all diff_Fits.q1 && (diff_beside.bs diff_beside.lt c l).all diff_Fits.q2) else none) else some false
theorem diff_Fits.mono : ∀ a0 a1 a2 k, LeO (diff_Fits.f k a0 a1 a2) (diff_Fits.f (k + 1) a0 a1 a2) := by
  intro l0 l1 l2 k
  unfold diff_Fits.f
  exact LeO.bind (diff_clean.mono _ _) (fun _ => LeO.refl _)
/-- Between two rounds. -/
structure diff_Fits.I (w : World) (s0 s1 : Value) (Ds : List Nat) (q : S33 × Bool × Bool → Bool) (a b x y : List S33) (W : World) : Prop where
  box : W.heap[w.heap.size]? = some (.cells #[s0, s1] 26)
  res : W.heap[w.heap.size + 1]? = some (.cells #[.bool false] 4)
  marks : ∀ D ∈ Ds, W.heap[D]? = some (.deferred (some []))
  below : Below w.heap.size w W
  all : (diff_beside.bs diff_beside.lt x y).all q = (diff_beside.bs diff_beside.lt a b).all q
/-- Where a round leaves. -/
structure diff_Fits.O (w : World) (Ds : List Nat) (q : S33 × Bool × Bool → Bool) (a b : List S33) (c : Code) (W : World) : Prop where
  ret : c = .ret
  res : W.heap[w.heap.size + 1]? = some (.cells #[.bool false] 4)
  marks : ∀ D ∈ Ds, W.heap[D]? = some (.deferred (some []))
  below : Below w.heap.size w W
  all : (diff_beside.bs diff_beside.lt a b).all q = false
theorem diff_Fits.I.kp {w : World} {s0 s1 : Value} {B : Nat} {Ds : List Nat} {q : S33 × Bool × Bool → Bool} {a b x y : List S33} {W W' : World} (h : diff_Fits.I w s0 s1 Ds q a b x y W) (k : diff_beside.Kp B W W') (h1 : w.heap.size + 1 < B) (h2 : ∀ D ∈ Ds, D < B) : diff_Fits.I w s0 s1 Ds q a b x y W' :=
  ⟨blk_kept h.box k.1 (by omega), blk_kept h.res k.1 (by omega), fun D hD => blk_kept (h.marks D hD) k.1 (by have := h2 D hD; omega), h.below.trans (k.2.mono (by omega)), h.all⟩
theorem diff_Fits.I.put {w : World} {s0 s1 : Value} {n0 l : Nat} {Ds : List Nat} {q : S33 × Bool × Bool → Bool} {a b x y : List S33} {W : World} (h : diff_Fits.I w s0 s1 Ds q a b x y W) (hn : n0 ≤ l) (h1 : w.heap.size + 1 < n0) (h2 : ∀ D ∈ Ds, D < n0) (o' : Obj) : diff_Fits.I w s0 s1 Ds q a b x y (W.putObj l o') :=
  ⟨(World.putObj_heap_other (by omega)).trans h.box, (World.putObj_heap_other (by omega)).trans h.res, fun D hD => (World.putObj_heap_other (by have := h2 D hD; omega)).trans (h.marks D hD), h.below.grown (grownBy_putObj' W l o') h.below.size (fun i e => by cases e; omega), h.all⟩
theorem diff_Fits.O.put {w : World} {n0 l : Nat} {Ds : List Nat} {q : S33 × Bool × Bool → Bool} {a b : List S33} {c : Code} {W : World} (h : diff_Fits.O w Ds q a b c W) (hn : n0 ≤ l) (h1 : w.heap.size + 1 < n0) (h2 : ∀ D ∈ Ds, D < n0) (o' : Obj) : diff_Fits.O w Ds q a b c (W.putObj l o') :=
  ⟨h.ret, (World.putObj_heap_other (by omega)).trans h.res, fun D hD => (World.putObj_heap_other (by have := h2 D hD; omega)).trans (h.marks D hD), h.below.grown (grownBy_putObj' W l o') h.below.size (fun i e => by cases e; omega), h.all⟩
theorem diff_Fits.I.below_ {w : World} {s0 s1 : Value} {Ds : List Nat} {q : S33 × Bool × Bool → Bool} {a b x y : List S33} {W W' : World} (h : diff_Fits.I w s0 s1 Ds q a b x y W) (hb : Below W.heap.size W W') : diff_Fits.I w s0 s1 Ds q a b x y W' :=
  ⟨blk_below h.box hb, blk_below h.res hb, fun D hD => blk_below (h.marks D hD) hb, below_step h.below hb, h.all⟩
theorem diff_Fits.all_next {lt : S33 → S33 → Bool} {q : S33 × Bool × Bool → Bool} {x y x' y' : List S33} {t : S33 × Bool × Bool} (h : diff_beside.next lt x y = some (t, x', y')) : (diff_beside.bs lt x y).all q = (q t && (diff_beside.bs lt x' y').all q) := by
  rw [diff_beside.bs_next lt x y, h]
  rfl
theorem diff_Fits.results_b {fn : Func} {p : Tmp} (h : fn.results = #[.cell p 4]) (tmps : Array Value) (w : World) (g : Nat) (v : Value) (hp : tmps.getD p undef = .pointer (some ⟨g, 0, none⟩)) (hc : w.cell? ⟨g, 0, none⟩ = some v) :
    (results fn tmps).run Tryd.prog w = .ok v w := by
  have h1 : tmps[p]?.getD undef = .pointer (some ⟨g, 0, none⟩) := by simpa using hp
  simp [results, h, h1, asAddr, loadVar, Tryd.isAgg4, hc, go_sem]
section
open Go.Shelf
attribute [local go_sem] Oper.semAt_some
set_option maxRecDepth 100000 in
set_option maxHeartbeats 4000000 in
theorem diff_Fits.calls (k : Nat) (A0_0 : Option Addr) (c0_0 : Nat) (l0_0 : List S33) (A0_1 : Option Addr) (c0_1 : Nat) (l0_1 : List S33) (A1 : Option Addr) (c1 : Nat) (l1 : List S33) (r : Bool) (w : World) (hr0_0 : Kd.C k33 w A0_0 l0_0.length l0_0) (hc0_0 : l0_0.length ≤ c0_0) (hr0_1 : Kd.C k33 w A0_1 l0_1.length l0_1) (hc0_1 : l0_1.length ≤ c0_1) (hr1 : Kd.C k33 w A1 l1.length l1) (hc1 : l1.length ≤ c1) (h : diff_Fits.f k l0_0 l0_1 l1 = some r) :
    Calls Tryd.prog 16 #[.agg #[.slice A0_0 l0_0.length c0_0, .slice A0_1 l0_1.length c0_1], .slice A1 l1.length c1] w fun e w' => e = .returned (.bool r) ∧ Below w.heap.size w w' := by
  unfold diff_Fits.f at h
  obtain ⟨bq, hb, h⟩ := Option.bind_eq_some_iff.mp h
  have hu26 := Tryd.underlying26
  obtain ⟨s0, hs0⟩ : ∃ s0, s0 = Value.slice A0_0 l0_0.length c0_0 := ⟨_, rfl⟩
  obtain ⟨s1, hs1⟩ : ∃ s1, s1 = Value.slice A0_1 l0_1.length c0_1 := ⟨_, rfl⟩
  obtain ⟨Wa, hWa⟩ : ∃ Wa, Wa = (w.alloc (.cells #[.slice A0_0 l0_0.length c0_0, .slice A0_1 l0_1.length c0_1] 26)).alloc (.cells #[.bool false] 4) := ⟨_, rfl⟩
  have hba : Below w.heap.size w Wa := by rw [hWa]; exact below_alloc (below_alloc (Below.refl _ _) _) _
  have hra : Wa.heap[w.heap.size]? = some (.cells #[.slice A0_0 l0_0.length c0_0, .slice A0_1 l0_1.length c0_1] 26) := by rw [hWa]; exact blk_alloc (blk_new _ _) _
  have hrb : Wa.heap[w.heap.size + 1]? = some (.cells #[.bool false] 4) := by rw [hWa]; have := blk_new (w.alloc (.cells #[.slice A0_0 l0_0.length c0_0, .slice A0_1 l0_1.length c0_1] 26)) (.cells #[.bool false] 4); rwa [World.size_alloc] at this
  have hC := diff_Pairs.litC (W := Wa) (vs := [.slice A0_0 l0_0.length c0_0, .slice A0_1 l0_1.length c0_1, .slice A1 l1.length c1]) (xs := [l0_0, l0_1, l1]) rfl (by simp) (fun j x hj => by
    rcases j with _ | _ | _ | j
    · cases hj; exact ⟨A0_0, c0_0, rfl, hc0_0, Kd.C_below hr0_0 hba⟩
    · cases hj; exact ⟨A0_1, c0_1, rfl, hc0_1, Kd.C_below hr0_1 hba⟩
    · cases hj; exact ⟨A1, c1, rfl, hc1, Kd.C_below hr1 hba⟩
    · simp at hj)
  have hK := diff_clean.calls k _ 3 [l0_0, l0_1, l1] bq _ hC (Nat.le_refl _) hb
  have hz : Wa.heap.size = w.heap.size + 1 + 1 := by rw [hWa]; simp only [World.size_alloc]
  rw [hz] at hK
  have HC := Aside0.mk (And.intro (And.intro hr0_0 (And.intro hr0_1 hr1)) (And.intro hc0_0 (And.intro hc0_1 hc1)))
  have HA := Aside0.mk (And.intro hba (And.intro hra hrb))
  clear hr0_0 hr0_1 hr1 hc0_0 hc0_1 hc1 hba hra hrb hC hb hs0 hs1
  subst hWa
  clear hz
  have H := Aside0.mk h
  clear h
  have FB := Aside0.mk fun (W : World) (gh : W.heap[w.heap.size]? = some (.cells #[.slice A0_0 l0_0.length c0_0, .slice A0_1 l0_1.length c0_1] 26)) => And.intro ((blk_cell gh 0).trans rfl : W.cell? ⟨w.heap.size, 0, none⟩ = some (.slice A0_0 l0_0.length c0_0)) ((blk_cell gh 1).trans rfl : W.cell? ⟨w.heap.size, 1, none⟩ = some (.slice A0_1 l0_1.length c0_1))
  have RB := Aside0.mk fun (W : World) (gh : W.heap[w.heap.size + 1]? = some (.cells #[.bool false] 4)) => And.intro ((blk_cell gh 0).trans rfl : W.cell? ⟨w.heap.size + 1, 0, none⟩ = some (.bool false)) (blk_frozen gh 0)
  refine (callsIn_wide (n := 5)).1 ?_
  refine callsIn_of_wp_marks Tryd.func16 rfl trivial ?_ rfl
  simp only [Tryd.ntmps16, List.size_toArray, List.length_cons, List.length_nil, Nat.reduceAdd, Nat.reduceSub, Array.replicate_succ, Array.replicate_zero, List.push_toArray, List.append_toArray, List.nil_append, List.cons_append]
  refine wpIn_wide.2 ?_
  cases bq with
  | false =>
    have h := H.out
    rw [if_neg (by decide)] at h
    obtain rfl : false = r := by simpa using h
    clear h H
    go_wp2_with (first | (go_at_call 17; refine Calls.mono hK ?_; rintro e w1 ⟨rfl, hb1⟩; have hg1 := blk_below (blk_alloc HA.out.2.2 _) hb1; have HG1 := Aside0.mk hg1; have HX1 := Aside0.mk (below_step (below_alloc HA.out.1 _) hb1); obtain ⟨z0, q0⟩ := RB.out w1 hg1; clear hg1 hb1 hK))
    refine ⟨_, diff_Fits.results_b rfl _ _ (w.heap.size + 1) _ rfl ((blk_cell (blk_put (cs' := #[.bool false]) HG1.out 0 _ rfl) 0).trans rfl), ?_⟩
    exact ⟨rfl, below_set HX1.out (by omega)⟩
  | true =>
    have h := H.out
    rw [if_pos rfl] at h
    split at h
    case isFalse => cases h
    case isTrue hlen =>
    obtain rfl : ((diff_beside.bs diff_beside.lt l0_0 l1).all diff_Fits.q1 && (diff_beside.bs diff_beside.lt l0_1 l1).all diff_Fits.q2) = r := by simpa using h
    clear h H
    have HL := Aside0.mk hlen
    clear hlen
    go_wp2_with (first | (go_at_call 17; refine Calls.mono hK ?_; rintro e w1 ⟨rfl, hb1⟩; have hg1 := blk_below (blk_alloc HA.out.2.1 _) hb1; have HG1 := Aside0.mk hg1; have HR1 := Aside0.mk (blk_below (blk_alloc HA.out.2.2 _) hb1); have HX1 := Aside0.mk (below_step (below_alloc HA.out.1 _) hb1); obtain ⟨z0, z1⟩ := FB.out w1 hg1; clear hg1 hb1 hK) | (go_at_call 18; refine Calls.mono (diff_beside.call A0_0 A1 _ _ c0_0 c1 _) ?_; rintro e w3 ⟨rfl, hw3⟩))
    clear z0 z1
    have hF0 := diff_Pairs.F_in HX1.out (Kd.C_F diff_beside.heap HC.out.1.1)
    have hF1 := diff_Pairs.F_in HX1.out (Kd.C_F diff_beside.heap HC.out.1.2.2)
    obtain ⟨hbx, hby, hk3, hz3⟩ := diff_beside.made (w := w1) rfl hF0 hF1 HC.out.2.1 HC.out.2.2.2
    generalize (w1.alloc (Obj.cells #[Value.slice A0_0 l0_0.length c0_0] 22)).alloc (Obj.cells #[Value.slice A1 l1.length c1] 22) = w3 at hbx hby hk3 hz3 ⊢
    have hlt2 : w.heap.size + 1 < w1.heap.size := blk_lt HR1.out
    refine diff_beside.over w1.heap.size (fun k => k < w.heap.size) l0_0 l1 rfl (fun k hk => by omega) (fun k hk => by omega) hbx hby (by have := HL.out; omega) (diff_Fits.I w (.slice A0_0 l0_0.length c0_0) (.slice A0_1 l0_1.length c0_1) [] diff_Fits.q1 l0_0 l1) (diff_Fits.O w [] diff_Fits.q1 l0_0 l1)
      (fun x y W W' h k _ _ => h.kp k hlt2 (by simp)) (fun x y W l o o' h hl ho hn => h.put hn (by omega) (by simp) o') (fun c W l o o' h hl ho hn => h.put hn (by omega) (by simp) o')
      (fun W hb => ⟨blk_below (blk_below HG1.out hk3) hb, blk_below (blk_below HR1.out hk3) hb, by simp, below_step (below_step HX1.out hk3) hb, rfl⟩) ?hround ?hdone ?hstop
    case hround =>
      intro x y t x' y' l W hI hnx hzW
      obtain ⟨p, f, s⟩ := t
      obtain ⟨q0, q1⟩ := p
      dsimp only
      simp only [List.setIfInBounds_toArray, List.set_cons_zero, List.set_cons_succ]
      have HI := Aside0.mk hI
      have HNX := Aside0.mk hnx
      have HZ := Aside0.mk (And.intro hlt2 hz3)
      clear hI hnx hzW hlt2 hz3 hbx hby hk3 hF0 hF1
      gi_wp2
      have hb4 : Below W.heap.size W (W.alloc (.cells #[.bool f, .bool s] 51)) := below_alloc (Below.refl _ _) _
      have HW4 := Aside0.mk (blk_new W (.cells #[.bool f, .bool s] 51))
      have HI4 := Aside0.mk (HI.out.below_ hb4)
      obtain ⟨gw, hgw⟩ : ∃ gw, gw = W.heap.size := ⟨_, rfl⟩
      refine ⟨diff_beside.Off.below hb4, ?_⟩
      generalize W.alloc (.cells #[.bool f, .bool s] 51) = W4 at hb4 HW4 HI4 ⊢
      rw [← hgw] at HW4 ⊢
      clear hgw
      intro o o' hlo hoc hl0
      obtain ⟨hlt2, hz3⟩ := HZ.out
      have hwl : gw ≠ l := fun e => by have h := HW4.out; rw [e, hlo] at h; cases h; cases hoc
      have HIB := HI4.out.put hl0 (by omega) (by simp) o'
      have HWB := Aside0.mk (diff_beside.put_other (o' := o') HW4.out hwl)
      clear HW4 HI4 hlo hb4 hwl hoc hl0 hlt2 hz3
      generalize W4.putObj l o' = WB at HIB HWB ⊢
      have z0 : WB.cell? ⟨gw, 0, none⟩ = some (.bool f) := (blk_cell HWB.out 0).trans rfl
      have z1 : WB.cell? ⟨gw, 1, none⟩ = some (.bool s) := (blk_cell HWB.out 1).trans rfl
      obtain ⟨r0, rf0⟩ := RB.out WB HIB.res
      have HB := Aside0.mk HIB
      clear HIB
      cases s with
      | true =>
        gi_wp2
        exact ⟨diff_beside.Off.refl _ _ _, HB.out.box, HB.out.res, HB.out.marks, HB.out.below, by rw [← HB.out.all, diff_Fits.all_next HNX.out]; simp [diff_Fits.q1]⟩
      | false =>
        gi_wp2
        obtain ⟨hlt2, hz3⟩ := HZ.out
        exact ⟨diff_beside.Off.set (p := ⟨w.heap.size + 1, 0, none⟩) HB.out.res (show w.heap.size + 1 ≠ w1.heap.size by omega) (show w.heap.size + 1 ≠ w1.heap.size + 1 by omega) (show ¬ w.heap.size + 1 < w.heap.size by omega) _, rfl, blk_put (cs' := #[.bool false]) HB.out.res 0 _ rfl, fun D hD => (Below.heap_setCell _ _ _ D (show D ≠ w.heap.size + 1 by simp at hD)).trans (HB.out.marks D hD), below_set HB.out.below (by omega), by rw [← HB.out.all, diff_Fits.all_next HNX.out]; simp [diff_Fits.q1]⟩
    case hstop =>
      rintro D c W hD hO hd
      obtain rfl := hO.ret
      have hdd := hd
      have HO := Aside0.mk hO
      have HZ := Aside0.mk (And.intro hlt2 (And.intro hz3 hD))
      have HD := Aside0.mk hd
      clear hO hd hdd hlt2 hz3 hD hbx hby hk3 hF0 hF1
      go_wp2
      obtain ⟨hlt2, hz3, hD⟩ := HZ.out
      refine ⟨by simp, .inl ⟨_, _, rfl, run_takeDeferred HD.out, ?_⟩⟩
      refine ⟨_, diff_Fits.results_b rfl _ _ (w.heap.size + 1) _ rfl ((blk_cell ((World.putObj_heap_other (show w.heap.size + 1 ≠ D by omega)).trans HO.out.res) 0).trans rfl), ?_⟩
      rw [HO.out.all]
      exact ⟨rfl, HO.out.below.grown (grownBy_putObj' _ D _) HO.out.below.size (fun i e => by cases e; omega)⟩
    case hdone =>
      intro D W hD hI hd
      obtain ⟨z0, z1⟩ := FB.out W hI.box
      have HI := Aside0.mk hI
      have HD := Aside0.mk hd
      have HZ := Aside0.mk (And.intro hlt2 (And.intro hz3 hD))
      clear hI hd hlt2 hz3 hD hbx hby hk3 hF0 hF1
      go_wp2_with (first | (go_at_call 18; refine Calls.mono (diff_beside.call A0_1 A1 _ _ c0_1 c1 _) ?_; rintro e w9 ⟨rfl, hw9⟩))
      clear z0 z1
      have hF0 := diff_Pairs.F_in HI.out.below (Kd.C_F diff_beside.heap HC.out.1.2.1)
      have hF1 := diff_Pairs.F_in HI.out.below (Kd.C_F diff_beside.heap HC.out.1.2.2)
      obtain ⟨hbx, hby, hk9, hz9⟩ := diff_beside.made (w := W) rfl hF0 hF1 HC.out.2.2.1 HC.out.2.2.2
      generalize (W.alloc (Obj.cells #[Value.slice A0_1 l0_1.length c0_1] 22)).alloc (Obj.cells #[Value.slice A1 l1.length c1] 22) = w9 at hbx hby hk9 hz9 ⊢
      have hltD : D < W.heap.size := blk_lt HD.out
      have hltR : w.heap.size + 1 < W.heap.size := blk_lt HI.out.res
      have hltw : w.heap.size + 1 < D := by have h := HZ.out; omega
      refine diff_beside.over W.heap.size (fun k => k < w.heap.size) l0_1 l1 rfl (fun k hk => by omega) (fun k hk => by omega) hbx hby (by have := HL.out; omega) (diff_Fits.I w (.slice A0_0 l0_0.length c0_0) (.slice A0_1 l0_1.length c0_1) [D] diff_Fits.q2 l0_1 l1) (diff_Fits.O w [D] diff_Fits.q2 l0_1 l1)
        (fun x y W W' h k _ _ => h.kp k hltR (by simpa using hltD)) (fun x y W l o o' h hl ho hn => h.put hn (by omega) (by simp; omega) o') (fun c W l o o' h hl ho hn => h.put hn (by omega) (by simp; omega) o')
        (fun W' hb => ⟨blk_below (blk_below HI.out.box hk9) hb, blk_below (blk_below HI.out.res hk9) hb, by intro D' hD'; rw [List.mem_singleton.mp hD']; exact blk_below (blk_below HD.out hk9) hb, below_step (below_step HI.out.below hk9) hb, rfl⟩) ?hround2 ?hdone2 ?hstop2
      case hround2 =>
        have HI1 := HI
        clear HI
        intro x y t x' y' l W' hI hnx hzW
        obtain ⟨p, f, s⟩ := t
        obtain ⟨q0, q1⟩ := p
        dsimp only
        simp only [List.setIfInBounds_toArray, List.set_cons_zero, List.set_cons_succ]
        have HI := Aside0.mk hI
        have HNX := Aside0.mk hnx
        have HZ2 := Aside0.mk (And.intro hltD (And.intro hltR (And.intro hltw hz9)))
        clear hI hnx hzW hltD hltR hltw hz9 hbx hby hk9 hF0 hF1
        gi_wp2
        have hb4 : Below W'.heap.size W' (W'.alloc (.cells #[.bool f, .bool s] 51)) := below_alloc (Below.refl _ _) _
        have HW4 := Aside0.mk (blk_new W' (.cells #[.bool f, .bool s] 51))
        have HI4 := Aside0.mk (HI.out.below_ hb4)
        obtain ⟨gw, hgw⟩ : ∃ gw, gw = W'.heap.size := ⟨_, rfl⟩
        refine ⟨diff_beside.Off.below hb4, ?_⟩
        generalize W'.alloc (.cells #[.bool f, .bool s] 51) = W4 at hb4 HW4 HI4 ⊢
        rw [← hgw] at HW4 ⊢
        clear hgw
        intro o o' hlo hoc hl0
        obtain ⟨hltD, hltR, hltw, hz9⟩ := HZ2.out
        have hwl : gw ≠ l := fun e => by have h := HW4.out; rw [e, hlo] at h; cases h; cases hoc
        have HIB := HI4.out.put hl0 (by omega) (by simp; omega) o'
        have HWB := Aside0.mk (diff_beside.put_other (o' := o') HW4.out hwl)
        clear HW4 HI4 hlo hb4 hwl hoc hl0 hltD hltR hltw hz9
        generalize W4.putObj l o' = WB at HIB HWB ⊢
        have z0 : WB.cell? ⟨gw, 0, none⟩ = some (.bool f) := (blk_cell HWB.out 0).trans rfl
        have z1 : WB.cell? ⟨gw, 1, none⟩ = some (.bool s) := (blk_cell HWB.out 1).trans rfl
        obtain ⟨r0, rf0⟩ := RB.out WB HIB.res
        have HB := Aside0.mk HIB
        clear HIB
        cases f with
        | false =>
          have hq : decide False = false := rfl
          gi_wp2
          exact ⟨diff_beside.Off.refl _ _ _, HB.out.box, HB.out.res, HB.out.marks, HB.out.below, by rw [← HB.out.all, diff_Fits.all_next HNX.out]; simp [diff_Fits.q2]⟩
        | true =>
          cases s with
          | false =>
            gi_wp2
            exact ⟨diff_beside.Off.refl _ _ _, HB.out.box, HB.out.res, HB.out.marks, HB.out.below, by rw [← HB.out.all, diff_Fits.all_next HNX.out]; simp [diff_Fits.q2]⟩
          | true =>
            gi_wp2
            obtain ⟨hltD, hltR, hltw, hz9⟩ := HZ2.out
            exact ⟨diff_beside.Off.set (p := ⟨w.heap.size + 1, 0, none⟩) HB.out.res (show w.heap.size + 1 ≠ W.heap.size by omega) (show w.heap.size + 1 ≠ W.heap.size + 1 by omega) (show ¬ w.heap.size + 1 < w.heap.size by omega) _, rfl, blk_put (cs' := #[.bool false]) HB.out.res 0 _ rfl, fun D hD => (Below.heap_setCell _ _ _ D (show D ≠ w.heap.size + 1 by rw [List.mem_singleton.mp hD]; omega)).trans (HB.out.marks D hD), below_set HB.out.below (by omega), by rw [← HB.out.all, diff_Fits.all_next HNX.out]; simp [diff_Fits.q2]⟩
      case hdone2 =>
        intro D2 W2 hD2 hI2 hd2
        obtain ⟨z0, zf0⟩ := RB.out W2 hI2.res
        have HI2 := Aside0.mk hI2
        have HZ2 := Aside0.mk (And.intro hltD (And.intro hltR (And.intro hltw (And.intro hz9 hD2))))
        have HD2_ := Aside0.mk hd2
        clear hI2 hd2 hltD hltR hltw hz9 hD2 hbx hby hk9 hF0 hF1
        go_wp2
        obtain ⟨hltD, hltR, hltw, hz9, hD2⟩ := HZ2.out
        have HM1 := (Below.heap_setCell W2 ⟨w.heap.size + 1, 0, none⟩ (.bool true) D (show D ≠ w.heap.size + 1 by omega)).trans (HI2.out.marks D (by simp))
        have HD2 := Aside0.mk ((Below.heap_setCell W2 ⟨w.heap.size + 1, 0, none⟩ (.bool true) D2 (show D2 ≠ w.heap.size + 1 by omega)).trans HD2_.out)
        have hres := blk_put (cs' := #[.bool true]) HI2.out.res 0 (.bool true) rfl
        have hb0 : Below w.heap.size w (W2.setCell ⟨w.heap.size + 1, 0, none⟩ (.bool true)) := below_set HI2.out.below (by omega)
        refine ⟨by simp, .inl ⟨_, _, rfl, run_takeDeferred HD2.out, ?_⟩⟩
        refine ⟨by simp, .inl ⟨_, _, rfl, run_takeDeferred ((World.putObj_heap_other (show D ≠ D2 by omega)).trans HM1), ?_⟩⟩
        refine ⟨_, diff_Fits.results_b rfl _ _ (w.heap.size + 1) _ rfl ((blk_cell ((World.putObj_heap_other (show w.heap.size + 1 ≠ D by omega)).trans ((World.putObj_heap_other (show w.heap.size + 1 ≠ D2 by omega)).trans hres)) 0).trans rfl), ?_⟩
        have e1 : (diff_beside.bs diff_beside.lt l0_0 l1).all diff_Fits.q1 = true := by rw [← HI.out.all]; simp [diff_beside.bs]
        have e2 : (diff_beside.bs diff_beside.lt l0_1 l1).all diff_Fits.q2 = true := by rw [← HI2.out.all]; simp [diff_beside.bs]
        rw [e1, e2]
        have h1 := hb0.grown (grownBy_putObj' _ D2 (.deferred none)) hb0.size (fun i e => by cases e; omega)
        exact ⟨rfl, h1.grown (grownBy_putObj' _ D _) h1.size (fun i e => by cases e; omega)⟩
      case hstop2 =>
        rintro D2 c W2 hD2 hO hd2
        obtain rfl := hO.ret
        have HO := Aside0.mk hO
        have HZ2 := Aside0.mk (And.intro hltD (And.intro hltR (And.intro hltw (And.intro hz9 hD2))))
        have HD2 := Aside0.mk hd2
        clear hO hd2 hltD hltR hltw hz9 hD2 hbx hby hk9 hF0 hF1
        go_wp2
        obtain ⟨hltD, hltR, hltw, hz9, hD2⟩ := HZ2.out
        have HM1 := HO.out.marks D (by simp)
        refine ⟨by simp, .inl ⟨_, _, rfl, run_takeDeferred HD2.out, ?_⟩⟩
        refine ⟨by simp, .inl ⟨_, _, rfl, run_takeDeferred ((World.putObj_heap_other (show D ≠ D2 by omega)).trans HM1), ?_⟩⟩
        refine ⟨_, diff_Fits.results_b rfl _ _ (w.heap.size + 1) _ rfl ((blk_cell ((World.putObj_heap_other (show w.heap.size + 1 ≠ D by omega)).trans ((World.putObj_heap_other (show w.heap.size + 1 ≠ D2 by omega)).trans HO.out.res)) 0).trans rfl), ?_⟩
        rw [HO.out.all, Bool.and_false]
        have h1 := HO.out.below.grown (grownBy_putObj' _ D2 (.deferred none)) HO.out.below.size (fun i e => by cases e; omega)
        exact ⟨rfl, h1.grown (grownBy_putObj' _ D _) h1.size (fun i e => by cases e; omega)⟩
end


/-! ### chainmanlaw50_awake: function 6 -/
def chainmanlaw50_awake.f (k : Nat)  : Option (Bool) := (diff_Pairs.f k (([(⟨0, 1⟩ : S33)] : List (S33))) (([(⟨0, 2⟩ : S33)] : List (S33)))).bind fun bt182 => (if bt182.2.2 = true then ((diff_Text.f k bt182.1 bt182.2.1).bind fun t190 => (if t190.toList = ([45, 32, 48, 32, 49, 10, 43, 32, 48, 32, 50, 10] : List UInt8) then ((diff_Fits.f k bt182.1 bt182.2.1 (([(⟨0, 1⟩ : S33)] : List (S33)))).bind fun t194 => (if t194 = true then ((diff_Fits.f k bt182.1 bt182.2.1 ([] : List (S33))).bind fun t195 => (some (!t195))) else (none))) else (none))) else (none))
theorem chainmanlaw50_awake.mono : ∀ k, LeO (chainmanlaw50_awake.f k ) (chainmanlaw50_awake.f (k + 1) ) := by
  intro  k
  unfold chainmanlaw50_awake.f
  repeat' first
      | (with_reducible exact diff_Fits.mono _ _ _ _)
      | (with_reducible exact diff_Pairs.mono _ _ _)
      | (with_reducible exact diff_Text.mono _ _ _)
      | (with_reducible exact LeO.refl _)
      | (with_reducible exact LeO.none _)
      | (with_reducible refine LeO.ite ?_ ?_)
      | (with_reducible refine LeO.bind ?_ (fun _ => ?_))
      | exact diff_Fits.mono _ _ _ _
      | exact diff_Pairs.mono _ _ _
      | exact diff_Text.mono _ _ _
      | exact LeO.none _
      | refine LeO.ite ?_ ?_
      | refine LeO.bind ?_ (fun _ => ?_)
set_option maxHeartbeats 8000000 in
set_option maxRecDepth 100000 in
theorem chainmanlaw50_awake.calls (k : Nat)  (r : Bool) (w : World) (h : chainmanlaw50_awake.f k  = some r) :
    Calls Tryd.prog 6 #[] w fun e w' => e = .returned (.bool r) ∧ Below w.heap.size w w' := by
  have hu33 := Tryd.underlying33
  have hu26 := Tryd.underlying26
  have HB := Aside0.mk (Below.refl w.heap.size w)
  have H : ((diff_Pairs.f k (([(⟨0, 1⟩ : S33)] : List (S33))) (([(⟨0, 2⟩ : S33)] : List (S33)))).bind fun bt182 => (if bt182.2.2 = true then ((diff_Text.f k bt182.1 bt182.2.1).bind fun t190 => (if t190.toList = ([45, 32, 48, 32, 49, 10, 43, 32, 48, 32, 50, 10] : List UInt8) then ((diff_Fits.f k bt182.1 bt182.2.1 (([(⟨0, 1⟩ : S33)] : List (S33)))).bind fun t194 => (if t194 = true then ((diff_Fits.f k bt182.1 bt182.2.1 ([] : List (S33))).bind fun t195 => (some (!t195))) else (none))) else (none))) else (none))) = some r := h
  clear h
  obtain ⟨y176, hy176⟩ : ∃ y_ : List (S33), y_ = (([(⟨0, 1⟩ : S33)] : List (S33))) := ⟨_, rfl⟩
  replace H : ((diff_Pairs.f k y176 (([(⟨0, 2⟩ : S33)] : List (S33)))).bind fun bt182 => (if bt182.2.2 = true then ((diff_Text.f k bt182.1 bt182.2.1).bind fun t190 => (if t190.toList = ([45, 32, 48, 32, 49, 10, 43, 32, 48, 32, 50, 10] : List UInt8) then ((diff_Fits.f k bt182.1 bt182.2.1 (([(⟨0, 1⟩ : S33)] : List (S33)))).bind fun t194 => (if t194 = true then ((diff_Fits.f k bt182.1 bt182.2.1 ([] : List (S33))).bind fun t195 => (some (!t195))) else (none))) else (none))) else (none))) = some r := by first | (rw [hy176]; with_reducible exact H) | (have H2_ := (Option.bind_some _ _).symm.trans H; rw [hy176]; with_reducible exact H2_) | (have H2_ := (Option.bind_some _ _).symm.trans H; with_reducible exact H2_) | with_reducible exact H | (rw [hy176]; exact H) | exact H
  have Ny176 := Aside0.mk hy176
  clear hy176
  obtain ⟨y179, hy179⟩ : ∃ y_ : List (S33), y_ = (([(⟨0, 2⟩ : S33)] : List (S33))) := ⟨_, rfl⟩
  replace H : ((diff_Pairs.f k y176 y179).bind fun bt182 => (if bt182.2.2 = true then ((diff_Text.f k bt182.1 bt182.2.1).bind fun t190 => (if t190.toList = ([45, 32, 48, 32, 49, 10, 43, 32, 48, 32, 50, 10] : List UInt8) then ((diff_Fits.f k bt182.1 bt182.2.1 (([(⟨0, 1⟩ : S33)] : List (S33)))).bind fun t194 => (if t194 = true then ((diff_Fits.f k bt182.1 bt182.2.1 ([] : List (S33))).bind fun t195 => (some (!t195))) else (none))) else (none))) else (none))) = some r := by first | (rw [hy179]; with_reducible exact H) | (have H2_ := (Option.bind_some _ _).symm.trans H; rw [hy179]; with_reducible exact H2_) | (have H2_ := (Option.bind_some _ _).symm.trans H; with_reducible exact H2_) | with_reducible exact H | (rw [hy179]; exact H) | exact H
  have Ny179 := Aside0.mk hy179
  clear hy179
  replace H := Option.bind_eq_some_iff.mp H
  obtain ⟨⟨t182, t185, t188⟩, A10, H⟩ := H
  replace H : (if t188 = true then ((diff_Text.f k t182 t185).bind fun t190 => (if t190.toList = ([45, 32, 48, 32, 49, 10, 43, 32, 48, 32, 50, 10] : List UInt8) then ((diff_Fits.f k t182 t185 (([(⟨0, 1⟩ : S33)] : List (S33)))).bind fun t194 => (if t194 = true then ((diff_Fits.f k t182 t185 ([] : List (S33))).bind fun t195 => (some (!t195))) else (none))) else (none))) else (none)) = some r := H
  have A1 := Aside0.mk A10
  clear A10
  by_cases c2 : t188 = true
  · subst c2
    have H1 : ((diff_Text.f k t182 t185).bind fun t190 => (if t190.toList = ([45, 32, 48, 32, 49, 10, 43, 32, 48, 32, 50, 10] : List UInt8) then ((diff_Fits.f k t182 t185 (([(⟨0, 1⟩ : S33)] : List (S33)))).bind fun t194 => (if t194 = true then ((diff_Fits.f k t182 t185 ([] : List (S33))).bind fun t195 => (some (!t195))) else (none))) else (none))) = some r := by rw [if_pos rfl] at H; exact H
    clear H
    have H := H1
    clear H1
    replace H := Option.bind_eq_some_iff.mp H
    obtain ⟨t190, A30, H⟩ := H
    replace H : (if t190.toList = ([45, 32, 48, 32, 49, 10, 43, 32, 48, 32, 50, 10] : List UInt8) then ((diff_Fits.f k t182 t185 (([(⟨0, 1⟩ : S33)] : List (S33)))).bind fun t194 => (if t194 = true then ((diff_Fits.f k t182 t185 ([] : List (S33))).bind fun t195 => (some (!t195))) else (none))) else (none)) = some r := H
    have A3 := Aside0.mk A30
    clear A30
    by_cases c4 : t190.toList = ([45, 32, 48, 32, 49, 10, 43, 32, 48, 32, 50, 10] : List UInt8)
    · rw [if_pos c4] at H
      have c4b0 : (t190.toList == ([45, 32, 48, 32, 49, 10, 43, 32, 48, 32, 50, 10] : List UInt8)) = true := beq_iff_eq.mpr c4
      have c4b1 : (t190.toList != ([45, 32, 48, 32, 49, 10, 43, 32, 48, 32, 50, 10] : List UInt8)) = false := bne_eq_false_iff_eq.mpr c4
      clear c4
      obtain ⟨y191, hy191⟩ : ∃ y_ : List (S33), y_ = (([(⟨0, 1⟩ : S33)] : List (S33))) := ⟨_, rfl⟩
      replace H : ((diff_Fits.f k t182 t185 y191).bind fun t194 => (if t194 = true then ((diff_Fits.f k t182 t185 ([] : List (S33))).bind fun t195 => (some (!t195))) else (none))) = some r := by first | (rw [hy191]; with_reducible exact H) | (have H2_ := (Option.bind_some _ _).symm.trans H; rw [hy191]; with_reducible exact H2_) | (have H2_ := (Option.bind_some _ _).symm.trans H; with_reducible exact H2_) | with_reducible exact H | (rw [hy191]; exact H) | exact H
      have Ny191 := Aside0.mk hy191
      clear hy191
      replace H := Option.bind_eq_some_iff.mp H
      obtain ⟨t194, A50, H⟩ := H
      replace H : (if t194 = true then ((diff_Fits.f k t182 t185 ([] : List (S33))).bind fun t195 => (some (!t195))) else (none)) = some r := H
      have A5 := Aside0.mk A50
      clear A50
      by_cases c6 : t194 = true
      · subst c6
        have H1 : ((diff_Fits.f k t182 t185 ([] : List (S33))).bind fun t195 => (some (!t195))) = some r := by rw [if_pos rfl] at H; exact H
        clear H
        have H := H1
        clear H1
        replace H := Option.bind_eq_some_iff.mp H
        obtain ⟨t195, A70, H⟩ := H
        replace H : (some (!t195)) = some r := H
        have A7 := Aside0.mk A70
        clear A70
        obtain rfl := Option.some.inj H
        go_enter Tryd.func6, Tryd.ntmps6
        go_wp2_with (first | ((with_reducible refine gate_dst (N := 5) rfl ?_); (try (refine gate_guard (by rfl) ?_; dsimp only)); refine Kd.R_lit k33 _ 33 ?hg (N := 5) ?hd (xs := ([(⟨0, 1⟩ : S33)] : List (S33))) (inner := [.int .i64 0, .int .i64 1]) (ok := fun _ => True) (okp := fun _ => True) ?hr ?hp (fun _ hk => hk) trivial (Below.refl _ _) (Nat.le_refl _) (by simp) ?_; (case hd => rfl); (case hg => rfl); (case hr => first | (go_simp; done) | (go_simp; rfl)); (case hp => exact (Reps.c2 (show Kd.M k33 _ _ _ (⟨0, 1⟩ : S33) [.int .i64 0, .int .i64 1] from (k33_mkM _ _ _ (⟨0, 1⟩ : S33) )) (Reps.none _ _))); intro v177 w8 ho9 hb hg_ hnew_; clear hg_ hnew_; (first | rw [← Ny176.out] at ho9 | (simp only [Int.reduceToNat] at ho9; rw [← Ny176.out] at ho9)); have n0_ := Aside0.mk (Kd.R_lower ho9 (below_size (by repeat (first | (with_reducible first | exact HB.out | apply below_alloc | apply pw_below_drewN | apply below_drew1) | exact HB.out)))); have n1_ := Aside0.mk (below_step (by repeat (first | (with_reducible first | exact HB.out | apply below_alloc | apply pw_below_drewN | apply below_drew1) | exact HB.out)) hb); clear HB; have HO178 := n0_; have HB := n1_; clear n0_ n1_; clear hb ho9) | ((with_reducible refine gate_dst (N := 7) rfl ?_); (try (refine gate_guard (by rfl) ?_; dsimp only)); refine Kd.R_lit k33 _ 33 ?hg (N := 7) ?hd (xs := ([(⟨0, 2⟩ : S33)] : List (S33))) (inner := [.int .i64 0, .int .i64 2]) (ok := fun _ => True) (okp := fun _ => True) ?hr ?hp (fun _ hk => hk) trivial (Below.refl _ _) (Nat.le_refl _) (by simp) ?_; (case hd => rfl); (case hg => rfl); (case hr => first | (go_simp; done) | (go_simp; rfl)); (case hp => exact (Reps.c2 (show Kd.M k33 _ _ _ (⟨0, 2⟩ : S33) [.int .i64 0, .int .i64 2] from (k33_mkM _ _ _ (⟨0, 2⟩ : S33) )) (Reps.none _ _))); intro v180 w10 ho11 hb hg_ hnew_; clear hg_ hnew_; (first | rw [← Ny179.out] at ho11 | (simp only [Int.reduceToNat] at ho11; rw [← Ny179.out] at ho11)); have n0_ := Aside0.mk (Kd.R_elder' (by (with_reducible repeat (first | apply Kd.R_alloc | apply Kd.R_drewN | apply Kd.R_drew)); exact HO178.out) (Kd.R_base ho11) hb); have n1_ := Aside0.mk (Kd.R_lower (Kd.R_new' ho11 (Kd.R_lt (by (with_reducible repeat (first | apply Kd.R_alloc | apply Kd.R_drewN | apply Kd.R_drew)); exact HO178.out))) (below_size (by repeat (first | (with_reducible first | exact HB.out | apply below_alloc | apply pw_below_drewN | apply below_drew1) | exact HB.out)))); have n2_ := Aside0.mk (below_step (by repeat (first | (with_reducible first | exact HB.out | apply below_alloc | apply pw_below_drewN | apply below_drew1) | exact HB.out)) hb); clear HO178; clear HB; have HO178 := n0_; have HO181 := n1_; have HB := n2_; clear n0_ n1_ n2_; clear hb ho11; obtain ⟨Ao12, co12, eo12⟩ := Kd.R_slice HO178.out; subst eo12; obtain ⟨Ao13, co13, eo13⟩ := Kd.R_slice HO181.out; subst eo13) | ((with_reducible refine gate_callee (f := 7) rfl ?_); refine goesL_ (some 8) rfl rfl Tryd.func7 (by kernel_rfl) rfl #[.slice Ao12 y176.length co12, .slice Ao13 y179.length co13] rfl (by (try simp only [List.map_toArray, List.map_cons, List.map_nil]); first | done | rfl | (simp only [List.length_drop, List.length_take]; rfl)) ?_; (with_reducible refine (diff_Pairs.calls k _ _ y176 _ _ y179 t182 t185 true _ ?side1 ?side2 ?side3 ?side4 A1.out).mono ?_); (case side1 => repeat (first | exact (Kd.R_reads' HO178.out).2.2 | (with_reducible refine Kd.C_alloc ?_ _) | (with_reducible refine Kd.C_drewN ?_ _) | (with_reducible refine Kd.C_drew ?_))); (case side2 => exact (Kd.R_reads' HO178.out).2.1); (case side3 => repeat (first | exact (Kd.R_reads' HO181.out).2.2 | (with_reducible refine Kd.C_alloc ?_ _) | (with_reducible refine Kd.C_drewN ?_ _) | (with_reducible refine Kd.C_drew ?_))); (case side4 => exact (Kd.R_reads' HO181.out).2.1); rintro e w14 ⟨v183, v186, rfl, ho0, ho1, hb⟩; refine ⟨_, rfl, ?_⟩; have n0_ := Aside0.mk (Kd.R_mono (Kd.R_told (Kd.R_told (Kd.R_old (by (with_reducible repeat (first | apply Kd.R_alloc | apply Kd.R_drewN | apply Kd.R_drew)); exact HO178.out) hb) (Kd.R_base ho0)) (Kd.R_base ho1)) (fun _ h_ => h_.1)); have n1_ := Aside0.mk (Kd.R_mono (Kd.R_told (Kd.R_told (Kd.R_old (by (with_reducible repeat (first | apply Kd.R_alloc | apply Kd.R_drewN | apply Kd.R_drew)); exact HO181.out) hb) (Kd.R_base ho0)) (Kd.R_base ho1)) (fun _ h_ => h_.1)); have n2_ := Aside0.mk (Kd.R_lower (Kd.R_new' (Kd.R_new' ho0 (Kd.R_lt (by (with_reducible repeat (first | apply Kd.R_alloc | apply Kd.R_drewN | apply Kd.R_drew)); exact HO178.out))) (Kd.R_lt (by (with_reducible repeat (first | apply Kd.R_alloc | apply Kd.R_drewN | apply Kd.R_drew)); exact HO181.out))) (below_size (by repeat (first | (with_reducible first | exact HB.out | apply below_alloc | apply pw_below_drewN | apply below_drew1) | exact HB.out)))); have n3_ := Aside0.mk (Kd.R_lower (Kd.R_new' (Kd.R_new' ho1 (Kd.R_lt (by (with_reducible repeat (first | apply Kd.R_alloc | apply Kd.R_drewN | apply Kd.R_drew)); exact HO178.out))) (Kd.R_lt (by (with_reducible repeat (first | apply Kd.R_alloc | apply Kd.R_drewN | apply Kd.R_drew)); exact HO181.out))) (below_size (by repeat (first | (with_reducible first | exact HB.out | apply below_alloc | apply pw_below_drewN | apply below_drew1) | exact HB.out)))); have n4_ := Aside0.mk (below_step (by repeat (first | (with_reducible first | exact HB.out | apply below_alloc | apply pw_below_drewN | apply below_drew1) | exact HB.out)) hb); clear HO178; clear HO181; clear HB; have HO178 := n0_; have HO181 := n1_; have HO184 := n2_; have HO187 := n3_; have HB := n4_; clear n0_ n1_ n2_ n3_ n4_; (try clear hb); (try clear hb2); (try clear hk); (try clear hi); (try clear ho0); (try clear ho1)) | ((with_reducible refine gate_dst (N := 1) rfl ?_); (try (refine gate_guard (by rfl) ?_; dsimp only)); refine box_event ?hg (N := 1) ?hd (cs := #[.slice none 0 0, .slice none 0 0]) (t := 26) ?hr ?_; (case hd => rfl); (case hg => rfl); (case hr => first | (go_simp; done) | (go_simp; rfl)); intro gb189 hg w15 hbox hb; have n0_ := Aside0.mk (Kd.R_below (by (with_reducible repeat (first | apply Kd.R_alloc | apply Kd.R_drewN | apply Kd.R_drew)); exact HO178.out) hb); have n1_ := Aside0.mk (Kd.R_below (by (with_reducible repeat (first | apply Kd.R_alloc | apply Kd.R_drewN | apply Kd.R_drew)); exact HO181.out) hb); have n2_ := Aside0.mk (Kd.R_below (by (with_reducible repeat (first | apply Kd.R_alloc | apply Kd.R_drewN | apply Kd.R_drew)); exact HO184.out) hb); have n3_ := Aside0.mk (Kd.R_below (by (with_reducible repeat (first | apply Kd.R_alloc | apply Kd.R_drewN | apply Kd.R_drew)); exact HO187.out) hb); have n4_ := Aside0.mk (below_step (by repeat (first | (with_reducible first | exact HB.out | apply below_alloc | apply pw_below_drewN | apply below_drew1) | exact HB.out)) hb); have n5_ := Aside0.mk (hbox); have n6_ := Aside0.mk ((by rw [hg]; exact (below_size (by repeat (first | (with_reducible first | exact HB.out | apply below_alloc | apply pw_below_drewN | apply below_drew1) | exact HB.out))) : w.heap.size ≤ gb189)); have n7_ := Aside0.mk ((by rw [hg]; exact (below_size (by repeat (first | (with_reducible first | exact HB.out | apply below_alloc | apply pw_below_drewN | apply below_drew1) | exact HB.out))) : w.heap.size ≤ gb189)); clear HO178; clear HO181; clear HO184; clear HO187; clear HB; have HO178 := n0_; have HO181 := n1_; have HO184 := n2_; have HO187 := n3_; have HB := n4_; have BK189 := n5_; have GW189 := n6_; have GE189 := n7_; clear n0_ n1_ n2_ n3_ n4_ n5_ n6_ n7_; clear hb hbox hg; obtain ⟨Ao16, co16, eo16⟩ := Kd.R_slice HO184.out; subst eo16; have hcz17_0 : w15.cell? ⟨gb189, 0, none⟩ = some (.slice none 0 0) := (blk_cell BK189.out 0).trans rfl; have hcz17_1 : w15.cell? ⟨gb189, 1, none⟩ = some (.slice none 0 0) := (blk_cell BK189.out 1).trans rfl; have hfz17_0 := blk_frozen BK189.out 0; have hfz17_1 := blk_frozen BK189.out 1; obtain ⟨Ao18, co18, eo18⟩ := Kd.R_slice HO187.out; subst eo18) | (go_at_call 11; (with_reducible refine (diff_Text.calls k _ _ t182 _ _ t185 t190 _ ?side1 ?side2 ?side3 ?side4 A3.out).mono ?_); (case side1 => refine (Kd.R_reads' (e := 33) (base := w.heap.size) (ok := fun k_ => ((some k_ ≠ (.slice Ao18 t185.length co18 : Value).ownBlock ∧ some k_ ≠ (.slice Ao12 y176.length co12 : Value).ownBlock) ∧ some k_ ≠ (.slice Ao13 y179.length co13 : Value).ownBlock)) (n := t182.length) (c := co16) ?_).2.2; exact (by (with_reducible repeat (first | apply Kd.R_alloc | apply Kd.R_drewN | apply Kd.R_drew)); exact (Kd.R_mono (Kd.R_far (p := ⟨gb189, 1, none⟩) (Kd.R_far (p := ⟨gb189, 0, none⟩) (Kd.R_types HO184.out BK189.out (by decide)) (fun _ hk => hk.2) (.slice Ao16 t182.length co16)) (fun _ hk => hk.2) (.slice Ao18 t185.length co18)) (fun _ h_ => h_.1)))); (case side2 => exact (Kd.R_reads' HO184.out).2.1); (case side3 => refine (Kd.R_reads' (e := 33) (base := w.heap.size) (ok := fun k_ => ((some k_ ≠ (.slice Ao16 t182.length co16 : Value).ownBlock ∧ some k_ ≠ (.slice Ao12 y176.length co12 : Value).ownBlock) ∧ some k_ ≠ (.slice Ao13 y179.length co13 : Value).ownBlock)) (n := t185.length) (c := co18) ?_).2.2; exact (by (with_reducible repeat (first | apply Kd.R_alloc | apply Kd.R_drewN | apply Kd.R_drew)); exact (Kd.R_mono (Kd.R_far (p := ⟨gb189, 1, none⟩) (Kd.R_far (p := ⟨gb189, 0, none⟩) (Kd.R_types HO187.out BK189.out (by decide)) (fun _ hk => hk.2) (.slice Ao16 t182.length co16)) (fun _ hk => hk.2) (.slice Ao18 t185.length co18)) (fun _ h_ => h_.1)))); (case side4 => exact (Kd.R_reads' HO187.out).2.1); rintro e w19 ⟨rfl, hb⟩; have n0_ := Aside0.mk (Kd.R_below (by (with_reducible repeat (first | apply Kd.R_alloc | apply Kd.R_drewN | apply Kd.R_drew)); exact (Kd.R_mono (Kd.R_far (p := ⟨gb189, 1, none⟩) (Kd.R_far (p := ⟨gb189, 0, none⟩) (Kd.R_types HO178.out BK189.out (by decide)) (fun _ hk => hk.2) (.slice Ao16 t182.length co16)) (fun _ hk => hk.2) (.slice Ao18 t185.length co18)) (fun _ h_ => h_.1))) hb); have n1_ := Aside0.mk (Kd.R_below (by (with_reducible repeat (first | apply Kd.R_alloc | apply Kd.R_drewN | apply Kd.R_drew)); exact (Kd.R_mono (Kd.R_far (p := ⟨gb189, 1, none⟩) (Kd.R_far (p := ⟨gb189, 0, none⟩) (Kd.R_types HO181.out BK189.out (by decide)) (fun _ hk => hk.2) (.slice Ao16 t182.length co16)) (fun _ hk => hk.2) (.slice Ao18 t185.length co18)) (fun _ h_ => h_.1))) hb); have n2_ := Aside0.mk (Kd.R_below (by (with_reducible repeat (first | apply Kd.R_alloc | apply Kd.R_drewN | apply Kd.R_drew)); exact (Kd.R_mono (Kd.R_far (p := ⟨gb189, 1, none⟩) (Kd.R_far (p := ⟨gb189, 0, none⟩) (Kd.R_types HO184.out BK189.out (by decide)) (fun _ hk => hk.2) (.slice Ao16 t182.length co16)) (fun _ hk => hk.2) (.slice Ao18 t185.length co18)) (fun _ h_ => h_.1))) hb); have n3_ := Aside0.mk (Kd.R_below (by (with_reducible repeat (first | apply Kd.R_alloc | apply Kd.R_drewN | apply Kd.R_drew)); exact (Kd.R_mono (Kd.R_far (p := ⟨gb189, 1, none⟩) (Kd.R_far (p := ⟨gb189, 0, none⟩) (Kd.R_types HO187.out BK189.out (by decide)) (fun _ hk => hk.2) (.slice Ao16 t182.length co16)) (fun _ hk => hk.2) (.slice Ao18 t185.length co18)) (fun _ h_ => h_.1))) hb); have n4_ := Aside0.mk (blk_below (g := gb189) (o := .cells #[.slice Ao16 t182.length co16, .slice Ao18 t185.length co18] 26 (0, 0)) (by (with_reducible repeat (first | refine blk_drewN ?_ _ | refine blk_drew ?_ | refine blk_alloc ?_ _)); refine blk_put (cs := #[.slice Ao16 t182.length co16, .slice none 0 0]) ?_ 1 _ rfl; (with_reducible repeat (first | refine blk_drewN ?_ _ | refine blk_drew ?_ | refine blk_alloc ?_ _)); refine blk_put (cs := #[.slice none 0 0, .slice none 0 0]) ?_ 0 _ rfl; (with_reducible repeat (first | refine blk_drewN ?_ _ | refine blk_drew ?_ | refine blk_alloc ?_ _)); exact BK189.out) hb); have n5_ := Aside0.mk (below_step (by repeat (first | (with_reducible first | exact HB.out | apply below_alloc | apply pw_below_drewN | apply below_drew1 | refine below_set ?_ GE189.out) | exact HB.out)) hb); clear HO178; clear HO181; clear HO184; clear HO187; clear BK189; clear HB; have HO178 := n0_; have HO181 := n1_; have HO184 := n2_; have HO187 := n3_; have BK189 := n4_; have HB := n5_; clear n0_ n1_ n2_ n3_ n4_ n5_; (try clear hb); (try clear hb2); (try clear hk); (try clear hi); have hcz20_0 : w19.cell? ⟨gb189, 0, none⟩ = some (.slice Ao16 t182.length co16) := (blk_cell BK189.out 0).trans rfl; have hcz20_1 : w19.cell? ⟨gb189, 1, none⟩ = some (.slice Ao18 t185.length co18) := (blk_cell BK189.out 1).trans rfl; have hfz20_0 := blk_frozen BK189.out 0; have hfz20_1 := blk_frozen BK189.out 1) | ((with_reducible refine gate_dst (N := 20) rfl ?_); (try (refine gate_guard (by rfl) ?_; dsimp only)); refine Kd.R_lit k33 _ 33 ?hg (N := 20) ?hd (xs := ([(⟨0, 1⟩ : S33)] : List (S33))) (inner := [.int .i64 0, .int .i64 1]) (ok := fun _ => True) (okp := fun _ => True) ?hr ?hp (fun _ hk => hk) trivial (Below.refl _ _) (Nat.le_refl _) (by simp) ?_; (case hd => rfl); (case hg => rfl); (case hr => first | (go_simp; done) | (go_simp; rfl)); (case hp => exact (Reps.c2 (show Kd.M k33 _ _ _ (⟨0, 1⟩ : S33) [.int .i64 0, .int .i64 1] from (k33_mkM _ _ _ (⟨0, 1⟩ : S33) )) (Reps.none _ _))); intro v192 w21 ho22 hb hg_ hnew_; clear hg_ hnew_; (first | rw [← Ny191.out] at ho22 | (simp only [Int.reduceToNat] at ho22; rw [← Ny191.out] at ho22)); have n0_ := Aside0.mk (Kd.R_elder' (by (with_reducible repeat (first | apply Kd.R_alloc | apply Kd.R_drewN | apply Kd.R_drew)); exact HO178.out) (Kd.R_base ho22) hb); have n1_ := Aside0.mk (Kd.R_elder' (by (with_reducible repeat (first | apply Kd.R_alloc | apply Kd.R_drewN | apply Kd.R_drew)); exact HO181.out) (Kd.R_base ho22) hb); have n2_ := Aside0.mk (Kd.R_elder' (by (with_reducible repeat (first | apply Kd.R_alloc | apply Kd.R_drewN | apply Kd.R_drew)); exact HO184.out) (Kd.R_base ho22) hb); have n3_ := Aside0.mk (Kd.R_elder' (by (with_reducible repeat (first | apply Kd.R_alloc | apply Kd.R_drewN | apply Kd.R_drew)); exact HO187.out) (Kd.R_base ho22) hb); have n4_ := Aside0.mk (Kd.R_lower (Kd.R_new' (Kd.R_new' (Kd.R_new' (Kd.R_new' ho22 (Kd.R_lt (by (with_reducible repeat (first | apply Kd.R_alloc | apply Kd.R_drewN | apply Kd.R_drew)); exact HO178.out))) (Kd.R_lt (by (with_reducible repeat (first | apply Kd.R_alloc | apply Kd.R_drewN | apply Kd.R_drew)); exact HO181.out))) (Kd.R_lt (by (with_reducible repeat (first | apply Kd.R_alloc | apply Kd.R_drewN | apply Kd.R_drew)); exact HO184.out))) (Kd.R_lt (by (with_reducible repeat (first | apply Kd.R_alloc | apply Kd.R_drewN | apply Kd.R_drew)); exact HO187.out))) (below_size (by repeat (first | (with_reducible first | exact HB.out | apply below_alloc | apply pw_below_drewN | apply below_drew1 | refine below_set ?_ GE189.out) | exact HB.out)))); have n5_ := Aside0.mk (blk_below (g := gb189) (o := .cells #[.slice Ao16 t182.length co16, .slice Ao18 t185.length co18] 26 (0, 0)) (by (with_reducible repeat (first | refine blk_drewN ?_ _ | refine blk_drew ?_ | refine blk_alloc ?_ _)); exact BK189.out) hb); have n6_ := Aside0.mk (below_step (by repeat (first | (with_reducible first | exact HB.out | apply below_alloc | apply pw_below_drewN | apply below_drew1 | refine below_set ?_ GE189.out) | exact HB.out)) hb); clear HO178; clear HO181; clear HO184; clear HO187; clear BK189; clear HB; have HO178 := n0_; have HO181 := n1_; have HO184 := n2_; have HO187 := n3_; have HO193 := n4_; have BK189 := n5_; have HB := n6_; clear n0_ n1_ n2_ n3_ n4_ n5_ n6_; clear hb ho22; obtain ⟨Ao23, co23, eo23⟩ := Kd.R_slice HO193.out; subst eo23) | (go_at_call 16; (with_reducible refine (diff_Fits.calls k _ _ t182 _ _ t185 _ _ y191 true _ ?side1 ?side2 ?side3 ?side4 ?side5 ?side6 A5.out).mono ?_); (case side1 => repeat (first | exact (Kd.R_reads' HO184.out).2.2 | (with_reducible refine Kd.C_alloc ?_ _) | (with_reducible refine Kd.C_drewN ?_ _) | (with_reducible refine Kd.C_drew ?_))); (case side2 => exact (Kd.R_reads' HO184.out).2.1); (case side3 => repeat (first | exact (Kd.R_reads' HO187.out).2.2 | (with_reducible refine Kd.C_alloc ?_ _) | (with_reducible refine Kd.C_drewN ?_ _) | (with_reducible refine Kd.C_drew ?_))); (case side4 => exact (Kd.R_reads' HO187.out).2.1); (case side5 => repeat (first | exact (Kd.R_reads' HO193.out).2.2 | (with_reducible refine Kd.C_alloc ?_ _) | (with_reducible refine Kd.C_drewN ?_ _) | (with_reducible refine Kd.C_drew ?_))); (case side6 => exact (Kd.R_reads' HO193.out).2.1); rintro e w24 ⟨rfl, hb⟩; have n0_ := Aside0.mk (Kd.R_below (by (with_reducible repeat (first | apply Kd.R_alloc | apply Kd.R_drewN | apply Kd.R_drew)); exact HO178.out) hb); have n1_ := Aside0.mk (Kd.R_below (by (with_reducible repeat (first | apply Kd.R_alloc | apply Kd.R_drewN | apply Kd.R_drew)); exact HO181.out) hb); have n2_ := Aside0.mk (Kd.R_below (by (with_reducible repeat (first | apply Kd.R_alloc | apply Kd.R_drewN | apply Kd.R_drew)); exact HO184.out) hb); have n3_ := Aside0.mk (Kd.R_below (by (with_reducible repeat (first | apply Kd.R_alloc | apply Kd.R_drewN | apply Kd.R_drew)); exact HO187.out) hb); have n4_ := Aside0.mk (Kd.R_below (by (with_reducible repeat (first | apply Kd.R_alloc | apply Kd.R_drewN | apply Kd.R_drew)); exact HO193.out) hb); have n5_ := Aside0.mk (blk_below (g := gb189) (o := .cells #[.slice Ao16 t182.length co16, .slice Ao18 t185.length co18] 26 (0, 0)) (by (with_reducible repeat (first | refine blk_drewN ?_ _ | refine blk_drew ?_ | refine blk_alloc ?_ _)); exact BK189.out) hb); have n6_ := Aside0.mk (below_step (by repeat (first | (with_reducible first | exact HB.out | apply below_alloc | apply pw_below_drewN | apply below_drew1 | refine below_set ?_ GE189.out) | exact HB.out)) hb); clear HO178; clear HO181; clear HO184; clear HO187; clear HO193; clear BK189; clear HB; have HO178 := n0_; have HO181 := n1_; have HO184 := n2_; have HO187 := n3_; have HO193 := n4_; have BK189 := n5_; have HB := n6_; clear n0_ n1_ n2_ n3_ n4_ n5_ n6_; (try clear hb); (try clear hb2); (try clear hk); (try clear hi); have hcz25_0 : w24.cell? ⟨gb189, 0, none⟩ = some (.slice Ao16 t182.length co16) := (blk_cell BK189.out 0).trans rfl; have hcz25_1 : w24.cell? ⟨gb189, 1, none⟩ = some (.slice Ao18 t185.length co18) := (blk_cell BK189.out 1).trans rfl; have hfz25_0 := blk_frozen BK189.out 0; have hfz25_1 := blk_frozen BK189.out 1) | (go_at_call 16; refine calls_of_args (args' := #[.agg #[.slice Ao16 t182.length co16, .slice Ao18 t185.length co18], .slice none ([] : List (S33)).length 0]) (by rfl) ?_; (with_reducible refine (diff_Fits.calls k _ _ t182 _ _ t185 _ _ ([] : List (S33)) t195 _ ?side1 ?side2 ?side3 ?side4 ?side5 ?side6 A7.out).mono ?_); (case side1 => repeat (first | exact (Kd.R_reads' HO184.out).2.2 | (with_reducible refine Kd.C_alloc ?_ _) | (with_reducible refine Kd.C_drewN ?_ _) | (with_reducible refine Kd.C_drew ?_))); (case side2 => exact (Kd.R_reads' HO184.out).2.1); (case side3 => repeat (first | exact (Kd.R_reads' HO187.out).2.2 | (with_reducible refine Kd.C_alloc ?_ _) | (with_reducible refine Kd.C_drewN ?_ _) | (with_reducible refine Kd.C_drew ?_))); (case side4 => exact (Kd.R_reads' HO187.out).2.1); (case side5 => exact Kd.C_nil _ _); (case side6 => exact Nat.le_refl _); rintro e w26 ⟨rfl, hb⟩; have n0_ := Aside0.mk (Kd.R_below (by (with_reducible repeat (first | apply Kd.R_alloc | apply Kd.R_drewN | apply Kd.R_drew)); exact HO178.out) hb); have n1_ := Aside0.mk (Kd.R_below (by (with_reducible repeat (first | apply Kd.R_alloc | apply Kd.R_drewN | apply Kd.R_drew)); exact HO181.out) hb); have n2_ := Aside0.mk (Kd.R_below (by (with_reducible repeat (first | apply Kd.R_alloc | apply Kd.R_drewN | apply Kd.R_drew)); exact HO184.out) hb); have n3_ := Aside0.mk (Kd.R_below (by (with_reducible repeat (first | apply Kd.R_alloc | apply Kd.R_drewN | apply Kd.R_drew)); exact HO187.out) hb); have n4_ := Aside0.mk (Kd.R_below (by (with_reducible repeat (first | apply Kd.R_alloc | apply Kd.R_drewN | apply Kd.R_drew)); exact HO193.out) hb); have n5_ := Aside0.mk (blk_below (g := gb189) (o := .cells #[.slice Ao16 t182.length co16, .slice Ao18 t185.length co18] 26 (0, 0)) (by (with_reducible repeat (first | refine blk_drewN ?_ _ | refine blk_drew ?_ | refine blk_alloc ?_ _)); exact BK189.out) hb); have n6_ := Aside0.mk (below_step (by repeat (first | (with_reducible first | exact HB.out | apply below_alloc | apply pw_below_drewN | apply below_drew1 | refine below_set ?_ GE189.out) | exact HB.out)) hb); clear HO178; clear HO181; clear HO184; clear HO187; clear HO193; clear BK189; clear HB; have HO178 := n0_; have HO181 := n1_; have HO184 := n2_; have HO187 := n3_; have HO193 := n4_; have BK189 := n5_; have HB := n6_; clear n0_ n1_ n2_ n3_ n4_ n5_ n6_; (try clear hb); (try clear hb2); (try clear hk); (try clear hi)))
        go_ret
        exact ⟨by first | rfl | (simp [errW_none, errW_some] <;> rfl) | (simp [*, errW_none, errW_some] <;> rfl), by repeat (first | (with_reducible first | exact HB.out | apply below_alloc | apply pw_below_drewN | apply below_drew1 | refine below_set ?_ GE189.out) | exact HB.out)⟩
      · replace c6 := Bool.eq_false_iff.mpr c6
        subst c6
        have H1 : (none) = some r := by rw [if_neg (show ¬ (false = true) by decide)] at H; exact H
        clear H
        have H := H1
        clear H1
        exact absurd H (by simp)
    · rw [if_neg c4] at H
      exact absurd H (by simp)
  · replace c2 := Bool.eq_false_iff.mpr c2
    subst c2
    have H1 : (none) = some r := by rw [if_neg (show ¬ (false = true) by decide)] at H; exact H
    clear H
    have H := H1
    clear H1
    exact absurd H (by simp)

/-! ### diff_Apply: function 8 -/
def diff_Apply.restB (l : List (S33 × Bool × Bool)) : List S33 := (l.filter fun t => !t.2.1).map (·.1)
def diff_Apply.outB (l : List (S33 × Bool × Bool)) : List S33 := l.map (·.1)
def diff_Apply.f (k : Nat) (g c l : List S33) : Option (List S33 × Bool) := (diff_Fits.f k g c l).bind fun b => if b = true then (if g.length + c.length + l.length ≤ 1000000 then some (diff_Apply.outB (diff_beside.bs diff_beside.lt (diff_Apply.restB (diff_beside.bs diff_beside.lt g l)) c), true) else none) else some ([], false)
theorem diff_Apply.mono : ∀ a0 a1 a2 k, LeO (diff_Apply.f k a0 a1 a2) (diff_Apply.f (k + 1) a0 a1 a2) := by
  intro l0 l1 l2 k
  unfold diff_Apply.f
  exact LeO.bind (diff_Fits.mono _ _ _ _) (fun _ => LeO.refl _)
/-- Between two rounds: blocks that stay; the list so far, in the variable at cc. -/
structure diff_Apply.I (w : World) (n0 cc : Nat) (fx : List (Nat × Obj)) (G : List (S33 × Bool × Bool) → List S33) (a b x y : List S33) (W : World) : Prop where
  fix_ : ∀ p ∈ fx, W.heap[p.1]? = some p.2
  cur : ∃ v g, W.heap[cc]? = some (.cells #[v] 22) ∧ Kd.R k33 33 W w.heap.size (fun k => n0 ≤ k) v g ∧ g ++ G (diff_beside.bs diff_beside.lt x y) = G (diff_beside.bs diff_beside.lt a b)
  below : Below w.heap.size w W
theorem diff_Apply.I.kp {w : World} {n0 cc B : Nat} {fx : List (Nat × Obj)} {G : List (S33 × Bool × Bool) → List S33} {a b x y : List S33} {W W' : World} (h : diff_Apply.I w n0 cc fx G a b x y W) (k : diff_beside.Kp B W W') (h0 : w.heap.size ≤ B) (h1 : cc < B) (h2 : ∀ p ∈ fx, p.1 < B) (h3 : B + 2 ≤ n0) : diff_Apply.I w n0 cc fx G a b x y W' := by
  obtain ⟨v, g, a1, a2, a3⟩ := h.cur
  exact ⟨fun p hp => blk_kept (h.fix_ p hp) k.1 (by have := h2 p hp; omega), ⟨v, g, blk_kept a1 k.1 (by omega), Kd.R_step a2 (fun i hi hlt => k.1.2 i hlt (by omega)), a3⟩, h.below.trans (k.2.mono h0)⟩
theorem diff_Apply.I.put {w : World} {n0 cc l : Nat} {fx : List (Nat × Obj)} {G : List (S33 × Bool × Bool) → List S33} {a b x y : List S33} {W : World} {o : Obj} (h : diff_Apply.I w n0 cc fx G a b x y W) (hl : W.heap[l]? = some o) (ho : o.isCells = false) (hn : n0 ≤ l) (h0 : w.heap.size ≤ n0) (h1 : cc < n0) (h2 : ∀ p ∈ fx, p.1 < n0) (o' : Obj) : diff_Apply.I w n0 cc fx G a b x y (W.putObj l o') := by
  obtain ⟨v, g, a1, a2, a3⟩ := h.cur
  exact ⟨fun p hp => (World.putObj_heap_other (by have := h2 p hp; omega)).trans (h.fix_ p hp), ⟨v, g, (World.putObj_heap_other (by omega)).trans a1, diff_Pairs.R_put a2 hl ho _, a3⟩, h.below.grown (grownBy_putObj' W l o') h.below.size (fun i e => by cases e; omega)⟩
theorem diff_Apply.I.below_ {w : World} {n0 cc : Nat} {fx : List (Nat × Obj)} {G : List (S33 × Bool × Bool) → List S33} {a b x y : List S33} {W W' : World} (h : diff_Apply.I w n0 cc fx G a b x y W) (hb : Below W.heap.size W W') : diff_Apply.I w n0 cc fx G a b x y W' := by
  obtain ⟨v, g, a1, a2, a3⟩ := h.cur
  exact ⟨fun p hp => blk_below (h.fix_ p hp) hb, ⟨v, g, blk_below a1 hb, Kd.R_below a2 hb, a3⟩, below_step h.below hb⟩
/-- Behind a round that appended p: all that stays, stays. -/
theorem diff_Apply.I.add {w : World} {n0 cc : Nat} {fx : List (Nat × Obj)} {G : List (S33 × Bool × Bool) → List S33} {a b x y x' y' : List S33} {W w5 : World} {v v1 : Value} {g : List S33} {p : S33} (h : diff_Apply.I w n0 cc fx G a b x y W) (h0 : w.heap.size ≤ cc) (h1 : cc < n0) (h2 : ∀ p ∈ fx, p.1 < n0 ∧ p.1 ≠ cc)
    (a1 : W.heap[cc]? = some (.cells #[v] 22)) (a2 : Kd.R k33 33 W w.heap.size (fun k => n0 ≤ k) v g) (a3 : g ++ G (diff_beside.bs diff_beside.lt x y) = G (diff_beside.bs diff_beside.lt a b)) (a4 : G (diff_beside.bs diff_beside.lt x y) = [p] ++ G (diff_beside.bs diff_beside.lt x' y'))
    (ho : Kd.R k33 33 w5 w.heap.size (fun k => n0 ≤ k) v1 (g ++ [p])) (hb : Below w.heap.size w w5) (hg : W.grownBy w5 v.ownBlock) :
    diff_Apply.I w n0 cc fx G a b x' y' (w5.setCell ⟨cc, 0, none⟩ v1) :=
  ⟨fun p hp => (Below.heap_setCell w5 ⟨cc, 0, none⟩ v1 p.1 (h2 p hp).2).trans (blk_grown (h.fix_ p hp) hg (Kd.R_away a2 (fun k hk => by have := (h2 p hp).1; omega))), ⟨v1, g ++ [p], blk_put (cs' := #[v1]) (blk_grown a1 hg (Kd.R_away a2 (fun k hk => by omega))) 0 _ rfl, Kd.R_far (p := ⟨cc, 0, none⟩) ho (fun k hk => show k ≠ cc by omega) _, by rw [List.append_assoc, ← a4]; exact a3⟩, below_set hb h0⟩
theorem diff_Apply.off_add {w : World} {B n0 cc : Nat} {ok : Nat → Prop} {W w5 : World} {v v1 : Value} {g : List S33} (a1 : W.heap[cc]? = some (.cells #[v] 22)) (a2 : Kd.R k33 33 W w.heap.size (fun k => n0 ≤ k) v g) (hg : W.grownBy w5 v.ownBlock) (h1 : cc < n0) (hB : B + 2 ≤ n0) (hcB : cc < B) (hok : ∀ k, ok k → k < n0) (hokc : ¬ ok cc) :
    diff_beside.Off B ok W (w5.setCell ⟨cc, 0, none⟩ v1) := by
  have hrow := diff_Pairs.own_is a2 (n := n0) (fun k h => h)
  exact (diff_beside.Off.grown hg (fun k h => by have h1 := hrow k h; exact ⟨by omega, by omega, fun hk => by have := hok k hk; omega, h1.2⟩)).trans (diff_beside.Off.set (p := ⟨cc, 0, none⟩) (show w5.heap[cc]? = some (.cells #[v] 22 (0, 0)) from blk_grown a1 hg (Kd.R_away a2 (fun k hk => by omega))) (show cc ≠ B by omega) (show cc ≠ B + 1 by omega) hokc _)
theorem diff_Apply.rest_next {lt : S33 → S33 → Bool} {x y x' y' : List S33} {t : S33 × Bool × Bool} (h : diff_beside.next lt x y = some (t, x', y')) : diff_Apply.restB (diff_beside.bs lt x y) = (if t.2.1 then [] else [t.1]) ++ diff_Apply.restB (diff_beside.bs lt x' y') := by
  rw [diff_beside.bs_next lt x y, h]
  obtain ⟨p, f, s⟩ := t
  cases f <;> simp [diff_Apply.restB, List.filter_cons]
theorem diff_Apply.out_next {lt : S33 → S33 → Bool} {x y x' y' : List S33} {t : S33 × Bool × Bool} (h : diff_beside.next lt x y = some (t, x', y')) : diff_Apply.outB (diff_beside.bs lt x y) = [t.1] ++ diff_Apply.outB (diff_beside.bs lt x' y') := by
  rw [diff_beside.bs_next lt x y, h]
  rfl
theorem diff_Apply.rest_len (l m : List S33) : (diff_Apply.restB (diff_beside.bs diff_beside.lt l m)).length ≤ l.length + m.length := by
  have h := diff_Pairs.bs_len diff_beside.lt l m
  have h1 := List.length_filter_le (fun t : S33 × Bool × Bool => !t.2.1) (diff_beside.bs diff_beside.lt l m)
  unfold diff_Apply.restB
  rw [List.length_map]
  omega
theorem diff_Apply.out_len (l m : List S33) : (diff_Apply.outB (diff_beside.bs diff_beside.lt l m)).length ≤ l.length + m.length := by
  have h := diff_Pairs.bs_len diff_beside.lt l m
  unfold diff_Apply.outB
  rw [List.length_map]
  exact h
section
open Go.Shelf
attribute [local go_sem] Oper.semAt_some
set_option maxRecDepth 100000 in
set_option maxHeartbeats 4000000 in
theorem diff_Apply.calls (k : Nat) (A0_0 : Option Addr) (c0_0 : Nat) (l0_0 : List S33) (A0_1 : Option Addr) (c0_1 : Nat) (l0_1 : List S33) (A1 : Option Addr) (c1 : Nat) (l1 : List S33) (r1 : List S33) (r2 : Bool) (w : World) (hr0_0 : Kd.C k33 w A0_0 l0_0.length l0_0) (hc0_0 : l0_0.length ≤ c0_0) (hr0_1 : Kd.C k33 w A0_1 l0_1.length l0_1) (hc0_1 : l0_1.length ≤ c0_1) (hr1 : Kd.C k33 w A1 l1.length l1) (hc1 : l1.length ≤ c1) (h : diff_Apply.f k l0_0 l0_1 l1 = some (r1, r2)) :
    Calls Tryd.prog 8 #[.agg #[.slice A0_0 l0_0.length c0_0, .slice A0_1 l0_1.length c0_1], .slice A1 l1.length c1] w fun e w' => ∃ v0_ : Value, e = .returned (.tuple #[v0_, .bool r2]) ∧ Kd.R k33 33 w' w.heap.size (fun _ => True) v0_ r1 ∧ Below w.heap.size w w' := by
  unfold diff_Apply.f at h
  obtain ⟨bq, hb, h⟩ := Option.bind_eq_some_iff.mp h
  have hu26 := Tryd.underlying26
  have hba : Below w.heap.size w (w.alloc (.cells #[.slice A0_0 l0_0.length c0_0, .slice A0_1 l0_1.length c0_1] 26)) := below_alloc (Below.refl _ _) _
  have hra := blk_new w (.cells #[.slice A0_0 l0_0.length c0_0, .slice A0_1 l0_1.length c0_1] 26)
  have hK := diff_Fits.calls k A0_0 c0_0 l0_0 A0_1 c0_1 l0_1 A1 c1 l1 bq _ (Kd.C_below hr0_0 hba) hc0_0 (Kd.C_below hr0_1 hba) hc0_1 (Kd.C_below hr1 hba) hc1 hb
  have HC := Aside0.mk (And.intro (And.intro hr0_0 (And.intro hr0_1 hr1)) (And.intro hc0_0 (And.intro hc0_1 hc1)))
  have HA := Aside0.mk (And.intro hba hra)
  have hz0 : (w.alloc (.cells #[.slice A0_0 l0_0.length c0_0, .slice A0_1 l0_1.length c0_1] 26)).cell? ⟨w.heap.size, 0, none⟩ = some (.slice A0_0 l0_0.length c0_0) := (blk_cell hra 0).trans rfl
  have hz1 : (w.alloc (.cells #[.slice A0_0 l0_0.length c0_0, .slice A0_1 l0_1.length c0_1] 26)).cell? ⟨w.heap.size, 1, none⟩ = some (.slice A0_1 l0_1.length c0_1) := (blk_cell hra 1).trans rfl
  clear hr0_0 hr0_1 hr1 hc0_0 hc0_1 hc1 hba hra hb
  have H := Aside0.mk h
  clear h
  have FB := Aside0.mk fun (W : World) (gh : W.heap[w.heap.size]? = some (.cells #[.slice A0_0 l0_0.length c0_0, .slice A0_1 l0_1.length c0_1] 26)) => And.intro ((blk_cell gh 0).trans rfl : W.cell? ⟨w.heap.size, 0, none⟩ = some (.slice A0_0 l0_0.length c0_0)) ((blk_cell gh 1).trans rfl : W.cell? ⟨w.heap.size, 1, none⟩ = some (.slice A0_1 l0_1.length c0_1))
  refine (callsIn_wide (n := 5)).1 ?_
  refine callsIn_of_wp_marks Tryd.func8 rfl trivial ?_ rfl
  simp only [Tryd.ntmps8, List.size_toArray, List.length_cons, List.length_nil, Nat.reduceAdd, Nat.reduceSub, Array.replicate_succ, Array.replicate_zero, List.push_toArray, List.append_toArray, List.nil_append, List.cons_append]
  refine wpIn_wide.2 ?_
  cases bq with
  | false =>
    have h := H.out
    rw [if_neg (by decide)] at h
    obtain ⟨rfl, rfl⟩ : [] = r1 ∧ false = r2 := by simpa using h
    clear h H
    go_wp2_with (first | (go_at_call 16; refine Calls.mono hK ?_; rintro e w1 ⟨rfl, hb1⟩; have HX1 := Aside0.mk (below_step HA.out.1 hb1); clear hb1 hK))
    refine ⟨_, results_tmp2 rfl _ _ _, ?_⟩
    exact ⟨_, rfl, Kd.R_nil _ _ _ _ _, HX1.out⟩
  | true =>
    have h := H.out
    rw [if_pos rfl] at h
    split at h
    case isFalse => cases h
    case isTrue hlen =>
    obtain ⟨rfl, rfl⟩ : diff_Apply.outB (diff_beside.bs diff_beside.lt (diff_Apply.restB (diff_beside.bs diff_beside.lt l0_0 l1)) l0_1) = r1 ∧ true = r2 := by simpa using h
    clear h H
    have HL := Aside0.mk hlen
    clear hlen
    go_wp2_with (first | (go_at_call 16; refine Calls.mono hK ?_; rintro e w1 ⟨rfl, hb1⟩; have HG1 := Aside0.mk (blk_below HA.out.2 hb1); have HX1 := Aside0.mk (below_step HA.out.1 hb1); clear hb1 hK hz0 hz1) | ((with_reducible refine gate_dst (N := 6) rfl ?_); refine box_event ?hg (N := 6) ?hd (cs := #[.slice none 0 0]) (t := 22) ?hr ?_; (case hd => rfl); (case hg => rfl); (case hr => first | (go_simp; done) | (go_simp; rfl)); intro ce hce w2 he2 hk2; have HG2 := Aside0.mk (blk_below HG1.out hk2); have HX2 := Aside0.mk (below_step HX1.out hk2); have HE2 := Aside0.mk he2; have HCE := Aside0.mk (show w.heap.size < ce by rw [hce]; exact blk_lt HG1.out); clear HG1 HX1 hce he2 hk2) | ((with_reducible refine gate_dst (N := 7) rfl ?_); refine box_event ?hg (N := 7) ?hd (cs := #[.slice none 0 0]) (t := 22) ?hr ?_; (case hd => rfl); (case hg => rfl); (case hr => first | (go_simp; done) | (go_simp; rfl)); intro co hco w3 ho3 hk3; have HG3 := Aside0.mk (blk_below HG2.out hk3); have HX3 := Aside0.mk (below_step HX2.out hk3); have HE3 := Aside0.mk (blk_below HE2.out hk3); have HO3 := Aside0.mk ho3; have HCO := Aside0.mk (show ce < co by rw [hco]; exact blk_lt HE2.out); obtain ⟨z0, z1⟩ := FB.out w3 HG3.out; clear HG2 HX2 HE2 hco ho3 hk3) | (go_at_call 18; refine Calls.mono (diff_beside.call A0_0 A1 _ _ c0_0 c1 _) ?_; rintro e w4 ⟨rfl, hw4⟩))
    clear z0 z1
    have hF0 := diff_Pairs.F_in HX3.out (Kd.C_F diff_beside.heap HC.out.1.1)
    have hF1 := diff_Pairs.F_in HX3.out (Kd.C_F diff_beside.heap HC.out.1.2.2)
    obtain ⟨hbx, hby, hk4, hz4⟩ := diff_beside.made (w := w3) rfl hF0 hF1 HC.out.2.1 HC.out.2.2.2
    generalize (w3.alloc (Obj.cells #[Value.slice A0_0 l0_0.length c0_0] 22)).alloc (Obj.cells #[Value.slice A1 l1.length c1] 22) = w4 at hbx hby hk4 hz4 ⊢
    have hce := HCE.out
    have hco := HCO.out
    have hlt3 : co < w3.heap.size := blk_lt HO3.out
    refine diff_beside.over w3.heap.size (fun k => k < w.heap.size) l0_0 l1 rfl (fun k hk => by omega) (fun k hk => by omega) hbx hby (by have := HL.out; omega) (diff_Apply.I w w4.heap.size ce [(w.heap.size, .cells #[.slice A0_0 l0_0.length c0_0, .slice A0_1 l0_1.length c0_1] 26), (co, .cells #[.slice none 0 0] 22)] diff_Apply.restB l0_0 l1) (fun _ _ => False)
      (fun x y W W' h k _ _ => h.kp k (by omega) (by omega) (by simp; omega) (by omega)) (fun x y W l o o' h hl ho hn => h.put hl ho hn (by omega) (by omega) (by simp; omega) o') (fun c W l o o' h _ _ _ => h)
      (fun W hb => ⟨by intro p hp; simp at hp; rcases hp with rfl | rfl; exact blk_below (blk_below HG3.out hk4) hb; exact blk_below (blk_below HO3.out hk4) hb, ⟨_, [], blk_below (blk_below HE3.out hk4) hb, Kd.R_nil _ _ _ _ _, by simp⟩, below_step (below_step HX3.out hk4) hb⟩) ?hround ?hdone (fun D c W _ h => h.elim)
    case hround =>
      intro x y t x' y' l W hI hnx hzW
      obtain ⟨p, f, s⟩ := t
      obtain ⟨q0, q1⟩ := p
      dsimp only
      simp only [List.setIfInBounds_toArray, List.set_cons_zero, List.set_cons_succ]
      have HI := Aside0.mk hI
      have HNX := Aside0.mk hnx
      have HNW := Aside0.mk hzW
      have HZZ := Aside0.mk (And.intro hce (And.intro hco (And.intro hlt3 hz4)))
      clear hI hnx hzW hce hco hlt3 hz4 hbx hby hk4 hF0 hF1
      gi_wp2
      have hb4 : Below W.heap.size W ((W.alloc (.cells #[.int .i64 q0, .int .i64 q1] 33)).alloc (.cells #[.bool f, .bool s] 51)) := below_alloc (below_alloc (Below.refl _ _) _) _
      have HP4 := Aside0.mk (blk_alloc (blk_new W (.cells #[.int .i64 q0, .int .i64 q1] 33)) (.cells #[.bool f, .bool s] 51))
      have HW4 := Aside0.mk (show ((W.alloc (.cells #[.int .i64 q0, .int .i64 q1] 33)).alloc (.cells #[.bool f, .bool s] 51)).heap[W.heap.size + 1]? = some (.cells #[.bool f, .bool s] 51) by have := blk_new (W.alloc (.cells #[.int .i64 q0, .int .i64 q1] 33)) (.cells #[.bool f, .bool s] 51); rwa [World.size_alloc] at this)
      have HI4 := Aside0.mk (HI.out.below_ hb4)
      obtain ⟨gp, hgp⟩ : ∃ gp, gp = W.heap.size := ⟨_, rfl⟩
      obtain ⟨gw, hgw⟩ : ∃ gw, gw = W.heap.size + 1 := ⟨_, rfl⟩
      refine ⟨diff_beside.Off.below hb4, ?_⟩
      generalize ((W.alloc (.cells #[.int .i64 q0, .int .i64 q1] 33)).alloc (.cells #[.bool f, .bool s] 51)) = W4 at hb4 HP4 HW4 HI4 ⊢
      rw [← hgw] at HW4 ⊢
      rw [← hgp] at HP4 ⊢
      clear hgp hgw
      intro o o' hlo hoc hl0
      obtain ⟨hce, hco, hlt3, hz4⟩ := HZZ.out
      have hgl : gp ≠ l := fun e => by have h := HP4.out; rw [e, hlo] at h; cases h; cases hoc
      have hwl : gw ≠ l := fun e => by have h := HW4.out; rw [e, hlo] at h; cases h; cases hoc
      have HIB := HI4.out.put hlo hoc hl0 (by omega) (by omega) (by simp; omega) o'
      have HPB := Aside0.mk (diff_beside.put_other (o' := o') HP4.out hgl)
      have HWB := Aside0.mk (diff_beside.put_other (o' := o') HW4.out hwl)
      have HNB := Aside0.mk (show w4.heap.size ≤ (W4.putObj l o').heap.size by
        have h1 := hb4.size
        have h2 : (W4.putObj l o').heap.size = W4.heap.size := by simp [World.putObj]
        have h3 := HNW.out
        omega)
      clear HP4 HW4 HI4 hlo hb4 hgl hwl hce hco hlt3 hz4 hoc hl0
      generalize W4.putObj l o' = WB at HIB HPB HWB HNB ⊢
      obtain ⟨v, g, a1, a2, a3⟩ := HIB.cur
      have HE := Aside0.mk a1
      have HR := Aside0.mk a2
      have HB := Aside0.mk HIB
      have HEQ := Aside0.mk a3
      have p0 : WB.cell? ⟨gp, 0, none⟩ = some (.int .i64 q0) := (blk_cell HPB.out 0).trans rfl
      have p1 : WB.cell? ⟨gp, 1, none⟩ = some (.int .i64 q1) := (blk_cell HPB.out 1).trans rfl
      have e0 : WB.cell? ⟨ce, 0, none⟩ = some v := (blk_cell HE.out 0).trans rfl
      have z0 : WB.cell? ⟨gw, 0, none⟩ = some (.bool f) := (blk_cell HWB.out 0).trans rfl
      have z1 : WB.cell? ⟨gw, 1, none⟩ = some (.bool s) := (blk_cell HWB.out 1).trans rfl
      have HLN := Aside0.mk (show g.length ≤ 2000000 by
        have h1 := congrArg List.length a3
        have h2 := diff_Apply.rest_len l0_0 l1
        have h4 := HL.out
        simp only [List.length_append] at h1
        omega)
      clear HIB a1 a2 a3
      cases f with
      | false =>
        gi_wp2_with (first | (gi_at_builtin; (with_reducible refine diff_beside.list_of ?no_ _ ?tm_ _ _ ?_); (case no_ => rintro ⟨_, _, h⟩; exact h.2); (case tm_ => rfl); refine Kd.R_append k33 (w0 := w) w.heap.size rfl (.tmp 24) (.tmp 26) 22 33 (.agg #[.int .i64 0, .int .i64 0]) 16 rfl Tryd.underlying22 diff_Pairs.info rfl (by decide) (by omega) v g ⟨q0, q1⟩ [.int .i64 q0, .int .i64 q1] (fun k => w4.heap.size ≤ k) (fun _ => False) rfl rfl ?aP (fun _ hk => hk.elim) ?aF HR.out HB.out.below HB.out.below.size ?aL ?_; (case aP => exact k33_mkM _ _ _ _); (case aF => exact fun k hk => by have h3 := HNB.out; omega); (case aL => have h5 := HLN.out; omega); intro v1 w5 ho hb hg hat; have HGR := Aside0.mk hg; have HB5 := Aside0.mk hb; have HE5 := Aside0.mk (blk_grown HE.out hg (Kd.R_away HR.out (fun k hk => by have h1 := HZZ.out; omega))); have HO5 := Aside0.mk ho; obtain ⟨A5, c5, e5⟩ := Kd.R_slice ho; subst e5; clear e0 z0 z1 p0 p1 ho hb hg hat; have e0 : w5.cell? ⟨ce, 0, none⟩ = some v := (blk_cell HE5.out 0).trans rfl; have ef := blk_frozen HE5.out 0) | go_values | go_skip | go_guarded | go_step | go_upon)
        have hl5 : (g ++ [(⟨q0, q1⟩ : S33)]).length = g.length + 1 := by simp
        have ho6 := HO5.out
        rw [hl5] at ho6
        obtain ⟨hce, hco, hlt3, hz4⟩ := HZZ.out
        exact ⟨diff_Apply.off_add HE.out HR.out HGR.out (by omega) (by omega) (by omega) (fun k hk => by omega) (by omega), HB.out.add (by omega) (by omega) (by simp; omega) HE.out HR.out HEQ.out (by rw [diff_Apply.rest_next HNX.out]; simp) ho6 HB5.out HGR.out⟩
      | true =>
        gi_wp2
        refine ⟨diff_beside.Off.refl _ _ _, HB.out.fix_, ⟨v, g, HE.out, HR.out, ?_⟩, HB.out.below⟩
        rw [← HEQ.out, diff_Apply.rest_next HNX.out]
        simp
    case hdone =>
      intro D W hD hI hd
      obtain ⟨z0, z1⟩ := FB.out W (hI.fix_ (w.heap.size, _) (by simp))
      obtain ⟨v, g, a1, a2, a3⟩ := hI.cur
      obtain ⟨Ar, cr, rfl⟩ := Kd.R_slice a2
      have e0 : W.cell? ⟨ce, 0, none⟩ = some (.slice Ar g.length cr) := (blk_cell a1 0).trans rfl
      have HI := Aside0.mk hI
      have HD := Aside0.mk hd
      have HR := Aside0.mk a2
      have HEQ := Aside0.mk (show g = diff_Apply.restB (diff_beside.bs diff_beside.lt l0_0 l1) by rw [← a3]; simp [diff_beside.bs, diff_Apply.restB])
      have HZ := Aside0.mk (And.intro hce (And.intro hco (And.intro hlt3 (And.intro hz4 hD))))
      clear hI hd a1 a2 a3 hce hco hlt3 hz4 hD hbx hby hk4 hF0 hF1
      go_wp2_with (first | (go_at_call 18; refine Calls.mono (diff_beside.call Ar A0_1 _ _ cr c0_1 _) ?_; rintro e w9 ⟨rfl, hw9⟩))
      clear z0 z1 e0
      obtain ⟨ok2, hok2⟩ : ∃ ok2 : Nat → Prop, ok2 = fun k => k < w.heap.size ∨ some k = (Value.slice Ar g.length cr).ownBlock := ⟨_, rfl⟩
      have hrr := Kd.R_reads' HR.out
      have hF0 : Kd.F k33 W ok2 Ar g.length g := by rw [hok2]; exact Kd.F_mono (Kd.N_F (Kd.R_N (Kd.R_tight rfl HR.out))) (fun k hk => .inr hk)
      have hF1 : Kd.F k33 W ok2 A0_1 l0_1.length l0_1 := by rw [hok2]; exact Kd.F_mono (diff_Pairs.F_in HI.out.below (Kd.C_F diff_beside.heap HC.out.1.2.1)) (fun k hk => .inl hk)
      obtain ⟨hbx, hby, hk9, hz9⟩ := diff_beside.made (w := W) rfl hF0 hF1 hrr.2.1 HC.out.2.2.1
      clear hrr
      generalize (W.alloc (Obj.cells #[Value.slice Ar g.length cr] 22)).alloc (Obj.cells #[Value.slice A0_1 l0_1.length c0_1] 22) = w9 at hbx hby hk9 hz9 ⊢
      have hltD : D < W.heap.size := blk_lt HD.out
      have hcoW : co < W.heap.size := blk_lt (HI.out.fix_ (co, .cells #[.slice none 0 0] 22) (by simp))
      have hwD : w.heap.size < ce ∧ ce < co ∧ co < D := by have h := HZ.out; omega
      have hokW : ∀ k, ok2 k → k < W.heap.size := by
        intro k hk
        rw [hok2] at hk
        rcases hk with hk | hk
        · omega
        · exact Kd.R_lt HR.out k hk.symm
      have hokc : ¬ ok2 co := by
        rw [hok2]
        rintro (hk | hk)
        · omega
        · have h1 := HR.out.1 co hk.symm
          have h2 := HZ.out
          omega
      have hok9 : ∀ k, ok2 k → k < w9.heap.size := fun k hk => by have := hokW k hk; omega
      have hln : g.length ≤ l0_0.length + l1.length := by rw [HEQ.out]; exact diff_Apply.rest_len l0_0 l1
      have HLG := Aside0.mk hln
      clear hok2
      refine diff_beside.over W.heap.size ok2 g l0_1 rfl (fun k hk => by have := hokW k hk; omega) hok9 hbx hby (by have := HL.out; omega) (diff_Apply.I w w9.heap.size co [(D, .deferred (some []))] diff_Apply.outB g l0_1) (fun _ _ => False)
        (fun x y W W' h k _ _ => h.kp k (by omega) (by omega) (by simpa using hltD) (by omega)) (fun x y W l o o' h hl ho hn => h.put hl ho hn (by omega) (by omega) (by simp; omega) o') (fun c W l o o' h _ _ _ => h)
        (fun W' hb => ⟨by intro p hp; rw [List.mem_singleton.mp hp]; exact blk_below (blk_below HD.out hk9) hb, ⟨_, [], blk_below (blk_below (HI.out.fix_ (co, _) (by simp)) hk9) hb, Kd.R_nil _ _ _ _ _, by simp⟩, below_step (below_step HI.out.below hk9) hb⟩) ?hround2 ?hdone2 (fun D c W _ h => h.elim)
      case hround2 =>
        intro x y t x' y' l W' hI hnx hzW
        obtain ⟨p, f, s⟩ := t
        obtain ⟨q0, q1⟩ := p
        dsimp only
        simp only [List.setIfInBounds_toArray, List.set_cons_zero, List.set_cons_succ]
        have HI := Aside0.mk hI
        have HNX := Aside0.mk hnx
        have HNW := Aside0.mk hzW
        have HZZ := Aside0.mk (And.intro hltD (And.intro hwD (And.intro hz9 (And.intro hcoW (And.intro hok9 hokc)))))
        clear hI hnx hzW hltD hwD hz9 hcoW hok9 hokc hokW hln hbx hby hk9 hF0 hF1
        gi_wp2
        have hb4 : Below W'.heap.size W' (W'.alloc (.cells #[.int .i64 q0, .int .i64 q1] 33)) := below_alloc (Below.refl _ _) _
        have HP4 := Aside0.mk (blk_new W' (.cells #[.int .i64 q0, .int .i64 q1] 33))
        have HI4 := Aside0.mk (HI.out.below_ hb4)
        obtain ⟨gp, hgp⟩ : ∃ gp, gp = W'.heap.size := ⟨_, rfl⟩
        refine ⟨diff_beside.Off.below hb4, ?_⟩
        generalize (W'.alloc (.cells #[.int .i64 q0, .int .i64 q1] 33)) = W4 at hb4 HP4 HI4 ⊢
        rw [← hgp] at HP4 ⊢
        clear hgp
        intro o o' hlo hoc hl0
        obtain ⟨hltD, hwD, hz9, hcoW, hok9, hokc⟩ := HZZ.out
        have hgl : gp ≠ l := fun e => by have h := HP4.out; rw [e, hlo] at h; cases h; cases hoc
        have HIB := HI4.out.put hlo hoc hl0 (by omega) (by omega) (by simp; omega) o'
        have HPB := Aside0.mk (diff_beside.put_other (o' := o') HP4.out hgl)
        have HNB := Aside0.mk (show w9.heap.size ≤ (W4.putObj l o').heap.size by
          have h1 := hb4.size
          have h2 : (W4.putObj l o').heap.size = W4.heap.size := by simp [World.putObj]
          have h3 := HNW.out
          omega)
        clear HP4 HI4 hlo hb4 hgl hltD hwD hz9 hcoW hok9 hokc hoc hl0
        generalize W4.putObj l o' = WB at HIB HPB HNB ⊢
        obtain ⟨v, g2, a1, a2, a3⟩ := HIB.cur
        have HE := Aside0.mk a1
        have HR := Aside0.mk a2
        have HB := Aside0.mk HIB
        have HEQ := Aside0.mk a3
        have p0 : WB.cell? ⟨gp, 0, none⟩ = some (.int .i64 q0) := (blk_cell HPB.out 0).trans rfl
        have p1 : WB.cell? ⟨gp, 1, none⟩ = some (.int .i64 q1) := (blk_cell HPB.out 1).trans rfl
        have e0 : WB.cell? ⟨co, 0, none⟩ = some v := (blk_cell HE.out 0).trans rfl
        have HLN := Aside0.mk (show g2.length ≤ 2000000 by
          have h1 := congrArg List.length a3
          have h2 := diff_Apply.out_len g l0_1
          have h3 := HLG.out
          have h4 := HL.out
          simp only [List.length_append] at h1
          omega)
        clear HIB a1 a2 a3
        gi_wp2_with (first | (gi_at_builtin; (with_reducible refine diff_beside.list_of ?no_ _ ?tm_ _ _ ?_); (case no_ => rintro ⟨_, _, h⟩; exact h.2); (case tm_ => rfl); refine Kd.R_append k33 (w0 := w) w.heap.size rfl (.tmp 34) (.tmp 36) 22 33 (.agg #[.int .i64 0, .int .i64 0]) 16 rfl Tryd.underlying22 diff_Pairs.info rfl (by decide) (by omega) v g2 ⟨q0, q1⟩ [.int .i64 q0, .int .i64 q1] (fun k => w9.heap.size ≤ k) (fun _ => False) rfl rfl ?aP (fun _ hk => hk.elim) ?aF HR.out HB.out.below HB.out.below.size ?aL ?_; (case aP => exact k33_mkM _ _ _ _); (case aF => exact fun k hk => by have h3 := HNB.out; omega); (case aL => have h5 := HLN.out; omega); intro v1 w5 ho hb hg hat; have HGR := Aside0.mk hg; have HB5 := Aside0.mk hb; have HE5 := Aside0.mk (blk_grown HE.out hg (Kd.R_away HR.out (fun k hk => by have h1 := HZZ.out; omega))); have HO5 := Aside0.mk ho; obtain ⟨A5, c5, e5⟩ := Kd.R_slice ho; subst e5; clear e0 p0 p1 ho hb hg hat; have e0 : w5.cell? ⟨co, 0, none⟩ = some v := (blk_cell HE5.out 0).trans rfl; have ef := blk_frozen HE5.out 0) | go_values | go_skip | go_guarded | go_step | go_upon)
        have hl5 : (g2 ++ [(⟨q0, q1⟩ : S33)]).length = g2.length + 1 := by simp
        have ho6 := HO5.out
        rw [hl5] at ho6
        obtain ⟨hltD, hwD, hz9, hcoW, hok9, hokc⟩ := HZZ.out
        exact ⟨diff_Apply.off_add HE.out HR.out HGR.out (by omega) (by omega) (by omega) hok9 hokc, HB.out.add (by omega) (by omega) (by simp; omega) HE.out HR.out HEQ.out (diff_Apply.out_next HNX.out) ho6 HB5.out HGR.out⟩
      case hdone2 =>
        intro D2 W2 hD2 hI2 hd2
        obtain ⟨v2, g2, b1, b2, b3⟩ := hI2.cur
        have e0 : W2.cell? ⟨co, 0, none⟩ = some v2 := (blk_cell b1 0).trans rfl
        have HI2 := Aside0.mk hI2
        have HR2 := Aside0.mk b2
        have HE2 := Aside0.mk (show g2 = diff_Apply.outB (diff_beside.bs diff_beside.lt g l0_1) by rw [← b3]; simp [diff_beside.bs, diff_Apply.outB])
        have HZ2 := Aside0.mk (And.intro hltD (And.intro hwD (And.intro hz9 (And.intro hcoW hD2))))
        have HD2 := Aside0.mk hd2
        clear hI2 hd2 b1 b2 b3 hltD hwD hz9 hcoW hok9 hokc hokW hD2 hbx hby hk9 hF0 hF1 hln
        go_wp2
        obtain ⟨hltD, hwD, hz9, hcoW, hD2⟩ := HZ2.out
        have hDD : D ≠ D2 := by omega
        have hM1 := (World.putObj_heap_other (o := .deferred none) hDD).trans (HI2.out.fix_ (D, .deferred (some [])) (by simp))
        refine ⟨by simp, .inl ⟨_, _, rfl, run_takeDeferred HD2.out, ?_⟩⟩
        refine ⟨by simp, .inl ⟨_, _, rfl, run_takeDeferred hM1, ?_⟩⟩
        refine ⟨_, results_tmp2 rfl _ _ _, ?_⟩
        have h1 := HI2.out.below.grown (grownBy_putObj' _ D2 (.deferred none)) HI2.out.below.size (fun i e => by cases e; omega)
        rw [← HEQ.out, ← HE2.out]
        exact ⟨_, rfl, Kd.R_mono (diff_Pairs.R_put (diff_Pairs.R_put HR2.out HD2.out rfl _) hM1 rfl _) (fun _ _ => trivial), h1.grown (grownBy_putObj' _ D _) h1.size (fun i e => by cases e; omega)⟩
end


/-! ### diff_Back: function 9 -/
def diff_Back.f (l0_0 : List (S33)) (l0_1 : List (S33)) : Option ((List (S33)) × (List (S33))) := some (l0_1, l0_0)
set_option maxHeartbeats 8000000 in
set_option maxRecDepth 100000 in
theorem diff_Back.calls (P0_0_ : Nat → Prop) (A0_0 : Option Addr) (c0_0 : Nat) (l0_0 : List (S33)) (P0_1_ : Nat → Prop) (A0_1 : Option Addr) (c0_1 : Nat) (l0_1 : List (S33)) (r1 : List (S33)) (r2 : List (S33)) (w : World) (hs0_0 : Kd.V k33 33 w w.heap.size (fun k_ => P0_0_ k_) (.slice A0_0 l0_0.length c0_0) l0_0) (hs0_1 : Kd.V k33 33 w w.heap.size (fun k_ => P0_1_ k_) (.slice A0_1 l0_1.length c0_1) l0_1) (h : diff_Back.f l0_0 l0_1 = some (r1, r2)) :
    Calls Tryd.prog 9 #[.agg #[.slice A0_0 l0_0.length c0_0, .slice A0_1 l0_1.length c0_1]] w fun e w' => ∃ v0_ v1_ : Value, e = .returned (.agg #[v0_, v1_]) ∧ Kd.V k33 33 w' w.heap.size (fun k_ => ((P0_0_ k_ ∨ P0_1_ k_) ∨ w.heap.size ≤ k_)) v0_ r1 ∧ Kd.V k33 33 w' w.heap.size (fun k_ => ((P0_0_ k_ ∨ P0_1_ k_) ∨ w.heap.size ≤ k_)) v1_ r2 ∧ Below w.heap.size w w' := by
  have hu26 := Tryd.underlying26
  have HO0_0 := Aside0.mk (show Kd.V k33 33 w w.heap.size (fun k_ => ((P0_0_ k_ ∨ P0_1_ k_) ∨ w.heap.size ≤ k_)) (.slice A0_0 l0_0.length c0_0) l0_0 from Kd.V_mono hs0_0 (fun k_ hk => .inl (.inl hk)))
  have HO0_1 := Aside0.mk (show Kd.V k33 33 w w.heap.size (fun k_ => ((P0_0_ k_ ∨ P0_1_ k_) ∨ w.heap.size ≤ k_)) (.slice A0_1 l0_1.length c0_1) l0_1 from Kd.V_mono hs0_1 (fun k_ hk => .inl (.inr hk)))
  have HB := Aside0.mk (Below.refl w.heap.size w)
  have H : (some (l0_1, l0_0)) = some (r1, r2) := h
  clear h
  simp only [Option.some.injEq, Prod.mk.injEq] at H
  obtain ⟨rfl, rfl⟩ := H
  go_enter Tryd.func9, Tryd.ntmps9
  go_wp2_with (first | ((with_reducible refine gate_dst (N := 1) rfl ?_); refine box_event ?hg (N := 1) ?hd (cs := #[.slice A0_0 l0_0.length c0_0, .slice A0_1 l0_1.length c0_1]) (t := 26) ?hr ?_; (case hd => rfl); (case hg => rfl); (case hr => first | (go_simp; done) | (go_simp; rfl)); intro gb196 hg w2 hbox hb; have n0_ := Aside0.mk (Kd.V_below (Kd.V_elderB (by (with_reducible repeat (first | apply Kd.V_alloc | apply Kd.V_drewN | apply Kd.V_drew)); exact HO0_0.out) gb196 (Nat.le_of_eq hg.symm)) hb); have n1_ := Aside0.mk (Kd.V_below (Kd.V_elderB (by (with_reducible repeat (first | apply Kd.V_alloc | apply Kd.V_drewN | apply Kd.V_drew)); exact HO0_1.out) gb196 (Nat.le_of_eq hg.symm)) hb); have n2_ := Aside0.mk (below_step (by repeat (first | (with_reducible first | exact HB.out | apply below_alloc | apply pw_below_drewN | apply below_drew1) | exact HB.out)) hb); have n3_ := Aside0.mk (hbox); have n4_ := Aside0.mk ((by rw [hg]; exact (below_size (by repeat (first | (with_reducible first | exact HB.out | apply below_alloc | apply pw_below_drewN | apply below_drew1) | exact HB.out))) : w.heap.size ≤ gb196)); have n5_ := Aside0.mk ((by rw [hg]; exact (below_size (by repeat (first | (with_reducible first | exact HB.out | apply below_alloc | apply pw_below_drewN | apply below_drew1) | exact HB.out))) : w.heap.size ≤ gb196)); clear HO0_0; clear HO0_1; clear HB; have HO0_0 := n0_; have HO0_1 := n1_; have HB := n2_; have BK196 := n3_; have GW196 := n4_; have GE196 := n5_; clear n0_ n1_ n2_ n3_ n4_ n5_; clear hb hbox hg) | ((with_reducible refine gate_dst (N := 2) rfl ?_); refine box_event ?hg (N := 2) ?hd (cs := #[.slice none 0 0, .slice none 0 0]) (t := 26) ?hr ?_; (case hd => rfl); (case hg => rfl); (case hr => first | (go_simp; done) | (go_simp; rfl)); intro gb197 hg w3 hbox hb; have n0_ := Aside0.mk (Kd.V_below (Kd.V_elderB (by (with_reducible repeat (first | apply Kd.V_alloc | apply Kd.V_drewN | apply Kd.V_drew)); exact HO0_0.out) gb197 (Nat.le_of_eq hg.symm)) hb); have n1_ := Aside0.mk (Kd.V_below (Kd.V_elderB (by (with_reducible repeat (first | apply Kd.V_alloc | apply Kd.V_drewN | apply Kd.V_drew)); exact HO0_1.out) gb197 (Nat.le_of_eq hg.symm)) hb); have n2_ := Aside0.mk (blk_below (g := gb196) (o := .cells #[.slice A0_0 l0_0.length c0_0, .slice A0_1 l0_1.length c0_1] 26 (0, 0)) (by (with_reducible repeat (first | refine blk_drewN ?_ _ | refine blk_drew ?_ | refine blk_alloc ?_ _)); exact BK196.out) hb); have n3_ := Aside0.mk (below_step (by repeat (first | (with_reducible first | exact HB.out | apply below_alloc | apply pw_below_drewN | apply below_drew1 | refine below_set ?_ GE196.out) | exact HB.out)) hb); have n4_ := Aside0.mk (hbox); have n5_ := Aside0.mk ((by rw [hg]; exact (below_size (by repeat (first | (with_reducible first | exact HB.out | apply below_alloc | apply pw_below_drewN | apply below_drew1 | refine below_set ?_ GE196.out) | exact HB.out))) : w.heap.size ≤ gb197)); have n6_ := Aside0.mk ((by rw [hg]; exact (below_size (by repeat (first | (with_reducible first | exact HB.out | apply below_alloc | apply pw_below_drewN | apply below_drew1 | refine below_set ?_ GE196.out) | exact HB.out))) : w.heap.size ≤ gb197)); have n7_ := Aside0.mk ((by rw [hg]; exact Nat.ne_of_lt (blk_lt (g := gb196) (o := .cells #[.slice A0_0 l0_0.length c0_0, .slice A0_1 l0_1.length c0_1] 26 (0, 0)) (by (with_reducible repeat (first | refine blk_drewN ?_ _ | refine blk_drew ?_ | refine blk_alloc ?_ _)); exact BK196.out)) : gb196 ≠ gb197)); have n8_ := Aside0.mk ((by rw [hg]; exact Nat.ne_of_gt (blk_lt (g := gb196) (o := .cells #[.slice A0_0 l0_0.length c0_0, .slice A0_1 l0_1.length c0_1] 26 (0, 0)) (by (with_reducible repeat (first | refine blk_drewN ?_ _ | refine blk_drew ?_ | refine blk_alloc ?_ _)); exact BK196.out)) : gb197 ≠ gb196)); clear HO0_0; clear HO0_1; clear BK196; clear HB; have HO0_0 := n0_; have HO0_1 := n1_; have BK196 := n2_; have HB := n3_; have BK197 := n4_; have GW197 := n5_; have GE197 := n6_; have NB196_197 := n7_; have NB197_196 := n8_; clear n0_ n1_ n2_ n3_ n4_ n5_ n6_ n7_ n8_; clear hb hbox hg; have hnb4 := NB196_197.out; have hnc4 := NB197_196.out; have hcz5_0 : w3.cell? ⟨gb196, 0, none⟩ = some (.slice A0_0 l0_0.length c0_0) := (blk_cell BK196.out 0).trans rfl; have hcz5_1 : w3.cell? ⟨gb196, 1, none⟩ = some (.slice A0_1 l0_1.length c0_1) := (blk_cell BK196.out 1).trans rfl; have hfz5_0 := blk_frozen BK196.out 0; have hfz5_1 := blk_frozen BK196.out 1; have hcz6_0 : w3.cell? ⟨gb197, 0, none⟩ = some (.slice none 0 0) := (blk_cell BK197.out 0).trans rfl; have hcz6_1 : w3.cell? ⟨gb197, 1, none⟩ = some (.slice none 0 0) := (blk_cell BK197.out 1).trans rfl; have hfz6_0 := blk_frozen BK197.out 0; have hfz6_1 := blk_frozen BK197.out 1))
  refine bodyPost_ret (results_cell_row rfl _ _ gb197 26 #[.slice A0_1 l0_1.length c0_1, .slice A0_0 l0_0.length c0_0] (0, 0) _ rfl (by (with_reducible repeat (first | refine blk_drewN ?_ _ | refine blk_drew ?_ | refine blk_alloc ?_ _)); refine blk_put (cs := #[.slice A0_1 l0_1.length c0_1, .slice none 0 0]) ?_ 1 _ rfl; (with_reducible repeat (first | refine blk_drewN ?_ _ | refine blk_drew ?_ | refine blk_alloc ?_ _)); refine blk_put (cs := #[.slice none 0 0, .slice none 0 0]) ?_ 0 _ rfl; (with_reducible repeat (first | refine blk_drewN ?_ _ | refine blk_drew ?_ | refine blk_alloc ?_ _)); exact BK197.out) Tryd.underlying26 rfl (by kernel_rfl)) rfl ?_
  exact ⟨_, _, by first | rfl | (simp [errW_none, errW_some] <;> rfl) | (simp [*, errW_none, errW_some] <;> rfl), by (with_reducible repeat (first | apply Kd.V_alloc | apply Kd.V_drewN | apply Kd.V_drew)); exact Kd.V_mono (Kd.V_far (p := ⟨gb197, 1, none⟩) (Kd.V_far (p := ⟨gb197, 0, none⟩) (Kd.V_mono HO0_1.out (fun k_ hk => (⟨hk, hk.2⟩ : _ ∧ k_ ≠ gb197))) (fun _ hk => hk.2) (.slice A0_1 l0_1.length c0_1)) (fun _ hk => hk.2) (.slice A0_0 l0_0.length c0_0)) (fun _ hk => hk.1.1.1), by (with_reducible repeat (first | apply Kd.V_alloc | apply Kd.V_drewN | apply Kd.V_drew)); exact Kd.V_mono (Kd.V_far (p := ⟨gb197, 1, none⟩) (Kd.V_far (p := ⟨gb197, 0, none⟩) (Kd.V_mono HO0_0.out (fun k_ hk => (⟨hk, hk.2⟩ : _ ∧ k_ ≠ gb197))) (fun _ hk => hk.2) (.slice A0_1 l0_1.length c0_1)) (fun _ hk => hk.2) (.slice A0_0 l0_0.length c0_0)) (fun _ hk => hk.1.1.1), by repeat (first | (with_reducible first | exact HB.out | apply below_alloc | apply pw_below_drewN | apply below_drew1 | refine below_set ?_ GE196.out | refine below_set ?_ GE197.out) | exact HB.out)⟩

/-! ### chainmanref30_SamePairs: function 10 -/
def chainmanref30_SamePairs.l0 : Nat → List (S33) → List (S33) → Int → Option (Bool)
  | 0, _, _, _ => none
  | k + 1, x0, x1, x5 => if x5 < (x0.length : Int) then (if 0 ≤ x5 then (if x5 < (x1.length : Int) then (if (!(((rd_T33 x0 x5).f0) == ((rd_T33 x1 x5).f0)) || (!(((rd_T33 x0 x5).f1) == ((rd_T33 x1 x5).f1)))) = true then (some false) else (chainmanref30_SamePairs.l0 k x0 x1 (wrap64 (x5 + 1)))) else (none)) else (none)) else (some true)
def chainmanref30_SamePairs.f (k : Nat) (l0 : List (S33)) (l1 : List (S33)) : Option (Bool) := if (l0.length : Int) = (l1.length : Int) then (chainmanref30_SamePairs.l0 k l0 l1 0) else (some false)
theorem chainmanref30_SamePairs.mono_l : ∀ k, (∀ y0 y1 y2, LeO (chainmanref30_SamePairs.l0 k y0 y1 y2) (chainmanref30_SamePairs.l0 (k + 1) y0 y1 y2))
  | 0 => fun _ _ _ r h => by simp [chainmanref30_SamePairs.l0] at h
  | k + 1 => by
    have ih0 := chainmanref30_SamePairs.mono_l k
    · intro y0 y1 y2
      unfold chainmanref30_SamePairs.l0
      repeat' first
      | (with_reducible exact ih0 _ _ _)
      | (with_reducible exact LeO.refl _)
      | (with_reducible exact LeO.none _)
      | (with_reducible refine LeO.ite ?_ ?_)
      | (with_reducible refine LeO.bind ?_ (fun _ => ?_))
      | exact ih0 _ _ _
      | exact LeO.none _
      | refine LeO.ite ?_ ?_
      | refine LeO.bind ?_ (fun _ => ?_)
theorem chainmanref30_SamePairs.mono : ∀ a0 a1 k, LeO (chainmanref30_SamePairs.f k a0 a1) (chainmanref30_SamePairs.f (k + 1) a0 a1) := by
  intro a0 a1 k
  have ih0 := chainmanref30_SamePairs.mono_l k
  unfold chainmanref30_SamePairs.f
  repeat' first
      | (with_reducible exact ih0 _ _ _)
      | (with_reducible exact LeO.refl _)
      | (with_reducible exact LeO.none _)
      | (with_reducible refine LeO.ite ?_ ?_)
      | (with_reducible refine LeO.bind ?_ (fun _ => ?_))
      | exact ih0 _ _ _
      | exact LeO.none _
      | refine LeO.ite ?_ ?_
      | refine LeO.bind ?_ (fun _ => ?_)
set_option maxHeartbeats 8000000 in
set_option maxRecDepth 100000 in
theorem chainmanref30_SamePairs.calls (k : Nat) (A0 : Option Addr) (c0 : Nat) (l0 : List (S33)) (A1 : Option Addr) (c1 : Nat) (l1 : List (S33)) (r : Bool) (w : World) (hr0 : Kd.C k33 w A0 l0.length l0) (hc0 : l0.length ≤ c0) (hr1 : Kd.C k33 w A1 l1.length l1) (hc1 : l1.length ≤ c1) (h : chainmanref30_SamePairs.f k l0 l1 = some r) :
    Calls Tryd.prog 10 #[.slice A0 l0.length c0, .slice A1 l1.length c1] w fun e w' => e = .returned (.bool r) ∧ Drawn0 w w' := by
  have hu33 := Tryd.underlying33
  have HR0 := Aside0.mk hr0
  have HC0 := Aside0.mk hc0
  clear hr0 hc0
  have HR1 := Aside0.mk hr1
  have HC1 := Aside0.mk hc1
  clear hr1 hc1
  have H : (if (l0.length : Int) = (l1.length : Int) then (chainmanref30_SamePairs.l0 k l0 l1 0) else (some false)) = some r := h
  clear h
  by_cases c3 : (l0.length : Int) = (l1.length : Int)
  · rw [if_pos c3] at H
    have c3b0 : ((l0.length : Int) == (l1.length : Int)) = true := beq_iff_eq.mpr c3
    have c3b1 : ((l0.length : Int) != (l1.length : Int)) = false := bne_eq_false_iff_eq.mpr c3
    have c3b2 : (l0.length == l1.length) = true := by first | simpa using c3 | (simp at c3 ⊢; omega)
    clear c3
    have H' := Aside0.mk H
    clear H
    go_enter Tryd.func10, Tryd.ntmps10
    go_wp2
    repeat (go_quiet (fail); try go_wp2)
    go_loopg [5] k (fun kq v5 w' => ∃ (x5_1 : Int), v5 = .int .i64 x5_1 ∧ Aside0 (chainmanref30_SamePairs.l0 kq l0 l1 x5_1 = some r) ∧ Aside0 (kq ≤ k) ∧ Drawn0 w w')
    case atStart => exact ⟨(0), (by first | rfl | (simp; done) | (simp [*]; done)), H', ⟨Nat.le_refl _⟩, by repeat (first | exact Drawn0.refl _ | apply Drawn0.step)⟩
    case round =>
      clear H'
      try clear c1
      try clear p2
      try clear c3
      try clear c3b0
      try clear c3b1
      try clear c3b2
      obtain ⟨x5_1, rfl, HA, HK1, ⟨m1, rfl⟩⟩ := hrel
      cases gk with
      | zero => exact absurd HA.out (by simp [chainmanref30_SamePairs.l0])
      | succ k1 =>
        have H := HA.out
        clear HA
        simp only [chainmanref30_SamePairs.l0] at H
        by_cases c4 : x5_1 < (l0.length : Int)
        · rw [if_pos c4] at H
          have c4b0 : decide (x5_1 < (l0.length : Int)) = true := decide_eq_true c4
          clear c4
          by_cases c5 : 0 ≤ x5_1
          · rw [if_pos c5] at H
            have c5b0 : decide (0 ≤ x5_1) = true := decide_eq_true c5
            clear c5
            by_cases c6 : x5_1 < (l1.length : Int)
            · rw [if_pos c6] at H
              have c6b0 : decide (x5_1 < (l1.length : Int)) = true := decide_eq_true c6
              clear c6
              by_cases c7 : (!(((rd_T33 l0 x5_1).f0) == ((rd_T33 l1 x5_1).f0)) || (!(((rd_T33 l0 x5_1).f1) == ((rd_T33 l1 x5_1).f1)))) = true
              · rw [if_pos c7] at H
                have c7b0 : (!(((rd_T33 l0 x5_1).f0) == ((rd_T33 l1 x5_1).f0)) || (!(((rd_T33 l0 x5_1).f1) == ((rd_T33 l1 x5_1).f1)))) = true := c7
                clear c7
                obtain rfl := Option.some.inj H
                have p198 : 0 ≤ (x5_1 : Int) := of_decide_eq_true (by first | (with_reducible assumption) | assumption)
                have q198 : x5_1 < (l0.length : Int) := of_decide_eq_true (by first | (with_reducible assumption) | assumption)
                obtain ⟨ad198, e198, hx198_0, hx198_1⟩ := at_T33 HR0.out x5_1 p198 q198
                cases e198
                replace p198 := eq_true p198
                replace q198 := eq_true q198
                have p199 : 0 ≤ (x5_1 : Int) := of_decide_eq_true (by first | (with_reducible assumption) | assumption)
                have q199 : x5_1 < (l1.length : Int) := of_decide_eq_true (by first | (with_reducible assumption) | assumption)
                obtain ⟨ad199, e199, hx199_0, hx199_1⟩ := at_T33 HR1.out x5_1 p199 q199
                cases e199
                replace p199 := eq_true p199
                replace q199 := eq_true q199
                go_wp2
                repeat (go_quiet (fail); try go_wp2)
                go_ret
                exact ⟨by first | rfl | (simp; done) | (simp [*]; done), by repeat (first | exact Drawn0.refl _ | apply Drawn0.step)⟩
              · rw [if_neg c7] at H
                have c7b0 : (!(((rd_T33 l0 x5_1).f0) == ((rd_T33 l1 x5_1).f0)) || (!(((rd_T33 l0 x5_1).f1) == ((rd_T33 l1 x5_1).f1)))) = false := by simpa using c7
                clear c7
                have H' := Aside0.mk H
                clear H
                have p198 : 0 ≤ (x5_1 : Int) := of_decide_eq_true (by first | (with_reducible assumption) | assumption)
                have q198 : x5_1 < (l0.length : Int) := of_decide_eq_true (by first | (with_reducible assumption) | assumption)
                obtain ⟨ad198, e198, hx198_0, hx198_1⟩ := at_T33 HR0.out x5_1 p198 q198
                cases e198
                replace p198 := eq_true p198
                replace q198 := eq_true q198
                have p199 : 0 ≤ (x5_1 : Int) := of_decide_eq_true (by first | (with_reducible assumption) | assumption)
                have q199 : x5_1 < (l1.length : Int) := of_decide_eq_true (by first | (with_reducible assumption) | assumption)
                obtain ⟨ad199, e199, hx199_0, hx199_1⟩ := at_T33 HR1.out x5_1 p199 q199
                cases e199
                replace p199 := eq_true p199
                replace q199 := eq_true q199
                go_wp2
                repeat (go_quiet (fail); try go_wp2)
                go_roundg k1
                case measure => have := HK1.out; omega
                case rel => exact ⟨(wrap64 (x5_1 + 1)), (by first | rfl | (simp; done) | (simp [*]; done)), H', ⟨by have := HK1.out; omega⟩, by repeat (first | exact Drawn0.refl _ | apply Drawn0.step)⟩
            · rw [if_neg c6] at H
              exact absurd H (by simp)
          · rw [if_neg c5] at H
            exact absurd H (by simp)
        · rw [if_neg c4] at H
          have c4b0 : decide (x5_1 < (l0.length : Int)) = false := decide_eq_false c4
          clear c4
          obtain rfl := Option.some.inj H
          go_wp2
          repeat (go_quiet (fail); try go_wp2)
          go_ret
          exact ⟨by first | rfl | (simp; done) | (simp [*]; done), by repeat (first | exact Drawn0.refl _ | apply Drawn0.step)⟩
  · rw [if_neg c3] at H
    have c3b0 : ((l0.length : Int) == (l1.length : Int)) = false := beq_eq_false_iff_ne.mpr c3
    have c3b1 : ((l0.length : Int) != (l1.length : Int)) = true := bne_iff_ne.mpr c3
    have c3b2 : (l0.length == l1.length) = false := by first | simpa using c3 | (simp at c3 ⊢; omega)
    obtain rfl := Option.some.inj H
    go_enter Tryd.func10, Tryd.ntmps10
    go_wp2
    repeat (go_quiet (fail); try go_wp2)
    go_ret
    exact ⟨by first | rfl | (simp; done) | (simp [*]; done), by repeat (first | exact Drawn0.refl _ | apply Drawn0.step)⟩

end Go.Proofs.YtahkkgnicgbncaaDoor.PDiffApplies
