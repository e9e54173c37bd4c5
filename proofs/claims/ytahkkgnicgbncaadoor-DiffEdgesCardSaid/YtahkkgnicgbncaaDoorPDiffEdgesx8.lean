/- The Go functions that the law reaches, and walks to them; printed by wip/tool/mkprint.py. -/
import Derived.Test.YtahkkgnicgbncaaDoorPDiffEdgesx0
import Derived.Test.YtahkkgnicgbncaaDoorPDiffEdgesx5
import Derived.Test.YtahkkgnicgbncaaDoorPDiffEdgesx7
namespace Go.Proofs.YtahkkgnicgbncaaDoor.PDiffEdges
open Go.RowKit Go.Proofs.YtahkkgnicgbncaaDoorW.PrintWords Go.Proofs.YtahkkgnicgbncaaDoorW.PrintLast Go.Proofs.YtahkkgnicgbncaaDoorW.PrintMore
attribute [local go_sem] max2_int min2_int max_two min_two max_three min_three max_four min_four   -- for this text's walks alone
set_option linter.unusedVariables false
set_option linter.unusedSimpArgs false

/-! ### diff_Pairs: function 7 -/
def diff_Pairs.goneB (l : List (S33 × Bool × Bool)) : List S33 := (l.filter fun t => !t.2.2).map (·.1)
def diff_Pairs.cameB (l : List (S33 × Bool × Bool)) : List S33 := (l.filter fun t => t.2.2 && !t.2.1).map (·.1)
def diff_Pairs.f (k : Nat) (l0 l1 : List S33) : Option (List S33 × List S33 × Bool) := (diff_clean.f k [l0, l1]).bind fun b => if b = true then (if l0.length + l1.length ≤ 1000000 then some (diff_Pairs.goneB (diff_beside.bs diff_beside.lt l0 l1), diff_Pairs.cameB (diff_beside.bs diff_beside.lt l0 l1), true) else none) else some ([], [], false)
theorem diff_Pairs.mono : ∀ a0 a1 k, LeO (diff_Pairs.f k a0 a1) (diff_Pairs.f (k + 1) a0 a1) := by
 intro l0 l1 k
 unfold diff_Pairs.f
 exact LeO.bind (diff_clean.mono _ _) (fun _ => LeO.refl _)
/-- A row of slices, written out. -/
theorem diff_Pairs.litC {W : World} {vs : List Value} {xs : List (List S33)} (hl : vs.length = xs.length) (hn : xs.length ≤ 100) (h : ∀ (j : Nat) x, xs[j]? = some x → ∃ A c, vs[j]? = some (Value.slice A x.length c) ∧ x.length ≤ c ∧ Kd.C k33 W A x.length x) :
  Kd.C (Kd.slice 33 k33) (W.alloc (.cells vs.toArray 22)) (some ⟨W.heap.size, 0, none⟩) xs.length xs := by
 refine ⟨rfl, by omega, fun _ => ⟨_, rfl, fun j p hj => ?_⟩⟩
 obtain ⟨A, c, hv, hc, hC⟩ := h j p hj
 refine ⟨[.slice A p.length c], rfl, ⟨A, c, rfl, hc, Kd.C_below hC (below_alloc (Below.refl _ _) _)⟩, fun i u hi => ?_⟩
 have hi0 : i = 0 := by
  rcases i with _ | i
  ·rfl
  ·simp at hi
 subst hi0
 have hu : .slice A p.length c = u := by simpa using hi
 subst hu
 have h1 := blk_cell (blk_new W (.cells vs.toArray 22)) j
 refine (show _ = (W.alloc (.cells vs.toArray 22)).cell? ⟨W.heap.size, j, none⟩ from by
  have e1 : j * (Kd.slice 33 k33).sz + 0 = j := by show j * 1 + 0 = j; omega
  rw [e1]
  unfold Addr.add
  by_cases hj0 : j = 0
  ·subst hj0; rfl
  ·rw [if_neg hj0, Nat.zero_add]).trans (h1.trans ?_)
 simpa using hv
section
open Go.Shelf
attribute [local go_sem] Oper.semAt_some
/-- Between two rounds. -/
structure diff_Pairs.I (w : World) (n0 ge : Nat) (l0 l1 x y : List S33) (W : World) : Prop where
 res : W.heap[w.heap.size]? = some (.cells #[.slice none 0 0, .slice none 0 0] 26)
 cur : ∃ vg vc g c, W.heap[ge]? = some (.cells #[vg, vc] 26) ∧ Kd.R k33 33 W w.heap.size (fun k => n0 ≤ k ∧ some k ≠ vc.ownBlock) vg g ∧ Kd.R k33 33 W w.heap.size (fun k => n0 ≤ k ∧ some k ≠ vg.ownBlock) vc c ∧
  g ++ diff_Pairs.goneB (diff_beside.bs diff_beside.lt x y) = diff_Pairs.goneB (diff_beside.bs diff_beside.lt l0 l1) ∧ c ++ diff_Pairs.cameB (diff_beside.bs diff_beside.lt x y) = diff_Pairs.cameB (diff_beside.bs diff_beside.lt l0 l1)
 below : Below w.heap.size w W
theorem diff_Pairs.F_in {α : Type} {d : Kd α} {w W : World} {A : Option Addr} {n : Nat} {xs : List α} (hb : Below w.heap.size w W) (h : Kd.F d w (fun k => k < w.heap.size) A n xs) : Kd.F d W (fun k => k < w.heap.size) A n xs := Kd.F_below h hb
theorem diff_Pairs.R_put {e base l : Nat} {ok : Nat → Prop} {v : Value} {xs : List S33} {W : World} {o : Obj} (h : Kd.R k33 e W base ok v xs) (hl : W.heap[l]? = some o) (ho : o.isCells = false) (o' : Obj) : Kd.R k33 e (W.putObj l o') base ok v xs :=
 Kd.R_grown2 h rfl (grownBy_putObj' W l o') (fun i e hi => by
  cases e
  obtain ⟨inner, ⟨_, hh⟩, _⟩ := h.2
  rcases hh with ⟨hv0, _⟩ | ⟨g, cap, cur, hv0, _, hg, _⟩
  ·rw [hv0] at hi; simp [Value.ownBlock] at hi
  ·rw [hv0] at hi; simp [Value.ownBlock] at hi; subst hi; rw [hg] at hl; cases hl; cases ho)
theorem diff_Pairs.I.kp {w : World} {B n0 ge : Nat} {l0 l1 x y : List S33} {W W' : World} (h : diff_Pairs.I w n0 ge l0 l1 x y W) (k : diff_beside.Kp B W W') (h1 : w.heap.size < B) (h2 : ge < B) (h3 : B + 2 ≤ n0) : diff_Pairs.I w n0 ge l0 l1 x y W' := by
 obtain ⟨r, ⟨vg, vc, g, c, a1, a2, a3, a4⟩, b⟩ := h
 refine ⟨blk_kept r k.1 (by omega), ⟨vg, vc, g, c, blk_kept a1 k.1 (by omega), Kd.R_step a2 (fun i hi hlt => k.1.2 i hlt (by have := hi.1; omega)), Kd.R_step a3 (fun i hi hlt => k.1.2 i hlt (by have := hi.1; omega)), a4⟩, b.trans (k.2.mono (by omega))⟩
theorem diff_Pairs.I.put {w : World} {n0 ge l : Nat} {l0 l1 x y : List S33} {W : World} {o : Obj} (h : diff_Pairs.I w n0 ge l0 l1 x y W) (hl : W.heap[l]? = some o) (ho : o.isCells = false) (hn : n0 ≤ l) (h1 : w.heap.size < n0) (h2 : ge < n0) (o' : Obj) : diff_Pairs.I w n0 ge l0 l1 x y (W.putObj l o') := by
 obtain ⟨r, ⟨vg, vc, g, c, a1, a2, a3, a4⟩, b⟩ := h
 refine ⟨(World.putObj_heap_other (by omega)).trans r, ⟨vg, vc, g, c, (World.putObj_heap_other (by omega)).trans a1, diff_Pairs.R_put a2 hl ho _, diff_Pairs.R_put a3 hl ho _, a4⟩, b.grown (grownBy_putObj' W l o') b.size (fun i e => by cases e; omega)⟩
theorem diff_Pairs.I.below_ {w : World} {n0 ge : Nat} {l0 l1 x y : List S33} {W W' : World} (h : diff_Pairs.I w n0 ge l0 l1 x y W) (hb : Below W.heap.size W W') : diff_Pairs.I w n0 ge l0 l1 x y W' := by
 obtain ⟨r, ⟨vg, vc, g, c, a1, a2, a3, a4⟩, b⟩ := h
 exact ⟨blk_below r hb, ⟨vg, vc, g, c, blk_below a1 hb, Kd.R_below a2 hb, Kd.R_below a3 hb, a4⟩, below_step b hb⟩
theorem diff_Pairs.own_is {e base : Nat} {ok : Nat → Prop} {v : Value} {xs : List S33} {W : World} (h : Kd.R k33 e W base ok v xs) {n : Nat} (hn : ∀ k, ok k → n ≤ k) (k : Nat) (hk : v.ownBlock = some k) : n ≤ k ∧ ∀ o, W.heap[k]? = some o → o.isCells = true := by
 refine ⟨hn k (h.1 k hk), fun o ho => ?_⟩
 obtain ⟨_, inner, hown, _⟩ := h
 obtain ⟨cells, hc⟩ := own_typed hown k hk
 rw [hc] at ho
 cases ho
 rfl
theorem diff_Pairs.info : (Tryd.prog.info? 33).map (fun i => (i.zero, i.size, i.bytes)) = some (some (.agg #[.int .i64 0, .int .i64 0]), 2, 16) := by kernel_rfl
theorem diff_Pairs.bs_len (lt : S33 → S33 → Bool) : ∀ (l m : List S33), (diff_beside.bs lt l m).length ≤ l.length + m.length := by
 intro l m
 generalize hn : l.length + m.length = n
 induction n using Nat.strongRecOn generalizing l m with
 | _ n ih =>
  rw [diff_beside.bs_next]
  cases h : diff_beside.next lt l m with
  | none => simp
  | some r =>
   obtain ⟨t, l', m'⟩ := r
   have hlt : l'.length + m'.length < n := by
    rcases diff_beside.next_cases h with ⟨_, rfl, rfl, _⟩ | ⟨_, rfl, rfl, _⟩ | ⟨_, _, rfl, rfl, _⟩ <;> simp only [List.length_cons] at hn <;> omega
   have := ih _ hlt l' m' rfl
   simp only [List.length_cons]
   omega
theorem diff_Pairs.len_le (l m : List S33) : (diff_Pairs.goneB (diff_beside.bs diff_beside.lt l m)).length + (diff_Pairs.cameB (diff_beside.bs diff_beside.lt l m)).length ≤ 2 * (l.length + m.length) := by
 have h := diff_Pairs.bs_len diff_beside.lt l m
 unfold diff_Pairs.goneB diff_Pairs.cameB
 have h1 := List.length_filter_le (fun t : S33 × Bool × Bool => !t.2.2) (diff_beside.bs diff_beside.lt l m)
 have h2 := List.length_filter_le (fun t : S33 × Bool × Bool => t.2.2 && !t.2.1) (diff_beside.bs diff_beside.lt l m)
 simp only [List.length_map]
 omega
theorem diff_Pairs.gone_next {lt : S33 → S33 → Bool} {x y x' y' : List S33} {t : S33 × Bool × Bool} (h : diff_beside.next lt x y = some (t, x', y')) : diff_Pairs.goneB (diff_beside.bs lt x y) = (if t.2.2 then [] else [t.1]) ++ diff_Pairs.goneB (diff_beside.bs lt x' y') := by
 rw [diff_beside.bs_next lt x y, h]
 obtain ⟨p, f, s⟩ := t
 cases s <;> simp [diff_Pairs.goneB, List.filter_cons]
theorem diff_Pairs.came_next {lt : S33 → S33 → Bool} {x y x' y' : List S33} {t : S33 × Bool × Bool} (h : diff_beside.next lt x y = some (t, x', y')) : diff_Pairs.cameB (diff_beside.bs lt x y) = (if t.2.2 && !t.2.1 then [t.1] else []) ++ diff_Pairs.cameB (diff_beside.bs lt x' y') := by
 rw [diff_beside.bs_next lt x y, h]
 obtain ⟨p, f, s⟩ := t
 cases s <;> cases f <;> simp [diff_Pairs.cameB, List.filter_cons]
set_option maxRecDepth 100000 in
set_option maxHeartbeats 4000000 in
theorem diff_Pairs.calls (k : Nat) (A0 : Option Addr) (c0 : Nat) (l0 : List S33) (A1 : Option Addr) (c1 : Nat) (l1 : List S33) (r1 : List S33) (r2 : List S33) (r3 : Bool) (w : World) (hr0 : Kd.C k33 w A0 l0.length l0) (hc0 : l0.length ≤ c0) (hr1 : Kd.C k33 w A1 l1.length l1) (hc1 : l1.length ≤ c1) (h : diff_Pairs.f k l0 l1 = some (r1, r2, r3)) :
  Calls Tryd.prog 7 #[.slice A0 l0.length c0, .slice A1 l1.length c1] w fun e w' => ∃ v0_ v1_ : Value, e = .returned (.tuple #[.agg #[v0_, v1_], .bool r3]) ∧ Kd.R k33 33 w' w.heap.size (fun k_ => some k_ ≠ (v1_ : Value).ownBlock) v0_ r1 ∧ Kd.R k33 33 w' w.heap.size (fun k_ => some k_ ≠ (v0_ : Value).ownBlock) v1_ r2 ∧ Below w.heap.size w w' := by
 unfold diff_Pairs.f at h
 obtain ⟨b, hb, h⟩ := Option.bind_eq_some_iff.mp h
 have hu26 := Tryd.underlying26
 have H := Aside0.mk h
 clear h
 obtain ⟨Wa, hWa⟩ : ∃ Wa, Wa = w.alloc (.cells #[.slice none 0 0, .slice none 0 0] 26) := ⟨_, rfl⟩
 have hba : Below w.heap.size w Wa := by rw [hWa]; exact below_alloc (Below.refl _ _) _
 have hra : Wa.heap[w.heap.size]? = some (.cells #[.slice none 0 0, .slice none 0 0] 26) := by rw [hWa]; exact blk_new _ _
 have hC := diff_Pairs.litC (W := Wa) (vs := [.slice A0 l0.length c0, .slice A1 l1.length c1]) (xs := [l0, l1]) rfl (by simp) (fun j x hj => by
  rcases j with _ | _ | j
  ·cases hj; exact ⟨A0, c0, rfl, hc0, Kd.C_below hr0 hba⟩
  ·cases hj; exact ⟨A1, c1, rfl, hc1, Kd.C_below hr1 hba⟩
  ·simp at hj)
 have hK := diff_clean.calls k _ 2 [l0, l1] b _ hC (Nat.le_refl _) hb
 have HC := Aside0.mk (And.intro hr0 (And.intro hr1 (And.intro hc0 hc1)))
 have HA := Aside0.mk (And.intro hba hra)
 clear hr0 hr1 hc0 hc1 hba hra hC hb
 have hz : Wa.heap.size = w.heap.size + 1 := by rw [hWa]; exact World.size_alloc _ _
 rw [hz] at hK
 subst hWa
 clear hz
 refine (callsIn_wide (n := 5)).1 ?_
 refine callsIn_of_wp_marks Tryd.func7 rfl trivial ?_ rfl
 simp only [Tryd.ntmps7, List.size_toArray, List.length_cons, List.length_nil, Nat.reduceAdd, Nat.reduceSub, Array.replicate_succ, Array.replicate_zero, List.push_toArray, List.append_toArray, List.nil_append, List.cons_append]
 refine wpIn_wide.2 ?_
 have RS := Aside0.mk fun (W : World) (gh : W.heap[w.heap.size]? = some (.cells #[.slice none 0 0, .slice none 0 0] 26)) => And.intro ((blk_cell gh 0).trans rfl : W.cell? ⟨w.heap.size, 0, none⟩ = some (.slice none 0 0)) (And.intro ((blk_cell gh 1).trans rfl : W.cell? ⟨w.heap.size, 1, none⟩ = some (.slice none 0 0)) (And.intro (blk_frozen gh 0) (blk_frozen gh 1)))
 cases b with
 | false =>
  have h := H.out
  rw [if_neg (by decide)] at h
  obtain ⟨rfl, rfl, rfl⟩ : [] = r1 ∧ [] = r2 ∧ false = r3 := by simpa using h
  clear h H
  go_wp2_with (first | (go_at_call 17; refine Calls.mono hK ?_; rintro e w1 ⟨rfl, hb1⟩; have hg1 := blk_below (blk_alloc HA.out.2 _) hb1; have hx1 := below_step (below_alloc HA.out.1 _) hb1; have HG1 := Aside0.mk hg1; have HX1 := Aside0.mk hx1; obtain ⟨z0, z1, q0, q1⟩ := RS.out w1 hg1; clear hg1 hx1 hb1 hK RS))
  refine ⟨_, results_ct rfl _ _ w.heap.size 26 #[.slice none 0 0, .slice none 0 0] (0, 0) _ rfl (by refine blk_put (cs := #[.slice none 0 0, .slice none 0 0]) ?_ 1 _ rfl; refine blk_put (cs := #[.slice none 0 0, .slice none 0 0]) ?_ 0 _ rfl; exact HG1.out) hu26 rfl (by kernel_rfl), ?_⟩
  exact ⟨_, _, rfl, Kd.R_nil _ _ _ _ _, Kd.R_nil _ _ _ _ _, below_set (below_set HX1.out (Nat.le_refl _)) (Nat.le_refl _)⟩
 | true =>
  have h := H.out
  rw [if_pos rfl] at h
  split at h
  case isFalse => cases h
  case isTrue hlen =>
  obtain ⟨rfl, rfl, rfl⟩ : diff_Pairs.goneB (diff_beside.bs diff_beside.lt l0 l1) = r1 ∧ diff_Pairs.cameB (diff_beside.bs diff_beside.lt l0 l1) = r2 ∧ true = r3 := by simpa using h
  clear h H
  have HL := Aside0.mk hlen
  clear hlen
  go_wp2_with (first | (go_at_call 17; refine Calls.mono hK ?_; rintro e w1 ⟨rfl, hb1⟩; have HG1 := Aside0.mk (blk_below (blk_alloc HA.out.2 _) hb1); have HX1 := Aside0.mk (below_step (below_alloc HA.out.1 _) hb1); clear hb1 hK) | ((with_reducible refine gate_dst (N := 6) rfl ?_); refine box_event ?hg (N := 6) ?hd (cs := #[.slice none 0 0, .slice none 0 0]) (t := 26) ?hr ?_; (case hd => rfl); (case hg => rfl); (case hr => first | (go_simp; done) | (go_simp; rfl)); intro ge hge w2 he2 hk2; have HG2 := Aside0.mk (blk_below HG1.out hk2); have HX2 := Aside0.mk (below_step HX1.out hk2); have HE2 := Aside0.mk he2; have HGE := Aside0.mk (show w.heap.size < ge by rw [hge]; exact blk_lt HG1.out); clear HG1 HX1 hge he2 hk2) | (go_at_call 18; refine Calls.mono (diff_beside.call A0 A1 _ _ c0 c1 _) ?_; rintro e w3 ⟨rfl, hw3⟩))
  have hF0 := diff_Pairs.F_in HX2.out (Kd.C_F diff_beside.heap HC.out.1)
  have hF1 := diff_Pairs.F_in HX2.out (Kd.C_F diff_beside.heap HC.out.2.1)
  obtain ⟨hbx, hby, hk3, hz3⟩ := diff_beside.made (w := w2) rfl hF0 hF1 HC.out.2.2.1 HC.out.2.2.2
  generalize (w2.alloc (Obj.cells #[Value.slice A0 l0.length c0] 22)).alloc (Obj.cells #[Value.slice A1 l1.length c1] 22) = w3 at hbx hby hk3 hz3 ⊢
  have hge := HGE.out
  have hlt2 : ge < w2.heap.size := blk_lt HE2.out
  refine diff_beside.over w2.heap.size (fun k => k < w.heap.size) l0 l1 rfl (fun k hk => by omega) (fun k hk => by omega) hbx hby (by have := HL.out; omega) (diff_Pairs.I w w3.heap.size ge l0 l1) (fun _ _ => False) (fun x y W W' h k _ _ => h.kp k (by omega) hlt2 (by omega)) (fun x y W l o o' h hl ho hn => h.put hl ho hn (by omega) (by omega) o') (fun c W l o o' h _ _ _ => h)
   (fun W hb => ⟨blk_below (blk_below HG2.out hk3) hb, ⟨_, _, [], [], blk_below (blk_below HE2.out hk3) hb, Kd.R_nil _ _ _ _ _, Kd.R_nil _ _ _ _ _, by simp, by simp⟩, below_step (below_step HX2.out hk3) hb⟩) ?hround ?hdone (fun D c W _ h => h.elim)
  case hround =>
   intro x y t x' y' l W hI hnx hzW
   simp only [List.setIfInBounds_toArray, List.set_cons_zero, List.set_cons_succ]
   obtain ⟨p, f, s⟩ := t
   obtain ⟨q0, q1⟩ := p
   dsimp only
   have HI := Aside0.mk hI
   have HNX := Aside0.mk hnx
   have HNW := Aside0.mk hzW
   have HZ := Aside0.mk (And.intro hzW (And.intro hge (And.intro hlt2 hz3)))
   clear hI hnx hzW hge hlt2 hz3 hbx hby hk3 hF0 hF1
   gi_wp2
   have hb4 : Below W.heap.size W ((W.alloc (.cells #[.int .i64 q0, .int .i64 q1] 33)).alloc (.cells #[.bool f, .bool s] 51)) := below_alloc (below_alloc (Below.refl _ _) _) _
   have HP4 := Aside0.mk (blk_alloc (blk_new W (.cells #[.int .i64 q0, .int .i64 q1] 33)) (.cells #[.bool f, .bool s] 51))
   have HW4 := Aside0.mk (show ((W.alloc (.cells #[.int .i64 q0, .int .i64 q1] 33)).alloc (.cells #[.bool f, .bool s] 51)).heap[W.heap.size + 1]? = some (.cells #[.bool f, .bool s] 51) by have := blk_new (W.alloc (.cells #[.int .i64 q0, .int .i64 q1] 33)) (.cells #[.bool f, .bool s] 51); rwa [World.size_alloc] at this)
   have HI4 := Aside0.mk (HI.out.below_ hb4)
   obtain ⟨gp, hgp⟩ : ∃ gp, gp = W.heap.size := ⟨_, rfl⟩
   obtain ⟨gw, hgw⟩ : ∃ gw, gw = W.heap.size + 1 := ⟨_, rfl⟩
   refine ⟨diff_beside.Off.below hb4, ?_⟩
   generalize (W.alloc (.cells #[.int .i64 q0, .int .i64 q1] 33)).alloc (.cells #[.bool f, .bool s] 51) = W4 at hb4 HP4 HW4 HI4 ⊢
   rw [← hgw] at HW4 ⊢
   rw [← hgp] at HP4 ⊢
   clear hgp hgw
   intro o o' hlo hoc hl0
   obtain ⟨hzW, hge, hlt2, hz3⟩ := HZ.out
   have hgl : gp ≠ l := fun e => by have h := HP4.out; rw [e, hlo] at h; cases h; cases hoc
   have hwl : gw ≠ l := fun e => by have h := HW4.out; rw [e, hlo] at h; cases h; cases hoc
   have HIB := HI4.out.put hlo hoc hl0 (by omega) (by omega) o'
   have HPB := Aside0.mk (diff_beside.put_other (o' := o') HP4.out hgl)
   have HWB := Aside0.mk (diff_beside.put_other (o' := o') HW4.out hwl)
   have HNB := Aside0.mk (show w3.heap.size ≤ (W4.putObj l o').heap.size by
    have h1 := hb4.size
    have h2 : (W4.putObj l o').heap.size = W4.heap.size := by simp [World.putObj]
    omega)
   clear HP4 HW4 HI4 hlo hb4 hgl hwl
   generalize W4.putObj l o' = WB at HIB HPB HWB HNB ⊢
   obtain ⟨hr, ⟨vg, vc, g, c, a1, a2, a3, a4, a5⟩, hbel⟩ := HIB
   have HR := Aside0.mk hr
   have HE := Aside0.mk a1
   have HG := Aside0.mk a2
   have HCM := Aside0.mk a3
   have HB := Aside0.mk hbel
   have HEQ := Aside0.mk (And.intro a4 a5)
   have HZZ := Aside0.mk (And.intro hge (And.intro hlt2 hz3))
   have z0 : WB.cell? ⟨gw, 0, none⟩ = some (.bool f) := (blk_cell HWB.out 0).trans rfl
   have z1 : WB.cell? ⟨gw, 1, none⟩ = some (.bool s) := (blk_cell HWB.out 1).trans rfl
   have p0 : WB.cell? ⟨gp, 0, none⟩ = some (.int .i64 q0) := (blk_cell HPB.out 0).trans rfl
   have p1 : WB.cell? ⟨gp, 1, none⟩ = some (.int .i64 q1) := (blk_cell HPB.out 1).trans rfl
   have e0 : WB.cell? ⟨ge, 0, none⟩ = some vg := (blk_cell HE.out 0).trans rfl
   have e1 : WB.cell? ⟨ge, 1, none⟩ = some vc := (blk_cell HE.out 1).trans rfl
   have hln : g.length + c.length ≤ 2000000 := by
    have h1 := congrArg List.length a4
    have h2 := congrArg List.length a5
    have h3 := diff_Pairs.len_le l0 l1
    have h4 := HL.out
    simp only [List.length_append] at h1 h2
    omega
   have HLN := Aside0.mk hln
   clear hr a1 a2 a3 a4 a5 hbel hln hzW hge hlt2 hz3
   rcases diff_beside.next_cases HNX.out with ⟨a, ex, ey, et⟩ | ⟨b, ex, ey, et⟩ | ⟨a, b, ex, ey, et⟩
   ·obtain ⟨rfl, rfl, rfl⟩ : ⟨q0, q1⟩ = a ∧ f = true ∧ s = false := by simpa using et
    clear ex ey et
    gi_wp2_with (first | (gi_at_builtin; (with_reducible refine diff_beside.list_of ?no_ _ ?tm_ _ _ ?_); (case no_ => rintro ⟨_, _, h⟩; exact h.2); (case tm_ => rfl); refine Kd.R_append k33 (w0 := w) w.heap.size rfl (.tmp 25) (.tmp 27) 22 33 (.agg #[.int .i64 0, .int .i64 0]) 16 rfl Tryd.underlying22 diff_Pairs.info rfl (by decide) (by omega) vg g ⟨q0, q1⟩ [.int .i64 q0, .int .i64 q1] (fun k => w3.heap.size ≤ k ∧ some k ≠ (vc : Value).ownBlock) (fun _ => False) rfl rfl ?aP (fun _ hk => hk.elim) ?aF HG.out HB.out HB.out.size ?aL ?_; (case aP => exact k33_mkM _ _ _ _); (case aF => exact fun k hk => ⟨by have h1 := HZZ.out; have h2 := blk_lt HE.out; have h3 := HNB.out; omega, fun e => by have h4 := Kd.R_lt HCM.out k e.symm; omega⟩); (case aL => have h5 := HLN.out; omega); intro v1 w5 ho hb hg hat; have HGR := Aside0.mk hg; have HB5 := Aside0.mk hb; have HE5 := Aside0.mk (blk_grown HE.out hg (Kd.R_away HG.out (fun k hk => by have h1 := HZZ.out; have h6 := hk.1; omega))); have HR5 := Aside0.mk (blk_grown HR.out hg (Kd.R_away HG.out (fun k hk => by have h1 := HZZ.out; have h6 := hk.1; omega))); have HC5 := Aside0.mk (Kd.R_reok (ok := fun k => w3.heap.size ≤ k ∧ some k ≠ v1.ownBlock) rfl (Kd.R_grown HCM.out hg (fun k hk => hk.2)) (fun k hk => ⟨(HCM.out.1 k hk).1, fun e => (ho.1 k e.symm).2 hk.symm⟩)); have HO5 := Aside0.mk ho; obtain ⟨A5, c5, e5⟩ := Kd.R_slice ho; subst e5; clear e0 e1 z0 z1 p0 p1 ho hb hg hat; have e0 : w5.cell? ⟨ge, 0, none⟩ = some vg := (blk_cell HE5.out 0).trans rfl; have ef := blk_frozen HE5.out 0) | go_values | go_skip | go_guarded | go_step | go_upon)
    have hl5 : (g ++ [(⟨q0, q1⟩ : S33)]).length = g.length + 1 := by simp
    have ho6 := HO5.out
    have hc6 := HC5.out
    rw [hl5] at ho6 hc6
    have HD := HZZ.out
    have hgr := HGR.out
    have hrow : ∀ k, vg.ownBlock = some k → w3.heap.size ≤ k ∧ ∀ o, WB.heap[k]? = some o → o.isCells = true := diff_Pairs.own_is HG.out (fun k h => h.1)
    refine ⟨(diff_beside.Off.grown hgr (fun k h => by have h1 := hrow k h; exact ⟨by omega, by omega, by omega, h1.2⟩)).trans (diff_beside.Off.set (p := ⟨ge, 0, none⟩) HE5.out (show ge ≠ w2.heap.size by omega) (show ge ≠ w2.heap.size + 1 by omega) (show ¬ ge < w.heap.size by omega) _), ?_⟩
    refine ⟨blk_far HR5.out (p := ⟨ge, 0, none⟩) (show w.heap.size ≠ ge by omega) _, ⟨_, vc, g ++ [⟨q0, q1⟩], c, blk_put (cs' := #[_, vc]) HE5.out 0 _ rfl, Kd.R_far (p := ⟨ge, 0, none⟩) ho6 (fun k hk => show k ≠ ge by have := hk.1; omega) _, Kd.R_far (p := ⟨ge, 0, none⟩) hc6 (fun k hk => show k ≠ ge by have := hk.1; omega) _, ?_, ?_⟩, below_set HB5.out (show w.heap.size ≤ ge by omega)⟩
    ·rw [← HEQ.out.1, diff_Pairs.gone_next HNX.out]; simp
    ·rw [← HEQ.out.2, diff_Pairs.came_next HNX.out]; simp
   ·obtain ⟨rfl, rfl, rfl⟩ : ⟨q0, q1⟩ = b ∧ f = false ∧ s = true := by simpa using et
    clear ex ey et
    gi_wp2_with (first | (gi_at_builtin; (with_reducible refine diff_beside.list_of ?no_ _ ?tm_ _ _ ?_); (case no_ => rintro ⟨_, _, h⟩; exact h.2); (case tm_ => rfl); refine Kd.R_append k33 (w0 := w) w.heap.size rfl (.tmp 35) (.tmp 37) 22 33 (.agg #[.int .i64 0, .int .i64 0]) 16 rfl Tryd.underlying22 diff_Pairs.info rfl (by decide) (by omega) vc c ⟨q0, q1⟩ [.int .i64 q0, .int .i64 q1] (fun k => w3.heap.size ≤ k ∧ some k ≠ (vg : Value).ownBlock) (fun _ => False) rfl rfl ?aP (fun _ hk => hk.elim) ?aF HCM.out HB.out HB.out.size ?aL ?_; (case aP => exact k33_mkM _ _ _ _); (case aF => exact fun k hk => ⟨by have h1 := HZZ.out; have h2 := blk_lt HE.out; have h3 := HNB.out; omega, fun e => by have h4 := Kd.R_lt HG.out k e.symm; omega⟩); (case aL => have h5 := HLN.out; omega); intro v1 w5 ho hb hg hat; have HGR := Aside0.mk hg; have HB5 := Aside0.mk hb; have HE5 := Aside0.mk (blk_grown HE.out hg (Kd.R_away HCM.out (fun k hk => by have h1 := HZZ.out; have h6 := hk.1; omega))); have HR5 := Aside0.mk (blk_grown HR.out hg (Kd.R_away HCM.out (fun k hk => by have h1 := HZZ.out; have h6 := hk.1; omega))); have HC5 := Aside0.mk (Kd.R_reok (ok := fun k => w3.heap.size ≤ k ∧ some k ≠ v1.ownBlock) rfl (Kd.R_grown HG.out hg (fun k hk => hk.2)) (fun k hk => ⟨(HG.out.1 k hk).1, fun e => (ho.1 k e.symm).2 hk.symm⟩)); have HO5 := Aside0.mk ho; obtain ⟨A5, c5, e5⟩ := Kd.R_slice ho; subst e5; clear e0 e1 z0 z1 p0 p1 ho hb hg hat; have e1 : w5.cell? ⟨ge, 1, none⟩ = some vc := (blk_cell HE5.out 1).trans rfl; have ef := blk_frozen HE5.out 1) | go_values | go_skip | go_guarded | go_step | go_upon)
    have hl5 : (c ++ [(⟨q0, q1⟩ : S33)]).length = c.length + 1 := by simp
    have ho6 := HO5.out
    have hc6 := HC5.out
    rw [hl5] at ho6 hc6
    have HD := HZZ.out
    have hgr := HGR.out
    have hrow : ∀ k, vc.ownBlock = some k → w3.heap.size ≤ k ∧ ∀ o, WB.heap[k]? = some o → o.isCells = true := diff_Pairs.own_is HCM.out (fun k h => h.1)
    refine ⟨(diff_beside.Off.grown hgr (fun k h => by have h1 := hrow k h; exact ⟨by omega, by omega, by omega, h1.2⟩)).trans (diff_beside.Off.set (p := ⟨ge, 1, none⟩) HE5.out (show ge ≠ w2.heap.size by omega) (show ge ≠ w2.heap.size + 1 by omega) (show ¬ ge < w.heap.size by omega) _), ?_⟩
    refine ⟨blk_far HR5.out (p := ⟨ge, 1, none⟩) (show w.heap.size ≠ ge by omega) _, ⟨vg, _, g, c ++ [⟨q0, q1⟩], blk_put (cs' := #[vg, _]) HE5.out 1 _ rfl, Kd.R_far (p := ⟨ge, 1, none⟩) hc6 (fun k hk => show k ≠ ge by have := hk.1; omega) _, Kd.R_far (p := ⟨ge, 1, none⟩) ho6 (fun k hk => show k ≠ ge by have := hk.1; omega) _, ?_, ?_⟩, below_set HB5.out (show w.heap.size ≤ ge by omega)⟩
    ·rw [← HEQ.out.1, diff_Pairs.gone_next HNX.out]; simp
    ·rw [← HEQ.out.2, diff_Pairs.came_next HNX.out]; simp
   ·obtain ⟨rfl, rfl, rfl⟩ : ⟨q0, q1⟩ = b ∧ f = true ∧ s = true := by simpa using et
    clear ex ey et
    gi_wp2_with (first | fail | go_values | go_skip | go_guarded | go_step | go_upon)
    refine ⟨diff_beside.Off.refl _ _ _, HR.out, ⟨vg, vc, g, c, HE.out, HG.out, HCM.out, ?_, ?_⟩, HB.out⟩
    ·rw [← HEQ.out.1, diff_Pairs.gone_next HNX.out]; simp
    ·rw [← HEQ.out.2, diff_Pairs.came_next HNX.out]; simp
  case hdone =>
   intro D W hD hI hd
   obtain ⟨hr, ⟨vg, vc, g, c, a1, a2, a3, a4, a5⟩, hbel⟩ := hI
   obtain ⟨Ag, cg, rfl⟩ := Kd.R_slice a2
   obtain ⟨Ac, cc, rfl⟩ := Kd.R_slice a3
   have e0 : W.cell? ⟨ge, 0, none⟩ = some (.slice Ag g.length cg) := (blk_cell a1 0).trans rfl
   have e1 : W.cell? ⟨ge, 1, none⟩ = some (.slice Ac c.length cc) := (blk_cell a1 1).trans rfl
   obtain ⟨z0, z1, zf0, zf1⟩ := RS.out W hr
   have EG := Aside0.mk <| show g = diff_Pairs.goneB (diff_beside.bs diff_beside.lt l0 l1) by rw [← a4]; simp [diff_beside.bs, diff_Pairs.goneB]
   have EC := Aside0.mk <| show c = diff_Pairs.cameB (diff_beside.bs diff_beside.lt l0 l1) by rw [← a5]; simp [diff_beside.bs, diff_Pairs.cameB]
   have HF := Aside0.mk (And.intro hr (And.intro a2 (And.intro a3 (And.intro hbel (And.intro hd (And.intro hD (And.intro hge (And.intro hlt2 hz3))))))))
   clear hr a1 a2 a3 a4 a5 hbel hd hD hge hlt2 hz3 hbx hby hk3 hF0 hF1
   go_wp2
   obtain ⟨hr, a2, a3, hbel, hd, hD, hge, hlt2, hz3⟩ := HF.out
   have hd' := (Below.heap_setCell _ ⟨w.heap.size, 1, none⟩ (.slice Ac c.length cc) D (show D ≠ w.heap.size by omega)).trans ((Below.heap_setCell W ⟨w.heap.size, 0, none⟩ (.slice Ag g.length cg) D (show D ≠ w.heap.size by omega)).trans hd)
   refine ⟨by simp, .inl ⟨_, _, rfl, run_takeDeferred hd', ?_⟩⟩
   refine ⟨_, results_ct rfl _ _ w.heap.size 26 #[.slice Ag g.length cg, .slice Ac c.length cc] (0, 0) _ rfl ((World.putObj_heap_other (show w.heap.size ≠ D by omega)).trans (by refine blk_put (cs := #[.slice Ag g.length cg, .slice none 0 0]) ?_ 1 _ rfl; refine blk_put (cs := #[.slice none 0 0, .slice none 0 0]) ?_ 0 _ rfl; exact hr)) hu26 rfl (by kernel_rfl), ?_⟩
   rw [← EG.out, ← EC.out]
   have hne : ∀ k, w3.heap.size ≤ k → k ≠ w.heap.size := fun k h => by omega
   have hb9 : Below w.heap.size w ((W.setCell ⟨w.heap.size, 0, none⟩ (.slice Ag g.length cg)).setCell ⟨w.heap.size, 1, none⟩ (.slice Ac c.length cc)) := below_set (below_set hbel (Nat.le_refl _)) (Nat.le_refl _)
   exact ⟨_, _, rfl, Kd.R_mono (diff_Pairs.R_put (Kd.R_far (p := ⟨w.heap.size, 1, none⟩) (Kd.R_far (p := ⟨w.heap.size, 0, none⟩) a2 (fun k h => hne k h.1) _) (fun k h => hne k h.1) _) hd' rfl _) (fun k h => h.2), Kd.R_mono (diff_Pairs.R_put (Kd.R_far (p := ⟨w.heap.size, 1, none⟩) (Kd.R_far (p := ⟨w.heap.size, 0, none⟩) a3 (fun k h => hne k h.1) _) (fun k h => hne k h.1) _) hd' rfl _) (fun k h => h.2), hb9.grown (grownBy_putObj' _ D _) hb9.size (fun i e => by cases e; omega)⟩
end


/-! ### strconv_Itoa: function 21 -/
def strconv_Itoa.f (a0 : Int) : Option ByteArray := if 0 ≤ a0 ∧ a0 < 100 then some ⟨(Lib.decDigits a0.toNat).toArray⟩ else none
theorem strconv_Itoa.calls (a0 : Int) (r : ByteArray) (w : World) (h : strconv_Itoa.f a0 = some r) :
  Calls Tryd.prog 21 #[.int .i64 a0] w fun e w' => e = .returned (.string r) ∧ Below w.heap.size w w' := by
 unfold strconv_Itoa.f at h
 split at h
 case isFalse => cases h
 case isTrue hh =>
 obtain ⟨i, rfl⟩ := Int.eq_ofNat_of_zero_le hh.1
 rw [Int.toNat_natCast] at h
 obtain rfl := Option.some.inj h
 refine (Go.Proofs.YtahkkgnicgbncaaDoorI.itoa_small i (by omega) w).mono ?_
 rintro e w' ⟨rfl, rfl⟩
 exact ⟨rfl, Below.refl _ _⟩


/-! ### diff_Text: function 11 -/
/-- A pair's line. -/
def diff_Text.line (mk : ByteArray) (p : S33) : Option ByteArray := (strconv_Itoa.f p.f0).bind fun x => (strconv_Itoa.f p.f1).bind fun y => some (((((mk ++ ⟨#[32]⟩) ++ x) ++ ⟨#[32]⟩) ++ y) ++ ⟨#[10]⟩)
def diff_Text.one (t : S33 × Bool × Bool) : Option ByteArray := (if t.2.1 then diff_Text.line ⟨#[45]⟩ t.1 else some ⟨#[]⟩).bind fun x => (if t.2.2 then diff_Text.line ⟨#[43]⟩ t.1 else some ⟨#[]⟩).bind fun y => some (x ++ y)
def diff_Text.lines : List (S33 × Bool × Bool) → Option ByteArray
 | [] => some ⟨#[]⟩
 | t :: l => (diff_Text.one t).bind fun x => (diff_Text.lines l).bind fun y => some (x ++ y)
def diff_Text.f (k : Nat) (g c : List S33) : Option ByteArray := (diff_clean.f k [g, c]).bind fun b => if b = true then (if g.length + c.length ≤ 1000000 then diff_Text.lines (diff_beside.bs diff_beside.lt g c) else none) else some ⟨#[]⟩
theorem diff_Text.mono : ∀ a0 a1 k, LeO (diff_Text.f k a0 a1) (diff_Text.f (k + 1) a0 a1) := by
 intro l0 l1 k
 unfold diff_Text.f
 exact LeO.bind (diff_clean.mono _ _) (fun _ => LeO.refl _)
theorem diff_Text.itoa_len (a : Int) (x : ByteArray) (h : strconv_Itoa.f a = some x) : x.size ≤ 3 := by
 unfold strconv_Itoa.f at h
 split at h
 case isFalse => cases h
 case isTrue hh =>
  obtain rfl := Option.some.inj h
  have : (Lib.decDigits a.toNat).length ≤ 3 := by
   by_cases h1 : a.toNat < 10
   ·rw [Lib.decDigits_one h1]; simp
   ·rw [Lib.decDigits_two h1 (by omega)]; simp
  simpa [ByteArray.size] using this
theorem diff_Text.itoa (a : Int) (x : ByteArray) (h : strconv_Itoa.f a = some x) (w : World) : Calls Tryd.prog 21 #[.int .i64 a] w fun e w' => e = .returned (.string x) ∧ w' = w := by
 unfold strconv_Itoa.f at h
 split at h
 case isFalse => cases h
 case isTrue hh =>
 obtain ⟨i, rfl⟩ := Int.eq_ofNat_of_zero_le hh.1
 rw [Int.toNat_natCast] at h
 obtain rfl := Option.some.inj h
 exact Go.Proofs.YtahkkgnicgbncaaDoorI.itoa_small i (by omega) w
theorem diff_Text.bld_keep {B b : Nat} {bs : List Value} {W W' : World} (h : Lib.IsBuilderF 55 5 B b bs W) (k : ∀ (i : Nat) (cs : Array Value) (t : TypeId) (fz : Nat × Nat), W.heap[i]? = some (.cells cs t fz) → W'.heap[i]? = some (.cells cs t fz)) : Lib.IsBuilderF 55 5 B b bs W' := by
 have one : ∀ p, Lib.BuilderAtF 55 5 B b p bs W → Lib.BuilderAtF 55 5 B b p bs W' := by
  rintro p ⟨hB, v, hb, ⟨h1, h2⟩, hne⟩
  refine ⟨hB, v, k _ _ _ _ hb, ⟨h1, ?_⟩, hne⟩
  rcases h2 with h2 | ⟨g, cap, cur, fz, hv, hg, hgg, r⟩
  ·exact .inl h2
  ·exact .inr ⟨g, cap, cur, fz, hv, hg, k _ _ _ _ hgg, r⟩
 exact h.elim (fun x => .inl (one _ x)) (fun x => .inr (one _ x))
theorem diff_Text.bld_at {B b : Nat} {bs : List Value} {W : World} (h : Lib.IsBuilderF 55 5 B b bs W) : ∃ cs, W.heap[b]? = some (.cells cs 55) := by
 rcases h with ⟨_, v, hb, _⟩ | ⟨_, v, hb, _⟩ <;> exact ⟨_, hb⟩
theorem diff_Text.cells_append (s t : ByteArray) : Lib.strCells s ++ Lib.strCells t = Lib.strCells (s ++ t) := by
 simp [Lib.strCells, ByteArray.data_append]
theorem diff_Text.run_store_fn (P : Program) (w : World) (a : Addr) (f : Fn) (x y : Array Value) (m : Mode) : (store a (.func f x y) m).run P w = match w.cell? a with
   | some _ => if w.frozen? a then .halt (.unsupported (.unsafePointer "a write to bytes that a string shares")) w else .ok () (w.setCell a (.func f x y))
   | none => match w.farStore P a (.func f x y) (m == .atomic) with
    | .ok (w', _) => .ok () w'
    | .error h => .halt h w := run_store P w a _ m rfl
section
open Go.Shelf
attribute [local go_sem] Oper.semAt_some
attribute [local go_sem high] diff_Text.run_store_fn
set_option maxRecDepth 100000 in
set_option maxHeartbeats 4000000 in
theorem diff_Text.line_no (b : Nat) (mk : ByteArray) (p : S33) (W : World) :
  Calls Tryd.prog 19 (#[.bool false, .string mk, .agg #[.int .i64 p.f0, .int .i64 p.f1]] ++ #[.pointer (some ⟨b, 0, none⟩)]) W fun e W' => e = .returned (.tuple #[]) ∧ Below W.heap.size W W' := by
 go_enter Tryd.func19, Tryd.ntmps19
 go_wp2
 go_end0
 exact ⟨rfl, below_alloc (Below.refl _ _) _⟩
set_option maxRecDepth 100000 in
set_option maxHeartbeats 4000000 in
theorem diff_Text.line_yes (B b : Nat) (bs : List Value) (mk x y : ByteArray) (p : S33) (W : World) (hmk : mk.size = 1) (hx : strconv_Itoa.f p.f0 = some x) (hy : strconv_Itoa.f p.f1 = some y) (hI : Lib.IsBuilderF 55 5 B b bs W) (hBW : B ≤ W.heap.size) (hbs : bs.length ≤ 1000000000) :
  Calls Tryd.prog 19 (#[.bool true, .string mk, .agg #[.int .i64 p.f0, .int .i64 p.f1]] ++ #[.pointer (some ⟨b, 0, none⟩)]) W fun e W' => e = .returned (.tuple #[]) ∧ ∃ W1, Below W.heap.size W W1 ∧ Lib.IsBuilderF 55 5 B b (bs ++ Lib.strCells (((((mk ++ ⟨#[32]⟩) ++ x) ++ ⟨#[32]⟩) ++ y) ++ ⟨#[10]⟩)) W' ∧ Below B W1 W' ∧ Lib.OthersKept 5 (some b) W1 W' := by
 have hX := fun W => diff_Text.itoa p.f0 x hx W
 have hY := fun W => diff_Text.itoa p.f1 y hy W
 have hxl := diff_Text.itoa_len _ _ hx
 have hyl := diff_Text.itoa_len _ _ hy
 have hu33 := Tryd.underlying33
 clear hx hy
 go_enter Tryd.func19, Tryd.ntmps19
 go_upto_region 2 with (fail)
 have hb1 : Below W.heap.size W (W.alloc (.cells #[.int .i64 p.f0, .int .i64 p.f1] 33)) := below_alloc (Below.refl _ _) _
 have HP1 := Aside0.mk (blk_new W (.cells #[.int .i64 p.f0, .int .i64 p.f1] 33))
 have HI1 := Aside0.mk (diff_Text.bld_keep hI (fun i cs t fz h => blk_below h hb1))
 have HB1 := Aside0.mk hb1
 have hBW2 : B ≤ (W.alloc (.cells #[.int .i64 p.f0, .int .i64 p.f1] 33)).heap.size := by rw [World.size_alloc]; omega
 clear hI hb1 hBW
 obtain ⟨gp, hgp⟩ : ∃ gp, gp = W.heap.size := ⟨_, rfl⟩
 rw [← hgp] at HP1 ⊢
 generalize W.alloc (.cells #[.int .i64 p.f0, .int .i64 p.f1] 33) = W1 at HP1 HI1 HB1 hBW2 ⊢
 clear hgp
 have hbs2 : bs.length + (((((mk ++ ⟨#[32]⟩) ++ x) ++ ⟨#[32]⟩) ++ y) ++ ⟨#[10]⟩).size ≤ 140737488355328 := by
  have e1 : (⟨#[32]⟩ : ByteArray).size = 1 := rfl
  have e2 : (⟨#[10]⟩ : ByteArray).size = 1 := rfl
  simp only [ByteArray.size_append, e1, e2]
  omega
 have s1 : (9223372036854775807 < 2 + x.size) = False := eq_false (by omega)
 have s2 : (9223372036854775807 < 2 + x.size + 1) = False := eq_false (by omega)
 have s3 : (9223372036854775807 < 2 + x.size + 1 + y.size) = False := eq_false (by omega)
 have s4 : (9223372036854775807 < 2 + x.size + 1 + y.size + 1) = False := eq_false (by omega)
 refine start_ (ds := [12]) (n := 13) (S := fun W' => W' = W1.drew) #[false, false, false, false, false, false, false, false, false, false, false, false, false] (by kernel_rfl) rfl (by rfl) (rfl) (fun hHeld => ?_)
 refine pure_ (i := 0) (N := (some 8)) (v := ?_) (a' := ?_) #[true, false, false, false, false, false, false, false, false, false, false, false, false] rfl rfl (by kernel_rfl) (fun _ _ _ h => h) (Or.inl ⟨by rfl, ?_⟩) ?_ ?_
 rotate_left
 ·intro w'
  go_simp
  first | with_reducible rfl | rfl
 rotate_left
 ·simp only [Act.put, List.setIfInBounds_toArray, List.set_cons_zero, List.set_cons_succ, i64_w, i32_w]
  rfl
 refine pure_ (i := 1) (N := (some 9)) (v := ?_) (a' := ?_) #[true, true, false, false, false, false, false, false, false, false, false, false, false] rfl rfl (by kernel_rfl) (fun _ _ _ h => h) (Or.inl ⟨by rfl, ?_⟩) ?_ ?_
 rotate_left
 ·intro w'
  go_simp
  first | with_reducible rfl | rfl
 rotate_left
 ·simp only [Act.put, List.setIfInBounds_toArray, List.set_cons_zero, List.set_cons_succ, i64_w, i32_w]
  rfl
 refine pure_ (i := 2) (N := (some 10)) (v := ?_) (a' := ?_) #[true, true, true, false, false, false, false, false, false, false, false, false, false] rfl rfl (by kernel_rfl) (fun _ _ _ h => h) (Or.inl ⟨by rfl, ?_⟩) ?_ ?_
 rotate_left
 ·intro w'
  go_simp
  first | with_reducible rfl | rfl
 rotate_left
 ·simp only [Act.put, List.setIfInBounds_toArray, List.set_cons_zero, List.set_cons_succ, i64_w, i32_w]
  rfl
 refine take_ (i := 3) (N := (some 11)) (v := ?_) (a' := ?_) #[true, true, true, true, false, false, false, false, false, false, false, false, false] rfl rfl (by kernel_rfl) (fun _ _ _ h => h) (Or.inl ⟨by rfl, ?_⟩) hHeld ?_ ?_
 rotate_left
 ·intro w' hw'
  subst hw'
  have q0 : W1.drew.cell? ⟨gp, 0, none⟩ = some (.int .i64 p.f0) := (blk_cell (show W1.drew.heap[gp]? = _ from HP1.out) 0).trans rfl
  go_simp
  first | done | with_reducible rfl | rfl
 rotate_left
 ·simp only [Act.put, List.setIfInBounds_toArray, List.set_cons_zero, List.set_cons_succ, i64_w, i32_w]
  rfl
 refine pure_ (i := 7) (N := (some 15)) (v := ?_) (a' := ?_) #[true, true, true, true, false, false, false, true, false, false, false, false, false] rfl rfl (by kernel_rfl) (fun _ _ _ h => h) (Or.inl ⟨by rfl, ?_⟩) ?_ ?_
 rotate_left
 ·intro w'
  go_simp
  first | with_reducible rfl | rfl
 rotate_left
 ·simp only [Act.put, List.setIfInBounds_toArray, List.set_cons_zero, List.set_cons_succ, i64_w, i32_w]
  rfl
 refine take_ (i := 8) (N := (some 16)) (v := ?_) (a' := ?_) #[true, true, true, true, false, false, false, true, true, false, false, false, false] rfl rfl (by kernel_rfl) (fun _ _ _ h => h) (Or.inl ⟨by rfl, ?_⟩) hHeld ?_ ?_
 rotate_left
 ·intro w' hw'
  subst hw'
  have q0 : W1.drew.cell? ⟨gp, 1, none⟩ = some (.int .i64 p.f1) := (blk_cell (show W1.drew.heap[gp]? = _ from HP1.out) 1).trans rfl
  go_simp
  first | done | with_reducible rfl | rfl
 rotate_left
 ·simp only [Act.put, List.setIfInBounds_toArray, List.set_cons_zero, List.set_cons_succ, i64_w, i32_w]
  rfl
 refine one_ (i := 4) (N := (some 12)) #[true, true, true, true, true, false, false, true, true, false, false, false, false] rfl rfl (by kernel_rfl) (by decide) (fun K hK => ?_)
 refine goes_ Tryd.func21 (by kernel_rfl) rfl #[.int .i64 p.f0] (by rfl) rfl rfl (by (try simp only [List.map_toArray, List.map_cons, List.map_nil]); first | done | rfl) ?_
 have hO_ := hX W1.drew
 refine Calls.mono hO_ ?_
 rintro e wS ⟨rfl, rfl⟩
 refine ⟨_, rfl, ?_⟩
 refine hK.out _ _ (hHeld) (fun hHeld => ?_)
 clear hK K
 refine norm_ (a' := ?_) ?_ ?_
 rotate_left
 ·show Act.put _ (some 12) _ = _
  simp only [Act.put, List.setIfInBounds_toArray, List.set_cons_zero, List.set_cons_succ, i64_w, i32_w]
  rfl
 refine pure_ (i := 5) (N := (some 13)) (v := ?_) (a' := ?_) #[true, true, true, true, true, true, false, true, true, false, false, false, false] rfl rfl (by kernel_rfl) (fun _ _ _ h => h) (Or.inl ⟨by rfl, ?_⟩) ?_ ?_
 rotate_left
 ·intro w'
  go_simp
  first | with_reducible rfl | rfl
 rotate_left
 ·simp only [Act.put, List.setIfInBounds_toArray, List.set_cons_zero, List.set_cons_succ, i64_w, i32_w]
  rfl
 refine pure_ (i := 6) (N := (some 14)) (v := ?_) (a' := ?_) #[true, true, true, true, true, true, true, true, true, false, false, false, false] rfl rfl (by kernel_rfl) (fun _ _ _ h => h) (Or.inl ⟨by rfl, ?_⟩) ?_ ?_
 rotate_left
 ·intro w'
  go_simp
  first | with_reducible rfl | rfl
 rotate_left
 ·simp only [Act.put, List.setIfInBounds_toArray, List.set_cons_zero, List.set_cons_succ, i64_w, i32_w]
  rfl
 refine one_ (i := 9) (N := (some 17)) #[true, true, true, true, true, true, true, true, true, true, false, false, false] rfl rfl (by kernel_rfl) (by decide) (fun K hK => ?_)
 refine goes_ Tryd.func21 (by kernel_rfl) rfl #[.int .i64 p.f1] (by rfl) rfl rfl (by (try simp only [List.map_toArray, List.map_cons, List.map_nil]); first | done | rfl) ?_
 have hO_ := hY W1.drew
 refine Calls.mono hO_ ?_
 rintro e wS ⟨rfl, rfl⟩
 refine ⟨_, rfl, ?_⟩
 refine hK.out _ _ (hHeld) (fun hHeld => ?_)
 clear hK K
 refine norm_ (a' := ?_) ?_ ?_
 rotate_left
 ·show Act.put _ (some 17) _ = _
  simp only [Act.put, List.setIfInBounds_toArray, List.set_cons_zero, List.set_cons_succ, i64_w, i32_w]
  rfl
 refine pure_ (i := 10) (N := (some 18)) (v := ?_) (a' := ?_) #[true, true, true, true, true, true, true, true, true, true, true, false, false] rfl rfl (by kernel_rfl) (fun _ _ _ h => h) (Or.inl ⟨by rfl, ?_⟩) ?_ ?_
 rotate_left
 ·intro w'
  go_simp
  first | with_reducible rfl | rfl
 rotate_left
 ·simp only [Act.put, List.setIfInBounds_toArray, List.set_cons_zero, List.set_cons_succ, i64_w, i32_w]
  rfl
 refine pure_ (i := 11) (N := (some 19)) (v := ?_) (a' := ?_) #[true, true, true, true, true, true, true, true, true, true, true, true, false] rfl rfl (by kernel_rfl) (fun _ _ _ h => h) (Or.inl ⟨by rfl, ?_⟩) ?_ ?_
 rotate_left
 ·intro w'
  go_simp
  first | with_reducible rfl | rfl
 rotate_left
 ·simp only [Act.put, List.setIfInBounds_toArray, List.set_cons_zero, List.set_cons_succ, i64_w, i32_w]
  rfl
 refine last_ (i := 12) (N := some 20) #[true, true, true, true, true, true, true, true, true, true, true, true, true] rfl rfl (by kernel_rfl) (by decide) (fun K hK => ?_)
 refine goes_ Tryd.func20 (by kernel_rfl) rfl #[.pointer (some ⟨b, 0, none⟩), .string (((((mk ++ ⟨#[32]⟩) ++ x) ++ ⟨#[32]⟩) ++ y) ++ ⟨#[10]⟩)] (by rfl) rfl rfl (by (try simp only [List.map_toArray, List.map_cons, List.map_nil]); first | done | rfl) ?_
 have hID : Lib.IsBuilderF 55 5 B b bs W1.drew := diff_Text.bld_keep HI1.out (fun _ _ _ _ h => h)
 have hBD : B ≤ W1.drew.heap.size := hBW2
 obtain ⟨ln, hln⟩ : ∃ ln : ByteArray, ln = (((((mk ++ ⟨#[32]⟩) ++ x) ++ ⟨#[32]⟩) ++ y) ++ ⟨#[10]⟩) := ⟨_, rfl⟩
 rw [← hln] at hbs2 ⊢
 have hwr := Go.Proofs.YtahkkgnicgbncaaDoorK.bld_write B b bs ln W1.drew hID hbs2 hBD
 refine Calls.mono hwr ?_
 rintro e wS ⟨rfl, hI2, hb2, ho2⟩
 refine ⟨_, rfl, ?_⟩
 refine hK.out _ _ ?_
 clear hK K
 refine norm_ (a' := ?_) ?_ ?_
 rotate_left
 ·show Act.put _ (some 20) _ = _
  simp only [Act.put, List.setIfInBounds_toArray, List.set_cons_zero, List.set_cons_succ, i64_w, i32_w]
  rfl
 refine done_ (by kernel_rfl) ?_
 go_wp2
 go_end0
 refine ⟨rfl, W1.drew, below_drew HB1.out, ?_, hb2, ho2⟩
 rw [← hln]
 exact .inr hI2
/-- What a line's call leaves. -/
def diff_Text.Wrote (B b : Nat) (W W' : World) : Prop := W.heap.size ≤ W'.heap.size ∧ Below B W W' ∧ ∀ k o, W.heap[k]? = some o → k ≠ b → (∀ c fz, o ≠ .cells c 5 fz) → W'.heap[k]? = some o
theorem diff_Text.line_any (B b : Nat) (bs : List Value) (mk r : ByteArray) (f : Bool) (p : S33) (W : World) (hmk : mk.size = 1) (hr : (if f then diff_Text.line mk p else some ⟨#[]⟩) = some r) (hI : Lib.IsBuilderF 55 5 B b bs W) (hBW : B ≤ W.heap.size) (hbs : bs.length ≤ 1000000000) :
  Calls Tryd.prog 19 #[.bool f, .string mk, .agg #[.int .i64 p.f0, .int .i64 p.f1], .pointer (some ⟨b, 0, none⟩)] W fun e W' => e = .returned (.tuple #[]) ∧ Lib.IsBuilderF 55 5 B b (bs ++ Lib.strCells r) W' ∧ diff_Text.Wrote B b W W' := by
 cases f with
 | false =>
  obtain rfl : (⟨#[]⟩ : ByteArray) = r := by simpa using hr
  have h := diff_Text.line_no b mk p W
  refine Calls.mono h ?_
  rintro e W' ⟨rfl, hb⟩
  refine ⟨rfl, ?_, hb.size, hb.mono hBW, fun k o hk _ _ => blk_below hk hb⟩
  rw [show Lib.strCells ⟨#[]⟩ = [] from rfl, List.append_nil]
  exact diff_Text.bld_keep hI (fun i cs t fz h => blk_below h hb)
 | true =>
  rw [if_pos rfl] at hr
  obtain ⟨x, hx, hr⟩ := Option.bind_eq_some_iff.mp hr
  obtain ⟨y, hy, hr⟩ := Option.bind_eq_some_iff.mp hr
  obtain rfl := Option.some.inj hr
  have h := diff_Text.line_yes B b bs mk x y p W hmk hx hy hI hBW hbs
  refine Calls.mono h ?_
  rintro e W' ⟨rfl, W1, h1, h2, h3, h4⟩
  exact ⟨rfl, h2, Nat.le_trans h1.size h3.size, (h1.mono hBW).trans h3, fun k o hk hn ho => h4 k o (blk_below hk h1) (fun e => hn (Option.some.inj e)) ho⟩
theorem diff_Text.line_len (mk r : ByteArray) (p : S33) (f : Bool) (hmk : mk.size = 1) (hr : (if f then diff_Text.line mk p else some ⟨#[]⟩) = some r) : r.size ≤ 10 := by
 cases f with
 | false =>
  obtain rfl : (⟨#[]⟩ : ByteArray) = r := by simpa using hr
  exact Nat.zero_le _
 | true =>
  rw [if_pos rfl] at hr
  obtain ⟨x, hx, hr⟩ := Option.bind_eq_some_iff.mp hr
  obtain ⟨y, hy, hr⟩ := Option.bind_eq_some_iff.mp hr
  obtain rfl := Option.some.inj hr
  have h1 := diff_Text.itoa_len _ _ hx
  have h2 := diff_Text.itoa_len _ _ hy
  have e1 : (⟨#[32]⟩ : ByteArray).size = 1 := rfl
  have e2 : (⟨#[10]⟩ : ByteArray).size = 1 := rfl
  simp only [ByteArray.size_append, e1, e2, hmk]
  omega
theorem diff_Text.lines_len : ∀ (l : List (S33 × Bool × Bool)) (r : ByteArray), diff_Text.lines l = some r → r.size ≤ 20 * l.length
 | [], r, h => by
  obtain rfl := Option.some.inj h
  exact Nat.zero_le _
 | t :: l, r, h => by
  obtain ⟨x, hx, h⟩ := Option.bind_eq_some_iff.mp h
  obtain ⟨y, hy, h⟩ := Option.bind_eq_some_iff.mp h
  obtain rfl := Option.some.inj h
  have h1 := diff_Text.lines_len l y hy
  obtain ⟨a, ha, hx⟩ := Option.bind_eq_some_iff.mp hx
  obtain ⟨b, hb, hx⟩ := Option.bind_eq_some_iff.mp hx
  obtain rfl := Option.some.inj hx
  have h2 := diff_Text.line_len ⟨#[45]⟩ a t.1 t.2.1 rfl ha
  have h3 := diff_Text.line_len ⟨#[43]⟩ b t.1 t.2.2 rfl hb
  simp only [ByteArray.size_append, List.length_cons]
  omega
theorem diff_Text.lines_next {lt : S33 → S33 → Bool} {x y x' y' : List S33} {t : S33 × Bool × Bool} (h : diff_beside.next lt x y = some (t, x', y')) : diff_Text.lines (diff_beside.bs lt x y) = (diff_Text.one t).bind fun a => (diff_Text.lines (diff_beside.bs lt x' y')).bind fun b => some (a ++ b) := by
 rw [diff_beside.bs_next lt x y, h]
 rfl
/-- Between two rounds. -/
structure diff_Text.I (w : World) (B gb : Nat) (fx : List (Nat × Obj)) (tot : ByteArray) (x y : List S33) (W : World) : Prop where
 fix_ : ∀ p ∈ fx, W.heap[p.1]? = some p.2
 b0 : ∃ v, W.heap[B]? = some (.cells #[v] 22)
 b1 : ∃ v, W.heap[B + 1]? = some (.cells #[v] 22)
 bld : ∃ s rest, Lib.IsBuilderF 55 5 gb gb (Lib.strCells s) W ∧ diff_Text.lines (diff_beside.bs diff_beside.lt x y) = some rest ∧ s ++ rest = tot
 below : Below w.heap.size w W
theorem diff_Text.bld_but {B gb : Nat} {bs : List Value} {W W' : World} (h : Lib.IsBuilderF 55 5 gb gb bs W) (hB : gb < B) (h0 : ∃ v, W.heap[B]? = some (.cells #[v] 22)) (h1 : ∃ v, W.heap[B + 1]? = some (.cells #[v] 22)) (k : Kept W W' (fun k => k = B ∨ k = B + 1)) : Lib.IsBuilderF 55 5 gb gb bs W' := by
 obtain ⟨v0, h0⟩ := h0
 obtain ⟨v1, h1⟩ := h1
 have one : ∀ p, Lib.BuilderAtF 55 5 gb gb p bs W → Lib.BuilderAtF 55 5 gb gb p bs W' := by
  rintro p ⟨hB', v, hb, ⟨h3, h4⟩, hne⟩
  refine ⟨hB', v, blk_kept hb k (by omega), ⟨h3, ?_⟩, hne⟩
  rcases h4 with h4 | ⟨g, cap, cur, fz, hv, hg, hgg, r⟩
  ·exact .inl h4
  ·refine .inr ⟨g, cap, cur, fz, hv, hg, blk_kept hgg k ?_, r⟩
   rintro (rfl | rfl)
   ·rw [hgg] at h0; cases h0
   ·rw [hgg] at h1; cases h1
 exact h.elim (fun x => .inl (one _ x)) (fun x => .inr (one _ x))
theorem diff_Text.I.kp {w : World} {B gb : Nat} {fx : List (Nat × Obj)} {tot : ByteArray} {x y : List S33} {W W' : World} (h : diff_Text.I w B gb fx tot x y W) (k : diff_beside.Kp B W W') (k0 : ∃ v, W'.heap[B]? = some (.cells #[v] 22)) (k1 : ∃ v, W'.heap[B + 1]? = some (.cells #[v] 22)) (h0 : w.heap.size ≤ B) (h1 : gb < B) (h2 : ∀ p ∈ fx, p.1 < B) : diff_Text.I w B gb fx tot x y W' := by
 obtain ⟨s, rest, a1, a2⟩ := h.bld
 exact ⟨fun p hp => blk_kept (h.fix_ p hp) k.1 (by have := h2 p hp; omega), k0, k1, ⟨s, rest, diff_Text.bld_but a1 h1 h.b0 h.b1 k.1, a2⟩, h.below.trans (k.2.mono h0)⟩
theorem diff_Text.I.put {w : World} {B gb n0 l : Nat} {fx : List (Nat × Obj)} {tot : ByteArray} {x y : List S33} {W : World} {o : Obj} (h : diff_Text.I w B gb fx tot x y W) (hl : W.heap[l]? = some o) (ho : o.isCells = false) (hn : n0 ≤ l) (h0 : w.heap.size ≤ n0) (h2 : ∀ p ∈ fx, p.1 < n0) (o' : Obj) : diff_Text.I w B gb fx tot x y (W.putObj l o') := by
 obtain ⟨s, rest, a1, a2⟩ := h.bld
 have hk : ∀ (i : Nat) (cs : Array Value) (t : TypeId) (fz : Nat × Nat), W.heap[i]? = some (.cells cs t fz) → (W.putObj l o').heap[i]? = some (.cells cs t fz) := fun i cs t fz hi => (World.putObj_heap_other (fun e => by subst e; rw [hl] at hi; cases hi; cases ho)).trans hi
 obtain ⟨v0, e0⟩ := h.b0
 obtain ⟨v1, e1⟩ := h.b1
 exact ⟨fun p hp => (World.putObj_heap_other (by have := h2 p hp; omega)).trans (h.fix_ p hp), ⟨v0, hk _ _ _ _ e0⟩, ⟨v1, hk _ _ _ _ e1⟩, ⟨s, rest, diff_Text.bld_keep a1 hk, a2⟩, h.below.grown (grownBy_putObj' W l o') h.below.size (fun i e => by cases e; omega)⟩
theorem diff_Text.I.below_ {w : World} {B gb : Nat} {fx : List (Nat × Obj)} {tot : ByteArray} {x y : List S33} {W W' : World} (h : diff_Text.I w B gb fx tot x y W) (hb : Below W.heap.size W W') : diff_Text.I w B gb fx tot x y W' := by
 obtain ⟨s, rest, a1, a2⟩ := h.bld
 obtain ⟨v0, e0⟩ := h.b0
 obtain ⟨v1, e1⟩ := h.b1
 exact ⟨fun p hp => blk_below (h.fix_ p hp) hb, ⟨v0, blk_below e0 hb⟩, ⟨v1, blk_below e1 hb⟩, ⟨s, rest, diff_Text.bld_keep a1 (fun i cs t fz h => blk_below h hb), a2⟩, below_step h.below hb⟩
theorem diff_Text.Wrote.trans {B b : Nat} {W W' W'' : World} (h : diff_Text.Wrote B b W W') (k : diff_Text.Wrote B b W' W'') : diff_Text.Wrote B b W W'' := ⟨Nat.le_trans h.1 k.1, h.2.1.trans k.2.1, fun i o hi hn ho => k.2.2 i o (h.2.2 i o hi hn ho) hn ho⟩
set_option maxRecDepth 100000 in
set_option maxHeartbeats 4000000 in
theorem diff_Text.calls (k : Nat) (A0_0 : Option Addr) (c0_0 : Nat) (l0_0 : List S33) (A0_1 : Option Addr) (c0_1 : Nat) (l0_1 : List S33) (r : ByteArray) (w : World) (hr0_0 : Kd.C k33 w A0_0 l0_0.length l0_0) (hc0_0 : l0_0.length ≤ c0_0) (hr0_1 : Kd.C k33 w A0_1 l0_1.length l0_1) (hc0_1 : l0_1.length ≤ c0_1) (h : diff_Text.f k l0_0 l0_1 = some r) :
  Calls Tryd.prog 11 #[.agg #[.slice A0_0 l0_0.length c0_0, .slice A0_1 l0_1.length c0_1]] w fun e w' => e = .returned (.string r) ∧ Below w.heap.size w w' := by
 unfold diff_Text.f at h
 obtain ⟨bq, hb, h⟩ := Option.bind_eq_some_iff.mp h
 have hu26 := Tryd.underlying26
 obtain ⟨Wa, hWa⟩ : ∃ Wa, Wa = w.alloc (.cells #[.slice A0_0 l0_0.length c0_0, .slice A0_1 l0_1.length c0_1] 26) := ⟨_, rfl⟩
 have hba : Below w.heap.size w Wa := by rw [hWa]; exact below_alloc (Below.refl _ _) _
 have hra : Wa.heap[w.heap.size]? = some (.cells #[.slice A0_0 l0_0.length c0_0, .slice A0_1 l0_1.length c0_1] 26) := by rw [hWa]; exact blk_new _ _
 have hC := diff_Pairs.litC (W := Wa) (vs := [.slice A0_0 l0_0.length c0_0, .slice A0_1 l0_1.length c0_1]) (xs := [l0_0, l0_1]) rfl (by simp) (fun j x hj => by
  rcases j with _ | _ | j
  ·cases hj; exact ⟨A0_0, c0_0, rfl, hc0_0, Kd.C_below hr0_0 hba⟩
  ·cases hj; exact ⟨A0_1, c0_1, rfl, hc0_1, Kd.C_below hr0_1 hba⟩
  ·simp at hj)
 have hK := diff_clean.calls k _ 2 [l0_0, l0_1] bq _ hC (Nat.le_refl _) hb
 have hz : Wa.heap.size = w.heap.size + 1 := by rw [hWa]; exact World.size_alloc _ _
 rw [hz] at hK
 have HC := Aside0.mk (And.intro (And.intro hr0_0 hr0_1) (And.intro hc0_0 hc0_1))
 have HA := Aside0.mk (And.intro hba hra)
 clear hr0_0 hr0_1 hc0_0 hc0_1 hba hra hC hb
 subst hWa
 clear hz
 have H := Aside0.mk h
 clear h
 have FB := Aside0.mk fun (W : World) (gh : W.heap[w.heap.size]? = some (.cells #[.slice A0_0 l0_0.length c0_0, .slice A0_1 l0_1.length c0_1] 26)) => And.intro ((blk_cell gh 0).trans rfl : W.cell? ⟨w.heap.size, 0, none⟩ = some (.slice A0_0 l0_0.length c0_0)) ((blk_cell gh 1).trans rfl : W.cell? ⟨w.heap.size, 1, none⟩ = some (.slice A0_1 l0_1.length c0_1))
 refine (callsIn_wide (n := 5)).1 ?_
 refine callsIn_of_wp_marks Tryd.func11 rfl trivial ?_ rfl
 simp only [Tryd.ntmps11, List.size_toArray, List.length_cons, List.length_nil, Nat.reduceAdd, Nat.reduceSub, Array.replicate_succ, Array.replicate_zero, List.push_toArray, List.append_toArray, List.nil_append, List.cons_append]
 refine wpIn_wide.2 ?_
 cases bq with
 | false =>
  have h := H.out
  rw [if_neg (by decide)] at h
  obtain rfl : ⟨#[]⟩ = r := by simpa using h
  clear h H
  go_wp2_with (first | (go_at_call 17; refine Calls.mono hK ?_; rintro e w1 ⟨rfl, hb1⟩; have HX1 := Aside0.mk (below_step (below_alloc HA.out.1 _) hb1); clear hb1 hK))
  refine ⟨_, results_tmp rfl _ _ _, ?_⟩
  exact ⟨rfl, HX1.out⟩
 | true =>
  have h := H.out
  rw [if_pos rfl] at h
  split at h
  case isFalse => cases h
  case isTrue hlen =>
  have HT := Aside0.mk h
  clear h H
  have HL := Aside0.mk hlen
  clear hlen
  go_wp2_with (first | (go_at_call 17; refine Calls.mono hK ?_; rintro e w1 ⟨rfl, hb1⟩; have HG1 := Aside0.mk (blk_below (blk_alloc HA.out.2 _) hb1); have HX1 := Aside0.mk (below_step (below_alloc HA.out.1 _) hb1); clear hb1 hK) | ((with_reducible refine gate_dst (N := 3) rfl ?_); refine box_event ?hg (N := 3) ?hd (cs := #[.pointer none, .slice none 0 0]) (t := 55) ?hr ?_; (case hd => rfl); (case hg => rfl); (case hr => first | (go_simp; done) | (go_simp; rfl)); intro gb hgb w2 hg2 hk2; have HG2 := Aside0.mk (blk_below HG1.out hk2); have HX2 := Aside0.mk (below_step HX1.out hk2); have HB2 := Aside0.mk hg2; have HGB := Aside0.mk (show w.heap.size < gb by rw [hgb]; exact blk_lt HG1.out); clear HG1 HX1 hgb hg2 hk2) | ((with_reducible refine gate_dst (N := 4) rfl ?_); refine box_event ?hg (N := 4) ?hd (cs := #[.nilFunc]) (t := 61) ?hr ?_; (case hd => rfl); (case hg => rfl); (case hr => first | (go_simp; done) | (go_simp; rfl)); intro gf hgf w3 hg3 hk3; have HG3 := Aside0.mk (blk_below HG2.out hk3); have HX3 := Aside0.mk (below_step HX2.out hk3); have HB3 := Aside0.mk (blk_below HB2.out hk3); have HF3 := Aside0.mk hg3; have HGF := Aside0.mk (show gb < gf by rw [hgf]; exact blk_lt HB2.out); have z0 : w3.cell? ⟨gf, 0, none⟩ = some .nilFunc := (blk_cell hg3 0).trans rfl; have zf := blk_frozen hg3 0; have hn1 : w.heap.size ≠ gf := (by have h1 := HGB.out; have h2 := HGF.out; omega); have hn2 : gf ≠ w.heap.size := hn1.symm; obtain ⟨y0, y1⟩ := FB.out w3 HG3.out; clear HG2 HX2 HB2 hgf hg3 hk3) | (go_at_call 18; refine Calls.mono (diff_beside.call A0_0 A0_1 _ _ c0_0 c0_1 _) ?_; rintro e w4 ⟨rfl, hw4⟩))
  clear z0 zf y0 y1 hn1 hn2
  have HX4 := Aside0.mk (show Below w.heap.size w (w3.setCell ⟨gf, 0, none⟩ (.func (.func 19) #[] #[.pointer (some ⟨gb, 0, none⟩)])) from below_set HX3.out (by have h1 := HGB.out; have h2 := HGF.out; omega))
  have HG4 := Aside0.mk (blk_far HG3.out (p := ⟨gf, 0, none⟩) (show w.heap.size ≠ gf by have h1 := HGB.out; have h2 := HGF.out; omega) (.func (.func 19) #[] #[.pointer (some ⟨gb, 0, none⟩)]))
  have HB4 := Aside0.mk (blk_far HB3.out (p := ⟨gf, 0, none⟩) (show gb ≠ gf by have h2 := HGF.out; omega) (.func (.func 19) #[] #[.pointer (some ⟨gb, 0, none⟩)]))
  have HF4 := Aside0.mk (blk_put (cs' := #[(.func (.func 19) #[] #[.pointer (some ⟨gb, 0, none⟩)])]) HF3.out 0 (.func (.func 19) #[] #[.pointer (some ⟨gb, 0, none⟩)]) rfl)
  clear HX3 HG3 HB3 HF3
  have hz4 : (w3.setCell ⟨gf, 0, none⟩ (.func (.func 19) #[] #[.pointer (some ⟨gb, 0, none⟩)])).heap.size = w3.heap.size := by simp [World.setCell]
  generalize w3.setCell ⟨gf, 0, none⟩ (.func (.func 19) #[] #[.pointer (some ⟨gb, 0, none⟩)]) = w4 at HX4 HG4 HB4 HF4 hz4 ⊢
  rw [← hz4]
  have hF0 := diff_Pairs.F_in HX4.out (Kd.C_F diff_beside.heap HC.out.1.1)
  have hF1 := diff_Pairs.F_in HX4.out (Kd.C_F diff_beside.heap HC.out.1.2)
  obtain ⟨hbx, hby, hk5, hz5⟩ := diff_beside.made (w := w4) rfl hF0 hF1 HC.out.2.1 HC.out.2.2
  have HBX := Aside0.mk (And.intro (show ∃ v, ((w4.alloc (Obj.cells #[Value.slice A0_0 l0_0.length c0_0] 22)).alloc (Obj.cells #[Value.slice A0_1 l0_1.length c0_1] 22)).heap[w4.heap.size]? = some (.cells #[v] 22) by obtain ⟨A, c, h, _⟩ := hbx; exact ⟨_, h⟩) (show ∃ v, ((w4.alloc (Obj.cells #[Value.slice A0_0 l0_0.length c0_0] 22)).alloc (Obj.cells #[Value.slice A0_1 l0_1.length c0_1] 22)).heap[w4.heap.size + 1]? = some (.cells #[v] 22) by obtain ⟨A, c, h, _⟩ := hby; exact ⟨_, h⟩))
  generalize (w4.alloc (Obj.cells #[Value.slice A0_0 l0_0.length c0_0] 22)).alloc (Obj.cells #[Value.slice A0_1 l0_1.length c0_1] 22) = w5 at hbx hby hk5 hz5 HBX ⊢
  have hgb := HGB.out
  have hgf := HGF.out
  have hlt4 : gf < w4.heap.size := blk_lt HF4.out
  have hfresh : Lib.IsBuilderF 55 5 gb gb (Lib.strCells ⟨#[]⟩) w5 := .inl ⟨Nat.le_refl _, _, blk_below HB4.out hk5, ⟨rfl, .inl ⟨rfl, rfl⟩⟩, by intro h; cases h⟩
  have hfx : ∀ p ∈ ([(w.heap.size, .cells #[.slice A0_0 l0_0.length c0_0, .slice A0_1 l0_1.length c0_1] 26), (gf, .cells #[(.func (.func 19) #[] #[.pointer (some ⟨gb, 0, none⟩)])] 61)] : List (Nat × Obj)), p.1 < w4.heap.size := by simp; omega
  refine diff_beside.over w4.heap.size (fun k => k < w.heap.size) l0_0 l0_1 rfl (fun k hk => by omega) (fun k hk => by omega) hbx hby (by have := HL.out; omega) (diff_Text.I w w4.heap.size gb [(w.heap.size, .cells #[.slice A0_0 l0_0.length c0_0, .slice A0_1 l0_1.length c0_1] 26), (gf, .cells #[(.func (.func 19) #[] #[.pointer (some ⟨gb, 0, none⟩)])] 61)] r) (fun _ _ => False)
   (fun x y W W' h k k0 k1 => h.kp k k0 k1 (by omega) (by omega) hfx) (fun x y W l o o' h hl ho hn => h.put hl ho hn (by omega) (fun p hp => by have := hfx p hp; omega) o') (fun c W l o o' h _ _ _ => h)
   (fun W hb => ⟨by intro p hp; simp at hp; rcases hp with rfl | rfl; exact blk_below (blk_below HG4.out hk5) hb; exact blk_below (blk_below HF4.out hk5) hb, by obtain ⟨v, h⟩ := HBX.out.1; exact ⟨v, blk_below h hb⟩, by obtain ⟨v, h⟩ := HBX.out.2; exact ⟨v, blk_below h hb⟩, ⟨⟨#[]⟩, r, diff_Text.bld_keep hfresh (fun i cs t fz h => blk_below h hb), HT.out, (ByteArray.empty_append (b := r))⟩, below_step (below_step HX4.out hk5) hb⟩) ?hround ?hdone (fun D c W _ h => h.elim)
  case hround =>
   intro x y t x' y' l W hI hnx hzW
   obtain ⟨p, f, s⟩ := t
   obtain ⟨q0, q1⟩ := p
   dsimp only
   simp only [List.setIfInBounds_toArray, List.set_cons_zero, List.set_cons_succ]
   have HI := Aside0.mk hI
   have HNX := Aside0.mk hnx
   have HZZ := Aside0.mk (And.intro hgb (And.intro hgf (And.intro hlt4 hz5)))
   have HFX := Aside0.mk hfx
   clear hI hnx hzW hgb hgf hlt4 hz5 hbx hby hk5 hF0 hF1 hfx hfresh hz4
   gi_wp2
   have hb4 : Below W.heap.size W ((W.alloc (.cells #[.int .i64 q0, .int .i64 q1] 33)).alloc (.cells #[.bool f, .bool s] 51)) := below_alloc (below_alloc (Below.refl _ _) _) _
   have HP4 := Aside0.mk (blk_alloc (blk_new W (.cells #[.int .i64 q0, .int .i64 q1] 33)) (.cells #[.bool f, .bool s] 51))
   have HW4 := Aside0.mk (show ((W.alloc (.cells #[.int .i64 q0, .int .i64 q1] 33)).alloc (.cells #[.bool f, .bool s] 51)).heap[W.heap.size + 1]? = some (.cells #[.bool f, .bool s] 51) by have := blk_new (W.alloc (.cells #[.int .i64 q0, .int .i64 q1] 33)) (.cells #[.bool f, .bool s] 51); rwa [World.size_alloc] at this)
   have HI4 := Aside0.mk (HI.out.below_ hb4)
   have HS4 := Aside0.mk (show W.heap.size < ((W.alloc (.cells #[.int .i64 q0, .int .i64 q1] 33)).alloc (.cells #[.bool f, .bool s] 51)).heap.size by simp only [World.size_alloc]; omega)
   obtain ⟨gp, hgp⟩ : ∃ gp, gp = W.heap.size := ⟨_, rfl⟩
   obtain ⟨gw, hgw⟩ : ∃ gw, gw = W.heap.size + 1 := ⟨_, rfl⟩
   refine ⟨diff_beside.Off.below hb4, ?_⟩
   generalize (W.alloc (.cells #[.int .i64 q0, .int .i64 q1] 33)).alloc (.cells #[.bool f, .bool s] 51) = W4 at hb4 HP4 HW4 HI4 HS4 ⊢
   rw [← hgw] at HW4 ⊢
   rw [← hgp] at HP4 ⊢
   intro o o' hlo hoc hl0
   obtain ⟨hgb, hgf, hlt4, hz5⟩ := HZZ.out
   have hgl : gp ≠ l := fun e => by have h := HP4.out; rw [e, hlo] at h; cases h; cases hoc
   have hwl : gw ≠ l := fun e => by have h := HW4.out; rw [e, hlo] at h; cases h; cases hoc
   have hgpb : gb < gp := by have h1 := HI.out.below.size; have h2 := blk_lt (HI.out.fix_ (gf, .cells #[(.func (.func 19) #[] #[.pointer (some ⟨gb, 0, none⟩)])] 61) (by simp)); omega
   have HNE := Aside0.mk (show gp ≠ gb ∧ gw ≠ gb ∧ gb ≠ w4.heap.size ∧ gb ≠ w4.heap.size + 1 by omega)
   have HIB := HI4.out.put hlo hoc hl0 (by omega) (fun p hp => by have := HFX.out p hp; omega) o'
   have HPB := Aside0.mk (diff_beside.put_other (o' := o') HP4.out hgl)
   have HWB := Aside0.mk (diff_beside.put_other (o' := o') HW4.out hwl)
   have HSB := Aside0.mk (show gb ≤ (W4.putObj l o').heap.size by have h1 := HS4.out; have h2 : (W4.putObj l o').heap.size = W4.heap.size := (by simp [World.putObj]); omega)
   clear HP4 HW4 HI4 HS4 hlo hb4 hgl hwl hoc hl0 hgb hgf hlt4 hz5 hgp hgw hgpb
   generalize W4.putObj l o' = WB at HIB HPB HWB HSB ⊢
   obtain ⟨sb, rest, a1, a2, a3⟩ := HIB.bld
   rw [diff_Text.lines_next HNX.out] at a2
   obtain ⟨tx, htx, a2⟩ := Option.bind_eq_some_iff.mp a2
   obtain ⟨ty, hty, a2⟩ := Option.bind_eq_some_iff.mp a2
   obtain rfl := Option.some.inj a2
   obtain ⟨ta, hta, htx⟩ := Option.bind_eq_some_iff.mp htx
   obtain ⟨tb, htb, htx⟩ := Option.bind_eq_some_iff.mp htx
   obtain rfl := Option.some.inj htx
   have htot : r.size ≤ 40000000 := by have h1 := diff_Text.lines_len _ _ HT.out; have h2 := diff_Pairs.bs_len diff_beside.lt l0_0 l0_1; have h3 := HL.out; omega
   have hta1 : ta.size ≤ 10 := diff_Text.line_len _ _ _ _ rfl hta
   have hsz : sb.size ≤ 40000000 := by
    have h1 := congrArg ByteArray.size a3
    simp only [ByteArray.size_append] at h1
    omega
   have hlb : (Lib.strCells sb).length ≤ 1000000000 := by rw [Lib.strCells_length]; omega
   have hlc : (Lib.strCells sb ++ Lib.strCells ta).length ≤ 1000000000 := by rw [List.length_append, Lib.strCells_length, Lib.strCells_length]; omega
   have hL1 := diff_Text.line_any gb gb (Lib.strCells sb) ⟨#[45]⟩ ta f ⟨q0, q1⟩ WB rfl hta a1 HSB.out hlb
   have hL2 := fun W' hI hB => diff_Text.line_any gb gb (Lib.strCells sb ++ Lib.strCells ta) ⟨#[43]⟩ tb s ⟨q0, q1⟩ W' rfl htb hI hB hlc
   have HB := Aside0.mk HIB
   have HTY := Aside0.mk (And.intro hty a3)
   have z0 : WB.cell? ⟨gw, 0, none⟩ = some (.bool f) := (blk_cell HWB.out 0).trans rfl
   have z1 : WB.cell? ⟨gw, 1, none⟩ = some (.bool s) := (blk_cell HWB.out 1).trans rfl
   have p0 : WB.cell? ⟨gp, 0, none⟩ = some (.int .i64 q0) := (blk_cell HPB.out 0).trans rfl
   have p1 : WB.cell? ⟨gp, 1, none⟩ = some (.int .i64 q1) := (blk_cell HPB.out 1).trans rfl
   have f0 : WB.cell? ⟨gf, 0, none⟩ = some (.func (.func 19) #[] #[.pointer (some ⟨gb, 0, none⟩)]) := (blk_cell (HIB.fix_ (gf, .cells #[(.func (.func 19) #[] #[.pointer (some ⟨gb, 0, none⟩)])] 61) (by simp)) 0).trans rfl
   have HGFB := Aside0.mk (HIB.fix_ (gf, .cells #[(.func (.func 19) #[] #[.pointer (some ⟨gb, 0, none⟩)])] 61) (by simp))
   clear HIB a1 a3 hty htot hta1 hsz hlb hlc hta htb
   gi_wp2_with (first | (refine ⟨trivial, ?_⟩; gi_at_call 19; first | (refine (CallsIn.inRound l (callsIn_wide.2 hL1)).mono ?_; rintro e W1 ⟨rfl, hI1, hw1⟩; have HPB1 := Aside0.mk (hw1.2.2 _ _ HPB.out HNE.out.1 (by intro c fz h; cases h)); have HWB1 := Aside0.mk (hw1.2.2 _ _ HWB.out HNE.out.2.1 (by intro c fz h; cases h)); have HGF1 := Aside0.mk (hw1.2.2 _ _ HGFB.out (by have h := HZZ.out; omega) (by intro c fz h; cases h)); have hL3 := hL2 W1 hI1 (Nat.le_trans HSB.out hw1.1); have HW1 := Aside0.mk hw1; clear z0 z1 p0 p1 f0 hL1 hL2 hI1 hw1; have z0 : W1.cell? ⟨gw, 0, none⟩ = some (.bool f) := (blk_cell HWB1.out 0).trans rfl; have z1 : W1.cell? ⟨gw, 1, none⟩ = some (.bool s) := (blk_cell HWB1.out 1).trans rfl; have p0 : W1.cell? ⟨gp, 0, none⟩ = some (.int .i64 q0) := (blk_cell HPB1.out 0).trans rfl; have p1 : W1.cell? ⟨gp, 1, none⟩ = some (.int .i64 q1) := (blk_cell HPB1.out 1).trans rfl; have f0 : W1.cell? ⟨gf, 0, none⟩ = some (.func (.func 19) #[] #[.pointer (some ⟨gb, 0, none⟩)]) := (blk_cell HGF1.out 0).trans rfl) | (refine (CallsIn.inRound l (callsIn_wide.2 hL3)).mono ?_; rintro e W2 ⟨rfl, hI2, hw2⟩; have HI2 := Aside0.mk hI2; have HW2 := Aside0.mk (HW1.out.trans hw2); clear z0 z1 p0 p1 f0 hL3 hI2 hw2)))
   obtain ⟨hgb, hgf, hlt4, hz5⟩ := HZZ.out
   obtain ⟨v0, e0⟩ := HB.out.b0
   obtain ⟨v1, e1⟩ := HB.out.b1
   refine ⟨⟨HW2.out.1, fun i o hi ho => ?_⟩, fun p hp => ?_, ⟨v0, HW2.out.2.2 _ _ e0 (by omega) (by intro c fz h; cases h)⟩, ⟨v1, HW2.out.2.2 _ _ e1 (by omega) (by intro c fz h; cases h)⟩, ⟨sb ++ (ta ++ tb), ty, ?_, HTY.out.1, by rw [ByteArray.append_assoc]; exact HTY.out.2⟩, HB.out.below.trans (HW2.out.2.1.mono (by omega))⟩
   ·rcases ho with ho | ho | ho | ho
    ·refine HW2.out.2.2 _ _ hi ?_ (by intro c fz h; subst h; cases ho)
     rintro rfl
     obtain ⟨cs, hcs⟩ := diff_Text.bld_at (HB.out.bld.choose_spec.choose_spec.1)
     rw [hcs] at hi
     cases hi
     cases ho
    ·subst ho
     rw [e0] at hi
     cases hi
     exact HW2.out.2.2 _ _ e0 (by omega) (by intro c fz h; cases h)
    ·subst ho
     rw [e1] at hi
     cases hi
     exact HW2.out.2.2 _ _ e1 (by omega) (by intro c fz h; cases h)
    ·exact (HW2.out.2.1.block i (by omega)).trans hi
   ·have h1 := HB.out.fix_ p hp
    simp at hp
    rcases hp with rfl | rfl
    ·exact HW2.out.2.2 _ _ h1 (show w.heap.size ≠ gb by omega) (by intro c fz h; cases h)
    ·exact HW2.out.2.2 _ _ h1 (show gf ≠ gb by omega) (by intro c fz h; cases h)
   ·rw [← diff_Text.cells_append, ← diff_Text.cells_append, ← List.append_assoc]
    exact HI2.out
  case hdone =>
   intro D W hD hI hd
   obtain ⟨sb, rest, a1, a2, a3⟩ := hI.bld
   have e1 : sb = r := by
    have h1 : (⟨#[]⟩ : ByteArray) = rest := by simpa [diff_beside.bs, diff_Text.lines] using a2
    rw [← a3, ← h1]
    exact (ByteArray.append_empty (b := sb)).symm
   have hgw : gb ≤ W.heap.size := by have := blk_lt (hI.fix_ (gf, .cells #[(.func (.func 19) #[] #[.pointer (some ⟨gb, 0, none⟩)])] 61) (by simp)); omega
   have hS := Go.Proofs.YtahkkgnicgbncaaDoorK.bld_string gb gb sb.data.toList W a1 hgw
   have HI := Aside0.mk hI
   have HD := Aside0.mk hd
   have HZ := Aside0.mk (And.intro hgb (And.intro hgf (And.intro hlt4 (And.intro hz5 hD))))
   have HE := Aside0.mk e1
   clear hI hd a1 a2 a3 hgb hgf hlt4 hz5 hD hbx hby hk5 hF0 hF1 hfx hfresh hz4 e1 hgw
   go_wp2_with (first | (go_at_call 22; refine Calls.mono hS ?_; rintro e W1 ⟨rfl, hI1, hb1, ho1⟩; have HB1 := Aside0.mk hb1; have HO1 := Aside0.mk ho1; clear hS hI1 hb1 ho1))
   obtain ⟨hgb, hgf, hlt4, hz5, hD⟩ := HZ.out
   have hd' := HO1.out D _ HD.out (by intro e; cases e; omega) (by intro c fz h; cases h)
   refine ⟨by simp, .inl ⟨_, _, rfl, run_takeDeferred hd', ?_⟩⟩
   refine ⟨_, results_tmp rfl _ _ _, ?_⟩
   have hb2 : Below w.heap.size w W1 := HI.out.below.trans (HB1.out.mono (by omega))
   have h1 := hb2.grown (grownBy_putObj' _ D (.deferred none)) hb2.size (fun i e => by cases e; omega)
   refine ⟨?_, h1⟩
   rw [← HE.out]
   simp
end


end Go.Proofs.YtahkkgnicgbncaaDoor.PDiffEdges
