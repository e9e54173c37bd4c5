/- The Go functions that the law reaches, and walks to them; printed by wip/tool/mkprint.py. -/
import Derived.Test.YtahkkgnicgbncaaDoorPDiffEdgesx0
import Derived.Test.YtahkkgnicgbncaaDoorPDiffEdgesx4
import Derived.Test.YtahkkgnicgbncaaDoorPDiffEdgesx6
import Derived.Test.YtahkkgnicgbncaaDoorPDiffEdgesx9
import Derived.Test.YtahkkgnicgbncaaDoorPDiffEdgesx10
namespace Go.Proofs.YtahkkgnicgbncaaDoor.PDiffEdges
open Go.RowKit Go.Proofs.YtahkkgnicgbncaaDoorW.PrintWords Go.Proofs.YtahkkgnicgbncaaDoorW.PrintLast Go.Proofs.YtahkkgnicgbncaaDoorW.PrintMore
attribute [local go_sem] max2_int min2_int max_two min_two max_three min_three max_four min_four   -- for this text's walks alone
set_option linter.unusedVariables false
set_option linter.unusedSimpArgs false

/-! ### graphfile_Clean: function 23 -/
/-- Whether a graph is clean: its lists, one by one. -/
def graphfile_Clean.f (k : Nat) (l0 : List (List S41)) : Option Bool := if 1048576 < (l0.length : Int) then some false else if (l0.all fun l => (graphfile_clean.f k l (l0.length : Int)).isSome) = true then some (l0.all fun l => graphfile_clean.f k l (l0.length : Int) == some true) else none
theorem graphfile_Clean.mono : ∀ a0 k, LeO (graphfile_Clean.f k a0) (graphfile_Clean.f (k + 1) a0) := by
 intro l0 k r h
 unfold graphfile_Clean.f at h ⊢
 split at h
 case isTrue hc => rw [if_pos hc]; exact h
 case isFalse hc =>
 rw [if_neg hc]
 split at h
 case isFalse => cases h
 case isTrue hc =>
 have h1 : ∀ l ∈ l0, graphfile_clean.f (k + 1) l (l0.length : Int) = graphfile_clean.f k l (l0.length : Int) := fun l hl => by
  obtain ⟨v, hv⟩ := Option.isSome_iff_exists.mp (List.all_eq_true.mp hc l hl)
  rw [hv]; exact graphfile_clean.mono _ _ _ _ hv
 have h2 : (l0.all fun l => (graphfile_clean.f (k + 1) l (l0.length : Int)).isSome) = true := List.all_eq_true.mpr (fun l hl => by rw [h1 l hl]; exact List.all_eq_true.mp hc l hl)
 have h3 : (l0.all fun l => graphfile_clean.f (k + 1) l (l0.length : Int) == some true) = (l0.all fun l => graphfile_clean.f k l (l0.length : Int) == some true) := by
  refine Bool.eq_iff_iff.mpr ⟨fun q => List.all_eq_true.mpr (fun l hl => ?_), fun q => List.all_eq_true.mpr (fun l hl => ?_)⟩
  ·rw [← h1 l hl]; exact List.all_eq_true.mp q l hl
  ·rw [h1 l hl]; exact List.all_eq_true.mp q l hl
 rw [if_pos h2, h3]; exact h
set_option maxHeartbeats 4000000 in
set_option maxRecDepth 100000 in
theorem graphfile_Clean.one (k : Nat) (n : Nat) (A0 : Option Addr) (c0 : Nat) (g : Nat) (x : List S41) (Ax : Option Addr) (cx : Nat) (v : Bool) (W : World) (hg : W.cell? ⟨g, 0, none⟩ = some (.slice A0 n c0)) (hC : Kd.C k41 W Ax x.length x) (hcx : x.length ≤ cx) (hv : graphfile_clean.f k x (n : Int) = some v) :
  Calls Tryd.prog 38 #[.slice Ax x.length cx, .pointer (some ⟨g, 0, none⟩)] W fun e w' => e = .returned (.bool (!v)) ∧ Below W.heap.size W w' := by
 have hK := graphfile_clean.calls k Ax cx x (n : Int) v W hC hcx hv
 clear hC hv
 go_enter Tryd.func38, Tryd.ntmps38
 go_wp2_with (first | (go_at_call 39; refine hK.mono ?_; rintro e w1 ⟨rfl, hb1⟩; have HB1 := Aside0.mk hb1; clear hb1 hK))
 go_ret
 exact ⟨by cases v <;> rfl, HB1.out⟩
set_option maxHeartbeats 4000000 in
set_option maxRecDepth 100000 in
theorem graphfile_Clean.calls (k : Nat) (A0 : Option Addr) (c0 : Nat) (l0 : List (List S41)) (r : Bool) (w : World) (hr0 : Kd.C (Kd.slice 41 k41) w A0 l0.length l0) (hc0 : l0.length ≤ c0) (h : graphfile_Clean.f k l0 = some r) :
  Calls Tryd.prog 23 #[.slice A0 l0.length c0] w fun e w' => e = .returned (.bool r) ∧ Below w.heap.size w w' := by
 unfold graphfile_Clean.f at h
 split at h
 case isTrue hc =>
  obtain rfl := Option.some.inj h
  have b1 : decide ((l0.length : Int) ≤ 1048576) = false := decide_eq_false (by omega)
  clear hr0 h hc
  go_enter Tryd.func23, Tryd.ntmps23
  go_wp2
  go_ret
  exact ⟨rfl, below_alloc (Below.refl _ _) _⟩
 case isFalse hc =>
 split at h
 case isFalse => cases h
 case isTrue hs =>
 obtain rfl := Option.some.inj h
 have hba := below_alloc (Below.refl w.heap.size w) (.cells #[.slice A0 l0.length c0] 36)
 have hra := blk_new w (.cells #[.slice A0 l0.length c0] 36)
 have hz : (w.alloc (.cells #[.slice A0 l0.length c0] 36)).heap.size = w.heap.size + 1 := by simp
 have hT : ∀ (x : List S41) (Ax : Option Addr) (cx : Nat) (W : World), x ∈ l0 → Below (w.alloc (.cells #[.slice A0 l0.length c0] 36)).heap.size (w.alloc (.cells #[.slice A0 l0.length c0] 36)) W → Kd.C k41 W Ax x.length x → x.length ≤ cx → Calls Tryd.prog 38 (#[.slice Ax x.length cx] ++ #[.pointer (some ⟨w.heap.size, 0, none⟩)]) W fun e w' => e = .returned (.bool (!(graphfile_clean.f k x (l0.length : Int) == some true))) ∧ Below W.heap.size W w' := fun x Ax cx W hx hb hC hcx => by
  obtain ⟨v, hv⟩ := Option.isSome_iff_exists.mp (List.all_eq_true.mp hs x hx)
  have e1 : (graphfile_clean.f k x (l0.length : Int) == some true) = v := by rw [hv]; cases v <;> rfl
  rw [e1]
  exact graphfile_Clean.one k l0.length A0 c0 w.heap.size x Ax cx v W ((blk_cell (blk_below hra hb) 0).trans rfl) hC hcx hv
 have hN := api_Near_37.runs (fun x => !(graphfile_clean.f k x (l0.length : Int) == some true)) 38 #[.pointer (some ⟨w.heap.size, 0, none⟩)] (enters_of Tryd.func38 (by kernel_rfl) rfl) A0 c0 l0 _ (Kd.C_below hr0 hba) hc0 (by omega) hT
 have e2 : (l0.all fun l => graphfile_clean.f k l (l0.length : Int) == some true) = !(l0.any fun x => !(graphfile_clean.f k x (l0.length : Int) == some true)) := by
  rw [List.all_eq_not_any_not]
 rw [e2]
 have b1 : decide ((l0.length : Int) ≤ 1048576) = true := decide_eq_true (by omega)
 clear hr0 hT e2 h hs hc
 generalize (l0.any fun x => !(graphfile_clean.f k x (l0.length : Int) == some true)) = q at hN
 have HBA := Aside0.mk hba
 clear hba hra hz
 go_enter Tryd.func23, Tryd.ntmps23
 go_wp2_with (first | (go_at_call 37; refine hN.mono ?_; rintro e w1 ⟨rfl, hb1⟩; have HB1 := Aside0.mk hb1; clear hb1 hN))
 go_ret
 exact ⟨by cases q <;> rfl, below_step HBA.out HB1.out⟩


/-! ### api_Pair_24: function 24 -/
instance api_Pair_24.inh : Inhabited S33 := ⟨z33⟩
def api_Pair_24.enc (x : S33) : List Value := [.int .i64 x.f0, .int .i64 x.f1]
theorem api_Pair_24.lays : YtahkkgnicgbncaaDoorR.Lays k33 api_Pair_24.enc 2 where
 to_ := fun h => k33_openM h
 of_ := fun w base ok x => k33_mkM w base ok x
 sz := rfl
 len := fun _ => rfl
 pos := by decide
 one := fun x v hv => by simp [api_Pair_24.enc] at hv; rcases hv with rfl | rfl <;> rfl
/-- WHAT IS SORTED: one's own row stays one's own, and has its elements in order. -/
theorem api_Pair_24.runs (cf : S33 → S33 → Int) (hO : Go.Sort.SWO (ltOf cf)) (hT : ∀ x y, (ltOf cf) x y = false → (ltOf cf) y x = false → x = y) (g : Nat) (cb : Array Value) (eg : ∀ args w, (callFunc g args).run Tryd.prog w = .ok (.enter g args) w)
  (hcmp : ∀ x y W, Calls Tryd.prog g (#[.agg (api_Pair_24.enc x).toArray, .agg (api_Pair_24.enc y).toArray] ++ cb) W fun e w' => e = .returned (.int .i64 (cf x y)) ∧ ∃ q os, w' = Go.Sort.grow (W.drewN q) os)
  (base : Nat) (ok : Nat → Prop) (v : Value) (xs : List S33) (w : World) (h : Kd.R k33 33 w base ok v xs) (hsz : xs.length < 4611686018427387904) :
  Calls Tryd.prog 24 #[v, .func (.func g) #[] cb] w fun e w' => e = .returned (.tuple #[]) ∧ Kd.R k33 33 w' base ok v (xs.mergeSort fun x y => !(ltOf cf) y x) ∧ Below base w w' := by
 obtain ⟨h0, inner, ⟨hl, ho⟩, hr⟩ := h
 rcases ho with ⟨rfl, hn⟩ | ⟨b, cap, cur, rfl, hb, hg, hn, hc, hs, ht⟩
 ·obtain rfl : xs = [] := List.eq_nil_of_length_eq_zero hn
  exact (AnyF.slices_SortFunc_none YtahkkgnicgbncaaDoorS.layn6_f0 none 0 (.func (.func g) #[] cb) w).mono (fun e w' q => ⟨q.1, by rw [q.2, show (([] : List S33).mergeSort fun x y => !(ltOf cf) y x) = [] from List.mergeSort_nil]; exact Kd.R_nil _ _ _ _ _, by rw [q.2]; exact Below.refl _ _⟩)
 ·have hR : Kd.R k33 33 w base ok (.slice (some ⟨b, 0, none⟩) xs.length cap) xs := ⟨h0, inner, ⟨hl, .inr ⟨b, cap, cur, rfl, hb, hg, hn, hc, hs, ht⟩⟩, hr⟩
  obtain ⟨hH, hlt⟩ := YtahkkgnicgbncaaDoorR.holds api_Pair_24.lays hR
  have hcon := AnyQ.slices_SortFunc_total YtahkkgnicgbncaaDoorS.layn6_f0 2 Tryd.isAgg33 Tryd.sizeOf33 api_Pair_24.enc (fun _ => rfl) (api_Pair_24.lays).one cf hO g cb b 0 cap xs.toArray w eg (fun m os dk hdk x y => hcmp x y _) hH hlt (by simpa using hsz) hT
  refine (show Calls Tryd.prog 24 _ w _ from hcon).mono ?_
  rintro e w' ⟨rfl, n, os, rfl⟩
  have hp := YtahkkgnicgbncaaDoorR.put_ api_Pair_24.lays hR (xs.mergeSort fun x y => !(ltOf cf) y x).toArray (by simp) n os xs.length (Nat.le_refl _)
  refine ⟨rfl, ?_, YtahkkgnicgbncaaDoorR.below w hb hlt _ n os⟩
  have e1 : ((xs.mergeSort fun x y => !(ltOf cf) y x).toArray.toList.take xs.length) = xs.mergeSort fun x y => !(ltOf cf) y x := by
   rw [List.toList_toArray]; exact List.take_of_length_le (by simp)
  rw [e1] at hp
  exact hp

/-! ### api_Pair_26: function 26 -/
instance api_Pair_26.dec : DecidableEq S33 := fun a b => decidable_of_iff (a.f0 = b.f0 ∧ a.f1 = b.f1) ⟨fun h => by cases a; cases b; simp_all, fun h => by rw [h]; exact ⟨rfl, rfl⟩⟩
theorem api_Pair_26.cells {w : World} {b n cap base e : Nat} {ok : Nat → Prop} {xs : List S33} (h : Kd.R k33 e w base ok (.slice (some ⟨b, 0, none⟩) n cap) xs) (i : Nat) (hi : i < xs.length) :
  w.cell? ⟨b, i * 2, none⟩ = some (.int .i64 (xs.toArray[i]!).f0) ∧ w.cell? ⟨b, i * 2 + 1, none⟩ = some (.int .i64 (xs.toArray[i]!).f1) ∧ w.frozen? ⟨b, i * 2, none⟩ = false ∧ w.frozen? ⟨b, i * 2 + 1, none⟩ = false := by
 have hH := (YtahkkgnicgbncaaDoorR.holds api_Pair_24.lays h).1
 have h0 := hH.cell (i := i) (c := 0) (by simpa using hi) (by decide)
 have h1 := hH.cell (i := i) (c := 1) (by simpa using hi) (by decide)
 simp only [Nat.zero_add, Nat.add_zero] at h0 h1
 exact ⟨h0.1, h1.1, h0.2, h1.2⟩
theorem api_Pair_26.own {w : World} {b cap base e : Nat} {ok : Nat → Prop} {xs : List S33} (h : Kd.R k33 e w base ok (.slice (some ⟨b, 0, none⟩) xs.length cap) xs) (dk : Array S33) (hs : dk.size = xs.toArray.size) (q : Nat) :
  Kd.R k33 e (sortWorldK api_Pair_24.enc 2 w b 0 q dk #[]) base ok (.slice (some ⟨b, 0, none⟩) xs.length cap) dk.toList := by
 have hp := YtahkkgnicgbncaaDoorR.put_ api_Pair_24.lays h dk (by simpa using hs) q #[] xs.length (Nat.le_refl _)
 rw [List.take_of_length_le (by simp at hs; simp [hs])] at hp
 exact hp
theorem api_Pair_26.start_world {w : World} {b cap base e : Nat} {ok : Nat → Prop} {xs : List S33} (h : Kd.R k33 e w base ok (.slice (some ⟨b, 0, none⟩) xs.length cap) xs) (q : Nat) : w.drewN q = sortWorldK api_Pair_24.enc 2 w b 0 q xs.toArray #[] := by
 have hH := (YtahkkgnicgbncaaDoorR.holds api_Pair_24.lays h).1
 have e1 := Go.Sort.putRowK_self _ 2 (Go.Sort.ahead w q) b 0 xs.toArray (Go.Sort.holdsK_ahead _ 2 w q b 0 xs.toArray hH)
 unfold sortWorldK
 rw [e1]
 simp [Go.Sort.grow, Go.Sort.ahead, World.drewN]
theorem api_Pair_26.draw {w wr : World} {b q n : Nat} {dk : Array S33} (h : wr = sortWorldK api_Pair_24.enc 2 w b 0 q dk #[]) : wr.drewN n = sortWorldK api_Pair_24.enc 2 w b 0 (q + n) dk #[] := by
 subst h
 simp only [sortWorldK, Go.Sort.grow, Go.Sort.putRowK, Go.Sort.putRow, Go.Sort.mapBlock, Go.Sort.ahead, World.drewN, Nat.add_assoc]
theorem api_Pair_26.set_flat (D : Array S33) (i : Nat) (hi : i < D.size) (x : S33) :
  Go.Sort.setMany (Go.Sort.flatK api_Pair_24.enc 2 D) (i * 2) (api_Pair_24.enc x) = Go.Sort.flatK api_Pair_24.enc 2 (D.setIfInBounds i x) := by
 refine Go.Sort.ext_get! (by simp) fun t ht => ?_
 have ht' : t < D.size * 2 := by simpa using ht
 rw [Go.Sort.get_setMany _ _ _ t (by simpa using ht'), Go.Sort.get_flatK _ _ _ t ht', Go.Sort.get_flatK _ _ _ t (by simpa using ht')]
 have hl : (api_Pair_24.enc x).length = 2 := rfl
 rw [hl]
 by_cases a : t / 2 = i
 ·rw [if_pos ((Go.Sort.blk_iff 2 i t (by decide)).2 a), a, Go.Sort.getElem!_set_same D i x hi]
  congr 1
  omega
 ·rw [if_neg (fun h => a ((Go.Sort.blk_iff 2 i t (by decide)).1 h)), Go.Sort.getElem!_set_other D i _ x a]
theorem api_Pair_26.store_world {w wr : World} {b q n i : Nat} {dk : Array S33} (hi : i < dk.size) (h : wr = sortWorldK api_Pair_24.enc 2 w b 0 q dk #[]) (x : S33) :
  ((wr.drewN n).setCell ⟨b, i * 2, none⟩ (.int .i64 x.f0)).setCell ⟨b, i * 2 + 1, none⟩ (.int .i64 x.f1) = sortWorldK api_Pair_24.enc 2 w b 0 (q + n) (dk.setIfInBounds i x) #[] := by
 rw [api_Pair_26.draw h]
 have e1 : ∀ W : World, Go.Sort.grow W #[] = W := fun W => by simp [Go.Sort.grow]
 simp only [sortWorldK, e1]
 unfold Go.Sort.putRowK
 have := Go.Sort.setCells_putRow (Go.Sort.ahead w (q + n)) b 0 (api_Pair_24.enc x) (i * 2) (Go.Sort.flatK api_Pair_24.enc 2 dk) (by rw [Go.Sort.size_flatK]; show i * 2 + 2 ≤ _; omega)
 rw [api_Pair_26.set_flat dk i hi x] at this
 rw [← this]
 simp only [api_Pair_24.enc, World.setCells, Nat.zero_add]
/-- 'clear' of pairs: their cells are all 0. -/
theorem api_Pair_26.clear_run (b o n c : Nat) (ty : TypeId) (w : World) (hn : 0 < n) (hc : ∀ j, j < 2 * n → (w.cell? ⟨b, o + j, none⟩).isSome = true) (hf : ∀ j, j < 2 * n → w.frozen? ⟨b, o + j, none⟩ = false) :
  (Builtin.clear_ #[22] ty #[.slice (some ⟨b, o, none⟩) n c]).run Tryd.prog w = .ok (.tuple #[]) (w.setCells b o (List.replicate (2 * n) (.int .i64 0))) := by
 have hzc : (Builtin.zeroCells #[.int .i64 0, .int .i64 0] n).toList = List.replicate (2 * n) (.int .i64 0) := by
  simp [Builtin.zeroCells]
  apply List.ext_getElem
  ·simp; omega
  ·intro i h1 h2
   have h3 : i % 2 = 0 ∨ i % 2 = 1 := by omega
   rcases h3 with h3 | h3 <;> simp [h3]
 have hst := run_storeCells_cells (P := Tryd.prog) b o (List.replicate (2 * n) (.int .i64 0)) 0 w (by simpa using hc) (by simpa using hf) (by intro v hv'; rw [List.eq_of_mem_replicate hv']; rfl)
 simp only [Nat.add_zero] at hst
 obtain ⟨m, rfl⟩ : ∃ m, n = m + 1 := ⟨n - 1, by omega⟩
 have hv := Tryd.zeroValue33
 simp [Builtin.clear_, run_underlying Tryd.underlying22, hv, Value.cells, hzc, hst]
theorem api_Pair_26.zero_flat (D : Array S33) (i : Nat) (hi : i ≤ D.size) :
  Go.Sort.setMany (Go.Sort.flatK api_Pair_24.enc 2 D) (i * 2) (List.replicate (2 * (D.size - i)) (.int .i64 0)) = Go.Sort.flatK api_Pair_24.enc 2 (D.toList.take i ++ List.replicate (D.size - i) z33).toArray := by
 have hs : (D.toList.take i ++ List.replicate (D.size - i) z33).toArray.size = D.size := by simp; omega
 refine Go.Sort.ext_get! (by rw [Go.Sort.size_setMany, Go.Sort.size_flatK, Go.Sort.size_flatK, hs]) fun t ht => ?_
 have ht' : t < D.size * 2 := by simpa using ht
 rw [Go.Sort.get_setMany _ _ _ t (by simpa using ht'), Go.Sort.get_flatK _ _ _ t ht', Go.Sort.get_flatK _ _ _ t (by rw [hs]; exact ht'), List.length_replicate]
 by_cases a : i * 2 ≤ t
 ·rw [if_pos ⟨a, by omega⟩]
  have e1 : (D.toList.take i ++ List.replicate (D.size - i) z33).toArray[t / 2]! = z33 := by
   rw [getElem!_pos _ _ (by rw [hs]; omega)]
   simp only [List.getElem_toArray]
   rw [List.getElem_append_right (by simp; omega)]
   simp
  have e2 : (List.replicate (2 * (D.size - i)) (Value.int .i64 0))[t - i * 2]! = .int .i64 0 := by
   rw [getElem!_pos _ _ (by simp; omega)]
   simp
  rw [e1, e2]
  have h3 : t % 2 = 0 ∨ t % 2 = 1 := by omega
  rcases h3 with h3 | h3 <;> rw [h3] <;> rfl
 ·rw [if_neg (fun h => a h.1)]
  have e1 : (D.toList.take i ++ List.replicate (D.size - i) z33).toArray[t / 2]! = D[t / 2]! := by
   rw [getElem!_pos _ _ (by rw [hs]; omega), getElem!_pos D _ (by omega)]
   simp only [List.getElem_toArray]
   rw [List.getElem_append_left (by simp; omega)]
   simp
  rw [e1]
theorem api_Pair_26.zero_world {w wr : World} {b q i : Nat} {dk : Array S33} (hi : i ≤ dk.size) (h : wr = sortWorldK api_Pair_24.enc 2 w b 0 q dk #[]) :
  wr.setCells b (i * 2) (List.replicate (2 * (dk.size - i)) (.int .i64 0)) = sortWorldK api_Pair_24.enc 2 w b 0 q (dk.toList.take i ++ List.replicate (dk.size - i) z33).toArray #[] := by
 subst h
 have e1 : ∀ W : World, Go.Sort.grow W #[] = W := fun W => by simp [Go.Sort.grow]
 simp only [sortWorldK, e1]
 unfold Go.Sort.putRowK
 have := Go.Sort.setCells_putRow (Go.Sort.ahead w q) b 0 (List.replicate (2 * (dk.size - i)) (.int .i64 0)) (i * 2) (Go.Sort.flatK api_Pair_24.enc 2 dk) (by rw [Go.Sort.size_flatK, List.length_replicate]; omega)
 rw [api_Pair_26.zero_flat dk i hi] at this
 rw [← this]
 simp only [Nat.zero_add]
theorem api_Pair_26.done {xs : List S33} {kk : Nat} {dk : Array S33} (h : Lib.CompInv xs.toArray xs.length kk dk) : dk.toList.take kk = Lib.compact xs := by
 have hl := h.len
 have hk := h.lt
 have hs := h.size
 simp at hs
 unfold Lib.compact
 apply List.ext_getElem?
 intro i
 rcases Nat.lt_or_ge i kk with hi | hi
 ·rw [h.low i hi, List.getElem?_take_of_lt hi, Array.getElem?_toList, Array.getElem?_eq_getElem (by omega), getElem!_pos dk i (by omega)]
 ·rw [List.getElem?_eq_none (by simp; omega), List.getElem?_eq_none (by omega)]
/-- Behind it all: the row, cut. -/
theorem api_Pair_26.end_ {w wr : World} {b cap base e q kk : Nat} {ok : Nat → Prop} {xs : List S33} {dk : Array S33} (h : Kd.R k33 e w base ok (.slice (some ⟨b, 0, none⟩) xs.length cap) xs) (hI : Lib.CompInv xs.toArray xs.length kk dk) (hw : wr = sortWorldK api_Pair_24.enc 2 w b 0 q dk #[]) :
  Kd.R k33 e (wr.setCells b (kk * 2) (List.replicate (2 * (xs.length - kk)) (.int .i64 0))) base ok (.slice (some ⟨b, 0, none⟩) kk cap) (Lib.compact xs) ∧ Below base w (wr.setCells b (kk * 2) (List.replicate (2 * (xs.length - kk)) (.int .i64 0))) := by
 have hs := hI.size
 have hk := hI.lt
 simp at hs
 have e1 := api_Pair_26.zero_world (i := kk) (by omega) hw
 rw [hs] at e1
 rw [e1]
 obtain ⟨_, hb, _⟩ := YtahkkgnicgbncaaDoorR.open_ api_Pair_24.lays h
 obtain ⟨_, hlt⟩ := YtahkkgnicgbncaaDoorR.holds api_Pair_24.lays h
 refine ⟨?_, YtahkkgnicgbncaaDoorR.below w hb hlt _ q #[]⟩
 have hp := YtahkkgnicgbncaaDoorR.put_ api_Pair_24.lays h (dk.toList.take kk ++ List.replicate (xs.length - kk) z33).toArray (by simp; omega) q #[] kk (by omega)
 have e2 : (dk.toList.take kk ++ List.replicate (xs.length - kk) z33).toArray.toList.take kk = Lib.compact xs := by
  rw [List.toList_toArray, ← api_Pair_26.done hI]
  exact List.take_left' (by simp; omega)
 rw [e2] at hp
 exact hp
set_option maxHeartbeats 4000000 in
set_option maxRecDepth 100000 in
theorem api_Pair_26.runs (base : Nat) (ok : Nat → Prop) (b cap : Nat) (xs : List S33) (w : World) (h : Kd.R k33 33 w base ok (.slice (some ⟨b, 0, none⟩) xs.length cap) xs) (hsz : xs.length < 4611686018427387904) :
  Calls Tryd.prog 26 #[.slice (some ⟨b, 0, none⟩) xs.length cap] w fun e w' => ∃ n, e = .returned (.slice (some ⟨b, 0, none⟩) n cap) ∧ Kd.R k33 33 w' base ok (.slice (some ⟨b, 0, none⟩) n cap) (Lib.compact xs) ∧ Below base w w' := by
 have hu33 := Tryd.underlying33
 have hcap : xs.length ≤ cap := (YtahkkgnicgbncaaDoorR.open_ api_Pair_24.lays h).2.2.2.1
 have same : ∀ q, (∀ j, j < xs.length → Lib.keeps xs.toArray j = true) → Kd.R k33 33 (w.drewN q) base ok (.slice (some ⟨b, 0, none⟩) xs.length cap) (Lib.compact xs) ∧ Below base w (w.drewN q) := fun q hall => by
  rw [Lib.compact_all xs hall]
  exact ⟨Kd.R_drewN h q, pw_below_drewN (Below.refl _ _) q⟩
 have HS := Aside0.mk same
 have HR := Aside0.mk h
 clear same h
 by_cases h2 : xs.length < 2
 ·have b1 : decide ((xs.length : Int) < 2) = true := decide_eq_true (by omega)
  go_enter Tryd.func26, Tryd.ntmps26
  go_wp2
  go_ret
  have := HS.out 0 (fun j hj => Lib.keeps_lt_one _ j (by omega))
  exact ⟨_, rfl, this⟩
 ·have b1 : decide ((xs.length : Int) < 2) = false := decide_eq_false (by omega)
  go_enter Tryd.func26, Tryd.ntmps26
  go_wp2
  go_loopg [3] xs.length (fun g s3 wr => ∃ k q : Nat, 1 ≤ k ∧ k ≤ xs.length ∧ xs.length - k ≤ g ∧ s3 = .int .i64 k ∧ wr = w.drewN q ∧ Aside0 (∀ j, j < k → Lib.keeps xs.toArray j = true))
  case atStart => exact ⟨1, 0, Nat.le_refl _, by omega, by omega, rfl, rfl, ⟨Lib.keeps_lt_one _⟩⟩
  case round =>
   obtain ⟨k, q, hk1, hk, hg, rfl, rfl, A⟩ := hrel
   by_cases hlt : k < xs.length
   ·obtain ⟨x0, x1, _, _⟩ := api_Pair_26.cells HR.out k hlt
    obtain ⟨y0, y1, _, _⟩ := api_Pair_26.cells HR.out (k - 1) (by omega)
    have b2 : decide ((k : Int) < (xs.length : Int)) = true := decide_eq_true (by omega)
    generalize hx : xs.toArray[k]! = x at x0 x1
    generalize hy : xs.toArray[k - 1]! = y at y0 y1
    have B := Aside0.mk hx
    have B' := Aside0.mk hy
    clear hx hy
    by_cases hdup : ((x.f0 == y.f0) && (x.f1 == y.f1)) = true
    ·have b3 : ((0 : Int) ≤ (k : Int)) = True := eq_true (by omega)
     have b4 : ((k : Int) < (xs.length : Int)) = True := eq_true (by omega)
     have b5 : ((0 : Int) ≤ (k : Int) - 1) = True := eq_true (by omega)
     have b6 : ((k : Int) - 1 < (xs.length : Int)) = True := eq_true (by omega)
     have hxy : x = y := by
      cases x; cases y; simp at hdup; obtain ⟨e1, e2⟩ := hdup; subst e1; subst e2; rfl
     subst hxy
     go_wp2
     go_quiet (fail)
     go_wp2
     clear x0 x1 y0 y1 b2 b3 b4 b5 b6
     go_loopg [3, 5] xs.length (fun g s3 s5 wr => ∃ (kk k2 q2 : Nat) (dk : Array S33), s3 = .int .i64 kk ∧ s5 = .int .i64 k2 ∧ 1 ≤ k2 ∧ k + k2 ≤ xs.length ∧ xs.length - (k + k2) ≤ g ∧ Aside0 (wr = sortWorldK api_Pair_24.enc 2 w b 0 q2 dk #[]) ∧ Aside0 (Lib.CompInv xs.toArray (k + k2) kk dk))
     case atStart => exact ⟨k, 1, _, xs.toArray, rfl, rfl, Nat.le_refl _, by omega, by omega, ⟨api_Pair_26.start_world HR.out _⟩, ⟨Lib.CompInv.start A.out (Lib.keeps_neg (by omega) (by rw [B.out, B'.out]))⟩⟩
     case round =>
      obtain ⟨kk, k2, q2, dk, rfl, rfl, h1, hle, hg2, W2, I2⟩ := hrel
      have hkk := I2.out.lt
      have hds := I2.out.size
      have hRk := api_Pair_26.own HR.out dk hds q2
      rw [← W2.out] at hRk
      have HRk := Aside0.mk hRk
      clear hRk
      by_cases hlt2 : k + k2 < xs.length
      ·obtain ⟨u0, u1, _, _⟩ := api_Pair_26.cells HRk.out (k + k2) (by simp at hds; simp [hds]; omega)
       obtain ⟨v0, v1, _, _⟩ := api_Pair_26.cells HRk.out (k + k2 - 1) (by simp at hds; simp [hds]; omega)
       obtain ⟨o0, o1, o2, o3⟩ := api_Pair_26.cells HRk.out kk (by simp at hds; simp [hds]; omega)
       simp only [Array.toArray_toList] at u0 u1 v0 v1 o0 o1
       rw [I2.out.high (k + k2) (by omega), show (k + k2) * 2 = k * 2 + k2 * 2 by omega] at u0 u1
       rw [I2.out.high (k + k2 - 1) (by omega), show (k + k2 - 1) * 2 = k * 2 + (k2 - 1) * 2 by omega] at v0 v1
       generalize hu : xs.toArray[k + k2]! = u at u0 u1
       generalize hv : xs.toArray[k + k2 - 1]! = v at v0 v1
       generalize dk[kk]! = old at o0 o1
       have C := Aside0.mk hu
       have C' := Aside0.mk hv
       clear hu hv
       have b2 : decide ((k2 : Int) < (xs.length : Int) - (k : Int)) = true := decide_eq_true (by omega)
       by_cases huv : u = v
       ·subst huv
        go_wp2
        go_quiet (fail)
        go_wp2
        go_roundg (xs.length - (k + (k2 + 1)))
        case measure => omega
        case rel => exact ⟨kk, k2 + 1, _, dk, rfl, by go_num, by omega, by omega, Nat.le_refl _, ⟨api_Pair_26.draw W2.out⟩, ⟨I2.out.skip (Lib.keeps_neg (by omega) (by rw [C.out, C'.out]))⟩⟩
       ·have hne : ((u.f0 = v.f0) = False) ∨ ((u.f0 = v.f0) = True ∧ (u.f1 = v.f1) = False) := by
         by_cases e0 : u.f0 = v.f0
         ·refine .inr ⟨eq_true e0, eq_false fun e1 => huv ?_⟩
          cases u; cases v; simp at e0 e1; subst e0; subst e1; rfl
         ·exact .inl (eq_false e0)
        have HUV := Aside0.mk huv
        clear huv
        have b7 : ((1 : Int) ≤ (k2 : Int)) = True := eq_true (by omega)
        rcases hne with n0 | ⟨n0, n1⟩
        all_goals
         go_wp2
         go_quiet (fail)
         go_wp2
         go_roundg (xs.length - (k + (k2 + 1)))
         case measure => omega
         case rel => exact ⟨kk + 1, k2 + 1, _, dk.setIfInBounds kk u, by go_num, by go_num, by omega, by omega, Nat.le_refl _, ⟨api_Pair_26.store_world (by simp at hds; omega) W2.out u⟩, ⟨by have := I2.out.keep (by simp; omega) (Lib.keeps_pos (by rw [C.out, C'.out]; exact HUV.out)); rwa [C.out] at this⟩⟩
      ·have hend : k + k2 = xs.length := by omega
       have hcl : ∀ ty, (Builtin.clear_ #[22] ty #[.slice (some ⟨b, kk * 2, none⟩) (xs.length - kk) (cap - kk)]).run Tryd.prog wr = .ok (.tuple #[]) (wr.setCells b (kk * 2) (List.replicate (2 * (xs.length - kk)) (.int .i64 0))) :=
        fun ty => api_Pair_26.clear_run b (kk * 2) (xs.length - kk) (cap - kk) ty wr (by omega) (fun j hj => by
         have hj' : (kk + j / 2) < dk.toList.length := by simp at hds; simp [hds]; omega
         obtain ⟨q0, q1, _, _⟩ := api_Pair_26.cells HRk.out (kk + j / 2) hj'
         rcases (show j = j / 2 * 2 ∨ j = j / 2 * 2 + 1 by omega) with e | e
         ·rw [show kk * 2 + j = (kk + j / 2) * 2 by omega, q0]; rfl
         ·rw [show kk * 2 + j = (kk + j / 2) * 2 + 1 by omega, q1]; rfl) (fun j hj => by
         have hj' : (kk + j / 2) < dk.toList.length := by simp at hds; simp [hds]; omega
         obtain ⟨_, _, q0, q1⟩ := api_Pair_26.cells HRk.out (kk + j / 2) hj'
         rcases (show j = j / 2 * 2 ∨ j = j / 2 * 2 + 1 by omega) with e | e
         ·rw [show kk * 2 + j = (kk + j / 2) * 2 by omega, q0]
         ·rw [show kk * 2 + j = (kk + j / 2) * 2 + 1 by omega, q1])
       have b2 : decide ((k2 : Int) < (xs.length : Int) - (k : Int)) = false := decide_eq_false (by omega)
       have hkn : kk ≤ xs.length := by omega
       have hkc : kk ≤ cap := by omega
       rw [hend] at I2
       have HE := Aside0.mk (api_Pair_26.end_ HR.out I2.out W2.out)
       go_wp2
       go_ret
       exact ⟨kk, rfl, HE.out.1, HE.out.2⟩
    ·have hne : ((x.f0 = y.f0) = False) ∨ ((x.f0 = y.f0) = True ∧ (x.f1 = y.f1) = False) := by
      by_cases e0 : x.f0 = y.f0
      ·refine .inr ⟨eq_true e0, eq_false fun e1 => hdup ?_⟩
       simp [e0, e1]
      ·exact .inl (eq_false e0)
     have HUV : Aside0 (x ≠ y) := ⟨fun e => hdup (by rw [e]; simp)⟩
     clear hdup
     have b3 : ((1 : Int) ≤ (k : Int)) = True := eq_true (by omega)
     rcases hne with n0 | ⟨n0, n1⟩
     all_goals
      go_wp2
      go_quiet (fail)
      go_wp2
      go_roundg (xs.length - (k + 1))
      case measure => omega
      case rel => exact ⟨k + 1, _, by omega, by omega, Nat.le_refl _, by go_num, rfl, ⟨fun j hj => by
       by_cases e : j = k
       ·subst e
        exact Lib.keeps_pos (by rw [B.out, B'.out]; exact HUV.out)
       ·exact A.out j (by omega)⟩⟩
   ·have : k = xs.length := by omega
    subst this
    go_wp2
    go_ret
    have := HS.out q A.out
    exact ⟨_, rfl, this⟩
set_option maxHeartbeats 4000000 in
set_option maxRecDepth 100000 in
theorem api_Pair_26.nil (w : World) : Calls Tryd.prog 26 #[.slice none 0 0] w fun e w' => e = .returned (.slice none 0 0) ∧ w' = w := by
 go_enter Tryd.func26, Tryd.ntmps26
 go_wp2
 go_ret
 exact ⟨rfl, rfl⟩
/-- WHAT COMES BACK: the row of one's own, each run of equals once. -/
theorem api_Pair_26.all (base : Nat) (ok : Nat → Prop) (v : Value) (xs : List S33) (w : World) (h : Kd.R k33 33 w base ok v xs) (hsz : xs.length < 4611686018427387904) :
  Calls Tryd.prog 26 #[v] w fun e w' => ∃ v1, e = .returned v1 ∧ Kd.R k33 33 w' base ok v1 (Lib.compact xs) ∧ Below base w w' := by
 obtain ⟨h0, inner, ⟨hl, ho⟩, hr⟩ := h
 rcases ho with ⟨rfl, hn⟩ | ⟨b, cap, cur, rfl, hb, hg, hn, hc, hs, ht⟩
 ·obtain rfl : xs = [] := List.eq_nil_of_length_eq_zero hn
  exact (api_Pair_26.nil w).mono (fun e w' q => ⟨_, q.1, by rw [q.2]; exact Kd.R_nil _ _ _ _ _, by rw [q.2]; exact Below.refl _ _⟩)
 ·have hR : Kd.R k33 33 w base ok (.slice (some ⟨b, 0, none⟩) xs.length cap) xs := ⟨h0, inner, ⟨hl, .inr ⟨b, cap, cur, rfl, hb, hg, hn, hc, hs, ht⟩⟩, hr⟩
  exact (api_Pair_26.runs base ok b cap xs w hR hsz).mono (fun e w' ⟨n, q1, q2, q3⟩ => ⟨_, q1, q2, q3⟩)

/-! ### diff_Edges: function 12 -/
/-- How a pair stands to another one. -/
def diff_Edges.cf (a b : S33) : Int := if a.f0 < b.f0 then -1 else if b.f0 < a.f0 then 1 else if a.f1 < b.f1 then -1 else if b.f1 < a.f1 then 1 else 0
/-- The pairs of one list's near ones, of the lists', of the first i lists'. -/
def diff_Edges.el (i : Int) (x : S41) : List S33 := if x.f1 = i then [] else [⟨mn i x.f1, mx i x.f1⟩]
def diff_Edges.row (i : Int) (l : List S41) : List S33 := l.flatMap (diff_Edges.el i)
def diff_Edges.es (g : List (List S41)) : List S33 := g.zipIdx.flatMap fun p => diff_Edges.row (p.2 : Int) p.1
theorem diff_Edges.es_step (g : List (List S41)) (i : Nat) (hi : i < g.length) : diff_Edges.es (g.take (i + 1)) = diff_Edges.es (g.take i) ++ diff_Edges.row (i : Int) g[i] := by
 unfold diff_Edges.es
 rw [List.take_add_one, List.getElem?_eq_getElem hi, Option.toList_some, List.zipIdx_append, List.flatMap_append]
 congr 1
 simp [List.length_take, Nat.min_eq_left (Nat.le_of_lt hi)]
theorem diff_Edges.row_step (i : Int) (l : List S41) (j : Nat) (hj : j < l.length) : diff_Edges.row i (l.take (j + 1)) = diff_Edges.row i (l.take j) ++ diff_Edges.el i l[j] := by
 unfold diff_Edges.row
 rw [List.take_add_one, List.getElem?_eq_getElem hj, Option.toList_some, List.flatMap_append]
 simp
theorem diff_Edges.row_le (i : Int) (l : List S41) (j : Nat) : (diff_Edges.row i (l.take j)).length ≤ (diff_Edges.row i l).length := by
 have e : diff_Edges.row i l = diff_Edges.row i (l.take j) ++ diff_Edges.row i (l.drop j) := by
  unfold diff_Edges.row
  rw [← List.flatMap_append, List.take_append_drop]
 rw [e, List.length_append]; omega
theorem diff_Edges.es_le (g : List (List S41)) : ∀ (i : Nat), i ≤ g.length → (diff_Edges.es (g.take i)).length ≤ (diff_Edges.es g).length := by
 intro i hi
 have e : ∀ m, i + m ≤ g.length → (diff_Edges.es (g.take i)).length ≤ (diff_Edges.es (g.take (i + m))).length := by
  intro m
  induction m with
  | zero => intro _; exact Nat.le_refl _
  | succ m ih =>
   intro hm
   rw [← Nat.add_assoc, diff_Edges.es_step g (i + m) (by omega), List.length_append]
   have := ih (by omega)
   omega
 have := e (g.length - i) (by omega)
 rwa [show i + (g.length - i) = g.length by omega, List.take_length] at this
theorem diff_Edges.in_le (g : List (List S41)) (i : Nat) (hi : i < g.length) (j : Nat) : (diff_Edges.es (g.take i) ++ diff_Edges.row (i : Int) (g[i].take j)).length ≤ (diff_Edges.es g).length := by
 have h1 := diff_Edges.es_le g (i + 1) (by omega)
 rw [diff_Edges.es_step g i hi, List.length_append] at h1
 have h2 := diff_Edges.row_le (i : Int) g[i] j
 rw [List.length_append]; omega
def diff_Edges.f (k : Nat) (l0 : List (List S41)) : Option (List S33) := (graphfile_Clean.f k l0).bind fun t => if t = true then (if 4 ≤ k ∧ (diff_Edges.es l0).length < 8796093022208 then some (Lib.compact ((diff_Edges.es l0).mergeSort fun x y => !(ltOf diff_Edges.cf) y x)) else none) else some []
theorem diff_Edges.mono : ∀ a0 k, LeO (diff_Edges.f k a0) (diff_Edges.f (k + 1) a0) := by
 intro l0 k
 unfold diff_Edges.f
 refine LeO.bind (graphfile_Clean.mono _ _) (fun t => ?_)
 split
 ·intro r h
  split at h
  case isFalse => cases h
  case isTrue hc => rw [if_pos ⟨by omega, hc.2⟩]; exact h
 ·exact LeO.refl _
theorem diff_Edges.or_eq (k : Nat) (x y : Int) : cmp_Or_int.f (k + 4) [x, y] = some (if x = 0 then y else x) := by
 have w1 : wrap64 1 = 1 := by unfold wrap64; omega
 have w2 : wrap64 2 = 2 := by unfold wrap64; omega
 by_cases h1 : x = 0
 ·by_cases h2 : y = 0
  ·simp [cmp_Or_int.f, cmp_Or_int.l0, rd, h1, h2, w1, w2]
  ·simp [cmp_Or_int.f, cmp_Or_int.l0, rd, h1, h2, w1, w2]
 ·simp [cmp_Or_int.f, cmp_Or_int.l0, rd, h1, w1, w2]
theorem diff_Edges.cmp_eq (x y : Int) : cmp_Compare_int.f x y = some (if x < y then -1 else if y < x then 1 else 0) := by
 simp [cmp_Compare_int.f, cmp_isNaN_int.f]
 by_cases h1 : x < y
 ·rw [if_pos h1, if_pos h1]
 ·rw [if_neg h1, if_neg h1]
  by_cases h2 : y < x
  ·rw [if_pos h2, if_pos h2]
  ·rw [if_neg h2, if_neg h2]
theorem diff_Edges.cf_order (k : Nat) (hk : 4 ≤ k) (a b : S33) : diff_order.f k a.f0 a.f1 b.f0 b.f1 = some (diff_Edges.cf a b) := by
 obtain ⟨m, rfl⟩ : ∃ m, k = m + 4 := ⟨k - 4, by omega⟩
 unfold diff_order.f diff_Edges.cf
 rw [diff_Edges.cmp_eq, Option.bind_some, diff_Edges.cmp_eq, Option.bind_some, diff_Edges.or_eq]
 by_cases h1 : a.f0 < b.f0
 ·simp [h1]
 ·by_cases h2 : b.f0 < a.f0
  ·simp [h1, h2]
  ·simp [h1, h2]
/-- One pair is ahead of the other. -/
def diff_Edges.lt (a b : S33) : Bool := decide (a.f0 < b.f0 ∨ (a.f0 = b.f0 ∧ a.f1 < b.f1))
theorem diff_Edges.lt_of (a b : S33) : ltOf diff_Edges.cf a b = diff_Edges.lt a b := by
 unfold ltOf diff_Edges.cf diff_Edges.lt
 split
 ·simp_all
 ·split
  ·rw [decide_eq_false (by omega), decide_eq_false (by omega)]
  ·split
   ·rw [decide_eq_true (by omega), decide_eq_true (by omega)]
   ·split
    ·rw [decide_eq_false (by omega), decide_eq_false (by omega)]
    ·rw [decide_eq_false (by omega), decide_eq_false (by omega)]
theorem diff_Edges.swo : Go.Sort.SWO (ltOf diff_Edges.cf) where
 irrefl x := by rw [diff_Edges.lt_of]; simp [diff_Edges.lt]
 trans x y z h1 h2 := by rw [diff_Edges.lt_of] at *; simp only [diff_Edges.lt, decide_eq_true_eq] at *; omega
 ntrans x y z h1 h2 := by rw [diff_Edges.lt_of] at *; simp only [diff_Edges.lt, decide_eq_false_iff_not] at *; omega
theorem diff_Edges.tot : ∀ x y, (ltOf diff_Edges.cf) x y = false → (ltOf diff_Edges.cf) y x = false → x = y := by
 intro x y h1 h2
 rw [diff_Edges.lt_of] at h1 h2
 simp only [diff_Edges.lt, decide_eq_false_iff_not] at h1 h2
 cases x; cases y
 simp only at h1 h2
 have e1 : ∀ a b c d : Int, ¬(a < b ∨ a = b ∧ c < d) → ¬(b < a ∨ b = a ∧ d < c) → a = b ∧ c = d := fun a b c d h1 h2 => by omega
 obtain ⟨rfl, rfl⟩ := e1 _ _ _ _ h1 h2
 rfl
set_option maxHeartbeats 8000000 in
set_option maxRecDepth 100000 in
theorem diff_Edges.calls (k : Nat) (A0 : Option Addr) (c0 : Nat) (l0 : List (List S41)) (r : List S33) (w : World) (hr0 : Kd.C (Kd.slice 41 k41) w A0 l0.length l0) (hc0 : l0.length ≤ c0) (h : diff_Edges.f k l0 = some r) :
  Calls Tryd.prog 12 #[.slice A0 l0.length c0] w fun e w' => ∃ v0_ : Value, e = .returned (v0_) ∧ Kd.R k33 33 w' w.heap.size (fun _ => True) v0_ r ∧ Below w.heap.size w w' := by
 have hu33 := Tryd.underlying33
 have hu41 := Tryd.underlying41
 unfold diff_Edges.f at h
 obtain ⟨t, ht, h⟩ := Option.bind_eq_some_iff.mp h
 have hK := graphfile_Clean.calls k A0 c0 l0 t w hr0 hc0 ht
 clear ht
 have hlen : l0.length ≤ 9223372036854775807 := hr0.2.1
 have HR := Aside0.mk hr0
 clear hr0
 by_cases ht : t = true
 ·subst ht
  rw [if_pos rfl] at h
  split at h
  case isFalse => cases h
  case isTrue hl =>
  obtain ⟨hk4, hl⟩ := hl
  obtain rfl := Option.some.inj h
  clear h
  go_enter Tryd.func12, Tryd.ntmps12
  go_wp2_with (first | (go_at_call 23; refine hK.mono ?_; rintro e w1 ⟨rfl, hb1⟩; have HB := Aside0.mk hb1; clear hb1 hK))
  go_loopg [3, 13] l0.length (fun gq v3 v13 w' => ∃ i : Nat, v13 = .int .i64 i ∧ i ≤ l0.length ∧ l0.length - i ≤ gq ∧ Aside0 (Kd.R k33 33 w' w.heap.size (fun _ => True) v3 (diff_Edges.es (l0.take i))) ∧ Aside0 (Below w.heap.size w w'))
  case atStart => exact ⟨0, rfl, Nat.zero_le _, by omega, ⟨Kd.R_nil _ _ _ _ _⟩, HB⟩
  case round =>
   clear HB
   obtain ⟨i, rfl, hi, hg, HO, HB⟩ := hrel
   by_cases hlt : i < l0.length
   ·obtain ⟨ad, Ai, ci, ead, h0, hci, hCi⟩ := api_Near_52.at HR.out i hlt rfl
    cases ead
    have hW : w.heap.size ≤ _ := HB.out.size
    replace h0 := (HB.out.cell (World.block_lt_of_cell? w _ h0)).trans h0
    have hlen2 : (l0[i]'hlt).length ≤ 9223372036854775807 := hCi.2.1
    have HST := Aside0.mk (diff_Edges.es_step l0 i hlt)
    have HIN := Aside0.mk (fun j => diff_Edges.in_le l0 i hlt j)
    have HRS := Aside0.mk (fun j hj => diff_Edges.row_step (i : Int) (l0[i]'hlt) j hj)
    generalize hz : l0[i]'hlt = z at h0 hci hCi hlen2 HST HIN HRS
    have HC := Aside0.mk hCi
    clear hz hCi hci
    have b1 : decide ((i : Int) < (l0.length : Int)) = true := decide_eq_true (by omega)
    have b2 : ((0 : Int) ≤ (i : Int)) = True := eq_true (by omega)
    have b3 : ((i : Int) < (l0.length : Int)) = True := eq_true (by omega)
    go_wp2
    go_loopg [3, 20] z.length (fun gq v3 v20 w' => ∃ j : Nat, v20 = .int .i64 j ∧ j ≤ z.length ∧ z.length - j ≤ gq ∧ Aside0 (Kd.R k33 33 w' w.heap.size (fun _ => True) v3 (diff_Edges.es (l0.take i) ++ diff_Edges.row (i : Int) (z.take j))) ∧ Aside0 (Below w.heap.size w w'))
    case atStart => exact ⟨0, rfl, Nat.zero_le _, by omega, ⟨by rw [List.take_zero, show diff_Edges.row (i : Int) [] = [] from rfl, List.append_nil]; exact HO.out⟩, HB⟩
    case round =>
     clear HO HB
     try clear hW
     obtain ⟨j, rfl, hj, hg2, HO, HB⟩ := hrel
     clear h0
     by_cases hlt2 : j < z.length
     ·obtain ⟨ad2, ead2, x0, x1, x2⟩ := at_T41 HC.out (j : Int) (by omega) (by omega)
      cases ead2
      rw [Int.toNat_natCast] at x0 x1 x2
      rw [show rd_T41 z (j : Int) = z[j] by unfold rd_T41; rw [Int.toNat_natCast, List.getD_eq_getElem?_getD, List.getElem?_eq_getElem hlt2]; rfl] at x0 x1 x2
      have HRJ := Aside0.mk (HRS.out j hlt2)
      have HIJ := Aside0.mk (HIN.out j)
      generalize z[j] = x at x0 x1 x2 HRJ
      have hW := HB.out.size
      replace x0 := (HB.out.cell (World.block_lt_of_cell? w _ x0)).trans x0
      replace x1 := (HB.out.cell (World.block_lt_of_cell? w _ x1)).trans x1
      replace x2 := (HB.out.cell (World.block_lt_of_cell? w _ x2)).trans x2
      have b4 : decide ((j : Int) < (z.length : Int)) = true := decide_eq_true (by omega)
      have b5 : ((0 : Int) ≤ (j : Int)) = True := eq_true (by omega)
      have b6 : ((j : Int) < (z.length : Int)) = True := eq_true (by omega)
      by_cases hx : x.f1 = (i : Int)
      ·have c1 : (x.f1 != (i : Int)) = false := bne_eq_false_iff_eq.mpr hx
       have HX := Aside0.mk hx
       clear hx
       go_wp2_with (first | ((with_reducible refine gate_dst (N := 7) rfl ?_); refine box_event ?hg (N := 7) ?hd (cs := #[.int .i64 0, .int .i64 0, .bool false]) (t := 41) ?hr ?_; (case hd => rfl); (case hg => rfl); (case hr => first | (go_simp; done) | (go_simp; rfl)); intro gb hgb w8 hbox hb8; have HB8 := Aside0.mk hb8; have HG8 := Aside0.mk hgb; have z0 := (blk_cell hbox 0).trans rfl; have z1 := (blk_cell hbox 1).trans rfl; have z2 := (blk_cell hbox 2).trans rfl; have y0 := blk_frozen hbox 0; have y1 := blk_frozen hbox 1; have y2 := blk_frozen hbox 2; clear hb8 hgb hbox))
       go_roundg (z.length - (j + 1))
       case measure => omega
       case rel => exact ⟨j + 1, by go_num, by omega, Nat.le_refl _, ⟨by rw [HRJ.out, show diff_Edges.el (i : Int) x = [] from if_pos HX.out, List.append_nil]; exact Kd.R_below HO.out (by repeat (first | exact HB8.out | (refine below_set ?_ (Nat.le_of_eq HG8.out.symm))))⟩, ⟨below_step HB.out (by repeat (first | exact HB8.out | (refine below_set ?_ (Nat.le_of_eq HG8.out.symm))))⟩⟩
      ·have c1 : (x.f1 != (i : Int)) = true := bne_iff_ne.mpr hx
       have HX := Aside0.mk hx
       clear hx
       obtain ⟨m1, hm1⟩ : ∃ q : Int, mn (i : Int) x.f1 = q := ⟨_, rfl⟩
       obtain ⟨m2, hm2⟩ : ∃ q : Int, mx (i : Int) x.f1 = q := ⟨_, rfl⟩
       have HM := Aside0.mk (show diff_Edges.el (i : Int) x = [(⟨m1, m2⟩ : S33)] by unfold diff_Edges.el; rw [if_neg HX.out, hm1, hm2])
       have hm1_ : (if x.f1 < (i : Int) then x.f1 else (i : Int)) = m1 := hm1
       have hm2_ : (if (i : Int) < x.f1 then x.f1 else (i : Int)) = m2 := hm2
       clear hm1 hm2
       go_wp2_with (first | ((with_reducible refine gate_dst (N := 7) rfl ?_); refine box_event ?hg (N := 7) ?hd (cs := #[.int .i64 0, .int .i64 0, .bool false]) (t := 41) ?hr ?_; (case hd => rfl); (case hg => rfl); (case hr => first | (go_simp; done) | (go_simp; rfl)); intro gb hgb w8 hbox hb8; have HB8 := Aside0.mk hb8; have HG8 := Aside0.mk hgb; have z0 := (blk_cell hbox 0).trans rfl; have z1 := (blk_cell hbox 1).trans rfl; have z2 := (blk_cell hbox 2).trans rfl; have y0 := blk_frozen hbox 0; have y1 := blk_frozen hbox 1; have y2 := blk_frozen hbox 2; clear hb8 hgb hbox) | ((with_reducible refine gate_builtin (b := .append) (xs := #[.tmp 28, .tmp 38]) rfl ?_); at_builtin; have es_ : w8.heap.size = ((((w8.setCell ⟨gb, 0, none⟩ (.int .i64 x.f0)).setCell ⟨gb, 1, none⟩ (.int .i64 x.f1)).setCell ⟨gb, 2, none⟩ (.bool x.f2))).heap.size := (by simp); have R10 := Kd.R_below (w1 := (((w8.setCell ⟨gb, 0, none⟩ (.int .i64 x.f0)).setCell ⟨gb, 1, none⟩ (.int .i64 x.f1)).setCell ⟨gb, 2, none⟩ (.bool x.f2))) HO.out (by repeat (first | exact HB8.out | (refine below_set ?_ (Nat.le_of_eq HG8.out.symm)))); have B10 : Below w.heap.size w (((w8.setCell ⟨gb, 0, none⟩ (.int .i64 x.f0)).setCell ⟨gb, 1, none⟩ (.int .i64 x.f1)).setCell ⟨gb, 2, none⟩ (.bool x.f2)) := below_step HB.out (by repeat (first | exact HB8.out | (refine below_set ?_ (Nat.le_of_eq HG8.out.symm)))); generalize (((w8.setCell ⟨gb, 0, none⟩ (.int .i64 x.f0)).setCell ⟨gb, 1, none⟩ (.int .i64 x.f1)).setCell ⟨gb, 2, none⟩ (.bool x.f2)) = w10 at es_ R10 B10 ⊢; rw [es_]; refine Kd.R_append k33 (w0 := w) w.heap.size rfl (.tmp 28) (.tmp 38) 22 33 (.agg #[(.int .i64 0), (.int .i64 0)]) 16 rfl Tryd.underlying22 info33 rfl (by decide) (by omega) u3 (diff_Edges.es (l0.take i) ++ diff_Edges.row (i : Int) (z.take j)) (⟨m1, m2⟩ : S33) [.int .i64 m1, .int .i64 m2] (fun _ => True) (fun _ => False) rfl rfl ?aP (fun _ hk => hk.elim) ?aF ?aO ?aB ?aS ?aL ?_; (case aP => exact k33_mkM _ _ _ (⟨m1, m2⟩ : S33)); (case aB => exact (by first | exact B10 | exact below_alloc B10 _)); (case aF => exact (fun _ _ => trivial)); (case aO => exact (by first | exact R10 | exact Kd.R_alloc R10 _)); (case aS => exact B10.size); (case aL => have := HIJ.out; omega); intro v9 w9 ho9 hb9 hg9 hat9; have HO9 := Aside0.mk ho9; have HB9 := Aside0.mk hb9; clear ho9 hb9 hg9 hat9 R10 B10))
       go_roundg (z.length - (j + 1))
       case measure => omega
       case rel => exact ⟨j + 1, by go_num, by omega, Nat.le_refl _, ⟨by rw [HRJ.out, HM.out, ← List.append_assoc]; exact HO9.out⟩, HB9⟩
     ·obtain rfl : j = z.length := by omega
      have b4 : decide ((z.length : Int) < (z.length : Int)) = false := decide_eq_false (by omega)
      go_wp2
      go_roundg (l0.length - (i + 1))
      case measure => omega
      case rel => exact ⟨i + 1, by go_num, by omega, Nat.le_refl _, ⟨by rw [HST.out]; rw [List.take_length] at HO; exact HO.out⟩, HB⟩
   ·obtain rfl : i = l0.length := by omega
    have b1 : decide ((l0.length : Int) < (l0.length : Int)) = false := decide_eq_false (by omega)
    rw [List.take_length] at HO
    have hS := api_Pair_24.runs diff_Edges.cf diff_Edges.swo diff_Edges.tot 25 #[] (enters_of Tryd.func25 (by kernel_rfl) rfl) (fun x y W => diff_order.grows k x.f0 x.f1 y.f0 y.f1 _ W (diff_Edges.cf_order k hk4 x y)) w.heap.size (fun _ => True) _ _ _ HO.out (by omega)
    have hC : ∀ W, Kd.R k33 33 W w.heap.size (fun _ => True) u3 ((diff_Edges.es l0).mergeSort fun x y => !(ltOf diff_Edges.cf) y x) → _ := fun W hW => api_Pair_26.all w.heap.size (fun _ => True) u3 _ W hW (by rw [List.length_mergeSort]; omega)
    clear HR
    go_wp2_with (first | (go_at_call 24; refine hS.mono ?_; rintro e w2 ⟨rfl, hR2, hb2⟩; have HR2 := Aside0.mk hR2; have HB2 := Aside0.mk (HB.out.trans hb2); clear hS hR2 hb2) | (go_at_call 26; refine (hC _ HR2.out).mono ?_; rintro e w3 ⟨v1, rfl, hR3, hb3⟩; have HR3 := Aside0.mk hR3; have HB3 := Aside0.mk (HB2.out.trans hb3); clear hC hR3 hb3))
    go_ret
    exact ⟨_, rfl, HR3.out, HB3.out⟩
 ·obtain rfl : t = false := by cases t <;> simp_all
  rw [if_neg (by decide)] at h
  obtain rfl := Option.some.inj h
  clear h
  go_enter Tryd.func12, Tryd.ntmps12
  go_wp2_with (first | (go_at_call 23; refine hK.mono ?_; rintro e w1 ⟨rfl, hb1⟩; have HB := Aside0.mk hb1; clear hb1 hK))
  go_ret
  exact ⟨_, rfl, Kd.R_nil _ _ _ _ _, HB.out⟩


end Go.Proofs.YtahkkgnicgbncaaDoor.PDiffEdges
