/- A strings.Builder that a call has made itself, over this program: what a writing call does first, a string written to it, and the string that it holds. -/
import Derived.Test.YtahkkgnicgbncaaDoorProg
import Derived.Lib.Builder
import Derived.Lib.AppendStr
import Derived.Lib.UnsafeStr
import Derived.Lib.Strings
import Derived.Lib.Slices
import Derived.Lib.Walk
import Derived.WalkKit
import Derived.KernelRfl
import Derived.Laws.Externs
import Derived.Laws.IdiomCopy
import Derived.Laws.BitsLemmas
import Derived.RegionTactic
import Derived.ChangeAlike
import Derived.OwnWalk
import Derived.Below
namespace Go.Proofs.YtahkkgnicgbncaaDoorB
open Go.RowKit
set_option linter.unusedVariables false
set_option linter.unusedSimpArgs false
structure Keep0 (p : Prop) : Prop where mk :: (out : p)
/-- A builder of the call's own: its type and its bytes' type are this program's. -/
abbrev Is (B b : Nat) (bs : List Value) (w : World) : Prop := Lib.IsBuilder 55 5 B b bs w
theorem is_at {B b : Nat} {bs : List Value} {w : World} (h : Is B b bs w) : ∃ p, Lib.BuilderAt 55 5 B b p bs w := h.elim (fun h => ⟨_, h⟩) (fun h => ⟨_, h⟩)
/-- What another call makes leaves it as it was. -/
theorem at_later {B b : Nat} {p : Value} {bs : List Value} {w w1 : World} (h : Lib.BuilderAt 55 5 B b p bs w) (hb : Below w.heap.size w w1) : Lib.BuilderAt 55 5 B b p bs w1 := by
  have hl := h.lt
  obtain ⟨hB, v, hbk, ⟨hlen, hown⟩, hne⟩ := h
  refine ⟨hB, v, (hb.block b hl).trans hbk, ⟨hlen, ?_⟩, hne⟩
  rcases hown with h | ⟨g, cap, cur, e, hg, hgk, r⟩
  · exact .inl h
  · have hgl : g < w.heap.size := by
      rcases Nat.lt_or_ge g w.heap.size with h' | h'
      · exact h'
      · simp [Array.getElem?_eq_none h'] at hgk
    exact .inr ⟨g, cap, cur, e, hg, (hb.block g hgl).trans hgk, r⟩
theorem later {B b : Nat} {bs : List Value} {w w1 : World} (h : Is B b bs w) (hb : Below w.heap.size w w1) : Is B b bs w1 := h.elim (fun h => .inl (at_later h hb)) (fun h => .inr (at_later h hb))
theorem fresh (w : World) : Is w.heap.size w.heap.size [] (w.alloc (.cells #[.pointer none, .slice none 0 0] 55)) := Lib.fresh_isBuilder _ _ w
theorem infoB : (Tryd.prog.info? 55).map (·.size) = some 2 := by kernel_rfl
theorem infoU : (Tryd.prog.info? 5).map (fun i => (i.zero, i.size, i.bytes)) = some (some (.int .u8 0), 1, 1) := by kernel_rfl
theorem lies : liesAt Tryd.prog Tryd.prog.depth 55 (2 / Tryd.prog.cellsOf 55) 0 55 1 = true := by kernel_rfl
set_option maxHeartbeats 1000000 in
set_option maxRecDepth 100000 in
theorem check_used (b : Nat) (w : World) (h0 : w.cell? ⟨b, 0, none⟩ = some (.pointer (some ⟨b, 0, none⟩))) :
    Calls Tryd.prog 35 #[.pointer (some ⟨b, 0, none⟩)] w fun e w' => e = .returned (.tuple #[]) ∧ w' = w := by
  obtain ⟨j, hj, _⟩ := Option.map_eq_some_iff.1 infoB
  have hne := Lib.run_neq_ptr_same (P := Tryd.prog) w ⟨b, 0, none⟩ Tryd.underlying52 hj
  clear hj
  go_enter Tryd.func35, Tryd.ntmps35
  go_wp2
  go_end0
  exact ⟨rfl, rfl⟩
set_option maxHeartbeats 1000000 in
set_option maxRecDepth 100000 in
theorem check_fresh (b : Nat) (w : World) (h0 : w.cell? ⟨b, 0, none⟩ = some (.pointer none)) (hsh : w.shape? b = some (55, 2)) (hfz : w.frozen? ⟨b, 0, none⟩ = false) :
    Calls Tryd.prog 35 #[.pointer (some ⟨b, 0, none⟩)] w fun e w' => e = .returned (.tuple #[]) ∧ w' = w.setCell ⟨b, 0, none⟩ (.pointer (some ⟨b, 0, none⟩)) := by
  obtain ⟨j, hj, hjs⟩ := Option.map_eq_some_iff.1 infoB
  have hto := Lib.run_to_unsafe (P := Tryd.prog) w ⟨b, 0, none⟩ Tryd.underlying52 Tryd.underlying87 hj (by rw [hjs]; decide) hsh (Nat.zero_lt_succ 1)
  have hfrom := Lib.run_from_unsafe (P := Tryd.prog) w ⟨b, 0, none⟩ Tryd.underlying87 Tryd.underlying52 hj hsh lies
  have hsame := Lib.run_neq_ptr_same (P := Tryd.prog) (w.setCell ⟨b, 0, none⟩ (.pointer (some ⟨b, 0, none⟩))) ⟨b, 0, none⟩ Tryd.underlying52 hj
  clear hj hjs hsh
  go_enter Tryd.func35, Tryd.ntmps35
  go_wp2
  rw [run_callFunc_extern Tryd.func50 (by kernel_rfl) (by kernel_rfl) (by kernel_rfl) (e := Extern.AbiNoEscape.same) (by kernel_rfl)]
  rw [Lib.run_noEscape]
  simp only [Result.andThen]
  rw [Oper.upon_value]
  go_wp2
  go_end0
  exact ⟨rfl, rfl⟩
/-- What a writing call does first: behind it the builder holds its own address. -/
theorem check (B b : Nat) (bs : List Value) (w : World) (h : Is B b bs w) :
    Calls Tryd.prog 35 #[.pointer (some ⟨b, 0, none⟩)] w fun e w' => e = .returned (.tuple #[]) ∧ Lib.BuilderAt 55 5 B b (.pointer (some ⟨b, 0, none⟩)) bs w' ∧ Below B w w' := by
  rcases h with h | h
  · refine (check_fresh b w h.cell0 h.shape h.frozen0).mono ?_
    rintro e w' ⟨rfl, rfl⟩
    exact ⟨rfl, h.used _, (Below.refl B w).setCell (p := ⟨b, 0, none⟩) h.1 _⟩
  · refine (check_used b w h.cell0).mono ?_
    rintro e w' ⟨rfl, rfl⟩
    exact ⟨rfl, h, Below.refl B _⟩
set_option maxHeartbeats 2000000 in
set_option maxRecDepth 100000 in
/-- A string written: its bytes stand behind those that were there. -/
theorem write (B b : Nat) (bs : List Value) (s : ByteArray) (w : World) (h : Is B b bs w) (hlen : bs.length + s.size ≤ 140737488355328) (hBw : B ≤ w.heap.size) :
    Calls Tryd.prog 20 #[.pointer (some ⟨b, 0, none⟩), .string s] w fun e w' => e = .returned (.tuple #[.int .i64 s.size, .nilIface]) ∧ Lib.BuilderAt 55 5 B b (.pointer (some ⟨b, 0, none⟩)) (bs ++ Lib.strCells s) w' ∧ Below B w w' := by
  obtain ⟨i0, hi, hz0, hz1, hz2⟩ := info_parts infoU
  have hc := check B b bs w h
  clear h
  go_enter Tryd.func20, Tryd.ntmps20
  go_wp2_with (go_at_call 35; refine hc.mono ?_)
  clear hc
  rintro e w1 ⟨rfl, h1, hb1⟩
  obtain ⟨hB, v, hbk, hown, hne⟩ := h1
  have c1 : w1.cell? ⟨b, 1, none⟩ = some v := by rw [Lib.cell_of_heap hbk]; rfl
  go_wp2_with (at_builtin; refine Lib.wpList_append_own_string _ rfl _ _ 53 9 rfl B 5 i0 Tryd.underlying53 Tryd.underlying9 hi hz0 hz1 hz2 _ _ _ rfl hown s rfl ?c3 ?c4 ?c5 ?_)
  case c3 => unfold maxLen; omega
  case c4 => omega
  case c5 => have := hb1.size; omega
  intro v' w2 hown' hgrow _
  have hlt : b < w1.heap.size := by
    rcases Nat.lt_or_ge b w1.heap.size with h' | h'
    · exact h'
    · simp [Array.getElem?_eq_none h'] at hbk
  have hb2 : w2.heap[b]? = some (.cells #[.pointer (some ⟨b, 0, none⟩), v] 55 (0, 0)) := by
    rw [hgrow.block b hlt (fun e => hne e.symm)]
    exact hbk
  have d1 : w2.cell? ⟨b, 1, none⟩ = some v := by rw [Lib.cell_of_heap hb2]; rfl
  have f1 : w2.frozen? ⟨b, 1, none⟩ = false := Lib.frozen_of_heap hb2 1
  obtain ⟨ao, n', cap, rfl⟩ : ∃ ao n' cap, v' = .slice ao n' cap := by
    rcases hown'.2 with ⟨hv, _⟩ | ⟨g, cap, cur, hv, _⟩
    · exact ⟨_, _, _, hv⟩
    · exact ⟨_, _, _, hv⟩
  have hput := Lib.BuilderAt.put (T := 55) (e := 5) hB hb2 (bs' := bs ++ Lib.strCells s) (v' := .slice ao n' cap) (by simpa [Lib.strCells_length] using hown') (by decide)
  have hbel := (hb1.grown hgrow (by have := hb1.size; omega) (fun k hk => (hown.lt k hk).1)).setCell (p := ⟨b, 1, none⟩) hB (.slice ao n' cap)
  go_wp2
  go_ret2
  exact ⟨rfl, hput, hbel⟩
/-- What lies in a block, from its head on, as a string. -/
theorem us_none (W : World) (q : Option Addr) : (Builtin.unsafeString_ #[72, 3] 9 #[.pointer q, .int .i64 0]).run Tryd.prog W = .ok (.string .empty) W := Lib.run_unsafeString_none W _ _ _ q
set_option maxHeartbeats 2000000 in
set_option maxRecDepth 100000 in
theorem text_of (B b : Nat) (p : Value) (s : Option Addr) (n cap : Nat) (r : ByteArray) (q : Option Addr) (w w1 w2 : World) (hbk : w.heap[b]? = some (.cells #[p, .slice s n cap] 55 (0, 0)))
    (hSD : (Builtin.unsafeSliceData_ #[53] 72 #[.slice s n cap]).run Tryd.prog w.drew = .ok (.pointer q) w1) (hc1 : w1.cell? ⟨b, 1, none⟩ = some (.slice s n cap))
    (hUS : (Builtin.unsafeString_ #[72, 3] 9 #[.pointer q, .int .i64 n]).run Tryd.prog w1 = .ok (.string r) w2) (hb : Below B w w2) :
    Calls Tryd.prog 22 #[.pointer (some ⟨b, 0, none⟩)] w fun e w' => e = .returned (.string r) ∧ Below B w w' := by
  have c1 : w.drew.cell? ⟨b, 1, none⟩ = some (.slice s n cap) := by
    have : w.drew.heap[b]? = some (.cells #[p, .slice s n cap] 55 (0, 0)) := hbk
    rw [Lib.cell_of_heap this]; rfl
  have c0 : w.cell? ⟨b, 1, none⟩ = some (.slice s n cap) := c1
  have HB := Keep0.mk hb
  clear hb hbk
  go_enter Tryd.func22, Tryd.ntmps22
  go_wp2
  go_region
  all_goals (go_wp2; go_ret; exact ⟨rfl, HB.out⟩)
/-- The string that a builder of the call's own holds. -/
theorem text (B b : Nat) (l : List UInt8) (w : World) (h : Is B b (Lib.byteCells l) w) (hBw : B ≤ w.heap.size) :
    Calls Tryd.prog 22 #[.pointer (some ⟨b, 0, none⟩)] w fun e w' => e = .returned (.string ⟨l.toArray⟩) ∧ Below B w w' := by
  obtain ⟨p, hB, v, hbk, hown, hne⟩ := is_at h
  have hlt : b < w.heap.size := by
    rcases Nat.lt_or_ge b w.heap.size with h' | h'
    · exact h'
    · simp [Array.getElem?_eq_none h'] at hbk
  have at1 : ∀ W : World, W.heap[b]? = w.heap[b]? → W.cell? ⟨b, 1, none⟩ = some v := fun W e => by rw [Lib.cell_of_heap (e.trans hbk)]; rfl
  rw [Lib.byteCells_length] at hown
  rcases hown.2 with ⟨rfl, hz⟩ | ⟨g, cap, cur, rfl, hbg, hg, hnc, hcm, hcs, htake⟩
  · obtain rfl : l = [] := List.eq_nil_of_length_eq_zero hz
    exact text_of B b p none 0 0 ⟨#[]⟩ none w w.drew w.drew hbk rfl (at1 _ rfl) (us_none _ none) (Below.drew (Below.refl B w))
  · by_cases h0 : l = []
    · subst h0
      by_cases hc0 : cap = 0
      · subst hc0
        have hSD : (Builtin.unsafeSliceData_ #[53] 72 #[.slice (some ⟨g, 0, none⟩) 0 0]).run Tryd.prog w.drew = .ok (.pointer (some ⟨w.drew.heap.size, 0, none⟩)) (w.drew.alloc (.view ⟨g, 0, none⟩ 5)) :=
          Lib.run_unsafeSliceData_zero w.drew _ _ 5 Tryd.underlying72 ⟨g, 0, none⟩ 0 (5, cur.size) (by have hg' : w.drew.heap[g]? = some (.cells cur 5 (0, 0)) := hg; simp [World.shape?, hg'])
        exact text_of B b p (some ⟨g, 0, none⟩) 0 0 ⟨#[]⟩ _ w _ _ hbk hSD (at1 _ (Lib.alloc_old w.drew _ b hlt)) (us_none _ _) ((Below.drew (Below.refl B w)).alloc hBw _)
      · exact text_of B b p (some ⟨g, 0, none⟩) 0 cap ⟨#[]⟩ _ w _ _ hbk (Lib.run_unsafeSliceData_row _ _ _ _ _ _ hc0) (at1 _ rfl) (us_none _ _) (Below.drew (Below.refl B w))
    · have hl0 : l.length ≠ 0 := by simpa using h0
      refine text_of B b p (some ⟨g, 0, none⟩) l.length cap ⟨l.toArray⟩ _ w w.drew (w.drew.freeze ⟨g, 0, none⟩ l.length) hbk (Lib.run_unsafeSliceData_row _ _ _ _ _ _ (by omega)) (at1 _ rfl) ?_ (Lib.below_freeze (Below.drew (Below.refl B w)) (p := ⟨g, 0, none⟩) hbg _)
      refine Lib.run_unsafeString_row w.drew 72 3 9 5 Tryd.underlying72 (by kernel_rfl) g cur.size (by have hg' : w.drew.heap[g]? = some (.cells cur 5 (0, 0)) := hg; simp [World.shape?, hg']) l h0 (by omega) (by unfold maxLen at hcm; omega) ?_
      intro j x hx
      exact hown.cells (g := g) rfl j (.int .u8 x.toNat) (by simp [Lib.byteCells, hx])
end Go.Proofs.YtahkkgnicgbncaaDoorB
