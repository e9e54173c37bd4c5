/- A row of one's own (the print's 'Kd.R') of elements of k cells, and the shelf's words for a row that is turned about (HoldsK, sortWorldK): the one leads to the other, and back. (Wanted where function 158 is.) -/
import Derived.Test.YtjjjafhchombcaaWTDenseTells
import Derived.Shelf.GgSortFunc.InsertionK
import Derived.Lib.SlicesCompact
import Derived.Lib.SliceRun
namespace Go.Proofs.YtjjjafhchombcaaR
open Go.RowKit Go.Sort Go.Proofs.YtjjjafhchombcaaW.PrintWords
set_option linter.unusedVariables false
variable {α : Type} [Inhabited α] {d : Kd α} {enc : α → List Value} {k : Nat}

/-- The kind's elements are 'enc', and nothing else. -/
structure Lays (d : Kd α) (enc : α → List Value) (k : Nat) : Prop where
  to_ : ∀ {w base ok x cs}, d.M w base ok x cs → cs = enc x
  of_ : ∀ w base ok x, d.M w base ok x (enc x)
  sz : d.sz = k
  len : ∀ x, (enc x).length = k
  pos : 0 < k
  one : ∀ x, ∀ v ∈ enc x, v.oneCell' = true

theorem flat_get (enc : α → List Value) (k : Nat) (D : Array α) (j i : Nat) (hj : j < D.size) (hi : i < k) : (flatK enc k D)[j * k + i]! = (enc D[j]!)[i]! := by
  have lt : j * k + i < D.size * k := by
    have := Nat.mul_le_mul_right k (show j + 1 ≤ D.size from hj); rw [Nat.add_mul, Nat.one_mul] at this; omega
  have e1 : (j * k + i) / k = j := (blk_iff k j _ (by omega)).1 ⟨by omega, by omega⟩
  have e2 : (j * k + i) % k = i := by rw [Nat.mod_eq_sub_div_mul, e1]; omega
  rw [get_flatK _ _ _ _ lt, e1, e2]

/-- What a row of one's own is, told of its block. -/
theorem open_ (L : Lays d enc k) {w : World} {base e : Nat} {ok : Nat → Prop} {g n cap : Nat} {xs : List α} (h : d.R e w base ok (.slice (some ⟨g, 0, none⟩) n cap) xs) :
    n = xs.length ∧ base ≤ g ∧ ok g ∧ n ≤ cap ∧ cap ≤ maxLen ∧ ∃ cur : Array Value, w.heap[g]? = some (.cells cur e (0, 0)) ∧ cur.size = cap * k ∧ ∀ j i : Nat, j < xs.length → i < k → cur[j * k + i]? = some (enc xs.toArray[j]!)[i]! := by
  obtain ⟨h0, inner, ⟨hl, ho⟩, hr⟩ := h
  rcases ho with ⟨hv, _⟩ | ⟨g', cap', cur, hv, hb, hg, hn, hc, hs, ht⟩
  · cases hv
  · cases hv
    refine ⟨rfl, hb, h0 g rfl, hn, hc, cur, hg, by rw [hs, L.sz], fun j i hj hi => ?_⟩
    have h1 := L.to_ (hr.2 j xs[j] (List.getElem?_eq_getElem hj))
    rw [L.sz] at h1
    have h2 : (enc xs[j])[i]? = (((inner.drop (j * k)).take k))[i]? := by rw [h1]
    rw [List.getElem?_take_of_lt hi, List.getElem?_drop, ← ht, L.sz, List.getElem?_take_of_lt (by
      have := Nat.mul_le_mul_right k (show j + 1 ≤ xs.length from hj); rw [Nat.add_mul, Nat.one_mul] at this; omega)] at h2
    have e1 : xs.toArray[j]! = xs[j] := by simp [hj]
    rw [e1, ← Array.getElem?_toList, ← h2]
    have hi' : i < (enc xs[j]).length := by rw [L.len]; exact hi
    rw [List.getElem?_eq_getElem hi', getElem!_pos _ i hi']

theorem lt_of_some {w : World} {g : Nat} {o : Obj} (h : w.heap[g]? = some o) : g < w.heap.size := by
  rcases Nat.lt_or_ge g w.heap.size with q | q
  · exact q
  · rw [Array.getElem?_eq_none q] at h; cases h

/-- .. so it is held. -/
theorem holds (L : Lays d enc k) {w : World} {base e : Nat} {ok : Nat → Prop} {g n cap : Nat} {xs : List α} (h : d.R e w base ok (.slice (some ⟨g, 0, none⟩) n cap) xs) :
    HoldsK enc k w g 0 xs.toArray ∧ g < w.heap.size := by
  obtain ⟨rfl, hb, _, hn, hc, cur, hg, hs, ht⟩ := open_ L h
  refine ⟨fun t h4 => ?_, lt_of_some hg⟩
  rw [size_flatK] at h4
  have e : t = t / k * k + t % k := by rw [Nat.mul_comm]; exact (Nat.div_add_mod t k).symm
  have hj : t / k < xs.length := by
    have : t < xs.length * k := by simpa using h4
    exact Nat.div_lt_of_lt_mul (by rw [Nat.mul_comm]; exact this)
  have hi := Nat.mod_lt t L.pos
  constructor
  · show w.cell? ⟨g, 0 + t, none⟩ = some _
    have h5 := ht (t / k) (t % k) hj hi
    rw [← e] at h5
    have h6 : (flatK enc k xs.toArray)[t]! = (enc xs.toArray[t / k]!)[t % k]! := get_flatK _ _ _ _ h4
    simp only [id, h6]
    simp [World.cell?, hg, h5]
  · simp [World.frozen?, hg]

/-- Behind a turn of the row, with draws on and blocks behind: it is one's own still, and the first m of it, too. -/
theorem put_ (L : Lays d enc k) {w : World} {base e : Nat} {ok : Nat → Prop} {g n cap : Nat} {xs : List α} (h : d.R e w base ok (.slice (some ⟨g, 0, none⟩) n cap) xs) (D : Array α) (hD : D.size = xs.length) (q : Nat) (os : Array Obj) (m : Nat) (hm : m ≤ xs.length) :
    d.R e (sortWorldK enc k w g 0 q D os) base ok (.slice (some ⟨g, 0, none⟩) m cap) (D.toList.take m) := by
  obtain ⟨rfl, hb, hok, hn, hc, cur, hg, hs, ht⟩ := open_ L h
  have hlt := lt_of_some hg
  have hg' : (sortWorldK enc k w g 0 q D os).heap[g]? = some (.cells (putCells id 0 (flatK enc k D) cur) e (0, 0)) := by
    simp only [sortWorldK, grow, putRowK, putRow, mapBlock, Sort.ahead]
    rw [Array.getElem?_append_left (by simpa using hlt), Array.getElem?_modify, if_pos rfl, hg]
    rfl
  have hs' : (putCells id 0 (flatK enc k D) cur).size = cap * k := by simp [putCells, hs]
  have hmk : m * k ≤ xs.length * k := Nat.mul_le_mul_right _ hm
  have hck : xs.length * k ≤ cap * k := Nat.mul_le_mul_right _ hn
  have hlm : (D.toList.take m).length = m := by simp [hD]; omega
  refine ⟨fun k' hk' => ?_, ((putCells id 0 (flatK enc k D) cur).toList.take (m * k)), ⟨?_, .inr ⟨g, cap, _, ?_, hb, hg', by rw [hlm]; omega, hc, by rw [hs', L.sz], by rw [hlm, L.sz]⟩⟩, ?_⟩
  · have : g = k' := by simpa [Value.ownBlock] using hk'
    subst this; exact hok
  · rw [hlm, L.sz, List.length_take, Array.length_toList, hs']; omega
  · rw [hlm]
  · refine ⟨by rw [hlm, L.sz, List.length_take, Array.length_toList, hs']; omega, fun j p hp => ?_⟩
    have hj : j < m := by
      rcases Nat.lt_or_ge j m with h9 | h9
      · exact h9
      · rw [List.getElem?_eq_none (by rw [hlm]; exact h9)] at hp; cases hp
    have hjm : j * k + k ≤ m * k := by have := Nat.mul_le_mul_right k (show j + 1 ≤ m from hj); rwa [Nat.add_mul, Nat.one_mul] at this
    have e1 : p = D[j]! := by
      rw [List.getElem?_take_of_lt hj, Array.getElem?_toList, Array.getElem?_eq_getElem (by omega)] at hp
      rw [getElem!_pos D j (by omega)]
      exact (Option.some.inj hp).symm
    have e2 : (((putCells id 0 (flatK enc k D) cur).toList.take (m * k)).drop (j * d.sz)).take d.sz = enc p := by
      rw [L.sz]
      apply List.ext_getElem?
      intro i
      rcases Nat.lt_or_ge i k with hi | hi
      · rw [List.getElem?_take_of_lt hi, List.getElem?_drop, List.getElem?_take_of_lt (by omega), Array.getElem?_toList]
        have hi' : i < (enc p).length := by rw [L.len]; exact hi
        have h10 : (j * k + i) < cur.size := by rw [hs]; omega
        simp only [putCells, Array.getElem?_mapIdx, Array.getElem?_eq_getElem h10, Option.map_some]
        rw [if_pos ⟨Nat.zero_le _, by rw [size_flatK, hD]; omega⟩, Nat.sub_zero, flat_get enc k D j i (by omega) hi, ← e1, List.getElem?_eq_getElem hi', getElem!_pos _ i hi']
        rfl
      · rw [List.getElem?_eq_none (by simp; omega), List.getElem?_eq_none (by rw [L.len]; exact hi)]
    rw [e2]
    exact L.of_ _ _ _ _

/-- .. and what lies below is as it was. -/
theorem below (w : World) {g B : Nat} (hB : B ≤ g) (hg : g < w.heap.size) (D : Array α) (q : Nat) (os : Array Obj) : Below B w (sortWorldK enc k w g 0 q D os) := by
  refine ⟨rfl, rfl, rfl, by simp [sortWorldK, grow, putRowK, putRow, mapBlock, Sort.ahead], fun i hi => ?_⟩
  simp only [sortWorldK, grow, putRowK, putRow, mapBlock, Sort.ahead]
  rw [Array.getElem?_append_left (by simp; omega), Array.getElem?_modify, if_neg (by omega)]
end Go.Proofs.YtjjjafhchombcaaR
