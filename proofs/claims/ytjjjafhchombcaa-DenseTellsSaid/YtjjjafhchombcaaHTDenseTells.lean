-- THINNED by wip/tool/thin.py out of the texts W* that the kit's print has printed: what this law names of them, in their order
import Derived.Test.YtjjjafhchombcaaWTDenseTells
import Derived.Deep.Slices
import Derived.ProofKit
namespace Go.Proofs.YtjjjafhchombcaaH
open Go.RowKit Go.Proofs.YtjjjafhchombcaaW.PrintWords Go.WideShapes
set_option linter.unusedVariables false
/-- What is read as type t is read by the kind d, as a value that is ok. -/
def Opens {α : Type} (P : Program) (d : Kd α) (t : TypeId) (ok : α → Prop) : Prop :=
  ∀ {H : Type} (enc : TypeId × Value → H) (w : World) (spare : Nat → Bool) (held : Bool) (fuel : Nat) (cs : List Value) (x : DataW H × List MemPlace), DataW.trod enc P w 0 spare held fuel t cs = some x → ∃ y : α, d.K w y cs ∧ ok y
theorem list_each {α : Type} (len : Nat) (R : Nat → α → Prop) (hex : ∀ i, i < len → ∃ y, R i y) : ∃ xs : List α, xs.length = len ∧ ∀ i y, xs[i]? = some y → R i y := by
  induction len with
  | zero => exact ⟨[], rfl, fun i y h => by simp at h⟩
  | succ len ih =>
    obtain ⟨xs, h1, h2⟩ := ih (fun i hi => hex i (by omega))
    obtain ⟨y, hy⟩ := hex len (by omega)
    refine ⟨xs ++ [y], by simp [h1], fun i z hz => ?_⟩
    by_cases hi : i < xs.length
    · rw [List.getElem?_append_left hi] at hz
      exact h2 i z hz
    · rw [List.getElem?_append_right (by omega)] at hz
      have hi0 : i - xs.length = 0 := by
        rcases Nat.eq_zero_or_pos (i - xs.length) with h | h
        · exact h
        · rw [List.getElem?_eq_none (by simp; omega)] at hz; cases hz
      rw [hi0] at hz
      obtain rfl : y = z := by simpa using hz
      have : i = len := by omega
      subst this
      exact hy
section
variable {P : Program} {t : TypeId}
theorem opens_int {k : IntKind} (ht : P.underlying t = some (.int k)) : Opens P (Kd.int k) t (fun n => (Lit.int k n).wf = true) := by
  intro H enc w spare held fuel cs x h
  obtain ⟨n, rfl, _, hw⟩ := DataW.trod_int ht h
  exact ⟨n, rfl, hw⟩
theorem opens_slice {α : Type} {d : Kd α} {e : TypeId} {ok : α → Prop} (ht : P.underlying t = some (.slice e)) (hc : P.cellsOf e = d.sz) (hd : Opens P d e ok) :
    Opens P (Kd.slice e d) t (fun l => l.length ≤ maxLen ∧ ∀ y ∈ l, ok y) := by
  intro H enc w spare held fuel cs x h
  rcases Deep.open_slice ht h with ⟨rfl, _⟩ | ⟨a, len, cap, m, n, D, Pl, rfl, _, hl, hm, hmm, _, hx⟩
  · exact ⟨[], ⟨none, 0, rfl, Nat.le_refl _, Kd.C_nil _ _⟩, Nat.zero_le _, fun y hy => absurd hy (by simp)⟩
  · have hlm : len ≤ m := by rw [hmm]; split <;> omega
    have hex : ∀ i, i < len → ∃ y cs', w.cells? 0 (a.add (i * P.cellsOf e)) (P.cellsOf e) = some cs' ∧ d.K w y cs' ∧ ok y := by
      intro i hi
      obtain ⟨cs', h1, h2⟩ := hx i (by omega)
      obtain ⟨y, hy, ho⟩ := hd enc w spare held n cs' _ h2
      exact ⟨y, cs', h1, hy, ho⟩
    have hlist := list_each len (fun i y => ∃ cs', w.cells? 0 (a.add (i * P.cellsOf e)) (P.cellsOf e) = some cs' ∧ d.K w y cs' ∧ ok y) hex
    obtain ⟨xs, hxl, hxs⟩ := hlist
    have hcm : cap ≤ 9223372036854775807 := by unfold maxLen at hm; exact hm
    refine ⟨xs, ⟨some a, cap, by rw [hxl], by omega, rfl, by omega, fun _ => ⟨a, rfl, fun j p hj => ?_⟩⟩, by unfold maxLen; omega, fun y hy => ?_⟩
    · obtain ⟨cs', h1, h2, _⟩ := hxs j p hj
      obtain ⟨_, hcl, hcc⟩ := World.cells?_some h1
      refine ⟨cs', d.K_len h2, h2, fun i u hu => ?_⟩
      have hi : i < P.cellsOf e := by rw [← hcl]; exact (List.getElem?_eq_some_iff.1 hu).1
      have := (hcc i hi).trans hu
      rw [Deep.add_add, hc] at this
      exact this
    · obtain ⟨j, hj⟩ := List.getElem?_of_mem hy
      obtain ⟨_, _, _, ho⟩ := hxs j y hj
      exact ho
/-- The fields from one on, in line. -/
def OpensFrom {α : Type} (P : Program) (d : Kd α) (fs : List Field) (off : Nat) (ok : α → Prop) : Prop :=
  ∀ {H : Type} (enc : TypeId × Value → H) (w : World) (spare : Nat → Bool) (held : Bool) (fuel : Nat) (cs : List Value), (∀ f ∈ fs, ∃ x, DataW.trod enc P w 0 spare held fuel f.type ((cs.drop f.offset).take (P.cellsOf f.type)) = some x) → cs.length = off + d.sz → ∃ y : α, d.K w y (cs.drop off) ∧ ok y
theorem opens_one {α : Type} {d : Kd α} {f : Field} {off : Nat} {ok : α → Prop} (ho : f.offset = off) (hc : P.cellsOf f.type = d.sz) (hd : Opens P d f.type ok) : OpensFrom P d [f] off ok := by
  intro H enc w spare held fuel cs hf hl
  obtain ⟨x, hx⟩ := hf f (by simp)
  obtain ⟨y, hy, hok⟩ := hd enc w spare held fuel _ x hx
  refine ⟨y, ?_, hok⟩
  rwa [ho, hc, List.take_of_length_le (by rw [List.length_drop]; omega)] at hy
theorem opens_cons {α β : Type} {a : Kd α} {b : Kd β} {f : Field} {fs : List Field} {off : Nat} {oka : α → Prop} {okb : β → Prop} (ho : f.offset = off) (hc : P.cellsOf f.type = a.sz) (ha : Opens P a f.type oka) (hb : OpensFrom P b fs (off + a.sz) okb) :
    OpensFrom P (Kd.pair a b) (f :: fs) off (fun y => oka y.1 ∧ okb y.2) := by
  intro H enc w spare held fuel cs hf hl
  have hl' : cs.length = off + a.sz + b.sz := by have : (Kd.pair a b).sz = a.sz + b.sz := rfl; omega
  obtain ⟨x, hx⟩ := hf f (by simp)
  obtain ⟨y, hy, hok⟩ := ha enc w spare held fuel _ x hx
  obtain ⟨z, hz, hok2⟩ := hb enc w spare held fuel cs (fun g hg => hf g (by simp [hg])) hl'
  rw [ho, hc] at hy
  refine ⟨(y, z), ⟨_, _, ?_, hy, hz⟩, hok, hok2⟩
  rw [← List.drop_drop, List.take_append_drop]
theorem opens_struct {α : Type} {d : Kd α} {fs : Array Field} {ok : α → Prop} (ht : P.underlying t = some (.struct fs)) (hc : P.cellsOf t = d.sz) (hd : OpensFrom P d fs.toList 0 ok) : Opens P d t ok := by
  intro H enc w spare held fuel cs x h
  obtain ⟨xs, n, _, _, hl, hxl, hf⟩ := DataW.trod_struct ht h
  obtain ⟨y, hy, hok⟩ := hd enc w spare held n cs (fun f hfm => by
    obtain ⟨i, hi⟩ := List.getElem?_of_mem hfm
    have hi' : fs[i]? = some f := by rw [← hi, Array.getElem?_toList]
    have := hf i f hi'
    have hlt : i < xs.length := by
      rw [hxl]
      exact (Array.getElem?_eq_some_iff.1 hi').1
    rw [List.getElem?_eq_getElem hlt] at this
    exact ⟨_, this⟩) (by omega)
  exact ⟨y, by simpa using hy, hok⟩
theorem opens_iso {α β : Type} {d : Kd α} {g : β → α} {ok : α → Prop} (hs : ∀ y, ∃ x, g x = y) (hd : Opens P d t ok) : Opens P (Kd.iso d g) t (fun x => ok (g x)) := by
  intro H enc w spare held fuel cs x h
  obtain ⟨y, hy, hok⟩ := hd enc w spare held fuel cs x h
  obtain ⟨x', rfl⟩ := hs y
  exact ⟨x', hy, hok⟩
end
end Go.Proofs.YtjjjafhchombcaaH
