-- THINNED by wip/tool/thin.py out of the texts W* that the kit's print has printed: what this law names of them, in their order
import Derived.Test.YtmacpgkcokpgjaaWTBoundTells
import Derived.Deep.Slices
import Derived.ProofKit
namespace Go.Proofs.YtmacpgkcokpgjaaH
open Go.RowKit Go.Proofs.YtmacpgkcokpgjaaW.PrintWords Go.WideShapes
set_option linter.unusedVariables false
/-- What is read as type t is read by the kind d, as a value that is ok. -/
def Opens {α : Type} (P : Program) (d : Kd α) (t : TypeId) (ok : α → Prop) : Prop :=
  ∀ {H : Type} (enc : TypeId × Value → H) (w : World) (spare : Nat → Bool) (held : Bool) (fuel : Nat) (cs : List Value) (x : DataW H × List MemPlace), DataW.trod enc P w 0 spare held fuel t cs = some x → ∃ y : α, d.K w y cs ∧ ok y
section
variable {P : Program} {t : TypeId}
theorem opens_int {k : IntKind} (ht : P.underlying t = some (.int k)) : Opens P (Kd.int k) t (fun n => (Lit.int k n).wf = true) := by
  intro H enc w spare held fuel cs x h
  obtain ⟨n, rfl, _, hw⟩ := DataW.trod_int ht h
  exact ⟨n, rfl, hw⟩
/-- The fields from one on, in line. -/
def OpensFrom {α : Type} (P : Program) (d : Kd α) (fs : List Field) (off : Nat) (ok : α → Prop) : Prop :=
  ∀ {H : Type} (enc : TypeId × Value → H) (w : World) (spare : Nat → Bool) (held : Bool) (fuel : Nat) (cs : List Value), (∀ f ∈ fs, ∃ x, DataW.trod enc P w 0 spare held fuel f.type ((cs.drop f.offset).take (P.cellsOf f.type)) = some x) → cs.length = off + d.sz → ∃ y : α, d.K w y (cs.drop off) ∧ ok y
theorem opens_one {α : Type} {d : Kd α} {f : Field} {off : Nat} {ok : α → Prop} (ho : f.offset = off) (hc : P.cellsOf f.type = d.sz) (hd : Opens P d f.type ok) : OpensFrom P d [f] off ok := by
  intro H enc w spare held fuel cs hf hl
  obtain ⟨x, hx⟩ := hf f (by simp)
  obtain ⟨y, hy, hok⟩ := hd enc w spare held fuel _ x hx
  refine ⟨y, ?_, hok⟩
  rwa [ho, hc, List.take_of_length_le (by rw [List.length_drop]; omega)] at hy
theorem opens_cons {α β : Type} {a : Kd α} {b : Kd β} {f : Field} {fs : List Field} {off : Nat} {oka : α → Prop} {okb : β → Prop} (ho : f.offset = off) (hc : P.cellsOf f.type = a.sz) (ha : Opens P a f.type oka) (hb : OpensFrom P b fs (off + a.sz) okb) :
    OpensFrom P (Kd.pair a b) (f :: fs) off (fun y => oka y.1 ∧ okb y.2) := by
  intro H enc w spare held fuel cs hf hl
  have hl' : cs.length = off + a.sz + b.sz := by have : (Kd.pair a b).sz = a.sz + b.sz := rfl; omega
  obtain ⟨x, hx⟩ := hf f (by simp)
  obtain ⟨y, hy, hok⟩ := ha enc w spare held fuel _ x hx
  obtain ⟨z, hz, hok2⟩ := hb enc w spare held fuel cs (fun g hg => hf g (by simp [hg])) hl'
  rw [ho, hc] at hy
  refine ⟨(y, z), ⟨_, _, ?_, hy, hz⟩, hok, hok2⟩
  rw [← List.drop_drop, List.take_append_drop]
theorem opens_struct {α : Type} {d : Kd α} {fs : Array Field} {ok : α → Prop} (ht : P.underlying t = some (.struct fs)) (hc : P.cellsOf t = d.sz) (hd : OpensFrom P d fs.toList 0 ok) : Opens P d t ok := by
  intro H enc w spare held fuel cs x h
  obtain ⟨xs, n, _, _, hl, hxl, hf⟩ := DataW.trod_struct ht h
  obtain ⟨y, hy, hok⟩ := hd enc w spare held n cs (fun f hfm => by
    obtain ⟨i, hi⟩ := List.getElem?_of_mem hfm
    have hi' : fs[i]? = some f := by rw [← hi, Array.getElem?_toList]
    have := hf i f hi'
    have hlt : i < xs.length := by
      rw [hxl]
      exact (Array.getElem?_eq_some_iff.1 hi').1
    rw [List.getElem?_eq_getElem hlt] at this
    exact ⟨_, this⟩) (by omega)
  exact ⟨y, by simpa using hy, hok⟩
theorem opens_iso {α β : Type} {d : Kd α} {g : β → α} {ok : α → Prop} (hs : ∀ y, ∃ x, g x = y) (hd : Opens P d t ok) : Opens P (Kd.iso d g) t (fun x => ok (g x)) := by
  intro H enc w spare held fuel cs x h
  obtain ⟨y, hy, hok⟩ := hd enc w spare held fuel cs x h
  obtain ⟨x', rfl⟩ := hs y
  exact ⟨x', hy, hok⟩
end
end Go.Proofs.YtmacpgkcokpgjaaH
