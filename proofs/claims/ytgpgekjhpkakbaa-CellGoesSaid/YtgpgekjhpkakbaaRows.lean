/-
  No cell of these rows narrows 'for every input' (looked for: loops, veiled, ifaces, maps, wideKeys, modest, calm, conditions, laid).
  DERIVED. THE GIVEN ROWS OF THIS SEAT. 12 by the template 'for every input the law returns true; each argument reads behind the call as it read before'; 0 by the template 'total and deterministic' (their statements: YtgpgekjhpkakbaaTotals.lean).
  GIVEN WITH THE SEED: the statements are not yours to turn. If you find one false, say at which input.
  Laid BY PROGRAM, IN A SANDBOX (cutbox-rows.mjs): the forced cells as the released guide's own fill.sh prints them over the translation 0f6fb2f90ee4b736… (all of the seat's roots in one cut). By AI agents, Wed Nov 11 2026. No macro, syntax, notation, axiom, sorry.
-/
import Derived.Test.YtgpgekjhpkakbaaChecked
import GoSem.Claim
import GoSem.ClaimJoined
import GoSem.ClaimMapViews
import Derived.JoinedTies
import Derived.KernelRfl
namespace Go.Proofs.Ytgpgekjhpkakbaa
/- THE CELL 'sum', in the pinned program and in every row, IS THE sha256 OF THE DUMP (.gsa) THAT YtgpgekjhpkakbaaProg.lean LOADS. Nothing in Lean hashes anything: it is a label: what it is worth is what the hold of that sum in a sandbox is worth. -/
noncomputable def Try.pinned : Pinned := { name := "ytgpgekjhpkakbaa", sum := "0f6fb2f90ee4b7366a580fbe35404959df59c00f706b5fac97573d09e8b97579", checked := Try.checked }
namespace Rows
def none {H : Type} : Left H := { results := [], args := [] }

/-- 'chainmanlaw23.CellGoes': WHATEVER THE INPUT: true; the input reads as it did. -/
def cellGoesSpec : ChangeSpec := { name := "cellGoes", fn := fun _ => fun
  | [d1, d2, d3] => { results := [.lit (.bool true)], args := [d1, d2, d3] }
  | _ => none }
def cellGoesRow : OpenClaim := { program := "ytgpgekjhpkakbaa", sum := "0f6fb2f90ee4b7366a580fbe35404959df59c00f706b5fac97573d09e8b97579", func := "chainman/chainmanlaw23.CellGoes", spec := "cellGoes", unfollowed := true, recurses := true, apart := false }
def CellGoesSaid : Prop := cellGoesRow.holds Try.pinned (OpenSpec.ofChange cellGoesSpec)

/-- ITS FALSE NEIGHBOUR: 'it returns false'. Refute it at one input. -/
def cellGoesWrong : ChangeSpec := { name := "cellGoes", fn := fun _ => fun
  | [d1, d2, d3] => { results := [.lit (.bool false)], args := [d1, d2, d3] }
  | _ => none }
def CellGoesWrongFalsely : Prop := cellGoesRow.holds Try.pinned (OpenSpec.ofChange cellGoesWrong)

/-- 'chainmanlaw23.CellNear': WHATEVER THE INPUT: true; the input reads as it did. -/
def cellNearSpec : ChangeSpec := { name := "cellNear", fn := fun _ => fun
  | [d1, d2, d3] => { results := [.lit (.bool true)], args := [d1, d2, d3] }
  | _ => none }
def cellNearRow : OpenClaim := { program := "ytgpgekjhpkakbaa", sum := "0f6fb2f90ee4b7366a580fbe35404959df59c00f706b5fac97573d09e8b97579", func := "chainman/chainmanlaw23.CellNear", spec := "cellNear", unfollowed := true, recurses := true, apart := false }
def CellNearSaid : Prop := cellNearRow.holds Try.pinned (OpenSpec.ofChange cellNearSpec)

/-- ITS FALSE NEIGHBOUR: 'it returns false'. Refute it at one input. -/
def cellNearWrong : ChangeSpec := { name := "cellNear", fn := fun _ => fun
  | [d1, d2, d3] => { results := [.lit (.bool false)], args := [d1, d2, d3] }
  | _ => none }
def CellNearWrongFalsely : Prop := cellNearRow.holds Try.pinned (OpenSpec.ofChange cellNearWrong)

/-- 'chainmanlaw23.CellOnce': WHATEVER THE INPUT: true; the input reads as it did. -/
def cellOnceSpec : ChangeSpec := { name := "cellOnce", fn := fun _ => fun
  | [d1, d2, d3, d4] => { results := [.lit (.bool true)], args := [d1, d2, d3, d4] }
  | _ => none }
def cellOnceRow : OpenClaim := { program := "ytgpgekjhpkakbaa", sum := "0f6fb2f90ee4b7366a580fbe35404959df59c00f706b5fac97573d09e8b97579", func := "chainman/chainmanlaw23.CellOnce", spec := "cellOnce", unfollowed := true, recurses := true, apart := false }
def CellOnceSaid : Prop := cellOnceRow.holds Try.pinned (OpenSpec.ofChange cellOnceSpec)

/-- ITS FALSE NEIGHBOUR: 'it returns false'. Refute it at one input. -/
def cellOnceWrong : ChangeSpec := { name := "cellOnce", fn := fun _ => fun
  | [d1, d2, d3, d4] => { results := [.lit (.bool false)], args := [d1, d2, d3, d4] }
  | _ => none }
def CellOnceWrongFalsely : Prop := cellOnceRow.holds Try.pinned (OpenSpec.ofChange cellOnceWrong)

/-- 'chainmanlaw01.NumBack': WHATEVER THE INPUT: true; the input reads as it did. -/
def numBackSpec : ChangeSpec := { name := "numBack", fn := fun _ => fun
  | [d1, d2] => { results := [.lit (.bool true)], args := [d1, d2] }
  | _ => none }
def numBackRow : OpenClaim := { program := "ytgpgekjhpkakbaa", sum := "0f6fb2f90ee4b7366a580fbe35404959df59c00f706b5fac97573d09e8b97579", func := "chainman/chainmanlaw01.NumBack", spec := "numBack", apart := false }
def NumBackSaid : Prop := numBackRow.holds Try.pinned (OpenSpec.ofChange numBackSpec)

/-- ITS FALSE NEIGHBOUR: 'it returns false'. Refute it at one input. -/
def numBackWrong : ChangeSpec := { name := "numBack", fn := fun _ => fun
  | [d1, d2] => { results := [.lit (.bool false)], args := [d1, d2] }
  | _ => none }
def NumBackWrongFalsely : Prop := numBackRow.holds Try.pinned (OpenSpec.ofChange numBackWrong)

/-- 'chainmanlaw01.NumTells': WHATEVER THE INPUT: true; the input reads as it did. -/
def numTellsSpec : ChangeSpec := { name := "numTells", fn := fun _ => fun
  | [d1, d2, d3] => { results := [.lit (.bool true)], args := [d1, d2, d3] }
  | _ => none }
def numTellsRow : OpenClaim := { program := "ytgpgekjhpkakbaa", sum := "0f6fb2f90ee4b7366a580fbe35404959df59c00f706b5fac97573d09e8b97579", func := "chainman/chainmanlaw01.NumTells", spec := "numTells", inPlace := ["math/bits.Add64"], apart := false }
def NumTellsSaid : Prop := numTellsRow.holds Try.pinned (OpenSpec.ofChange numTellsSpec)

/-- ITS FALSE NEIGHBOUR: 'it returns false'. Refute it at one input. -/
def numTellsWrong : ChangeSpec := { name := "numTells", fn := fun _ => fun
  | [d1, d2, d3] => { results := [.lit (.bool false)], args := [d1, d2, d3] }
  | _ => none }
def NumTellsWrongFalsely : Prop := numTellsRow.holds Try.pinned (OpenSpec.ofChange numTellsWrong)

/-- 'chainmanlaw01.NumBounds': WHATEVER THE INPUT: true; the input reads as it did. -/
def numBoundsSpec : ChangeSpec := { name := "numBounds", fn := fun _ => fun
  | [d1, d2, d3] => { results := [.lit (.bool true)], args := [d1, d2, d3] }
  | _ => none }
def numBoundsRow : OpenClaim := { program := "ytgpgekjhpkakbaa", sum := "0f6fb2f90ee4b7366a580fbe35404959df59c00f706b5fac97573d09e8b97579", func := "chainman/chainmanlaw01.NumBounds", spec := "numBounds", inPlace := ["math/bits.Add64"], apart := false }
def NumBoundsSaid : Prop := numBoundsRow.holds Try.pinned (OpenSpec.ofChange numBoundsSpec)

/-- ITS FALSE NEIGHBOUR: 'it returns false'. Refute it at one input. -/
def numBoundsWrong : ChangeSpec := { name := "numBounds", fn := fun _ => fun
  | [d1, d2, d3] => { results := [.lit (.bool false)], args := [d1, d2, d3] }
  | _ => none }
def NumBoundsWrongFalsely : Prop := numBoundsRow.holds Try.pinned (OpenSpec.ofChange numBoundsWrong)

/-- 'chainmanlaw52.PlanLeast': WHATEVER THE INPUT: true; the input reads as it did. -/
def planLeastSpec : ChangeSpec := { name := "planLeast", fn := fun _ => fun
  | [d1, d2] => { results := [.lit (.bool true)], args := [d1, d2] }
  | _ => none }
def planLeastRow : OpenClaim := { program := "ytgpgekjhpkakbaa", sum := "0f6fb2f90ee4b7366a580fbe35404959df59c00f706b5fac97573d09e8b97579", func := "chainman/chainmanlaw52.PlanLeast", spec := "planLeast", unfollowed := true, recurses := true, apart := false }
def PlanLeastSaid : Prop := planLeastRow.holds Try.pinned (OpenSpec.ofChange planLeastSpec)

/-- ITS FALSE NEIGHBOUR: 'it returns false'. Refute it at one input. -/
def planLeastWrong : ChangeSpec := { name := "planLeast", fn := fun _ => fun
  | [d1, d2] => { results := [.lit (.bool false)], args := [d1, d2] }
  | _ => none }
def PlanLeastWrongFalsely : Prop := planLeastRow.holds Try.pinned (OpenSpec.ofChange planLeastWrong)

/-- 'chainmanlaw52.PlanMore': WHATEVER THE INPUT: true; the input reads as it did. -/
def planMoreSpec : ChangeSpec := { name := "planMore", fn := fun _ => fun
  | [d1, d2, d3] => { results := [.lit (.bool true)], args := [d1, d2, d3] }
  | _ => none }
def planMoreRow : OpenClaim := { program := "ytgpgekjhpkakbaa", sum := "0f6fb2f90ee4b7366a580fbe35404959df59c00f706b5fac97573d09e8b97579", func := "chainman/chainmanlaw52.PlanMore", spec := "planMore", unfollowed := true, recurses := true, apart := false }
def PlanMoreSaid : Prop := planMoreRow.holds Try.pinned (OpenSpec.ofChange planMoreSpec)

/-- ITS FALSE NEIGHBOUR: 'it returns false'. Refute it at one input. -/
def planMoreWrong : ChangeSpec := { name := "planMore", fn := fun _ => fun
  | [d1, d2, d3] => { results := [.lit (.bool false)], args := [d1, d2, d3] }
  | _ => none }
def PlanMoreWrongFalsely : Prop := planMoreRow.holds Try.pinned (OpenSpec.ofChange planMoreWrong)

/-- 'chainmanlaw52.PlanTells': WHATEVER THE INPUT: true; the input reads as it did. -/
def planTellsSpec : ChangeSpec := { name := "planTells", fn := fun _ => fun
  | [d1, d2, d3, d4] => { results := [.lit (.bool true)], args := [d1, d2, d3, d4] }
  | _ => none }
def planTellsRow : OpenClaim := { program := "ytgpgekjhpkakbaa", sum := "0f6fb2f90ee4b7366a580fbe35404959df59c00f706b5fac97573d09e8b97579", func := "chainman/chainmanlaw52.PlanTells", spec := "planTells", unfollowed := true, recurses := true, apart := false }
def PlanTellsSaid : Prop := planTellsRow.holds Try.pinned (OpenSpec.ofChange planTellsSpec)

/-- ITS FALSE NEIGHBOUR: 'it returns false'. Refute it at one input. -/
def planTellsWrong : ChangeSpec := { name := "planTells", fn := fun _ => fun
  | [d1, d2, d3, d4] => { results := [.lit (.bool false)], args := [d1, d2, d3, d4] }
  | _ => none }
def PlanTellsWrongFalsely : Prop := planTellsRow.holds Try.pinned (OpenSpec.ofChange planTellsWrong)

/-- 'chainmanlaw45.BoxNear': WHATEVER THE INPUT: true; the input reads as it did. -/
def boxNearSpec : ChangeSpec := { name := "boxNear", fn := fun _ => fun
  | [d1, d2] => { results := [.lit (.bool true)], args := [d1, d2] }
  | _ => none }
def boxNearRow : OpenClaim := { program := "ytgpgekjhpkakbaa", sum := "0f6fb2f90ee4b7366a580fbe35404959df59c00f706b5fac97573d09e8b97579", func := "chainman/chainmanlaw45.BoxNear", spec := "boxNear", unfollowed := true, recurses := true, apart := false }
def BoxNearSaid : Prop := boxNearRow.holds Try.pinned (OpenSpec.ofChange boxNearSpec)

/-- ITS FALSE NEIGHBOUR: 'it returns false'. Refute it at one input. -/
def boxNearWrong : ChangeSpec := { name := "boxNear", fn := fun _ => fun
  | [d1, d2] => { results := [.lit (.bool false)], args := [d1, d2] }
  | _ => none }
def BoxNearWrongFalsely : Prop := boxNearRow.holds Try.pinned (OpenSpec.ofChange boxNearWrong)

/-- 'chainmanlaw45.BoxTells': WHATEVER THE INPUT: true; the input reads as it did. -/
def boxTellsSpec : ChangeSpec := { name := "boxTells", fn := fun _ => fun
  | [d1, d2, d3, d4] => { results := [.lit (.bool true)], args := [d1, d2, d3, d4] }
  | _ => none }
def boxTellsRow : OpenClaim := { program := "ytgpgekjhpkakbaa", sum := "0f6fb2f90ee4b7366a580fbe35404959df59c00f706b5fac97573d09e8b97579", func := "chainman/chainmanlaw45.BoxTells", spec := "boxTells", unfollowed := true, recurses := true, apart := false }
def BoxTellsSaid : Prop := boxTellsRow.holds Try.pinned (OpenSpec.ofChange boxTellsSpec)

/-- ITS FALSE NEIGHBOUR: 'it returns false'. Refute it at one input. -/
def boxTellsWrong : ChangeSpec := { name := "boxTells", fn := fun _ => fun
  | [d1, d2, d3, d4] => { results := [.lit (.bool false)], args := [d1, d2, d3, d4] }
  | _ => none }
def BoxTellsWrongFalsely : Prop := boxTellsRow.holds Try.pinned (OpenSpec.ofChange boxTellsWrong)

/-- 'chainmanlaw45.BoxApart': WHATEVER THE INPUT: true; the input reads as it did. -/
def boxApartSpec : ChangeSpec := { name := "boxApart", fn := fun _ => fun
  | [d1, d2] => { results := [.lit (.bool true)], args := [d1, d2] }
  | _ => none }
def boxApartRow : OpenClaim := { program := "ytgpgekjhpkakbaa", sum := "0f6fb2f90ee4b7366a580fbe35404959df59c00f706b5fac97573d09e8b97579", func := "chainman/chainmanlaw45.BoxApart", spec := "boxApart", unfollowed := true, recurses := true, apart := false }
def BoxApartSaid : Prop := boxApartRow.holds Try.pinned (OpenSpec.ofChange boxApartSpec)

/-- ITS FALSE NEIGHBOUR: 'it returns false'. Refute it at one input. -/
def boxApartWrong : ChangeSpec := { name := "boxApart", fn := fun _ => fun
  | [d1, d2] => { results := [.lit (.bool false)], args := [d1, d2] }
  | _ => none }
def BoxApartWrongFalsely : Prop := boxApartRow.holds Try.pinned (OpenSpec.ofChange boxApartWrong)

/- THE SECOND FORM. 'bulk': how many values and letters a reading holds, each counted each time it is reached (what is shared counts as often as it is met; a slice's spare places count too). A statement '..UptoSaid' is the law's where the arguments, and the package variables that the reading takes, are together of bulk at most 1048576: NARROWER than '..Said'. Prove '..Said' where nothing that the law and all that it calls make is longer than what came in: it says more and counts as full. Else prove '..UptoSaid'. A law counts once. -/
mutual
def uptoBulk {H : Type} : DataW H → Nat
  | .lit (.string bytes) => bytes.length + 1
  | .lit _ => 1
  | .nil => 1
  | .ptr d => uptoBulk d + 1
  | .slice elems spare => uptoBulkAll elems + uptoBulkAll spare + 1
  | .agg parts => uptoBulkAll parts + 1
  | .iface _ d => uptoBulk d + 1
  | .map entries => uptoBulkEntries entries + 1
  | .held _ => 1
def uptoBulkAll {H : Type} : List (DataW H) → Nat
  | [] => 0
  | d :: r => uptoBulk d + uptoBulkAll r
def uptoBulkEntries {H : Type} : List (Lit × DataW H) → Nat
  | [] => 0
  | x :: r => uptoBulkEntry x + uptoBulkEntries r
def uptoBulkEntry {H : Type} : Lit × DataW H → Nat
  | (.string bytes, d) => bytes.length + uptoBulk d + 1
  | (_, d) => uptoBulk d + 1
 end
def uptoSmall : (H : Type) → List (DataW H) → Bool := fun _ ds => decide (uptoBulkAll ds ≤ 1048576)
def OpenSpec.upto (s : _root_.Go.ChangeSpec) : _root_.Go.OpenSpec := { _root_.Go.OpenSpec.ofChange s with cond := some uptoSmall }

/-- 'chainmanlaw23.CellGoes', WHERE WHAT IT READS IS OF BULK AT MOST 1048576: true; the input reads as it did. -/
def cellGoesUptoRow : OpenClaim := { program := "ytgpgekjhpkakbaa", sum := "0f6fb2f90ee4b7366a580fbe35404959df59c00f706b5fac97573d09e8b97579", func := "chainman/chainmanlaw23.CellGoes", spec := "cellGoes", unfollowed := true, recurses := true, apart := false, narrowed := true }
def CellGoesUptoSaid : Prop := cellGoesUptoRow.holds Try.pinned (OpenSpec.upto cellGoesSpec)

/-- 'chainmanlaw23.CellNear', WHERE WHAT IT READS IS OF BULK AT MOST 1048576: true; the input reads as it did. -/
def cellNearUptoRow : OpenClaim := { program := "ytgpgekjhpkakbaa", sum := "0f6fb2f90ee4b7366a580fbe35404959df59c00f706b5fac97573d09e8b97579", func := "chainman/chainmanlaw23.CellNear", spec := "cellNear", unfollowed := true, recurses := true, apart := false, narrowed := true }
def CellNearUptoSaid : Prop := cellNearUptoRow.holds Try.pinned (OpenSpec.upto cellNearSpec)

/-- 'chainmanlaw23.CellOnce', WHERE WHAT IT READS IS OF BULK AT MOST 1048576: true; the input reads as it did. -/
def cellOnceUptoRow : OpenClaim := { program := "ytgpgekjhpkakbaa", sum := "0f6fb2f90ee4b7366a580fbe35404959df59c00f706b5fac97573d09e8b97579", func := "chainman/chainmanlaw23.CellOnce", spec := "cellOnce", unfollowed := true, recurses := true, apart := false, narrowed := true }
def CellOnceUptoSaid : Prop := cellOnceUptoRow.holds Try.pinned (OpenSpec.upto cellOnceSpec)

/-- 'chainmanlaw01.NumBack', WHERE WHAT IT READS IS OF BULK AT MOST 1048576: true; the input reads as it did. -/
def numBackUptoRow : OpenClaim := { program := "ytgpgekjhpkakbaa", sum := "0f6fb2f90ee4b7366a580fbe35404959df59c00f706b5fac97573d09e8b97579", func := "chainman/chainmanlaw01.NumBack", spec := "numBack", apart := false, narrowed := true }
def NumBackUptoSaid : Prop := numBackUptoRow.holds Try.pinned (OpenSpec.upto numBackSpec)

/-- 'chainmanlaw01.NumTells', WHERE WHAT IT READS IS OF BULK AT MOST 1048576: true; the input reads as it did. -/
def numTellsUptoRow : OpenClaim := { program := "ytgpgekjhpkakbaa", sum := "0f6fb2f90ee4b7366a580fbe35404959df59c00f706b5fac97573d09e8b97579", func := "chainman/chainmanlaw01.NumTells", spec := "numTells", inPlace := ["math/bits.Add64"], apart := false, narrowed := true }
def NumTellsUptoSaid : Prop := numTellsUptoRow.holds Try.pinned (OpenSpec.upto numTellsSpec)

/-- 'chainmanlaw01.NumBounds', WHERE WHAT IT READS IS OF BULK AT MOST 1048576: true; the input reads as it did. -/
def numBoundsUptoRow : OpenClaim := { program := "ytgpgekjhpkakbaa", sum := "0f6fb2f90ee4b7366a580fbe35404959df59c00f706b5fac97573d09e8b97579", func := "chainman/chainmanlaw01.NumBounds", spec := "numBounds", inPlace := ["math/bits.Add64"], apart := false, narrowed := true }
def NumBoundsUptoSaid : Prop := numBoundsUptoRow.holds Try.pinned (OpenSpec.upto numBoundsSpec)

/-- 'chainmanlaw52.PlanLeast', WHERE WHAT IT READS IS OF BULK AT MOST 1048576: true; the input reads as it did. -/
def planLeastUptoRow : OpenClaim := { program := "ytgpgekjhpkakbaa", sum := "0f6fb2f90ee4b7366a580fbe35404959df59c00f706b5fac97573d09e8b97579", func := "chainman/chainmanlaw52.PlanLeast", spec := "planLeast", unfollowed := true, recurses := true, apart := false, narrowed := true }
def PlanLeastUptoSaid : Prop := planLeastUptoRow.holds Try.pinned (OpenSpec.upto planLeastSpec)

/-- 'chainmanlaw52.PlanMore', WHERE WHAT IT READS IS OF BULK AT MOST 1048576: true; the input reads as it did. -/
def planMoreUptoRow : OpenClaim := { program := "ytgpgekjhpkakbaa", sum := "0f6fb2f90ee4b7366a580fbe35404959df59c00f706b5fac97573d09e8b97579", func := "chainman/chainmanlaw52.PlanMore", spec := "planMore", unfollowed := true, recurses := true, apart := false, narrowed := true }
def PlanMoreUptoSaid : Prop := planMoreUptoRow.holds Try.pinned (OpenSpec.upto planMoreSpec)

/-- 'chainmanlaw52.PlanTells', WHERE WHAT IT READS IS OF BULK AT MOST 1048576: true; the input reads as it did. -/
def planTellsUptoRow : OpenClaim := { program := "ytgpgekjhpkakbaa", sum := "0f6fb2f90ee4b7366a580fbe35404959df59c00f706b5fac97573d09e8b97579", func := "chainman/chainmanlaw52.PlanTells", spec := "planTells", unfollowed := true, recurses := true, apart := false, narrowed := true }
def PlanTellsUptoSaid : Prop := planTellsUptoRow.holds Try.pinned (OpenSpec.upto planTellsSpec)

/-- 'chainmanlaw45.BoxNear', WHERE WHAT IT READS IS OF BULK AT MOST 1048576: true; the input reads as it did. -/
def boxNearUptoRow : OpenClaim := { program := "ytgpgekjhpkakbaa", sum := "0f6fb2f90ee4b7366a580fbe35404959df59c00f706b5fac97573d09e8b97579", func := "chainman/chainmanlaw45.BoxNear", spec := "boxNear", unfollowed := true, recurses := true, apart := false, narrowed := true }
def BoxNearUptoSaid : Prop := boxNearUptoRow.holds Try.pinned (OpenSpec.upto boxNearSpec)

/-- 'chainmanlaw45.BoxTells', WHERE WHAT IT READS IS OF BULK AT MOST 1048576: true; the input reads as it did. -/
def boxTellsUptoRow : OpenClaim := { program := "ytgpgekjhpkakbaa", sum := "0f6fb2f90ee4b7366a580fbe35404959df59c00f706b5fac97573d09e8b97579", func := "chainman/chainmanlaw45.BoxTells", spec := "boxTells", unfollowed := true, recurses := true, apart := false, narrowed := true }
def BoxTellsUptoSaid : Prop := boxTellsUptoRow.holds Try.pinned (OpenSpec.upto boxTellsSpec)

/-- 'chainmanlaw45.BoxApart', WHERE WHAT IT READS IS OF BULK AT MOST 1048576: true; the input reads as it did. -/
def boxApartUptoRow : OpenClaim := { program := "ytgpgekjhpkakbaa", sum := "0f6fb2f90ee4b7366a580fbe35404959df59c00f706b5fac97573d09e8b97579", func := "chainman/chainmanlaw45.BoxApart", spec := "boxApart", unfollowed := true, recurses := true, apart := false, narrowed := true }
def BoxApartUptoSaid : Prop := boxApartUptoRow.holds Try.pinned (OpenSpec.upto boxApartSpec)

end Rows
end Go.Proofs.Ytgpgekjhpkakbaa
