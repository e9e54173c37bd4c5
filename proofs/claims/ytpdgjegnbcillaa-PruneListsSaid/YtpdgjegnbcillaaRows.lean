/-
  No cell of these rows narrows 'for every input' (looked for: loops, veiled, ifaces, maps, wideKeys, modest, calm, conditions, laid).
  DERIVED. THE GIVEN ROWS OF THIS SEAT. 12 by the template 'for every input the law returns true; each argument reads behind the call as it read before'; 0 by the template 'total and deterministic' (their statements: YtpdgjegnbcillaaTotals.lean).
  GIVEN WITH THE SEED: the statements are not yours to turn. If you find one false, say at which input.
  Laid BY PROGRAM, IN A SANDBOX (cutbox-rows.mjs): the forced cells as the released guide's own fill.sh prints them over the translation c3b1d2e103c90e75… (all of the seat's roots in one cut). By AI agents, Wed Nov 11 2026. No macro, syntax, notation, axiom, sorry.
-/
import Derived.Test.YtpdgjegnbcillaaChecked
import GoSem.Claim
import GoSem.ClaimJoined
import GoSem.ClaimMapViews
import Derived.JoinedTies
import Derived.KernelRfl
namespace Go.Proofs.Ytpdgjegnbcillaa
/- THE CELL 'sum', in the pinned program and in every row, IS THE sha256 OF THE DUMP (.gsa) THAT YtpdgjegnbcillaaProg.lean LOADS. Nothing in Lean hashes anything: it is a label: what it is worth is what the hold of that sum in a sandbox is worth. -/
noncomputable def Try.pinned : Pinned := { name := "ytpdgjegnbcillaa", sum := "c3b1d2e103c90e75859dc27a54b037d063b3f18946269661873ce8671c943768", checked := Try.checked }
namespace Rows
def none {H : Type} : Left H := { results := [], args := [] }

/-- 'chainmanlaw27.PrngTells': WHATEVER THE INPUT: true; the input reads as it did. -/
def prngTellsSpec : ChangeSpec := { name := "prngTells", fn := fun _ => fun
  | [d1, d2, d3] => { results := [.lit (.bool true)], args := [d1, d2, d3] }
  | _ => none }
def prngTellsRow : OpenClaim := { program := "ytpdgjegnbcillaa", sum := "c3b1d2e103c90e75859dc27a54b037d063b3f18946269661873ce8671c943768", func := "chainman/chainmanlaw27.PrngTells", spec := "prngTells", apart := false }
def PrngTellsSaid : Prop := prngTellsRow.holds Try.pinned (OpenSpec.ofChange prngTellsSpec)

/-- ITS FALSE NEIGHBOUR: 'it returns false'. Refute it at one input. -/
def prngTellsWrong : ChangeSpec := { name := "prngTells", fn := fun _ => fun
  | [d1, d2, d3] => { results := [.lit (.bool false)], args := [d1, d2, d3] }
  | _ => none }
def PrngTellsWrongFalsely : Prop := prngTellsRow.holds Try.pinned (OpenSpec.ofChange prngTellsWrong)

/-- 'chainmanlaw27.PrngUnlike': WHATEVER THE INPUT: true; the input reads as it did. -/
def prngUnlikeSpec : ChangeSpec := { name := "prngUnlike", fn := fun _ => fun
  | [d1, d2] => { results := [.lit (.bool true)], args := [d1, d2] }
  | _ => none }
def prngUnlikeRow : OpenClaim := { program := "ytpdgjegnbcillaa", sum := "c3b1d2e103c90e75859dc27a54b037d063b3f18946269661873ce8671c943768", func := "chainman/chainmanlaw27.PrngUnlike", spec := "prngUnlike", apart := false }
def PrngUnlikeSaid : Prop := prngUnlikeRow.holds Try.pinned (OpenSpec.ofChange prngUnlikeSpec)

/-- ITS FALSE NEIGHBOUR: 'it returns false'. Refute it at one input. -/
def prngUnlikeWrong : ChangeSpec := { name := "prngUnlike", fn := fun _ => fun
  | [d1, d2] => { results := [.lit (.bool false)], args := [d1, d2] }
  | _ => none }
def PrngUnlikeWrongFalsely : Prop := prngUnlikeRow.holds Try.pinned (OpenSpec.ofChange prngUnlikeWrong)

/-- 'chainmanlaw35.PruneLists': WHATEVER THE INPUT: true; the input reads as it did. -/
def pruneListsSpec : ChangeSpec := { name := "pruneLists", fn := fun _ => fun
  | [d1, d2] => { results := [.lit (.bool true)], args := [d1, d2] }
  | _ => none }
def pruneListsRow : OpenClaim := { program := "ytpdgjegnbcillaa", sum := "c3b1d2e103c90e75859dc27a54b037d063b3f18946269661873ce8671c943768", func := "chainman/chainmanlaw35.PruneLists", spec := "pruneLists", apart := false }
def PruneListsSaid : Prop := pruneListsRow.holds Try.pinned (OpenSpec.ofChange pruneListsSpec)

/-- ITS FALSE NEIGHBOUR: 'it returns false'. Refute it at one input. -/
def pruneListsWrong : ChangeSpec := { name := "pruneLists", fn := fun _ => fun
  | [d1, d2] => { results := [.lit (.bool false)], args := [d1, d2] }
  | _ => none }
def PruneListsWrongFalsely : Prop := pruneListsRow.holds Try.pinned (OpenSpec.ofChange pruneListsWrong)

/-- 'chainmanlaw03.CrcTells': WHATEVER THE INPUT: true; the input reads as it did. -/
def crcTellsSpec : ChangeSpec := { name := "crcTells", fn := fun _ => fun
  | [d1, d2] => { results := [.lit (.bool true)], args := [d1, d2] }
  | _ => none }
def crcTellsRow : OpenClaim := { program := "ytpdgjegnbcillaa", sum := "c3b1d2e103c90e75859dc27a54b037d063b3f18946269661873ce8671c943768", func := "chainman/chainmanlaw03.CrcTells", spec := "crcTells", apart := false }
def CrcTellsSaid : Prop := crcTellsRow.holds Try.pinned (OpenSpec.ofChange crcTellsSpec)

/-- ITS FALSE NEIGHBOUR: 'it returns false'. Refute it at one input. -/
def crcTellsWrong : ChangeSpec := { name := "crcTells", fn := fun _ => fun
  | [d1, d2] => { results := [.lit (.bool false)], args := [d1, d2] }
  | _ => none }
def CrcTellsWrongFalsely : Prop := crcTellsRow.holds Try.pinned (OpenSpec.ofChange crcTellsWrong)

/-- 'chainmanlaw03.CrcParts': WHATEVER THE INPUT: true; the input reads as it did. -/
def crcPartsSpec : ChangeSpec := { name := "crcParts", fn := fun _ => fun
  | [d1, d2] => { results := [.lit (.bool true)], args := [d1, d2] }
  | _ => none }
def crcPartsRow : OpenClaim := { program := "ytpdgjegnbcillaa", sum := "c3b1d2e103c90e75859dc27a54b037d063b3f18946269661873ce8671c943768", func := "chainman/chainmanlaw03.CrcParts", spec := "crcParts", apart := false }
def CrcPartsSaid : Prop := crcPartsRow.holds Try.pinned (OpenSpec.ofChange crcPartsSpec)

/-- ITS FALSE NEIGHBOUR: 'it returns false'. Refute it at one input. -/
def crcPartsWrong : ChangeSpec := { name := "crcParts", fn := fun _ => fun
  | [d1, d2] => { results := [.lit (.bool false)], args := [d1, d2] }
  | _ => none }
def CrcPartsWrongFalsely : Prop := crcPartsRow.holds Try.pinned (OpenSpec.ofChange crcPartsWrong)

/-- 'chainmanlaw03.CrcTurned': WHATEVER THE INPUT: true; the input reads as it did. -/
def crcTurnedSpec : ChangeSpec := { name := "crcTurned", fn := fun _ => fun
  | [d1, d2, d3] => { results := [.lit (.bool true)], args := [d1, d2, d3] }
  | _ => none }
def crcTurnedRow : OpenClaim := { program := "ytpdgjegnbcillaa", sum := "c3b1d2e103c90e75859dc27a54b037d063b3f18946269661873ce8671c943768", func := "chainman/chainmanlaw03.CrcTurned", spec := "crcTurned", apart := false }
def CrcTurnedSaid : Prop := crcTurnedRow.holds Try.pinned (OpenSpec.ofChange crcTurnedSpec)

/-- ITS FALSE NEIGHBOUR: 'it returns false'. Refute it at one input. -/
def crcTurnedWrong : ChangeSpec := { name := "crcTurned", fn := fun _ => fun
  | [d1, d2, d3] => { results := [.lit (.bool false)], args := [d1, d2, d3] }
  | _ => none }
def CrcTurnedWrongFalsely : Prop := crcTurnedRow.holds Try.pinned (OpenSpec.ofChange crcTurnedWrong)

/-- 'chainmanlaw07.BudgetNobody': WHATEVER THE INPUT: true; the input reads as it did. -/
def budgetNobodySpec : ChangeSpec := { name := "budgetNobody", fn := fun _ => fun
  | [d] => { results := [.lit (.bool true)], args := [d] }
  | _ => none }
def budgetNobodyRow : OpenClaim := { program := "ytpdgjegnbcillaa", sum := "c3b1d2e103c90e75859dc27a54b037d063b3f18946269661873ce8671c943768", func := "chainman/chainmanlaw07.BudgetNobody", spec := "budgetNobody", apart := false }
def BudgetNobodySaid : Prop := budgetNobodyRow.holds Try.pinned (OpenSpec.ofChange budgetNobodySpec)

/-- ITS FALSE NEIGHBOUR: 'it returns false'. Refute it at one input. -/
def budgetNobodyWrong : ChangeSpec := { name := "budgetNobody", fn := fun _ => fun
  | [d] => { results := [.lit (.bool false)], args := [d] }
  | _ => none }
def BudgetNobodyWrongFalsely : Prop := budgetNobodyRow.holds Try.pinned (OpenSpec.ofChange budgetNobodyWrong)

/-- 'chainmanlaw02.OctetTells': WHATEVER THE INPUT: true; the input reads as it did. -/
def octetTellsSpec : ChangeSpec := { name := "octetTells", fn := fun _ => fun
  | [d1, d2, d3, d4] => { results := [.lit (.bool true)], args := [d1, d2, d3, d4] }
  | _ => none }
def octetTellsRow : OpenClaim := { program := "ytpdgjegnbcillaa", sum := "c3b1d2e103c90e75859dc27a54b037d063b3f18946269661873ce8671c943768", func := "chainman/chainmanlaw02.OctetTells", spec := "octetTells", apart := false }
def OctetTellsSaid : Prop := octetTellsRow.holds Try.pinned (OpenSpec.ofChange octetTellsSpec)

/-- ITS FALSE NEIGHBOUR: 'it returns false'. Refute it at one input. -/
def octetTellsWrong : ChangeSpec := { name := "octetTells", fn := fun _ => fun
  | [d1, d2, d3, d4] => { results := [.lit (.bool false)], args := [d1, d2, d3, d4] }
  | _ => none }
def OctetTellsWrongFalsely : Prop := octetTellsRow.holds Try.pinned (OpenSpec.ofChange octetTellsWrong)

/-- 'chainmanlaw02.OctetOrder': WHATEVER THE INPUT: true; the input reads as it did. -/
def octetOrderSpec : ChangeSpec := { name := "octetOrder", fn := fun _ => fun
  | [d1, d2, d3, d4] => { results := [.lit (.bool true)], args := [d1, d2, d3, d4] }
  | _ => none }
def octetOrderRow : OpenClaim := { program := "ytpdgjegnbcillaa", sum := "c3b1d2e103c90e75859dc27a54b037d063b3f18946269661873ce8671c943768", func := "chainman/chainmanlaw02.OctetOrder", spec := "octetOrder", apart := false }
def OctetOrderSaid : Prop := octetOrderRow.holds Try.pinned (OpenSpec.ofChange octetOrderSpec)

/-- ITS FALSE NEIGHBOUR: 'it returns false'. Refute it at one input. -/
def octetOrderWrong : ChangeSpec := { name := "octetOrder", fn := fun _ => fun
  | [d1, d2, d3, d4] => { results := [.lit (.bool false)], args := [d1, d2, d3, d4] }
  | _ => none }
def OctetOrderWrongFalsely : Prop := octetOrderRow.holds Try.pinned (OpenSpec.ofChange octetOrderWrong)

/-- 'chainmanlaw02.OctetRows': WHATEVER THE INPUT: true; the input reads as it did. -/
def octetRowsSpec : ChangeSpec := { name := "octetRows", fn := fun _ => fun
  | [d1, d2, d3] => { results := [.lit (.bool true)], args := [d1, d2, d3] }
  | _ => none }
def octetRowsRow : OpenClaim := { program := "ytpdgjegnbcillaa", sum := "c3b1d2e103c90e75859dc27a54b037d063b3f18946269661873ce8671c943768", func := "chainman/chainmanlaw02.OctetRows", spec := "octetRows", inPlace := ["internal/abi.NoEscape"], apart := false }
def OctetRowsSaid : Prop := octetRowsRow.holds Try.pinned (OpenSpec.ofChange octetRowsSpec)

/-- ITS FALSE NEIGHBOUR: 'it returns false'. Refute it at one input. -/
def octetRowsWrong : ChangeSpec := { name := "octetRows", fn := fun _ => fun
  | [d1, d2, d3] => { results := [.lit (.bool false)], args := [d1, d2, d3] }
  | _ => none }
def OctetRowsWrongFalsely : Prop := octetRowsRow.holds Try.pinned (OpenSpec.ofChange octetRowsWrong)

/-- 'chainmanlaw11.DistTells': WHATEVER THE INPUT: true; the input reads as it did. -/
def distTellsSpec : ChangeSpec := { name := "distTells", fn := fun _ => fun
  | [d1, d2, d3] => { results := [.lit (.bool true)], args := [d1, d2, d3] }
  | _ => none }
def distTellsRow : OpenClaim := { program := "ytpdgjegnbcillaa", sum := "c3b1d2e103c90e75859dc27a54b037d063b3f18946269661873ce8671c943768", func := "chainman/chainmanlaw11.DistTells", spec := "distTells", unfollowed := true, recurses := true, apart := false }
def DistTellsSaid : Prop := distTellsRow.holds Try.pinned (OpenSpec.ofChange distTellsSpec)

/-- ITS FALSE NEIGHBOUR: 'it returns false'. Refute it at one input. -/
def distTellsWrong : ChangeSpec := { name := "distTells", fn := fun _ => fun
  | [d1, d2, d3] => { results := [.lit (.bool false)], args := [d1, d2, d3] }
  | _ => none }
def DistTellsWrongFalsely : Prop := distTellsRow.holds Try.pinned (OpenSpec.ofChange distTellsWrong)

/-- 'chainmanlaw11.DistGoes': WHATEVER THE INPUT: true; the input reads as it did. -/
def distGoesSpec : ChangeSpec := { name := "distGoes", fn := fun _ => fun
  | [d1, d2, d3, d4] => { results := [.lit (.bool true)], args := [d1, d2, d3, d4] }
  | _ => none }
def distGoesRow : OpenClaim := { program := "ytpdgjegnbcillaa", sum := "c3b1d2e103c90e75859dc27a54b037d063b3f18946269661873ce8671c943768", func := "chainman/chainmanlaw11.DistGoes", spec := "distGoes", unfollowed := true, recurses := true, apart := false }
def DistGoesSaid : Prop := distGoesRow.holds Try.pinned (OpenSpec.ofChange distGoesSpec)

/-- ITS FALSE NEIGHBOUR: 'it returns false'. Refute it at one input. -/
def distGoesWrong : ChangeSpec := { name := "distGoes", fn := fun _ => fun
  | [d1, d2, d3, d4] => { results := [.lit (.bool false)], args := [d1, d2, d3, d4] }
  | _ => none }
def DistGoesWrongFalsely : Prop := distGoesRow.holds Try.pinned (OpenSpec.ofChange distGoesWrong)

/- THE SECOND FORM. 'bulk': how many values and letters a reading holds, each counted each time it is reached (what is shared counts as often as it is met; a slice's spare places count too). A statement '..UptoSaid' is the law's where the arguments, and the package variables that the reading takes, are together of bulk at most 1048576: NARROWER than '..Said'. Prove '..Said' where nothing that the law and all that it calls make is longer than what came in: it says more and counts as full. Else prove '..UptoSaid'. A law counts once. -/
mutual
def uptoBulk {H : Type} : DataW H → Nat
  | .lit (.string bytes) => bytes.length + 1
  | .lit _ => 1
  | .nil => 1
  | .ptr d => uptoBulk d + 1
  | .slice elems spare => uptoBulkAll elems + uptoBulkAll spare + 1
  | .agg parts => uptoBulkAll parts + 1
  | .iface _ d => uptoBulk d + 1
  | .map entries => uptoBulkEntries entries + 1
  | .held _ => 1
def uptoBulkAll {H : Type} : List (DataW H) → Nat
  | [] => 0
  | d :: r => uptoBulk d + uptoBulkAll r
def uptoBulkEntries {H : Type} : List (Lit × DataW H) → Nat
  | [] => 0
  | x :: r => uptoBulkEntry x + uptoBulkEntries r
def uptoBulkEntry {H : Type} : Lit × DataW H → Nat
  | (.string bytes, d) => bytes.length + uptoBulk d + 1
  | (_, d) => uptoBulk d + 1
 end
def uptoSmall : (H : Type) → List (DataW H) → Bool := fun _ ds => decide (uptoBulkAll ds ≤ 1048576)
def OpenSpec.upto (s : _root_.Go.ChangeSpec) : _root_.Go.OpenSpec := { _root_.Go.OpenSpec.ofChange s with cond := some uptoSmall }

/-- 'chainmanlaw27.PrngTells', WHERE WHAT IT READS IS OF BULK AT MOST 1048576: true; the input reads as it did. -/
def prngTellsUptoRow : OpenClaim := { program := "ytpdgjegnbcillaa", sum := "c3b1d2e103c90e75859dc27a54b037d063b3f18946269661873ce8671c943768", func := "chainman/chainmanlaw27.PrngTells", spec := "prngTells", apart := false, narrowed := true }
def PrngTellsUptoSaid : Prop := prngTellsUptoRow.holds Try.pinned (OpenSpec.upto prngTellsSpec)

/-- 'chainmanlaw27.PrngUnlike', WHERE WHAT IT READS IS OF BULK AT MOST 1048576: true; the input reads as it did. -/
def prngUnlikeUptoRow : OpenClaim := { program := "ytpdgjegnbcillaa", sum := "c3b1d2e103c90e75859dc27a54b037d063b3f18946269661873ce8671c943768", func := "chainman/chainmanlaw27.PrngUnlike", spec := "prngUnlike", apart := false, narrowed := true }
def PrngUnlikeUptoSaid : Prop := prngUnlikeUptoRow.holds Try.pinned (OpenSpec.upto prngUnlikeSpec)

/-- 'chainmanlaw35.PruneLists', WHERE WHAT IT READS IS OF BULK AT MOST 1048576: true; the input reads as it did. -/
def pruneListsUptoRow : OpenClaim := { program := "ytpdgjegnbcillaa", sum := "c3b1d2e103c90e75859dc27a54b037d063b3f18946269661873ce8671c943768", func := "chainman/chainmanlaw35.PruneLists", spec := "pruneLists", apart := false, narrowed := true }
def PruneListsUptoSaid : Prop := pruneListsUptoRow.holds Try.pinned (OpenSpec.upto pruneListsSpec)

/-- 'chainmanlaw03.CrcTells', WHERE WHAT IT READS IS OF BULK AT MOST 1048576: true; the input reads as it did. -/
def crcTellsUptoRow : OpenClaim := { program := "ytpdgjegnbcillaa", sum := "c3b1d2e103c90e75859dc27a54b037d063b3f18946269661873ce8671c943768", func := "chainman/chainmanlaw03.CrcTells", spec := "crcTells", apart := false, narrowed := true }
def CrcTellsUptoSaid : Prop := crcTellsUptoRow.holds Try.pinned (OpenSpec.upto crcTellsSpec)

/-- 'chainmanlaw03.CrcParts', WHERE WHAT IT READS IS OF BULK AT MOST 1048576: true; the input reads as it did. -/
def crcPartsUptoRow : OpenClaim := { program := "ytpdgjegnbcillaa", sum := "c3b1d2e103c90e75859dc27a54b037d063b3f18946269661873ce8671c943768", func := "chainman/chainmanlaw03.CrcParts", spec := "crcParts", apart := false, narrowed := true }
def CrcPartsUptoSaid : Prop := crcPartsUptoRow.holds Try.pinned (OpenSpec.upto crcPartsSpec)

/-- 'chainmanlaw03.CrcTurned', WHERE WHAT IT READS IS OF BULK AT MOST 1048576: true; the input reads as it did. -/
def crcTurnedUptoRow : OpenClaim := { program := "ytpdgjegnbcillaa", sum := "c3b1d2e103c90e75859dc27a54b037d063b3f18946269661873ce8671c943768", func := "chainman/chainmanlaw03.CrcTurned", spec := "crcTurned", apart := false, narrowed := true }
def CrcTurnedUptoSaid : Prop := crcTurnedUptoRow.holds Try.pinned (OpenSpec.upto crcTurnedSpec)

/-- 'chainmanlaw07.BudgetNobody', WHERE WHAT IT READS IS OF BULK AT MOST 1048576: true; the input reads as it did. -/
def budgetNobodyUptoRow : OpenClaim := { program := "ytpdgjegnbcillaa", sum := "c3b1d2e103c90e75859dc27a54b037d063b3f18946269661873ce8671c943768", func := "chainman/chainmanlaw07.BudgetNobody", spec := "budgetNobody", apart := false, narrowed := true }
def BudgetNobodyUptoSaid : Prop := budgetNobodyUptoRow.holds Try.pinned (OpenSpec.upto budgetNobodySpec)

/-- 'chainmanlaw02.OctetTells', WHERE WHAT IT READS IS OF BULK AT MOST 1048576: true; the input reads as it did. -/
def octetTellsUptoRow : OpenClaim := { program := "ytpdgjegnbcillaa", sum := "c3b1d2e103c90e75859dc27a54b037d063b3f18946269661873ce8671c943768", func := "chainman/chainmanlaw02.OctetTells", spec := "octetTells", apart := false, narrowed := true }
def OctetTellsUptoSaid : Prop := octetTellsUptoRow.holds Try.pinned (OpenSpec.upto octetTellsSpec)

/-- 'chainmanlaw02.OctetOrder', WHERE WHAT IT READS IS OF BULK AT MOST 1048576: true; the input reads as it did. -/
def octetOrderUptoRow : OpenClaim := { program := "ytpdgjegnbcillaa", sum := "c3b1d2e103c90e75859dc27a54b037d063b3f18946269661873ce8671c943768", func := "chainman/chainmanlaw02.OctetOrder", spec := "octetOrder", apart := false, narrowed := true }
def OctetOrderUptoSaid : Prop := octetOrderUptoRow.holds Try.pinned (OpenSpec.upto octetOrderSpec)

/-- 'chainmanlaw02.OctetRows', WHERE WHAT IT READS IS OF BULK AT MOST 1048576: true; the input reads as it did. -/
def octetRowsUptoRow : OpenClaim := { program := "ytpdgjegnbcillaa", sum := "c3b1d2e103c90e75859dc27a54b037d063b3f18946269661873ce8671c943768", func := "chainman/chainmanlaw02.OctetRows", spec := "octetRows", inPlace := ["internal/abi.NoEscape"], apart := false, narrowed := true }
def OctetRowsUptoSaid : Prop := octetRowsUptoRow.holds Try.pinned (OpenSpec.upto octetRowsSpec)

/-- 'chainmanlaw11.DistTells', WHERE WHAT IT READS IS OF BULK AT MOST 1048576: true; the input reads as it did. -/
def distTellsUptoRow : OpenClaim := { program := "ytpdgjegnbcillaa", sum := "c3b1d2e103c90e75859dc27a54b037d063b3f18946269661873ce8671c943768", func := "chainman/chainmanlaw11.DistTells", spec := "distTells", unfollowed := true, recurses := true, apart := false, narrowed := true }
def DistTellsUptoSaid : Prop := distTellsUptoRow.holds Try.pinned (OpenSpec.upto distTellsSpec)

/-- 'chainmanlaw11.DistGoes', WHERE WHAT IT READS IS OF BULK AT MOST 1048576: true; the input reads as it did. -/
def distGoesUptoRow : OpenClaim := { program := "ytpdgjegnbcillaa", sum := "c3b1d2e103c90e75859dc27a54b037d063b3f18946269661873ce8671c943768", func := "chainman/chainmanlaw11.DistGoes", spec := "distGoes", unfollowed := true, recurses := true, apart := false, narrowed := true }
def DistGoesUptoSaid : Prop := distGoesUptoRow.holds Try.pinned (OpenSpec.upto distGoesSpec)

end Rows
end Go.Proofs.Ytpdgjegnbcillaa
