/-
  No cell of these rows narrows 'for every input' (looked for: loops, veiled, ifaces, maps, wideKeys, modest, calm, conditions, laid).
  DERIVED. THE GIVEN ROWS OF THIS SEAT. 6 by the template 'for every input the law returns true; each argument reads behind the call as it read before'; 0 by the template 'total and deterministic' (their statements: YtahkkgnicgbncaaTotals.lean).
  GIVEN WITH THE SEED: the statements are not yours to turn. If you find one false, say at which input.
  Laid BY PROGRAM, IN A SANDBOX (cutbox-rows.mjs): the forced cells as the released guide's own fill.sh prints them over the translation 6a1f32e248365e25… (all of the seat's roots in one cut). By AI agents, Wed Nov 11 2026. No macro, syntax, notation, axiom, sorry.
-/
import Derived.Test.YtahkkgnicgbncaaChecked
import GoSem.Claim
import GoSem.ClaimJoined
import GoSem.ClaimMapViews
import Derived.JoinedTies
import Derived.KernelRfl
namespace Go.Proofs.Ytahkkgnicgbncaa
/- THE CELL 'sum', in the pinned program and in every row, IS THE sha256 OF THE DUMP (.gsa) THAT YtahkkgnicgbncaaProg.lean LOADS. Nothing in Lean hashes anything: it is a label: what it is worth is what the hold of that sum in a sandbox is worth. -/
noncomputable def Try.pinned : Pinned := { name := "ytahkkgnicgbncaa", sum := "6a1f32e248365e25a7a82422b1a6f4789540038387f433ca065f900a2f7a35d7", checked := Try.checked }
namespace Rows
def none {H : Type} : Left H := { results := [], args := [] }

/-- 'chainmanlaw06.RecfileTells': WHATEVER THE INPUT: true; the input reads as it did. -/
def recfileTellsSpec : ChangeSpec := { name := "recfileTells", fn := fun _ => fun
  | [d1, d2, d3, d4] => { results := [.lit (.bool true)], args := [d1, d2, d3, d4] }
  | _ => none }
def recfileTellsRow : OpenClaim := { program := "ytahkkgnicgbncaa", sum := "6a1f32e248365e25a7a82422b1a6f4789540038387f433ca065f900a2f7a35d7", func := "chainman/chainmanlaw06.RecfileTells", spec := "recfileTells", inPlace := ["internal/abi.NoEscape", "internal/bytealg.MakeNoZero"], unfollowed := true, recurses := true, apart := false }
def RecfileTellsSaid : Prop := recfileTellsRow.holds Try.pinned (OpenSpec.ofChange recfileTellsSpec)

/-- ITS FALSE NEIGHBOUR: 'it returns false'. Refute it at one input. -/
def recfileTellsWrong : ChangeSpec := { name := "recfileTells", fn := fun _ => fun
  | [d1, d2, d3, d4] => { results := [.lit (.bool false)], args := [d1, d2, d3, d4] }
  | _ => none }
def RecfileTellsWrongFalsely : Prop := recfileTellsRow.holds Try.pinned (OpenSpec.ofChange recfileTellsWrong)

/-- 'chainmanlaw06.RecfileBack': WHATEVER THE INPUT: true; the input reads as it did. -/
def recfileBackSpec : ChangeSpec := { name := "recfileBack", fn := fun _ => fun
  | [d1, d2, d3, d4] => { results := [.lit (.bool true)], args := [d1, d2, d3, d4] }
  | _ => none }
def recfileBackRow : OpenClaim := { program := "ytahkkgnicgbncaa", sum := "6a1f32e248365e25a7a82422b1a6f4789540038387f433ca065f900a2f7a35d7", func := "chainman/chainmanlaw06.RecfileBack", spec := "recfileBack", inPlace := ["internal/abi.NoEscape", "internal/bytealg.MakeNoZero"], unfollowed := true, recurses := true, apart := false }
def RecfileBackSaid : Prop := recfileBackRow.holds Try.pinned (OpenSpec.ofChange recfileBackSpec)

/-- ITS FALSE NEIGHBOUR: 'it returns false'. Refute it at one input. -/
def recfileBackWrong : ChangeSpec := { name := "recfileBack", fn := fun _ => fun
  | [d1, d2, d3, d4] => { results := [.lit (.bool false)], args := [d1, d2, d3, d4] }
  | _ => none }
def RecfileBackWrongFalsely : Prop := recfileBackRow.holds Try.pinned (OpenSpec.ofChange recfileBackWrong)

/-- 'chainmanlaw06.RecfileTurned': WHATEVER THE INPUT: true; the input reads as it did. -/
def recfileTurnedSpec : ChangeSpec := { name := "recfileTurned", fn := fun _ => fun
  | [d1, d2, d3, d4] => { results := [.lit (.bool true)], args := [d1, d2, d3, d4] }
  | _ => none }
def recfileTurnedRow : OpenClaim := { program := "ytahkkgnicgbncaa", sum := "6a1f32e248365e25a7a82422b1a6f4789540038387f433ca065f900a2f7a35d7", func := "chainman/chainmanlaw06.RecfileTurned", spec := "recfileTurned", inPlace := ["internal/abi.NoEscape", "internal/bytealg.MakeNoZero"], unfollowed := true, recurses := true, apart := false }
def RecfileTurnedSaid : Prop := recfileTurnedRow.holds Try.pinned (OpenSpec.ofChange recfileTurnedSpec)

/-- ITS FALSE NEIGHBOUR: 'it returns false'. Refute it at one input. -/
def recfileTurnedWrong : ChangeSpec := { name := "recfileTurned", fn := fun _ => fun
  | [d1, d2, d3, d4] => { results := [.lit (.bool false)], args := [d1, d2, d3, d4] }
  | _ => none }
def RecfileTurnedWrongFalsely : Prop := recfileTurnedRow.holds Try.pinned (OpenSpec.ofChange recfileTurnedWrong)

/-- 'chainmanlaw09.ReaderReads': WHATEVER THE INPUT: true; the input reads as it did. -/
def readerReadsSpec : ChangeSpec := { name := "readerReads", fn := fun _ => fun
  | [d1, d2, d3] => { results := [.lit (.bool true)], args := [d1, d2, d3] }
  | _ => none }
def readerReadsRow : OpenClaim := { program := "ytahkkgnicgbncaa", sum := "6a1f32e248365e25a7a82422b1a6f4789540038387f433ca065f900a2f7a35d7", func := "chainman/chainmanlaw09.ReaderReads", spec := "readerReads", apart := false }
def ReaderReadsSaid : Prop := readerReadsRow.holds Try.pinned (OpenSpec.ofChange readerReadsSpec)

/-- ITS FALSE NEIGHBOUR: 'it returns false'. Refute it at one input. -/
def readerReadsWrong : ChangeSpec := { name := "readerReads", fn := fun _ => fun
  | [d1, d2, d3] => { results := [.lit (.bool false)], args := [d1, d2, d3] }
  | _ => none }
def ReaderReadsWrongFalsely : Prop := readerReadsRow.holds Try.pinned (OpenSpec.ofChange readerReadsWrong)

/-- 'chainmanlaw09.ReaderPlays': WHATEVER THE INPUT: true; the input reads as it did. -/
def readerPlaysSpec : ChangeSpec := { name := "readerPlays", fn := fun _ => fun
  | [d1, d2, d3, d4, d5] => { results := [.lit (.bool true)], args := [d1, d2, d3, d4, d5] }
  | _ => none }
def readerPlaysRow : OpenClaim := { program := "ytahkkgnicgbncaa", sum := "6a1f32e248365e25a7a82422b1a6f4789540038387f433ca065f900a2f7a35d7", func := "chainman/chainmanlaw09.ReaderPlays", spec := "readerPlays", apart := false }
def ReaderPlaysSaid : Prop := readerPlaysRow.holds Try.pinned (OpenSpec.ofChange readerPlaysSpec)

/-- ITS FALSE NEIGHBOUR: 'it returns false'. Refute it at one input. -/
def readerPlaysWrong : ChangeSpec := { name := "readerPlays", fn := fun _ => fun
  | [d1, d2, d3, d4, d5] => { results := [.lit (.bool false)], args := [d1, d2, d3, d4, d5] }
  | _ => none }
def ReaderPlaysWrongFalsely : Prop := readerPlaysRow.holds Try.pinned (OpenSpec.ofChange readerPlaysWrong)

/-- 'chainmanlaw13.VecsReads': WHATEVER THE INPUT: true; the input reads as it did. -/
def vecsReadsSpec : ChangeSpec := { name := "vecsReads", fn := fun _ => fun
  | [d1, d2, d3] => { results := [.lit (.bool true)], args := [d1, d2, d3] }
  | _ => none }
def vecsReadsRow : OpenClaim := { program := "ytahkkgnicgbncaa", sum := "6a1f32e248365e25a7a82422b1a6f4789540038387f433ca065f900a2f7a35d7", func := "chainman/chainmanlaw13.VecsReads", spec := "vecsReads", inPlace := ["slices.overlaps[chainman/vecs.held]"], unfollowed := true, recurses := true, apart := false }
def VecsReadsSaid : Prop := vecsReadsRow.holds Try.pinned (OpenSpec.ofChange vecsReadsSpec)

/-- ITS FALSE NEIGHBOUR: 'it returns false'. Refute it at one input. -/
def vecsReadsWrong : ChangeSpec := { name := "vecsReads", fn := fun _ => fun
  | [d1, d2, d3] => { results := [.lit (.bool false)], args := [d1, d2, d3] }
  | _ => none }
def VecsReadsWrongFalsely : Prop := vecsReadsRow.holds Try.pinned (OpenSpec.ofChange vecsReadsWrong)

/- THE SECOND FORM. 'bulk': how many values and letters a reading holds, each counted each time it is reached (what is shared counts as often as it is met; a slice's spare places count too). A statement '..UptoSaid' is the law's where the arguments, and the package variables that the reading takes, are together of bulk at most 1048576: NARROWER than '..Said'. Prove '..Said' where nothing that the law and all that it calls make is longer than what came in: it says more and counts as full. Else prove '..UptoSaid'. A law counts once. -/
mutual
def uptoBulk {H : Type} : DataW H → Nat
  | .lit (.string bytes) => bytes.length + 1
  | .lit _ => 1
  | .nil => 1
  | .ptr d => uptoBulk d + 1
  | .slice elems spare => uptoBulkAll elems + uptoBulkAll spare + 1
  | .agg parts => uptoBulkAll parts + 1
  | .iface _ d => uptoBulk d + 1
  | .map entries => uptoBulkEntries entries + 1
  | .held _ => 1
def uptoBulkAll {H : Type} : List (DataW H) → Nat
  | [] => 0
  | d :: r => uptoBulk d + uptoBulkAll r
def uptoBulkEntries {H : Type} : List (Lit × DataW H) → Nat
  | [] => 0
  | x :: r => uptoBulkEntry x + uptoBulkEntries r
def uptoBulkEntry {H : Type} : Lit × DataW H → Nat
  | (.string bytes, d) => bytes.length + uptoBulk d + 1
  | (_, d) => uptoBulk d + 1
 end
def uptoSmall : (H : Type) → List (DataW H) → Bool := fun _ ds => decide (uptoBulkAll ds ≤ 1048576)
def OpenSpec.upto (s : _root_.Go.ChangeSpec) : _root_.Go.OpenSpec := { _root_.Go.OpenSpec.ofChange s with cond := some uptoSmall }

/-- 'chainmanlaw06.RecfileTells', WHERE WHAT IT READS IS OF BULK AT MOST 1048576: true; the input reads as it did. -/
def recfileTellsUptoRow : OpenClaim := { program := "ytahkkgnicgbncaa", sum := "6a1f32e248365e25a7a82422b1a6f4789540038387f433ca065f900a2f7a35d7", func := "chainman/chainmanlaw06.RecfileTells", spec := "recfileTells", inPlace := ["internal/abi.NoEscape", "internal/bytealg.MakeNoZero"], unfollowed := true, recurses := true, apart := false, narrowed := true }
def RecfileTellsUptoSaid : Prop := recfileTellsUptoRow.holds Try.pinned (OpenSpec.upto recfileTellsSpec)

/-- 'chainmanlaw06.RecfileBack', WHERE WHAT IT READS IS OF BULK AT MOST 1048576: true; the input reads as it did. -/
def recfileBackUptoRow : OpenClaim := { program := "ytahkkgnicgbncaa", sum := "6a1f32e248365e25a7a82422b1a6f4789540038387f433ca065f900a2f7a35d7", func := "chainman/chainmanlaw06.RecfileBack", spec := "recfileBack", inPlace := ["internal/abi.NoEscape", "internal/bytealg.MakeNoZero"], unfollowed := true, recurses := true, apart := false, narrowed := true }
def RecfileBackUptoSaid : Prop := recfileBackUptoRow.holds Try.pinned (OpenSpec.upto recfileBackSpec)

/-- 'chainmanlaw06.RecfileTurned', WHERE WHAT IT READS IS OF BULK AT MOST 1048576: true; the input reads as it did. -/
def recfileTurnedUptoRow : OpenClaim := { program := "ytahkkgnicgbncaa", sum := "6a1f32e248365e25a7a82422b1a6f4789540038387f433ca065f900a2f7a35d7", func := "chainman/chainmanlaw06.RecfileTurned", spec := "recfileTurned", inPlace := ["internal/abi.NoEscape", "internal/bytealg.MakeNoZero"], unfollowed := true, recurses := true, apart := false, narrowed := true }
def RecfileTurnedUptoSaid : Prop := recfileTurnedUptoRow.holds Try.pinned (OpenSpec.upto recfileTurnedSpec)

/-- 'chainmanlaw09.ReaderReads', WHERE WHAT IT READS IS OF BULK AT MOST 1048576: true; the input reads as it did. -/
def readerReadsUptoRow : OpenClaim := { program := "ytahkkgnicgbncaa", sum := "6a1f32e248365e25a7a82422b1a6f4789540038387f433ca065f900a2f7a35d7", func := "chainman/chainmanlaw09.ReaderReads", spec := "readerReads", apart := false, narrowed := true }
def ReaderReadsUptoSaid : Prop := readerReadsUptoRow.holds Try.pinned (OpenSpec.upto readerReadsSpec)

/-- 'chainmanlaw09.ReaderPlays', WHERE WHAT IT READS IS OF BULK AT MOST 1048576: true; the input reads as it did. -/
def readerPlaysUptoRow : OpenClaim := { program := "ytahkkgnicgbncaa", sum := "6a1f32e248365e25a7a82422b1a6f4789540038387f433ca065f900a2f7a35d7", func := "chainman/chainmanlaw09.ReaderPlays", spec := "readerPlays", apart := false, narrowed := true }
def ReaderPlaysUptoSaid : Prop := readerPlaysUptoRow.holds Try.pinned (OpenSpec.upto readerPlaysSpec)

/-- 'chainmanlaw13.VecsReads', WHERE WHAT IT READS IS OF BULK AT MOST 1048576: true; the input reads as it did. -/
def vecsReadsUptoRow : OpenClaim := { program := "ytahkkgnicgbncaa", sum := "6a1f32e248365e25a7a82422b1a6f4789540038387f433ca065f900a2f7a35d7", func := "chainman/chainmanlaw13.VecsReads", spec := "vecsReads", inPlace := ["slices.overlaps[chainman/vecs.held]"], unfollowed := true, recurses := true, apart := false, narrowed := true }
def VecsReadsUptoSaid : Prop := vecsReadsUptoRow.holds Try.pinned (OpenSpec.upto vecsReadsSpec)

end Rows
end Go.Proofs.Ytahkkgnicgbncaa
