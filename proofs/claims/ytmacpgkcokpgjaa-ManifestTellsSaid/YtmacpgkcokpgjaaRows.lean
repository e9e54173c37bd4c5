/-
  No cell of these rows narrows 'for every input' (looked for: loops, veiled, ifaces, maps, wideKeys, modest, calm, conditions, laid).
  DERIVED. THE GIVEN ROWS OF THIS SEAT. 9 by the template 'for every input the law returns true; each argument reads behind the call as it read before'; 0 by the template 'total and deterministic' (their statements: YtmacpgkcokpgjaaTotals.lean).
  GIVEN WITH THE SEED: the statements are not yours to turn. If you find one false, say at which input.
  Laid BY PROGRAM, IN A SANDBOX (cutbox-rows.mjs): the forced cells as the released guide's own fill.sh prints them over the translation e44ea9db3bf7f028… (all of the seat's roots in one cut). By AI agents, Wed Nov 11 2026. No macro, syntax, notation, axiom, sorry.
-/
import Derived.Test.YtmacpgkcokpgjaaChecked
import GoSem.Claim
import GoSem.ClaimJoined
import GoSem.ClaimMapViews
import Derived.JoinedTies
import Derived.KernelRfl
namespace Go.Proofs.Ytmacpgkcokpgjaa
/- THE CELL 'sum', in the pinned program and in every row, IS THE sha256 OF THE DUMP (.gsa) THAT YtmacpgkcokpgjaaProg.lean LOADS. Nothing in Lean hashes anything: it is a label: what it is worth is what the hold of that sum in a sandbox is worth. -/
noncomputable def Try.pinned : Pinned := { name := "ytmacpgkcokpgjaa", sum := "e44ea9db3bf7f02892ec5ba7b1280319fab02fb1f111fa29c1126ad450bbd631", checked := Try.checked }
namespace Rows
def none {H : Type} : Left H := { results := [], args := [] }

/-- 'chainmanlaw12.TopkBest': WHATEVER THE INPUT: true; the input reads as it did. -/
def topkBestSpec : ChangeSpec := { name := "topkBest", fn := fun _ => fun
  | [d1, d2, d3] => { results := [.lit (.bool true)], args := [d1, d2, d3] }
  | _ => none }
def topkBestRow : OpenClaim := { program := "ytmacpgkcokpgjaa", sum := "e44ea9db3bf7f02892ec5ba7b1280319fab02fb1f111fa29c1126ad450bbd631", func := "chainman/chainmanlaw12.TopkBest", spec := "topkBest", unfollowed := true, recurses := true, apart := false }
def TopkBestSaid : Prop := topkBestRow.holds Try.pinned (OpenSpec.ofChange topkBestSpec)

/-- ITS FALSE NEIGHBOUR: 'it returns false'. Refute it at one input. -/
def topkBestWrong : ChangeSpec := { name := "topkBest", fn := fun _ => fun
  | [d1, d2, d3] => { results := [.lit (.bool false)], args := [d1, d2, d3] }
  | _ => none }
def TopkBestWrongFalsely : Prop := topkBestRow.holds Try.pinned (OpenSpec.ofChange topkBestWrong)

/-- 'chainmanlaw40.BoundTells': WHATEVER THE INPUT: true; the input reads as it did. -/
def boundTellsSpec : ChangeSpec := { name := "boundTells", fn := fun _ => fun
  | [d1, d2, d3, d4, d5, d6] => { results := [.lit (.bool true)], args := [d1, d2, d3, d4, d5, d6] }
  | _ => none }
def boundTellsRow : OpenClaim := { program := "ytmacpgkcokpgjaa", sum := "e44ea9db3bf7f02892ec5ba7b1280319fab02fb1f111fa29c1126ad450bbd631", func := "chainman/chainmanlaw40.BoundTells", spec := "boundTells", inPlace := ["math/bits.Add64"], apart := false }
def BoundTellsSaid : Prop := boundTellsRow.holds Try.pinned (OpenSpec.ofChange boundTellsSpec)

/-- ITS FALSE NEIGHBOUR: 'it returns false'. Refute it at one input. -/
def boundTellsWrong : ChangeSpec := { name := "boundTells", fn := fun _ => fun
  | [d1, d2, d3, d4, d5, d6] => { results := [.lit (.bool false)], args := [d1, d2, d3, d4, d5, d6] }
  | _ => none }
def BoundTellsWrongFalsely : Prop := boundTellsRow.holds Try.pinned (OpenSpec.ofChange boundTellsWrong)

/-- 'chainmanlaw40.BoundGrows': WHATEVER THE INPUT: true; the input reads as it did. -/
def boundGrowsSpec : ChangeSpec := { name := "boundGrows", fn := fun _ => fun
  | [d1, d2, d3, d4] => { results := [.lit (.bool true)], args := [d1, d2, d3, d4] }
  | _ => none }
def boundGrowsRow : OpenClaim := { program := "ytmacpgkcokpgjaa", sum := "e44ea9db3bf7f02892ec5ba7b1280319fab02fb1f111fa29c1126ad450bbd631", func := "chainman/chainmanlaw40.BoundGrows", spec := "boundGrows", inPlace := ["math/bits.Add64"], apart := false }
def BoundGrowsSaid : Prop := boundGrowsRow.holds Try.pinned (OpenSpec.ofChange boundGrowsSpec)

/-- ITS FALSE NEIGHBOUR: 'it returns false'. Refute it at one input. -/
def boundGrowsWrong : ChangeSpec := { name := "boundGrows", fn := fun _ => fun
  | [d1, d2, d3, d4] => { results := [.lit (.bool false)], args := [d1, d2, d3, d4] }
  | _ => none }
def BoundGrowsWrongFalsely : Prop := boundGrowsRow.holds Try.pinned (OpenSpec.ofChange boundGrowsWrong)

/-- 'chainmanlaw05.FrameBack': WHATEVER THE INPUT: true; the input reads as it did. -/
def frameBackSpec : ChangeSpec := { name := "frameBack", fn := fun _ => fun
  | [d1, d2, d3, d4, d5, d6] => { results := [.lit (.bool true)], args := [d1, d2, d3, d4, d5, d6] }
  | _ => none }
def frameBackRow : OpenClaim := { program := "ytmacpgkcokpgjaa", sum := "e44ea9db3bf7f02892ec5ba7b1280319fab02fb1f111fa29c1126ad450bbd631", func := "chainman/chainmanlaw05.FrameBack", spec := "frameBack", inPlace := ["internal/abi.NoEscape", "internal/bytealg.MakeNoZero"], unfollowed := true, recurses := true, apart := false }
def FrameBackSaid : Prop := frameBackRow.holds Try.pinned (OpenSpec.ofChange frameBackSpec)

/-- ITS FALSE NEIGHBOUR: 'it returns false'. Refute it at one input. -/
def frameBackWrong : ChangeSpec := { name := "frameBack", fn := fun _ => fun
  | [d1, d2, d3, d4, d5, d6] => { results := [.lit (.bool false)], args := [d1, d2, d3, d4, d5, d6] }
  | _ => none }
def FrameBackWrongFalsely : Prop := frameBackRow.holds Try.pinned (OpenSpec.ofChange frameBackWrong)

/-- 'chainmanlaw05.FrameTells': WHATEVER THE INPUT: true; the input reads as it did. -/
def frameTellsSpec : ChangeSpec := { name := "frameTells", fn := fun _ => fun
  | [d1, d2, d3, d4] => { results := [.lit (.bool true)], args := [d1, d2, d3, d4] }
  | _ => none }
def frameTellsRow : OpenClaim := { program := "ytmacpgkcokpgjaa", sum := "e44ea9db3bf7f02892ec5ba7b1280319fab02fb1f111fa29c1126ad450bbd631", func := "chainman/chainmanlaw05.FrameTells", spec := "frameTells", inPlace := ["internal/abi.NoEscape", "internal/bytealg.MakeNoZero"], unfollowed := true, recurses := true, apart := false }
def FrameTellsSaid : Prop := frameTellsRow.holds Try.pinned (OpenSpec.ofChange frameTellsSpec)

/-- ITS FALSE NEIGHBOUR: 'it returns false'. Refute it at one input. -/
def frameTellsWrong : ChangeSpec := { name := "frameTells", fn := fun _ => fun
  | [d1, d2, d3, d4] => { results := [.lit (.bool false)], args := [d1, d2, d3, d4] }
  | _ => none }
def FrameTellsWrongFalsely : Prop := frameTellsRow.holds Try.pinned (OpenSpec.ofChange frameTellsWrong)

/-- 'chainmanlaw10.DatasetBack': WHATEVER THE INPUT: true; the input reads as it did. -/
def datasetBackSpec : ChangeSpec := { name := "datasetBack", fn := fun _ => fun
  | [d1, d2] => { results := [.lit (.bool true)], args := [d1, d2] }
  | _ => none }
def datasetBackRow : OpenClaim := { program := "ytmacpgkcokpgjaa", sum := "e44ea9db3bf7f02892ec5ba7b1280319fab02fb1f111fa29c1126ad450bbd631", func := "chainman/chainmanlaw10.DatasetBack", spec := "datasetBack", inPlace := ["internal/abi.NoEscape", "internal/bytealg.MakeNoZero"], unfollowed := true, recurses := true, apart := false }
def DatasetBackSaid : Prop := datasetBackRow.holds Try.pinned (OpenSpec.ofChange datasetBackSpec)

/-- ITS FALSE NEIGHBOUR: 'it returns false'. Refute it at one input. -/
def datasetBackWrong : ChangeSpec := { name := "datasetBack", fn := fun _ => fun
  | [d1, d2] => { results := [.lit (.bool false)], args := [d1, d2] }
  | _ => none }
def DatasetBackWrongFalsely : Prop := datasetBackRow.holds Try.pinned (OpenSpec.ofChange datasetBackWrong)

/-- 'chainmanlaw10.DatasetTells': WHATEVER THE INPUT: true; the input reads as it did. -/
def datasetTellsSpec : ChangeSpec := { name := "datasetTells", fn := fun _ => fun
  | [d1, d2, d3, d4] => { results := [.lit (.bool true)], args := [d1, d2, d3, d4] }
  | _ => none }
def datasetTellsRow : OpenClaim := { program := "ytmacpgkcokpgjaa", sum := "e44ea9db3bf7f02892ec5ba7b1280319fab02fb1f111fa29c1126ad450bbd631", func := "chainman/chainmanlaw10.DatasetTells", spec := "datasetTells", inPlace := ["internal/abi.NoEscape", "internal/bytealg.MakeNoZero"], unfollowed := true, recurses := true, apart := false }
def DatasetTellsSaid : Prop := datasetTellsRow.holds Try.pinned (OpenSpec.ofChange datasetTellsSpec)

/-- ITS FALSE NEIGHBOUR: 'it returns false'. Refute it at one input. -/
def datasetTellsWrong : ChangeSpec := { name := "datasetTells", fn := fun _ => fun
  | [d1, d2, d3, d4] => { results := [.lit (.bool false)], args := [d1, d2, d3, d4] }
  | _ => none }
def DatasetTellsWrongFalsely : Prop := datasetTellsRow.holds Try.pinned (OpenSpec.ofChange datasetTellsWrong)

/-- 'chainmanlaw19.ManifestBack': WHATEVER THE INPUT: true; the input reads as it did. -/
def manifestBackSpec : ChangeSpec := { name := "manifestBack", fn := fun _ => fun
  | [d1, d2, d3, d4] => { results := [.lit (.bool true)], args := [d1, d2, d3, d4] }
  | _ => none }
def manifestBackRow : OpenClaim := { program := "ytmacpgkcokpgjaa", sum := "e44ea9db3bf7f02892ec5ba7b1280319fab02fb1f111fa29c1126ad450bbd631", func := "chainman/chainmanlaw19.ManifestBack", spec := "manifestBack", inPlace := ["internal/abi.NoEscape"], unfollowed := true, recurses := true, apart := false }
def ManifestBackSaid : Prop := manifestBackRow.holds Try.pinned (OpenSpec.ofChange manifestBackSpec)

/-- ITS FALSE NEIGHBOUR: 'it returns false'. Refute it at one input. -/
def manifestBackWrong : ChangeSpec := { name := "manifestBack", fn := fun _ => fun
  | [d1, d2, d3, d4] => { results := [.lit (.bool false)], args := [d1, d2, d3, d4] }
  | _ => none }
def ManifestBackWrongFalsely : Prop := manifestBackRow.holds Try.pinned (OpenSpec.ofChange manifestBackWrong)

/-- 'chainmanlaw19.ManifestTells': WHATEVER THE INPUT: true; the input reads as it did. -/
def manifestTellsSpec : ChangeSpec := { name := "manifestTells", fn := fun _ => fun
  | [d1, d2, d3, d4] => { results := [.lit (.bool true)], args := [d1, d2, d3, d4] }
  | _ => none }
def manifestTellsRow : OpenClaim := { program := "ytmacpgkcokpgjaa", sum := "e44ea9db3bf7f02892ec5ba7b1280319fab02fb1f111fa29c1126ad450bbd631", func := "chainman/chainmanlaw19.ManifestTells", spec := "manifestTells", inPlace := ["internal/abi.NoEscape"], unfollowed := true, recurses := true, apart := false }
def ManifestTellsSaid : Prop := manifestTellsRow.holds Try.pinned (OpenSpec.ofChange manifestTellsSpec)

/-- ITS FALSE NEIGHBOUR: 'it returns false'. Refute it at one input. -/
def manifestTellsWrong : ChangeSpec := { name := "manifestTells", fn := fun _ => fun
  | [d1, d2, d3, d4] => { results := [.lit (.bool false)], args := [d1, d2, d3, d4] }
  | _ => none }
def ManifestTellsWrongFalsely : Prop := manifestTellsRow.holds Try.pinned (OpenSpec.ofChange manifestTellsWrong)

/- THE SECOND FORM. 'bulk': how many values and letters a reading holds, each counted each time it is reached (what is shared counts as often as it is met; a slice's spare places count too). A statement '..UptoSaid' is the law's where the arguments, and the package variables that the reading takes, are together of bulk at most 1048576: NARROWER than '..Said'. Prove '..Said' where nothing that the law and all that it calls make is longer than what came in: it says more and counts as full. Else prove '..UptoSaid'. A law counts once. -/
mutual
def uptoBulk {H : Type} : DataW H → Nat
  | .lit (.string bytes) => bytes.length + 1
  | .lit _ => 1
  | .nil => 1
  | .ptr d => uptoBulk d + 1
  | .slice elems spare => uptoBulkAll elems + uptoBulkAll spare + 1
  | .agg parts => uptoBulkAll parts + 1
  | .iface _ d => uptoBulk d + 1
  | .map entries => uptoBulkEntries entries + 1
  | .held _ => 1
def uptoBulkAll {H : Type} : List (DataW H) → Nat
  | [] => 0
  | d :: r => uptoBulk d + uptoBulkAll r
def uptoBulkEntries {H : Type} : List (Lit × DataW H) → Nat
  | [] => 0
  | x :: r => uptoBulkEntry x + uptoBulkEntries r
def uptoBulkEntry {H : Type} : Lit × DataW H → Nat
  | (.string bytes, d) => bytes.length + uptoBulk d + 1
  | (_, d) => uptoBulk d + 1
 end
def uptoSmall : (H : Type) → List (DataW H) → Bool := fun _ ds => decide (uptoBulkAll ds ≤ 1048576)
def OpenSpec.upto (s : _root_.Go.ChangeSpec) : _root_.Go.OpenSpec := { _root_.Go.OpenSpec.ofChange s with cond := some uptoSmall }

/-- 'chainmanlaw12.TopkBest', WHERE WHAT IT READS IS OF BULK AT MOST 1048576: true; the input reads as it did. -/
def topkBestUptoRow : OpenClaim := { program := "ytmacpgkcokpgjaa", sum := "e44ea9db3bf7f02892ec5ba7b1280319fab02fb1f111fa29c1126ad450bbd631", func := "chainman/chainmanlaw12.TopkBest", spec := "topkBest", unfollowed := true, recurses := true, apart := false, narrowed := true }
def TopkBestUptoSaid : Prop := topkBestUptoRow.holds Try.pinned (OpenSpec.upto topkBestSpec)

/-- 'chainmanlaw40.BoundTells', WHERE WHAT IT READS IS OF BULK AT MOST 1048576: true; the input reads as it did. -/
def boundTellsUptoRow : OpenClaim := { program := "ytmacpgkcokpgjaa", sum := "e44ea9db3bf7f02892ec5ba7b1280319fab02fb1f111fa29c1126ad450bbd631", func := "chainman/chainmanlaw40.BoundTells", spec := "boundTells", inPlace := ["math/bits.Add64"], apart := false, narrowed := true }
def BoundTellsUptoSaid : Prop := boundTellsUptoRow.holds Try.pinned (OpenSpec.upto boundTellsSpec)

/-- 'chainmanlaw40.BoundGrows', WHERE WHAT IT READS IS OF BULK AT MOST 1048576: true; the input reads as it did. -/
def boundGrowsUptoRow : OpenClaim := { program := "ytmacpgkcokpgjaa", sum := "e44ea9db3bf7f02892ec5ba7b1280319fab02fb1f111fa29c1126ad450bbd631", func := "chainman/chainmanlaw40.BoundGrows", spec := "boundGrows", inPlace := ["math/bits.Add64"], apart := false, narrowed := true }
def BoundGrowsUptoSaid : Prop := boundGrowsUptoRow.holds Try.pinned (OpenSpec.upto boundGrowsSpec)

/-- 'chainmanlaw05.FrameBack', WHERE WHAT IT READS IS OF BULK AT MOST 1048576: true; the input reads as it did. -/
def frameBackUptoRow : OpenClaim := { program := "ytmacpgkcokpgjaa", sum := "e44ea9db3bf7f02892ec5ba7b1280319fab02fb1f111fa29c1126ad450bbd631", func := "chainman/chainmanlaw05.FrameBack", spec := "frameBack", inPlace := ["internal/abi.NoEscape", "internal/bytealg.MakeNoZero"], unfollowed := true, recurses := true, apart := false, narrowed := true }
def FrameBackUptoSaid : Prop := frameBackUptoRow.holds Try.pinned (OpenSpec.upto frameBackSpec)

/-- 'chainmanlaw05.FrameTells', WHERE WHAT IT READS IS OF BULK AT MOST 1048576: true; the input reads as it did. -/
def frameTellsUptoRow : OpenClaim := { program := "ytmacpgkcokpgjaa", sum := "e44ea9db3bf7f02892ec5ba7b1280319fab02fb1f111fa29c1126ad450bbd631", func := "chainman/chainmanlaw05.FrameTells", spec := "frameTells", inPlace := ["internal/abi.NoEscape", "internal/bytealg.MakeNoZero"], unfollowed := true, recurses := true, apart := false, narrowed := true }
def FrameTellsUptoSaid : Prop := frameTellsUptoRow.holds Try.pinned (OpenSpec.upto frameTellsSpec)

/-- 'chainmanlaw10.DatasetBack', WHERE WHAT IT READS IS OF BULK AT MOST 1048576: true; the input reads as it did. -/
def datasetBackUptoRow : OpenClaim := { program := "ytmacpgkcokpgjaa", sum := "e44ea9db3bf7f02892ec5ba7b1280319fab02fb1f111fa29c1126ad450bbd631", func := "chainman/chainmanlaw10.DatasetBack", spec := "datasetBack", inPlace := ["internal/abi.NoEscape", "internal/bytealg.MakeNoZero"], unfollowed := true, recurses := true, apart := false, narrowed := true }
def DatasetBackUptoSaid : Prop := datasetBackUptoRow.holds Try.pinned (OpenSpec.upto datasetBackSpec)

/-- 'chainmanlaw10.DatasetTells', WHERE WHAT IT READS IS OF BULK AT MOST 1048576: true; the input reads as it did. -/
def datasetTellsUptoRow : OpenClaim := { program := "ytmacpgkcokpgjaa", sum := "e44ea9db3bf7f02892ec5ba7b1280319fab02fb1f111fa29c1126ad450bbd631", func := "chainman/chainmanlaw10.DatasetTells", spec := "datasetTells", inPlace := ["internal/abi.NoEscape", "internal/bytealg.MakeNoZero"], unfollowed := true, recurses := true, apart := false, narrowed := true }
def DatasetTellsUptoSaid : Prop := datasetTellsUptoRow.holds Try.pinned (OpenSpec.upto datasetTellsSpec)

/-- 'chainmanlaw19.ManifestBack', WHERE WHAT IT READS IS OF BULK AT MOST 1048576: true; the input reads as it did. -/
def manifestBackUptoRow : OpenClaim := { program := "ytmacpgkcokpgjaa", sum := "e44ea9db3bf7f02892ec5ba7b1280319fab02fb1f111fa29c1126ad450bbd631", func := "chainman/chainmanlaw19.ManifestBack", spec := "manifestBack", inPlace := ["internal/abi.NoEscape"], unfollowed := true, recurses := true, apart := false, narrowed := true }
def ManifestBackUptoSaid : Prop := manifestBackUptoRow.holds Try.pinned (OpenSpec.upto manifestBackSpec)

/-- 'chainmanlaw19.ManifestTells', WHERE WHAT IT READS IS OF BULK AT MOST 1048576: true; the input reads as it did. -/
def manifestTellsUptoRow : OpenClaim := { program := "ytmacpgkcokpgjaa", sum := "e44ea9db3bf7f02892ec5ba7b1280319fab02fb1f111fa29c1126ad450bbd631", func := "chainman/chainmanlaw19.ManifestTells", spec := "manifestTells", inPlace := ["internal/abi.NoEscape"], unfollowed := true, recurses := true, apart := false, narrowed := true }
def ManifestTellsUptoSaid : Prop := manifestTellsUptoRow.holds Try.pinned (OpenSpec.upto manifestTellsSpec)

end Rows
end Go.Proofs.Ytmacpgkcokpgjaa
