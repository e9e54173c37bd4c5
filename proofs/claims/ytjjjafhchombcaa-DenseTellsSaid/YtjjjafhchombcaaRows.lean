/-
  No cell of these rows narrows 'for every input' (looked for: loops, veiled, ifaces, maps, wideKeys, modest, calm, conditions, laid).
  DERIVED. THE GIVEN ROWS OF THIS SEAT. 7 by the template 'for every input the law returns true; each argument reads behind the call as it read before'; 0 by the template 'total and deterministic' (their statements: YtjjjafhchombcaaTotals.lean).
  GIVEN WITH THE SEED: the statements are not yours to turn. If you find one false, say at which input.
  Laid BY PROGRAM, IN A SANDBOX (cutbox-rows.mjs): the forced cells as the released guide's own fill.sh prints them over the translation bb4488fbc8b9c3ee… (all of the seat's roots in one cut). By AI agents, Wed Nov 11 2026. No macro, syntax, notation, axiom, sorry.
-/
import Derived.Test.YtjjjafhchombcaaChecked
import GoSem.Claim
import GoSem.ClaimJoined
import GoSem.ClaimMapViews
import Derived.JoinedTies
import Derived.KernelRfl
namespace Go.Proofs.Ytjjjafhchombcaa
/- THE CELL 'sum', in the pinned program and in every row, IS THE sha256 OF THE DUMP (.gsa) THAT YtjjjafhchombcaaProg.lean LOADS. Nothing in Lean hashes anything: it is a label: what it is worth is what the hold of that sum in a sandbox is worth. -/
noncomputable def Try.pinned : Pinned := { name := "ytjjjafhchombcaa", sum := "bb4488fbc8b9c3ee465ecbfb767a27839be8cd14e4717a439c5316afa9888e59", checked := Try.checked }
namespace Rows
def none {H : Type} : Left H := { results := [], args := [] }

/-- 'chainmanlaw33.ModelExact': WHATEVER THE INPUT: true; the input reads as it did. -/
def modelExactSpec : ChangeSpec := { name := "modelExact", fn := fun _ => fun
  | [d1, d2, d3, d4, d5] => { results := [.lit (.bool true)], args := [d1, d2, d3, d4, d5] }
  | _ => none }
def modelExactRow : OpenClaim := { program := "ytjjjafhchombcaa", sum := "bb4488fbc8b9c3ee465ecbfb767a27839be8cd14e4717a439c5316afa9888e59", func := "chainman/chainmanlaw33.ModelExact", spec := "modelExact", unfollowed := true, recurses := true, plainKeys := false, apart := false }
def ModelExactSaid : Prop := modelExactRow.holds Try.pinned (OpenSpec.ofChange modelExactSpec)

/-- ITS FALSE NEIGHBOUR: 'it returns false'. Refute it at one input. -/
def modelExactWrong : ChangeSpec := { name := "modelExact", fn := fun _ => fun
  | [d1, d2, d3, d4, d5] => { results := [.lit (.bool false)], args := [d1, d2, d3, d4, d5] }
  | _ => none }
def ModelExactWrongFalsely : Prop := modelExactRow.holds Try.pinned (OpenSpec.ofChange modelExactWrong)

/-- 'chainmanlaw48.DenseSizes': WHATEVER THE INPUT: true; the input reads as it did. -/
def denseSizesSpec : ChangeSpec := { name := "denseSizes", fn := fun _ => fun
  | [d1, d2, d3] => { results := [.lit (.bool true)], args := [d1, d2, d3] }
  | _ => none }
def denseSizesRow : OpenClaim := { program := "ytjjjafhchombcaa", sum := "bb4488fbc8b9c3ee465ecbfb767a27839be8cd14e4717a439c5316afa9888e59", func := "chainman/chainmanlaw48.DenseSizes", spec := "denseSizes", inPlace := ["math/bits.Add64"], unfollowed := true, recurses := true, plainKeys := false, apart := false }
def DenseSizesSaid : Prop := denseSizesRow.holds Try.pinned (OpenSpec.ofChange denseSizesSpec)

/-- ITS FALSE NEIGHBOUR: 'it returns false'. Refute it at one input. -/
def denseSizesWrong : ChangeSpec := { name := "denseSizes", fn := fun _ => fun
  | [d1, d2, d3] => { results := [.lit (.bool false)], args := [d1, d2, d3] }
  | _ => none }
def DenseSizesWrongFalsely : Prop := denseSizesRow.holds Try.pinned (OpenSpec.ofChange denseSizesWrong)

/-- 'chainmanlaw48.DenseTells': WHATEVER THE INPUT: true; the input reads as it did. -/
def denseTellsSpec : ChangeSpec := { name := "denseTells", fn := fun _ => fun
  | [d1, d2, d3, d4] => { results := [.lit (.bool true)], args := [d1, d2, d3, d4] }
  | _ => none }
def denseTellsRow : OpenClaim := { program := "ytjjjafhchombcaa", sum := "bb4488fbc8b9c3ee465ecbfb767a27839be8cd14e4717a439c5316afa9888e59", func := "chainman/chainmanlaw48.DenseTells", spec := "denseTells", inPlace := ["math/bits.Add64"], unfollowed := true, recurses := true, plainKeys := false, apart := false }
def DenseTellsSaid : Prop := denseTellsRow.holds Try.pinned (OpenSpec.ofChange denseTellsSpec)

/-- ITS FALSE NEIGHBOUR: 'it returns false'. Refute it at one input. -/
def denseTellsWrong : ChangeSpec := { name := "denseTells", fn := fun _ => fun
  | [d1, d2, d3, d4] => { results := [.lit (.bool false)], args := [d1, d2, d3, d4] }
  | _ => none }
def DenseTellsWrongFalsely : Prop := denseTellsRow.holds Try.pinned (OpenSpec.ofChange denseTellsWrong)

/-- 'chainmanlaw48.DenseGroups': WHATEVER THE INPUT: true; the input reads as it did. -/
def denseGroupsSpec : ChangeSpec := { name := "denseGroups", fn := fun _ => fun
  | [d1, d2, d3] => { results := [.lit (.bool true)], args := [d1, d2, d3] }
  | _ => none }
def denseGroupsRow : OpenClaim := { program := "ytjjjafhchombcaa", sum := "bb4488fbc8b9c3ee465ecbfb767a27839be8cd14e4717a439c5316afa9888e59", func := "chainman/chainmanlaw48.DenseGroups", spec := "denseGroups", inPlace := ["math/bits.Add64"], unfollowed := true, recurses := true, plainKeys := false, apart := false }
def DenseGroupsSaid : Prop := denseGroupsRow.holds Try.pinned (OpenSpec.ofChange denseGroupsSpec)

/-- ITS FALSE NEIGHBOUR: 'it returns false'. Refute it at one input. -/
def denseGroupsWrong : ChangeSpec := { name := "denseGroups", fn := fun _ => fun
  | [d1, d2, d3] => { results := [.lit (.bool false)], args := [d1, d2, d3] }
  | _ => none }
def DenseGroupsWrongFalsely : Prop := denseGroupsRow.holds Try.pinned (OpenSpec.ofChange denseGroupsWrong)

/-- 'chainmanlaw47.RingTells': WHATEVER THE INPUT: true; the input reads as it did. -/
def ringTellsSpec : ChangeSpec := { name := "ringTells", fn := fun _ => fun
  | [d1, d2, d3, d4] => { results := [.lit (.bool true)], args := [d1, d2, d3, d4] }
  | _ => none }
def ringTellsRow : OpenClaim := { program := "ytjjjafhchombcaa", sum := "bb4488fbc8b9c3ee465ecbfb767a27839be8cd14e4717a439c5316afa9888e59", func := "chainman/chainmanlaw47.RingTells", spec := "ringTells", unfollowed := true, recurses := true, plainKeys := false, apart := false }
def RingTellsSaid : Prop := ringTellsRow.holds Try.pinned (OpenSpec.ofChange ringTellsSpec)

/-- ITS FALSE NEIGHBOUR: 'it returns false'. Refute it at one input. -/
def ringTellsWrong : ChangeSpec := { name := "ringTells", fn := fun _ => fun
  | [d1, d2, d3, d4] => { results := [.lit (.bool false)], args := [d1, d2, d3, d4] }
  | _ => none }
def RingTellsWrongFalsely : Prop := ringTellsRow.holds Try.pinned (OpenSpec.ofChange ringTellsWrong)

/-- 'chainmanlaw47.RingBeyond': WHATEVER THE INPUT: true; the input reads as it did. -/
def ringBeyondSpec : ChangeSpec := { name := "ringBeyond", fn := fun _ => fun
  | [d1, d2, d3] => { results := [.lit (.bool true)], args := [d1, d2, d3] }
  | _ => none }
def ringBeyondRow : OpenClaim := { program := "ytjjjafhchombcaa", sum := "bb4488fbc8b9c3ee465ecbfb767a27839be8cd14e4717a439c5316afa9888e59", func := "chainman/chainmanlaw47.RingBeyond", spec := "ringBeyond", unfollowed := true, recurses := true, plainKeys := false, apart := false }
def RingBeyondSaid : Prop := ringBeyondRow.holds Try.pinned (OpenSpec.ofChange ringBeyondSpec)

/-- ITS FALSE NEIGHBOUR: 'it returns false'. Refute it at one input. -/
def ringBeyondWrong : ChangeSpec := { name := "ringBeyond", fn := fun _ => fun
  | [d1, d2, d3] => { results := [.lit (.bool false)], args := [d1, d2, d3] }
  | _ => none }
def RingBeyondWrongFalsely : Prop := ringBeyondRow.holds Try.pinned (OpenSpec.ofChange ringBeyondWrong)

/-- 'chainmanlaw47.RingNearest': WHATEVER THE INPUT: true; the input reads as it did. -/
def ringNearestSpec : ChangeSpec := { name := "ringNearest", fn := fun _ => fun
  | [d1, d2, d3, d4] => { results := [.lit (.bool true)], args := [d1, d2, d3, d4] }
  | _ => none }
def ringNearestRow : OpenClaim := { program := "ytjjjafhchombcaa", sum := "bb4488fbc8b9c3ee465ecbfb767a27839be8cd14e4717a439c5316afa9888e59", func := "chainman/chainmanlaw47.RingNearest", spec := "ringNearest", unfollowed := true, recurses := true, plainKeys := false, apart := false }
def RingNearestSaid : Prop := ringNearestRow.holds Try.pinned (OpenSpec.ofChange ringNearestSpec)

/-- ITS FALSE NEIGHBOUR: 'it returns false'. Refute it at one input. -/
def ringNearestWrong : ChangeSpec := { name := "ringNearest", fn := fun _ => fun
  | [d1, d2, d3, d4] => { results := [.lit (.bool false)], args := [d1, d2, d3, d4] }
  | _ => none }
def RingNearestWrongFalsely : Prop := ringNearestRow.holds Try.pinned (OpenSpec.ofChange ringNearestWrong)

/- THE SECOND FORM. 'bulk': how many values and letters a reading holds, each counted each time it is reached (what is shared counts as often as it is met; a slice's spare places count too). A statement '..UptoSaid' is the law's where the arguments, and the package variables that the reading takes, are together of bulk at most 1048576: NARROWER than '..Said'. Prove '..Said' where nothing that the law and all that it calls make is longer than what came in: it says more and counts as full. Else prove '..UptoSaid'. A law counts once. -/
mutual
def uptoBulk {H : Type} : DataW H → Nat
  | .lit (.string bytes) => bytes.length + 1
  | .lit _ => 1
  | .nil => 1
  | .ptr d => uptoBulk d + 1
  | .slice elems spare => uptoBulkAll elems + uptoBulkAll spare + 1
  | .agg parts => uptoBulkAll parts + 1
  | .iface _ d => uptoBulk d + 1
  | .map entries => uptoBulkEntries entries + 1
  | .held _ => 1
def uptoBulkAll {H : Type} : List (DataW H) → Nat
  | [] => 0
  | d :: r => uptoBulk d + uptoBulkAll r
def uptoBulkEntries {H : Type} : List (Lit × DataW H) → Nat
  | [] => 0
  | x :: r => uptoBulkEntry x + uptoBulkEntries r
def uptoBulkEntry {H : Type} : Lit × DataW H → Nat
  | (.string bytes, d) => bytes.length + uptoBulk d + 1
  | (_, d) => uptoBulk d + 1
 end
def uptoSmall : (H : Type) → List (DataW H) → Bool := fun _ ds => decide (uptoBulkAll ds ≤ 1048576)
def OpenSpec.upto (s : _root_.Go.ChangeSpec) : _root_.Go.OpenSpec := { _root_.Go.OpenSpec.ofChange s with cond := some uptoSmall }

/-- 'chainmanlaw33.ModelExact', WHERE WHAT IT READS IS OF BULK AT MOST 1048576: true; the input reads as it did. -/
def modelExactUptoRow : OpenClaim := { program := "ytjjjafhchombcaa", sum := "bb4488fbc8b9c3ee465ecbfb767a27839be8cd14e4717a439c5316afa9888e59", func := "chainman/chainmanlaw33.ModelExact", spec := "modelExact", unfollowed := true, recurses := true, plainKeys := false, apart := false, narrowed := true }
def ModelExactUptoSaid : Prop := modelExactUptoRow.holds Try.pinned (OpenSpec.upto modelExactSpec)

/-- 'chainmanlaw48.DenseSizes', WHERE WHAT IT READS IS OF BULK AT MOST 1048576: true; the input reads as it did. -/
def denseSizesUptoRow : OpenClaim := { program := "ytjjjafhchombcaa", sum := "bb4488fbc8b9c3ee465ecbfb767a27839be8cd14e4717a439c5316afa9888e59", func := "chainman/chainmanlaw48.DenseSizes", spec := "denseSizes", inPlace := ["math/bits.Add64"], unfollowed := true, recurses := true, plainKeys := false, apart := false, narrowed := true }
def DenseSizesUptoSaid : Prop := denseSizesUptoRow.holds Try.pinned (OpenSpec.upto denseSizesSpec)

/-- 'chainmanlaw48.DenseTells', WHERE WHAT IT READS IS OF BULK AT MOST 1048576: true; the input reads as it did. -/
def denseTellsUptoRow : OpenClaim := { program := "ytjjjafhchombcaa", sum := "bb4488fbc8b9c3ee465ecbfb767a27839be8cd14e4717a439c5316afa9888e59", func := "chainman/chainmanlaw48.DenseTells", spec := "denseTells", inPlace := ["math/bits.Add64"], unfollowed := true, recurses := true, plainKeys := false, apart := false, narrowed := true }
def DenseTellsUptoSaid : Prop := denseTellsUptoRow.holds Try.pinned (OpenSpec.upto denseTellsSpec)

/-- 'chainmanlaw48.DenseGroups', WHERE WHAT IT READS IS OF BULK AT MOST 1048576: true; the input reads as it did. -/
def denseGroupsUptoRow : OpenClaim := { program := "ytjjjafhchombcaa", sum := "bb4488fbc8b9c3ee465ecbfb767a27839be8cd14e4717a439c5316afa9888e59", func := "chainman/chainmanlaw48.DenseGroups", spec := "denseGroups", inPlace := ["math/bits.Add64"], unfollowed := true, recurses := true, plainKeys := false, apart := false, narrowed := true }
def DenseGroupsUptoSaid : Prop := denseGroupsUptoRow.holds Try.pinned (OpenSpec.upto denseGroupsSpec)

/-- 'chainmanlaw47.RingTells', WHERE WHAT IT READS IS OF BULK AT MOST 1048576: true; the input reads as it did. -/
def ringTellsUptoRow : OpenClaim := { program := "ytjjjafhchombcaa", sum := "bb4488fbc8b9c3ee465ecbfb767a27839be8cd14e4717a439c5316afa9888e59", func := "chainman/chainmanlaw47.RingTells", spec := "ringTells", unfollowed := true, recurses := true, plainKeys := false, apart := false, narrowed := true }
def RingTellsUptoSaid : Prop := ringTellsUptoRow.holds Try.pinned (OpenSpec.upto ringTellsSpec)

/-- 'chainmanlaw47.RingBeyond', WHERE WHAT IT READS IS OF BULK AT MOST 1048576: true; the input reads as it did. -/
def ringBeyondUptoRow : OpenClaim := { program := "ytjjjafhchombcaa", sum := "bb4488fbc8b9c3ee465ecbfb767a27839be8cd14e4717a439c5316afa9888e59", func := "chainman/chainmanlaw47.RingBeyond", spec := "ringBeyond", unfollowed := true, recurses := true, plainKeys := false, apart := false, narrowed := true }
def RingBeyondUptoSaid : Prop := ringBeyondUptoRow.holds Try.pinned (OpenSpec.upto ringBeyondSpec)

/-- 'chainmanlaw47.RingNearest', WHERE WHAT IT READS IS OF BULK AT MOST 1048576: true; the input reads as it did. -/
def ringNearestUptoRow : OpenClaim := { program := "ytjjjafhchombcaa", sum := "bb4488fbc8b9c3ee465ecbfb767a27839be8cd14e4717a439c5316afa9888e59", func := "chainman/chainmanlaw47.RingNearest", spec := "ringNearest", unfollowed := true, recurses := true, plainKeys := false, apart := false, narrowed := true }
def RingNearestUptoSaid : Prop := ringNearestUptoRow.holds Try.pinned (OpenSpec.upto ringNearestSpec)

end Rows
end Go.Proofs.Ytjjjafhchombcaa
