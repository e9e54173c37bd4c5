/- strings.Builder's WriteString and String: contracts of the library's shelf, proved once over any program, laid at this program by the table of <Name>HJoin. -/
import Derived.Test.YtmacpgkcokpgjaaHJoin
import Derived.Shelf.Strings.BuilderK
namespace Go.Proofs.YtmacpgkcokpgjaaJ
open Go.RowKit Go.Shelf
set_option linter.unusedVariables false
theorem bld_write (B b : Nat) (bs : List Value) (s : ByteArray) (w : World) (h : Lib.IsBuilderF 133 5 B b bs w) (hlen : bs.length + s.size ≤ 140737488355328) (hBw : B ≤ w.heap.size) :
    Calls Try.prog 125 #[.pointer (some ⟨b, 0, none⟩), .string s] w fun e w' => e = .returned (.tuple #[.int .i64 s.size, .nilIface]) ∧ (Lib.BuilderAtF 133 5 B b (.pointer (some ⟨b, 0, none⟩)) (bs ++ Lib.strCells s) w' ∧ Below B w w' ∧ Lib.OthersKept 5 (some b) w w') :=
  Any.Builder_WriteString_k { layn156 with } BuilderExtra_layn156 B b bs s w h hlen hBw
theorem bld_string (B b : Nat) (l : List UInt8) (w : World) (h : Lib.IsBuilderF 133 5 B b (Lib.byteCells l) w) (hBw : B ≤ w.heap.size) :
    Calls Try.prog 127 #[.pointer (some ⟨b, 0, none⟩)] w fun e w' => e = .returned (.string ⟨l.toArray⟩) ∧ (Lib.IsBuilderF 133 5 B b (Lib.byteCells l) w' ∧ Below B w w' ∧ Lib.OthersKept 5 (some b) w w') :=
  Any.Builder_String_any_k { layn156 with } BuilderExtra_layn156 B b l w h hBw
end Go.Proofs.YtmacpgkcokpgjaaJ
