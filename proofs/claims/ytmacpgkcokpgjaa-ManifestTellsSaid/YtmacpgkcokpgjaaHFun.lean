/- Contracts of functions of Go's library, proved once over any program in the library's shelf, laid at this program: the table of numbers, and that this program's bodies and types are the ones. -/
import Derived.Test.YtmacpgkcokpgjaaProg
import Derived.Shelf.SlicesE.IndexFunc
namespace Go.Proofs.YtmacpgkcokpgjaaF
open Go.RowKit Go.Shelf
set_option linter.unusedVariables false
def layn8_f0_ren : Ren := ⟨fun | 8 => 96 | 6 => 152 | n => n, fun | 22 => 43 | 23 => 9 | 25 => 76 | 4 => 4 | 3 => 3 | 0 => 0 | n => n, fun | n => n⟩
theorem layn8_f0 : SlLaysH.n8 Try.prog layn8_f0_ren where
  mixed := by kernel_rfl
  f6 := ⟨ "slices.IndexFunc[[]string,string]", by decide, Try.func152.trans (congrArg some (by kernel_rfl))⟩
  f8 := ⟨ "slices.ContainsFunc[[]string,string]", by decide, Try.func96.trans (congrArg some (by kernel_rfl))⟩
  t0 := Try.underlying0
  a0 := Try.isAgg0
  z0 := Try.sizeOf0
  v0 := Try.zeroValue0
  t3 := Try.underlying3
  a3 := Try.isAgg3
  z3 := Try.sizeOf3
  v3 := Try.zeroValue3
  t4 := Try.underlying4
  a4 := Try.isAgg4
  z4 := Try.sizeOf4
  v4 := Try.zeroValue4
  t22 := Try.underlying43
  a22 := Try.isAgg43
  z22 := Try.sizeOf43
  v22 := Try.zeroValue43
  a23 := Try.isAgg9
  z23 := Try.sizeOf9
  t25 := Try.underlying76
  a25 := Try.isAgg76
  z25 := Try.sizeOf76
  v25 := Try.zeroValue76
/-- slices.ContainsFunc at texts. -/
theorem contains_str (p : ByteArray → Bool) (g : Nat) (lb : Array Value) (eg : ∀ args w, (callFunc g args).run Try.prog w = .ok (.enter g args) w) (b off n c : Nat) (zs : List ByteArray) (w : World)
    (hp : PredAt Try.prog g lb .string p w) (hz : n ≤ zs.length) (hbig : n ≤ 9223372036854775807) (hc : ∀ j, j < zs.length → w.cell? ⟨b, off + j, none⟩ = some (.string zs[j]!)) :
    Calls Try.prog 96 #[.slice (some ⟨b, off, none⟩) n c, .func (.func g) #[] lb] w fun e w' => e = .returned (.bool ((zs.take n).any p)) ∧ ∃ q, w' = w.drewN q :=
  AnyE.slices_ContainsFunc layn8_f0 .string p g lb eg b off n c zs w hp hz hbig hc
theorem contains_str_empty (a : Option Addr) (c : Nat) (fv : Value) (w : World) :
    Calls Try.prog 96 #[.slice a 0 c, fv] w fun e w' => e = .returned (.bool false) ∧ w' = w :=
  AnyE.slices_ContainsFunc_empty layn8_f0 a c fv w
end Go.Proofs.YtmacpgkcokpgjaaF
