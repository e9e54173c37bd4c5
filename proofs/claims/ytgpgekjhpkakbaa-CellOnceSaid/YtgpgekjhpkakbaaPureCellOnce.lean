/- Of two neighbouring cells just one comes to the other one by just one of the four ways, what is no neighbour does not; for any two 32-bit and two 8-bit numbers (the law CellOnce). -/
import Derived.Test.YtgpgekjhpkakbaaPCellOncex4
namespace Go.Proofs.Ytgpgekjhpkakbaa.Pure
open Go.RowKit Go.Proofs.Ytgpgekjhpkakbaa.PCellOnce Go.Proofs.YtgpgekjhpkakbaaW.PrintWords Go.Proofs.YtgpgekjhpkakbaaW.PrintLast
set_option linter.unusedVariables false
set_option linter.unusedSimpArgs false

theorem CellOnce : chainmanlaw23_CellOnce.Pure := by
  intro a0 a1 a2 a3 h0 h1 h2 h3
  have k0 : -2147483648 ≤ a0 ∧ a0 ≤ 2147483647 := by simpa [Lit.wf, IntKind.min, IntKind.max, IntKind.signed, IntKind.bits] using h0
  have k1 : -2147483648 ≤ a1 ∧ a1 ≤ 2147483647 := by simpa [Lit.wf, IntKind.min, IntKind.max, IntKind.signed, IntKind.bits] using h1
  have k2 : -128 ≤ a2 ∧ a2 ≤ 127 := by simpa [Lit.wf, IntKind.min, IntKind.max, IntKind.signed, IntKind.bits] using h2
  have k3 : -128 ≤ a3 ∧ a3 ≤ 127 := by simpa [Lit.wf, IntKind.min, IntKind.max, IntKind.signed, IntKind.bits] using h3
  unfold chainmanlaw23_CellOnce.f
  exact if_pos ⟨k0, k1, k2, k3⟩

end Go.Proofs.Ytgpgekjhpkakbaa.Pure
