/- A place that is moved by any of the four ways, or by none, is where the document says, and by another number it is not moved; for any place and any two 8-bit numbers (the law CellGoes). -/
import Derived.Test.YtgpgekjhpkakbaaPCellGoesx3
namespace Go.Proofs.Ytgpgekjhpkakbaa.Pure
open Go.RowKit Go.Proofs.Ytgpgekjhpkakbaa.PCellGoes Go.Proofs.YtgpgekjhpkakbaaW.PrintWords Go.Proofs.YtgpgekjhpkakbaaW.PrintLast
set_option linter.unusedVariables false
set_option linter.unusedSimpArgs false

theorem CellGoes : chainmanlaw23_CellGoes.Pure := by
  intro a0 a1 a2 a3 h0 h1 h2 h3
  have k0 : -9223372036854775808 ≤ a0 ∧ a0 ≤ 9223372036854775807 := by simpa [Lit.wf, IntKind.min, IntKind.max, IntKind.signed, IntKind.bits] using h0
  have k1 : -9223372036854775808 ≤ a1 ∧ a1 ≤ 9223372036854775807 := by simpa [Lit.wf, IntKind.min, IntKind.max, IntKind.signed, IntKind.bits] using h1
  have k2 : -128 ≤ a2 ∧ a2 ≤ 127 := by simpa [Lit.wf, IntKind.min, IntKind.max, IntKind.signed, IntKind.bits] using h2
  have k3 : -128 ≤ a3 ∧ a3 ≤ 127 := by simpa [Lit.wf, IntKind.min, IntKind.max, IntKind.signed, IntKind.bits] using h3
  unfold chainmanlaw23_CellGoes.f
  exact if_pos ⟨k0, k1, k2, k3⟩

end Go.Proofs.Ytgpgekjhpkakbaa.Pure
