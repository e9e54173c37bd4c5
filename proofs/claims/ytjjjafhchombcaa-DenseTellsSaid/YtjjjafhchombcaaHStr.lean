/- Texts held against one another by '<=' and '>': as '!(y < x)' and 'y < x'. -/
import Derived.Test.YtjjjafhchombcaaProg
import Derived.WalkKit
import Derived.Laws.Cover1
namespace Go.Proofs.YtjjjafhchombcaaW.PrintWords
set_option linter.unusedVariables false
theorem less_irr : ∀ x : List UInt8, Op.bytesLess x x = false
  | [] => rfl
  | a :: x => by
    have h : ¬ a < a := UInt8.lt_irrefl a
    simp [Op.bytesLess, less_irr x]
theorem less_leq : ∀ x y : List UInt8, (Op.bytesLess x y || x == y) = !(Op.bytesLess y x)
  | [], [] => rfl
  | [], _ :: _ => rfl
  | _ :: _, [] => rfl
  | a :: x, b :: y => by
    have ih := less_leq x y
    rcases Nat.lt_trichotomy a.toNat b.toNat with h | h | h
    · have h1 : a < b := h
      have h2 : ¬ b < a := fun (q : b.toNat < a.toNat) => by omega
      have h3 : ¬ b = a := fun q => by rw [q] at h; omega
      simp [Op.bytesLess, h1, h2, h3]
    · obtain rfl : a = b := UInt8.toNat_inj.1 h
      have h2 : ¬ a < a := UInt8.lt_irrefl a
      simpa [Op.bytesLess] using ih
    · have h1 : b < a := h
      have h2 : ¬ a < b := fun (q : a.toNat < b.toNat) => by omega
      have h3 : ¬ a = b := fun q => by rw [q] at h; omega
      simp [Op.bytesLess, h1, h2, h3]
theorem str_leq (t : TypeId) (a b : ByteArray) : binOp .leq t (.string a) (.string b) = pure (.bool !(Op.bytesLess b.toList a.toList)) := by rw [binOp_string_leq, less_leq]
theorem str_gtr (t : TypeId) (a b : ByteArray) : binOp .gtr t (.string a) (.string b) = pure (.bool (Op.bytesLess b.toList a.toList)) := by rw [binOp_string_gtr, less_leq, Bool.not_not]
end Go.Proofs.YtjjjafhchombcaaW.PrintWords
