/- Unlike numbers are mixed to unlike ones, and what is mixed can be told again; for any two numbers of 64 bits (the law PrngUnlike, over numbers alone). -/
import Derived.Test.YtpdgjegnbcillaaPPrngUnlikex1
namespace Go.Proofs.Ytpdgjegnbcillaa.Pure
open Go.RowKit Go.Proofs.Ytpdgjegnbcillaa.PPrngUnlike Go.Proofs.YtpdgjegnbcillaaW.PrintWords Go.Proofs.YtpdgjegnbcillaaW.PrintLast
set_option linter.unusedVariables false
set_option linter.unusedSimpArgs false
/-! ### numbers of 64 bits as bit vectors -/
theorem u64_wrap (n : Int) : IntKind.u64.wrap n = ((BitVec.ofInt 64 n).toNat : Int) := by
  simp only [IntKind.wrap, IntKind.bits, IntKind.signed, BitVec.toNat_ofInt, Bool.false_and]
  simp
  omega
theorem u64_of (x : Int) (h : (Lit.int .u64 x).wf = true) : ∃ b : BitVec 64, x = (b.toNat : Int) := by
  have h' : 0 ≤ x ∧ x ≤ 18446744073709551615 := by simpa [Lit.wf, IntKind.min, IntKind.max, IntKind.signed, IntKind.bits] using h
  refine ⟨BitVec.ofInt 64 x, ?_⟩
  rw [BitVec.toNat_ofInt]
  omega
theorem u64_xor (a b : BitVec 64) : Go.bits .xor .u64 (a.toNat : Int) (b.toNat : Int) = ((a ^^^ b).toNat : Int) := by
  have e : ∀ c : BitVec 64, BitVec.ofInt (IntKind.bits .u64) (c.toNat : Int) = c := fun c => by
    rw [BitVec.ofInt_natCast]; exact BitVec.ofNat_toNat ..
  show IntKind.u64.wrap ((BitVec.ofInt (IntKind.bits .u64) (a.toNat : Int) ^^^ BitVec.ofInt (IntKind.bits .u64) (b.toNat : Int)).toNat : Int) = _
  rw [e, e, u64_wrap, BitVec.ofInt_natCast]
  congr 2
  exact BitVec.ofNat_toNat ..
theorem u64_add (a : BitVec 64) (c : Int) : IntKind.u64.wrap ((a.toNat : Int) + c) = ((a + BitVec.ofInt 64 c).toNat : Int) := by
  rw [u64_wrap, BitVec.ofInt_add, BitVec.ofInt_natCast, BitVec.ofNat_toNat, BitVec.setWidth_eq]
theorem u64_sub (a : BitVec 64) (c : Int) : IntKind.u64.wrap ((a.toNat : Int) - c) = ((a - BitVec.ofInt 64 c).toNat : Int) := by
  rw [show (a.toNat : Int) - c = (a.toNat : Int) + (-c) from by omega, u64_add, BitVec.ofInt_neg, ← BitVec.sub_eq_add_neg]
theorem u64_mul (a : BitVec 64) (c : Int) : IntKind.u64.wrap ((a.toNat : Int) * c) = ((a * BitVec.ofInt 64 c).toNat : Int) := by
  rw [u64_wrap, BitVec.ofInt_mul, BitVec.ofInt_natCast, BitVec.ofNat_toNat, BitVec.setWidth_eq]
theorem u64_div (a : BitVec 64) (k : Nat) (c : Int) (hc : c = ((2 ^ k : Nat) : Int)) : (a.toNat : Int) / c = ((a >>> k).toNat : Int) := by
  subst hc
  rw [BitVec.toNat_ushiftRight, Nat.shiftRight_eq_div_pow]
  omega
theorem u64_self (a : BitVec 64) : IntKind.u64.wrap (a.toNat : Int) = (a.toNat : Int) := by
  rw [u64_wrap, BitVec.ofInt_natCast, BitVec.ofNat_toNat, BitVec.setWidth_eq]
theorem u64_tdiv (a : BitVec 64) (k : Nat) (c : Int) (hc : c = ((2 ^ k : Nat) : Int)) : IntKind.u64.wrap (Int.tdiv (a.toNat : Int) c) = ((a >>> k).toNat : Int) := by
  rw [Int.tdiv_eq_ediv_of_nonneg (Int.natCast_nonneg _), u64_div a k c hc, u64_self]
theorem u64_eq (a b : BitVec 64) : ((a.toNat : Int) = (b.toNat : Int)) ↔ a = b := by
  constructor
  · intro h; exact BitVec.eq_of_toNat_eq (by omega)
  · rintro rfl; rfl
theorem u64_xs (x : BitVec 64) (s t : Nat) (ht : t = s + s) (h3 : 64 ≤ s + t) : (x ^^^ x >>> s) ^^^ (x ^^^ x >>> s) >>> s ^^^ (x ^^^ x >>> s) >>> t = x := by
  subst ht
  apply BitVec.eq_of_getLsbD_eq
  intro i hi
  simp only [BitVec.getLsbD_xor, BitVec.getLsbD_ushiftRight]
  have h0 : x.getLsbD (s + (s + s + i)) = false := BitVec.getLsbD_of_ge _ _ (by omega)
  rw [h0, show s + (s + i) = s + s + i from by omega]
  cases x.getLsbD i <;> cases x.getLsbD (s + i) <;> cases x.getLsbD (s + s + i) <;> rfl

/-! ### mixing, as a function of bit vectors -/
def xsB (s : Nat) (x : BitVec 64) : BitVec 64 := x ^^^ x >>> s
def mixB (b : BitVec 64) : BitVec 64 := xsB 31 (xsB 27 (xsB 30 (b + BitVec.ofInt 64 11400714819323198485) * BitVec.ofInt 64 13787848793156543929) * BitVec.ofInt 64 10723151780598845931)
theorem stir_bv (a : BitVec 64) (s : Nat) (hs : s ≤ 64) (m : Int) : prng_stir.f (a.toNat : Int) (s : Int) m = some (((a ^^^ a >>> s) * BitVec.ofInt 64 m).toNat : Int) := by
  unfold prng_stir.f
  rw [if_pos (Int.natCast_nonneg _)]
  have h : shr .u64 (a.toNat : Int) (s : Int) = ((a >>> s).toNat : Int) := by
    unfold shr
    rw [show min ((s : Int).toNat) (IntKind.bits .u64) = s from by simp [IntKind.bits]; omega]
    exact u64_div a s _ (by simp)
  rw [h, u64_xor, u64_mul]
theorem mix_bv (b : BitVec 64) : prng_Mix.f (b.toNat : Int) = some ((mixB b).toNat : Int) := by
  unfold prng_Mix.f
  rw [u64_add, show (30 : Int) = ((30 : Nat) : Int) from rfl, stir_bv _ 30 (by decide), Option.bind_some]
  rw [show (27 : Int) = ((27 : Nat) : Int) from rfl, stir_bv _ 27 (by decide), Option.bind_some]
  rw [show (31 : Int) = ((31 : Nat) : Int) from rfl, stir_bv _ 31 (by decide), Option.bind_some]
  rw [show (BitVec.ofInt 64 1) = 1#64 from by decide, BitVec.mul_one]
  unfold mixB xsB
  exact rfl
theorem awake_k : chainmanlaw27_awake.f 5 = some true := by decide +kernel

def uxB (s t : Nat) (y : BitVec 64) : BitVec 64 := y ^^^ y >>> s ^^^ y >>> t
theorem uxB_xsB (s : Nat) (h : 64 ≤ s + (s + s)) (x : BitVec 64) : uxB s (s + s) (xsB s x) = x := u64_xs x s (s + s) rfl h
def unB (y : BitVec 64) : BitVec 64 := uxB 30 60 (uxB 27 54 (uxB 31 62 y * BitVec.ofInt 64 3573116690164977347) * BitVec.ofInt 64 10871156337175269513) - BitVec.ofInt 64 11400714819323198485
theorem mixB_inj (b : BitVec 64) : unB (mixB b) = b := by
  unfold unB mixB
  rw [uxB_xsB 31 (by decide), BitVec.mul_assoc, show BitVec.ofInt 64 10723151780598845931 * BitVec.ofInt 64 3573116690164977347 = 1#64 from by decide +kernel, BitVec.mul_one]
  rw [uxB_xsB 27 (by decide), BitVec.mul_assoc, show BitVec.ofInt 64 13787848793156543929 * BitVec.ofInt 64 10871156337175269513 = 1#64 from by decide +kernel, BitVec.mul_one]
  rw [uxB_xsB 30 (by decide), BitVec.add_sub_cancel]
theorem unmix_bv (b : BitVec 64) : chainmanref27_Unmix.f ((mixB b).toNat : Int) = some (b.toNat : Int) := by
  rw [← congrArg (fun z : BitVec 64 => (z.toNat : Int)) (mixB_inj b)]
  unfold chainmanref27_Unmix.f
  rw [u64_div _ 31 2147483648 rfl, u64_xor, u64_div _ 62 4611686018427387904 rfl, u64_xor, u64_mul, u64_div _ 27 134217728 rfl, u64_xor, u64_div _ 54 18014398509481984 rfl, u64_xor, u64_mul, u64_div _ 30 1073741824 rfl, u64_xor, u64_div _ 60 1152921504606846976 rfl, u64_xor, u64_sub]
  unfold unB uxB
  exact rfl
theorem PrngUnlike : chainmanlaw27_PrngUnlike.Pure := by
  intro a0 a1 h0 h1
  obtain ⟨b, rfl⟩ := u64_of a0 h0
  obtain ⟨c, rfl⟩ := u64_of a1 h1
  refine ⟨5, ?_⟩
  unfold chainmanlaw27_PrngUnlike.f
  rw [mix_bv, Option.bind_some, unmix_bv, Option.bind_some, if_pos rfl, mix_bv, Option.bind_some]
  have hi : (mixB b = mixB c) ↔ b = c := ⟨fun h => by have := mixB_inj b; rw [h] at this; rw [← this]; exact mixB_inj c, fun h => by rw [h]⟩
  have hb : ((((mixB b).toNat : Int) == ((mixB c).toNat : Int)) == ((b.toNat : Int) == (c.toNat : Int))) = true := by
    by_cases h : b = c
    · subst h; rw [beq_self_eq_true, beq_self_eq_true]; rfl
    · have h' : ¬ mixB b = mixB c := fun e => h (hi.1 e)
      have g1 : ((b.toNat : Int) == (c.toNat : Int)) = false := beq_eq_false_iff_ne.2 (fun e => h ((u64_eq _ _).1 e))
      have g2 : (((mixB b).toNat : Int) == ((mixB c).toNat : Int)) = false := beq_eq_false_iff_ne.2 (fun e => h' ((u64_eq _ _).1 e))
      rw [g1, g2]; rfl
  rw [if_pos hb, awake_k, Option.bind_some]

end Go.Proofs.Ytpdgjegnbcillaa.Pure
