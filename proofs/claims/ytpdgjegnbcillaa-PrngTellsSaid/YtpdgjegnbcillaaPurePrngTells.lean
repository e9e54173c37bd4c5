/- Any number mixed, and the lot of up to 10 numbers, and a lot below any number, are the ones of the document; for every number and every list (the law PrngTells, over numbers and lists alone). -/
import Derived.Test.YtpdgjegnbcillaaPPrngTellsx1
namespace Go.Proofs.Ytpdgjegnbcillaa.Pure
open Go.RowKit Go.Proofs.Ytpdgjegnbcillaa.PPrngTells Go.Proofs.YtpdgjegnbcillaaW.PrintWords Go.Proofs.YtpdgjegnbcillaaW.PrintLast
set_option linter.unusedVariables false
set_option linter.unusedSimpArgs false
/-! ### numbers of 64 bits as bit vectors -/
theorem u64_wrap (n : Int) : IntKind.u64.wrap n = ((BitVec.ofInt 64 n).toNat : Int) := by
  simp only [IntKind.wrap, IntKind.bits, IntKind.signed, BitVec.toNat_ofInt, Bool.false_and]
  simp
  omega
theorem u64_of (x : Int) (h : (Lit.int .u64 x).wf = true) : ∃ b : BitVec 64, x = (b.toNat : Int) := by
  have h' : 0 ≤ x ∧ x ≤ 18446744073709551615 := by simpa [Lit.wf, IntKind.min, IntKind.max, IntKind.signed, IntKind.bits] using h
  refine ⟨BitVec.ofInt 64 x, ?_⟩
  rw [BitVec.toNat_ofInt]
  omega
theorem u64_xor (a b : BitVec 64) : Go.bits .xor .u64 (a.toNat : Int) (b.toNat : Int) = ((a ^^^ b).toNat : Int) := by
  have e : ∀ c : BitVec 64, BitVec.ofInt (IntKind.bits .u64) (c.toNat : Int) = c := fun c => by
    rw [BitVec.ofInt_natCast]; exact BitVec.ofNat_toNat ..
  show IntKind.u64.wrap ((BitVec.ofInt (IntKind.bits .u64) (a.toNat : Int) ^^^ BitVec.ofInt (IntKind.bits .u64) (b.toNat : Int)).toNat : Int) = _
  rw [e, e, u64_wrap, BitVec.ofInt_natCast]
  congr 2
  exact BitVec.ofNat_toNat ..
theorem u64_add (a : BitVec 64) (c : Int) : IntKind.u64.wrap ((a.toNat : Int) + c) = ((a + BitVec.ofInt 64 c).toNat : Int) := by
  rw [u64_wrap, BitVec.ofInt_add, BitVec.ofInt_natCast, BitVec.ofNat_toNat, BitVec.setWidth_eq]
theorem u64_sub (a : BitVec 64) (c : Int) : IntKind.u64.wrap ((a.toNat : Int) - c) = ((a - BitVec.ofInt 64 c).toNat : Int) := by
  rw [show (a.toNat : Int) - c = (a.toNat : Int) + (-c) from by omega, u64_add, BitVec.ofInt_neg, ← BitVec.sub_eq_add_neg]
theorem u64_mul (a : BitVec 64) (c : Int) : IntKind.u64.wrap ((a.toNat : Int) * c) = ((a * BitVec.ofInt 64 c).toNat : Int) := by
  rw [u64_wrap, BitVec.ofInt_mul, BitVec.ofInt_natCast, BitVec.ofNat_toNat, BitVec.setWidth_eq]
theorem u64_div (a : BitVec 64) (k : Nat) (c : Int) (hc : c = ((2 ^ k : Nat) : Int)) : (a.toNat : Int) / c = ((a >>> k).toNat : Int) := by
  subst hc
  rw [BitVec.toNat_ushiftRight, Nat.shiftRight_eq_div_pow]
  omega
theorem u64_self (a : BitVec 64) : IntKind.u64.wrap (a.toNat : Int) = (a.toNat : Int) := by
  rw [u64_wrap, BitVec.ofInt_natCast, BitVec.ofNat_toNat, BitVec.setWidth_eq]
theorem u64_tdiv (a : BitVec 64) (k : Nat) (c : Int) (hc : c = ((2 ^ k : Nat) : Int)) : IntKind.u64.wrap (Int.tdiv (a.toNat : Int) c) = ((a >>> k).toNat : Int) := by
  rw [Int.tdiv_eq_ediv_of_nonneg (Int.natCast_nonneg _), u64_div a k c hc, u64_self]
theorem u64_eq (a b : BitVec 64) : ((a.toNat : Int) = (b.toNat : Int)) ↔ a = b := by
  constructor
  · intro h; exact BitVec.eq_of_toNat_eq (by omega)
  · rintro rfl; rfl
theorem u64_xs (x : BitVec 64) (s t : Nat) (ht : t = s + s) (h3 : 64 ≤ s + t) : (x ^^^ x >>> s) ^^^ (x ^^^ x >>> s) >>> s ^^^ (x ^^^ x >>> s) >>> t = x := by
  subst ht
  apply BitVec.eq_of_getLsbD_eq
  intro i hi
  simp only [BitVec.getLsbD_xor, BitVec.getLsbD_ushiftRight]
  have h0 : x.getLsbD (s + (s + s + i)) = false := BitVec.getLsbD_of_ge _ _ (by omega)
  rw [h0, show s + (s + i) = s + s + i from by omega]
  cases x.getLsbD i <;> cases x.getLsbD (s + i) <;> cases x.getLsbD (s + s + i) <;> rfl

/-! ### mixing, as a function of bit vectors -/
def xsB (s : Nat) (x : BitVec 64) : BitVec 64 := x ^^^ x >>> s
def mixB (b : BitVec 64) : BitVec 64 := xsB 31 (xsB 27 (xsB 30 (b + BitVec.ofInt 64 11400714819323198485) * BitVec.ofInt 64 13787848793156543929) * BitVec.ofInt 64 10723151780598845931)
theorem stir_bv (a : BitVec 64) (s : Nat) (hs : s ≤ 64) (m : Int) : prng_stir.f (a.toNat : Int) (s : Int) m = some (((a ^^^ a >>> s) * BitVec.ofInt 64 m).toNat : Int) := by
  unfold prng_stir.f
  rw [if_pos (Int.natCast_nonneg _)]
  have h : shr .u64 (a.toNat : Int) (s : Int) = ((a >>> s).toNat : Int) := by
    unfold shr
    rw [show min ((s : Int).toNat) (IntKind.bits .u64) = s from by simp [IntKind.bits]; omega]
    exact u64_div a s _ (by simp)
  rw [h, u64_xor, u64_mul]
theorem mix_bv (b : BitVec 64) : prng_Mix.f (b.toNat : Int) = some ((mixB b).toNat : Int) := by
  unfold prng_Mix.f
  rw [u64_add, show (30 : Int) = ((30 : Nat) : Int) from rfl, stir_bv _ 30 (by decide), Option.bind_some]
  rw [show (27 : Int) = ((27 : Nat) : Int) from rfl, stir_bv _ 27 (by decide), Option.bind_some]
  rw [show (31 : Int) = ((31 : Nat) : Int) from rfl, stir_bv _ 31 (by decide), Option.bind_some]
  rw [show (BitVec.ofInt 64 1) = 1#64 from by decide, BitVec.mul_one]
  unfold mixB xsB
  exact rfl
theorem awake_k : chainmanlaw27_awake.f 5 = some true := by decide +kernel

theorem refmix_bv (b : BitVec 64) : chainmanref27_Mix.f (b.toNat : Int) = some ((mixB b).toNat : Int) := by
  unfold chainmanref27_Mix.f
  rw [u64_add, u64_tdiv _ 30 1073741824 rfl, u64_xor, u64_mul, u64_tdiv _ 27 134217728 rfl, u64_xor, u64_mul, u64_tdiv _ 31 2147483648 rfl, u64_xor]
  unfold mixB xsB
  exact rfl
theorem lots (l : List Int) (hl : l.length ≤ 10) : ∀ (d k : Nat) (i : Int) (x : BitVec 64), 0 ≤ i → i ≤ l.length → (l.length : Int) - i = d → d < k →
    ∃ r, prng_Lot.l0 k (x.toNat : Int) l (l.length : Int) i = some r ∧ chainmanref27_Lot.l0 k l (x.toNat : Int) i = some r ∧ 0 ≤ r := by
  intro d
  induction d with
  | zero =>
    intro k i x h0 h1 hd hk
    obtain ⟨k, rfl⟩ : ∃ m, k = m + 1 := ⟨k - 1, by omega⟩
    have hx := x.isLt
    refine ⟨wrap64 ((x.toNat : Int) / 2), ?_, ?_, by unfold wrap64; omega⟩
    · simp only [prng_Lot.l0]; rw [if_neg (by omega)]
    · simp only [chainmanref27_Lot.l0]; rw [if_neg (by omega), u64_tdiv x 1 2 rfl, ← u64_div x 1 2 rfl]
  | succ d ih =>
    intro k i x h0 h1 hd hk
    obtain ⟨k, rfl⟩ : ∃ m, k = m + 1 := ⟨k - 1, by omega⟩
    have hlt : i < (l.length : Int) := by omega
    have hw : wrap64 (i + 1) = i + 1 := by unfold wrap64; omega
    obtain ⟨r, h2, h3, h4⟩ := ih k (i + 1) (mixB (x ^^^ BitVec.ofInt 64 (rd l i))) (by omega) (by omega) (by omega) (by omega)
    refine ⟨r, ?_, ?_, h4⟩
    · simp only [prng_Lot.l0]; rw [if_pos hlt, if_pos h0, if_pos hlt, u64_wrap (rd l i), u64_xor, mix_bv, Option.bind_some, hw]; exact h2
    · simp only [chainmanref27_Lot.l0]; rw [if_pos hlt, if_pos h0, u64_wrap (rd l i), u64_xor, refmix_bv, Option.bind_some, hw]; exact h3
theorem PrngTells : chainmanlaw27_PrngTells.Pure := by
  intro a0 l1 a2 h0 _ _ _ h2
  obtain ⟨b, rfl⟩ := u64_of a0 h0
  refine ⟨11, ?_⟩
  have hal : ∀ k, 5 ≤ k → chainmanlaw27_awake.f k = some true := fun k hk => at_rounds chainmanlaw27_awake.mono hk awake_k
  unfold chainmanlaw27_PrngTells.f
  by_cases hl : (l1.length : Int) > 10
  · rw [if_pos hl, hal 11 (by omega), Option.bind_some]
  · rw [if_neg hl]
    obtain ⟨r, e1, e2, hr⟩ := lots l1 (by omega) l1.length 11 0 0#64 (by omega) (by omega) (by omega) (by omega)
    have f1 : prng_Lot.f 11 l1 = some r := e1
    have f2 : chainmanref27_Lot.f 11 l1 = some r := e2
    obtain ⟨q, b1, b2, hq⟩ : ∃ q, prng_Below.f 11 a2 l1 = some q ∧ chainmanref27_Below.f 11 a2 l1 = some q ∧ (1 ≤ a2 → 0 ≤ q ∧ q < a2) := by
      unfold prng_Below.f chainmanref27_Below.f
      by_cases h1 : a2 < 1
      · rw [if_pos h1, if_pos h1]; exact ⟨0, rfl, rfl, fun h => by omega⟩
      · rw [if_neg h1, if_neg h1, f1, f2, Option.bind_some, if_neg (show ¬ a2 = 0 by omega)]
        refine ⟨_, rfl, rfl, fun _ => ?_⟩
        rw [Int.tmod_eq_emod_of_nonneg hr]
        exact ⟨Int.emod_nonneg _ (by omega), Int.emod_lt_of_pos _ (by omega)⟩
    rw [b1, Option.bind_some, mix_bv, Option.bind_some, refmix_bv, Option.bind_some, if_pos rfl, f1, Option.bind_some, f2, Option.bind_some, if_pos rfl, b2, Option.bind_some, if_pos rfl, if_pos (show r ≥ 0 from hr)]
    by_cases h1 : a2 < 1
    · rw [if_pos h1, hal 11 (by omega), Option.bind_some]
    · have := hq (by omega)
      rw [if_neg h1, if_pos (show q ≥ 0 by omega), if_pos (show q < a2 by omega), hal 11 (by omega), Option.bind_some]

end Go.Proofs.Ytpdgjegnbcillaa.Pure
