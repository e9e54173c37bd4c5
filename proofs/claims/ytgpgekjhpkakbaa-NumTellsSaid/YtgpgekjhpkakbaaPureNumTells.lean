/- Both sides of the law NumTells, the program's and the document's, compute the same numbers. -/
import Derived.Test.YtgpgekjhpkakbaaPNumTellsx3
namespace Go.Proofs.Ytgpgekjhpkakbaa.Pure
open Go.RowKit Go.Proofs.Ytgpgekjhpkakbaa.PNumTells Go.Proofs.YtgpgekjhpkakbaaW.PrintWords Go.Proofs.YtgpgekjhpkakbaaW.PrintLast
set_option linter.unusedVariables false
set_option linter.unusedSimpArgs false
/-! ### what the package num computes -/
theorem w64 (n : Int) (h : -9223372036854775808 ≤ n ∧ n ≤ 9223372036854775807) : wrap64 n = n := by unfold wrap64; omega
theorem wU (n : Int) (h : 0 ≤ n ∧ n < 18446744073709551616) : IntKind.u64.wrap n = n := by
  simp only [IntKind.wrap, IntKind.bits, IntKind.signed, Bool.false_and]
  simp
  omega
theorem wUm (n : Int) : IntKind.u64.wrap n = n % 18446744073709551616 := by
  simp only [IntKind.wrap, IntKind.bits, IntKind.signed, Bool.false_and]
  simp
theorem up_ {α : Type} {f : Nat → Option α} (h : ∀ k, LeO (f k) (f (k + 1))) {r : α} {k : Nat} (K : Nat) (hk : k ≤ K) (e : f k = some r) : f K = some r := by
  induction K with
  | zero => obtain rfl : k = 0 := by omega
            exact e
  | succ K ih =>
    by_cases hq : k = K + 1
    · subst hq; exact e
    · exact h K _ (ih (by omega))
theorem natural_eq (a b c : Int) : num_natural.f 4 [a, b, c] = some (decide (0 ≤ a ∧ 0 ≤ b ∧ 0 ≤ c)) := by
  have e : num_least.f 4 0 [a, b, c] = some (mn (mn (mn 0 a) b) c) := by simp [num_least.f, num_least.l0, rd, wrap64]
  unfold num_natural.f
  rw [e, Option.bind_some]
  congr 1
  rw [Bool.eq_iff_iff, beq_iff_eq, decide_eq_true_iff]
  unfold mn
  repeat' split
  all_goals omega
theorem hold_eq (a b c : Int) : num_Hold.f 2 a b c = some (if a < b then b else if c < a then c else a) := by
  have e : num_least.f 2 a [c] = some (mn a c) := by simp [num_least.f, num_least.l0, rd, wrap64]
  unfold num_Hold.f
  rw [e, Option.bind_some]
  unfold mn
  split
  · rfl
  · rfl
/-! #### a product's two halves -/
theorem mask32 (n : Nat) (h : n < 18446744073709551616) : Go.bits .and .u64 (n : Int) 4294967295 = ((n % 4294967296 : Nat) : Int) := by
  have e : Go.bits .and .u64 (n : Int) 4294967295 = IntKind.u64.wrap (((BitVec.ofInt 64 (n : Int)) &&& (BitVec.ofInt 64 4294967295)).toNat : Int) := rfl
  have e2 : (BitVec.ofInt 64 4294967295).toNat = 2 ^ 32 - 1 := by decide
  have e3 : (BitVec.ofInt 64 (n : Int)).toNat = n := by rw [BitVec.ofInt_natCast, BitVec.toNat_ofNat]; omega
  rw [e, BitVec.toNat_and, e2, e3, Nat.and_two_pow_sub_one_eq_mod, wU _ (by omega)]
theorem mul64_eq (a b : Nat) (ha : a < 9223372036854775808) (hb : b < 9223372036854775808) :
    bits_Mul64.f (a : Int) (b : Int) = some (((a * b / 18446744073709551616 : Nat) : Int), ((a * b % 18446744073709551616 : Nat) : Int)) := by
  unfold bits_Mul64.f
  rw [mask32 a (by omega), mask32 b (by omega)]
  have e1 : (a : Int) / 4294967296 = ((a / 4294967296 : Nat) : Int) := by omega
  have e2 : (b : Int) / 4294967296 = ((b / 4294967296 : Nat) : Int) := by omega
  rw [e1, e2]
  have ea : a = a / 4294967296 * 4294967296 + a % 4294967296 := by omega
  have eb : b = b / 4294967296 * 4294967296 + b % 4294967296 := by omega
  have hah : a / 4294967296 ≤ 2147483647 := by omega
  have hbh : b / 4294967296 ≤ 2147483647 := by omega
  have hal : a % 4294967296 ≤ 4294967295 := by omega
  have hbl : b % 4294967296 ≤ 4294967295 := by omega
  generalize a / 4294967296 = x at *
  generalize a % 4294967296 = y at *
  generalize b / 4294967296 = u at *
  generalize b % 4294967296 = v at *
  have eP : a * b = (x * u) * 18446744073709551616 + (x * v + y * u) * 4294967296 + y * v := by
    rw [ea, eb]
    simp only [Nat.add_mul, Nat.mul_add]
    have i1 : x * 4294967296 * (u * 4294967296) = x * u * 18446744073709551616 := by
      rw [Nat.mul_mul_mul_comm]
    have i2 : x * 4294967296 * v = x * v * 4294967296 := by rw [Nat.mul_right_comm]
    have i3 : y * (u * 4294967296) = y * u * 4294967296 := by rw [Nat.mul_assoc]
    omega
  have b1 : x * u ≤ 2147483647 * 2147483647 := Nat.mul_le_mul hah hbh
  have b2 : x * v ≤ 2147483647 * 4294967295 := Nat.mul_le_mul hah hbl
  have b3 : y * u ≤ 4294967295 * 2147483647 := Nat.mul_le_mul hal hbh
  have b4 : y * v ≤ 4294967295 * 4294967295 := Nat.mul_le_mul hal hbl
  rw [← Int.natCast_mul, ← Int.natCast_mul, ← Int.natCast_mul, ← Int.natCast_mul, ← Int.natCast_mul, eP]
  clear eP ea eb e1 e2
  generalize x * u = p1 at *
  generalize x * v = p2 at *
  generalize y * u = p3 at *
  generalize y * v = p4 at *
  clear hah hbh hal hbl
  have t1 : IntKind.u64.wrap (p4 : Int) = (p4 : Int) := wU _ (by omega)
  have t2 : IntKind.u64.wrap (p2 : Int) = (p2 : Int) := wU _ (by omega)
  have t3 : IntKind.u64.wrap (p1 : Int) = (p1 : Int) := wU _ (by omega)
  have t4 : IntKind.u64.wrap (p3 : Int) = (p3 : Int) := wU _ (by omega)
  rw [t1, t2, t3, t4]
  have t5 : IntKind.u64.wrap ((p2 : Int) + (p4 : Int) / 4294967296) = ((p2 + p4 / 4294967296 : Nat) : Int) := by rw [wU _ (by omega)]; omega
  rw [t5, mask32 _ (by omega)]
  generalize hq : p2 + p4 / 4294967296 = q
  have t6 : IntKind.u64.wrap ((p1 : Int) + (q : Int) / 4294967296) = ((p1 + q / 4294967296 : Nat) : Int) := by rw [wU _ (by omega)]; omega
  have t7 : IntKind.u64.wrap (((q % 4294967296 : Nat) : Int) + (p3 : Int)) = ((q % 4294967296 + p3 : Nat) : Int) := by rw [wU _ (by omega)]; omega
  rw [t6, t7]
  generalize hr : q % 4294967296 + p3 = r
  have t8 : IntKind.u64.wrap (((p1 + q / 4294967296 : Nat) : Int) + (r : Int) / 4294967296) = ((p1 + q / 4294967296 + r / 4294967296 : Nat) : Int) := by rw [wU _ (by omega)]; omega
  rw [t8, wUm]
  congr 2
  · omega

theorem add_eq (a b c : Int) (ha : a ≤ 9223372036854775807) (hb : b ≤ 9223372036854775807) (hc : c ≤ 9223372036854775807) :
    num_Add.f 4 a b c = some (if 0 ≤ a ∧ 0 ≤ b ∧ 0 ≤ c then (if c < a + b then c else a + b) else 0) := by
  unfold num_Add.f
  rw [natural_eq, Option.bind_some]
  by_cases h : 0 ≤ a ∧ 0 ≤ b ∧ 0 ≤ c
  · obtain ⟨h1, h2, h3⟩ := h
    rw [if_pos (decide_eq_true ⟨h1, h2, h3⟩), if_pos (show 0 ≤ a ∧ 0 ≤ b ∧ 0 ≤ c from ⟨h1, h2, h3⟩), wU a (by omega), wU b (by omega), wU c (by omega)]
    unfold bits_Add64.f
    rw [if_pos (by omega), Option.bind_some]
    have e1 : (a + b + 0) / 18446744073709551616 = 0 := by omega
    have e2 : (a + b + 0) % 18446744073709551616 = a + b := by omega
    show (if (a + b + 0) / 18446744073709551616 > 0 then some c else if (a + b + 0) % 18446744073709551616 > c then some c else some (wrap64 ((a + b + 0) % 18446744073709551616))) = _
    rw [e1, e2, if_neg (by decide)]
    by_cases h4 : c < a + b
    · rw [if_pos h4, if_pos h4]
    · rw [if_neg h4, if_neg h4, w64 _ (by omega)]
  · rw [if_neg (by simpa using h), if_neg h]
theorem mul_eq (a b c : Int) (ha : a ≤ 9223372036854775807) (hb : b ≤ 9223372036854775807) (hc : c ≤ 9223372036854775807) :
    num_Mul.f 4 a b c = some (if 0 ≤ a ∧ 0 ≤ b ∧ 0 ≤ c then (if c < a * b then c else a * b) else 0) := by
  unfold num_Mul.f
  rw [natural_eq, Option.bind_some]
  by_cases h : 0 ≤ a ∧ 0 ≤ b ∧ 0 ≤ c
  · obtain ⟨h1, h2, h3⟩ := h
    rw [if_pos (decide_eq_true ⟨h1, h2, h3⟩), if_pos (show 0 ≤ a ∧ 0 ≤ b ∧ 0 ≤ c from ⟨h1, h2, h3⟩), wU a (by omega), wU b (by omega), wU c (by omega)]
    obtain ⟨x, rfl⟩ := Int.eq_ofNat_of_zero_le h1
    obtain ⟨y, rfl⟩ := Int.eq_ofNat_of_zero_le h2
    rw [mul64_eq x y (by omega) (by omega), Option.bind_some, ← Int.natCast_mul]
    show (if ((x * y / 18446744073709551616 : Nat) : Int) > 0 then some c else if ((x * y % 18446744073709551616 : Nat) : Int) > c then some c else some (wrap64 ((x * y % 18446744073709551616 : Nat) : Int))) = _
    generalize x * y = p
    by_cases h4 : ((p / 18446744073709551616 : Nat) : Int) > 0
    · rw [if_pos h4, if_pos (by omega)]
    · rw [if_neg h4]
      have e : ((p % 18446744073709551616 : Nat) : Int) = (p : Int) := by omega
      rw [e]
      by_cases h5 : c < (p : Int)
      · rw [if_pos h5, if_pos h5]
      · rw [if_neg h5, if_neg h5, w64 _ (by omega)]
  · rw [if_neg (by simpa using h), if_neg h]
/-! #### how long a number is -/
def len8 : ByteArray := ⟨#[0, 1, 2, 2, 3, 3, 3, 3, 4, 4, 4, 4, 4, 4, 4, 4, 5, 5, 5, 5, 5, 5, 5, 5, 5, 5, 5, 5, 5, 5, 5, 5, 6, 6, 6, 6, 6, 6, 6, 6, 6, 6, 6, 6, 6, 6, 6, 6, 6, 6, 6, 6, 6, 6, 6, 6, 6, 6, 6, 6, 6, 6, 6, 6, 7, 7, 7, 7, 7, 7, 7, 7, 7, 7, 7, 7, 7, 7, 7, 7, 7, 7, 7, 7, 7, 7, 7, 7, 7, 7, 7, 7, 7, 7, 7, 7, 7, 7, 7, 7, 7, 7, 7, 7, 7, 7, 7, 7, 7, 7, 7, 7, 7, 7, 7, 7, 7, 7, 7, 7, 7, 7, 7, 7, 7, 7, 7, 7, 8, 8, 8, 8, 8, 8, 8, 8, 8, 8, 8, 8, 8, 8, 8, 8, 8, 8, 8, 8, 8, 8, 8, 8, 8, 8, 8, 8, 8, 8, 8, 8, 8, 8, 8, 8, 8, 8, 8, 8, 8, 8, 8, 8, 8, 8, 8, 8, 8, 8, 8, 8, 8, 8, 8, 8, 8, 8, 8, 8, 8, 8, 8, 8, 8, 8, 8, 8, 8, 8, 8, 8, 8, 8, 8, 8, 8, 8, 8, 8, 8, 8, 8, 8, 8, 8, 8, 8, 8, 8, 8, 8, 8, 8, 8, 8, 8, 8, 8, 8, 8, 8, 8, 8, 8, 8, 8, 8, 8, 8, 8, 8, 8, 8, 8, 8, 8, 8, 8, 8, 8, 8, 8, 8, 8, 8, 8, 8]⟩
theorem len8_ok : ∀ b : Fin 256, 0 ≤ bt len8 (b.val : Int) ∧ bt len8 (b.val : Int) ≤ 8 ∧ b.val < 2 ^ (bt len8 (b.val : Int)).toNat := by decide +kernel
theorem len8_at (b : Int) (h0 : 0 ≤ b) (h1 : b < 256) : ∃ t : Nat, wrap64 (bt len8 b) = (t : Int) ∧ t ≤ 8 ∧ b < ((2 ^ t : Nat) : Int) := by
  obtain ⟨n, rfl⟩ := Int.eq_ofNat_of_zero_le h0
  have h := len8_ok ⟨n, by omega⟩
  refine ⟨(bt len8 (n : Int)).toNat, ?_, ?_, ?_⟩
  · rw [w64 _ (by have := h.1; have := h.2.1; simp only at *; omega)]
    have := h.1; simp only at *; omega
  · have := h.2.1; simp only at *; omega
  · exact Int.ofNat_lt.mpr h.2.2
theorem j0_eq (k : Nat) (x0 x2 : Int) : bits_Len64.j0 (k + 1) x0 x2 = if x0 ≥ 65536 then (if (x0 / 65536) ≥ 256 then (if 0 ≤ (((x0 / 65536) / 256) % 256) then (if (((x0 / 65536) / 256) % 256) < 256 then (some (wrap64 ((wrap64 ((wrap64 (x2 + 16)) + 8)) + (wrap64 (bt len8 (((x0 / 65536) / 256) % 256)))))) else (none)) else (none)) else (if 0 ≤ ((x0 / 65536) % 256) then (if ((x0 / 65536) % 256) < 256 then (some (wrap64 ((wrap64 (x2 + 16)) + (wrap64 (bt len8 ((x0 / 65536) % 256)))))) else (none)) else (none))) else (if x0 ≥ 256 then (if 0 ≤ ((x0 / 256) % 256) then (if ((x0 / 256) % 256) < 256 then (some (wrap64 ((wrap64 (x2 + 8)) + (wrap64 (bt len8 ((x0 / 256) % 256)))))) else (none)) else (none)) else (if 0 ≤ ((x0) % 256) then (if ((x0) % 256) < 256 then (some (wrap64 (x2 + (wrap64 (bt len8 ((x0) % 256)))))) else (none)) else (none))) := rfl
theorem lt_pow (n : Int) (t s : Nat) (h0 : 0 ≤ n) (h : n / ((2 ^ s : Nat) : Int) < ((2 ^ t : Nat) : Int)) : n < ((2 ^ (s + t) : Nat) : Int) := by
  obtain ⟨x, rfl⟩ := Int.eq_ofNat_of_zero_le h0
  have h2 : x / 2 ^ s < 2 ^ t := by rw [← Int.natCast_ediv] at h; exact Int.ofNat_lt.mp h
  rw [Nat.div_lt_iff_lt_mul (Nat.two_pow_pos s)] at h2
  rw [Nat.pow_add, Nat.mul_comm]
  exact Int.ofNat_lt.mpr h2
theorem len_j0 (k : Nat) (x : Int) (c : Nat) (h0 : 0 ≤ x) (h1 : x < 4294967296) (hc : c ≤ 32) : ∃ L : Nat, bits_Len64.j0 (k + 1) x (c : Int) = some ((c + L : Nat) : Int) ∧ L ≤ 32 ∧ x < ((2 ^ L : Nat) : Int) := by
  rw [j0_eq]
  by_cases c1 : x ≥ 65536
  · rw [if_pos c1]
    by_cases c2 : x / 65536 ≥ 256
    · obtain ⟨t, e, ht, hl⟩ := len8_at (x / 65536 / 256 % 256) (by omega) (by omega)
      rw [if_pos c2, if_pos (by omega), if_pos (by omega), e]
      refine ⟨24 + t, ?_, by omega, lt_pow x t 24 h0 (by have : x / ((2 ^ 24 : Nat) : Int) = x / 65536 / 256 % 256 := by simp only [Nat.reducePow]; omega
                                                         rw [this]; exact hl)⟩
      rw [w64 (c + 16) (by omega), w64 (_ + 8) (by omega), w64 _ (by omega)]
      congr 1; omega
    · obtain ⟨t, e, ht, hl⟩ := len8_at (x / 65536 % 256) (by omega) (by omega)
      rw [if_neg c2, if_pos (by omega), if_pos (by omega), e]
      refine ⟨16 + t, ?_, by omega, lt_pow x t 16 h0 (by have : x / ((2 ^ 16 : Nat) : Int) = x / 65536 % 256 := by simp only [Nat.reducePow]; omega
                                                         rw [this]; exact hl)⟩
      rw [w64 (c + 16) (by omega), w64 _ (by omega)]
      congr 1; omega
  · rw [if_neg c1]
    by_cases c2 : x ≥ 256
    · obtain ⟨t, e, ht, hl⟩ := len8_at (x / 256 % 256) (by omega) (by omega)
      rw [if_pos c2, if_pos (by omega), if_pos (by omega), e]
      refine ⟨8 + t, ?_, by omega, lt_pow x t 8 h0 (by have : x / ((2 ^ 8 : Nat) : Int) = x / 256 % 256 := by simp only [Nat.reducePow]; omega
                                                       rw [this]; exact hl)⟩
      rw [w64 (c + 8) (by omega), w64 _ (by omega)]
      congr 1; omega
    · obtain ⟨t, e, ht, hl⟩ := len8_at (x % 256) (by omega) (by omega)
      rw [if_neg c2, if_pos (by omega), if_pos (by omega), e]
      refine ⟨t, ?_, by omega, by rw [show x % 256 = x from by omega] at hl; exact hl⟩
      rw [w64 _ (by omega)]
      congr 1
theorem len_eq (k : Nat) (x : Int) (h0 : 0 ≤ x) (h1 : x < 18446744073709551616) : ∃ L : Nat, bits_Len64.f (k + 1) x = some (L : Int) ∧ L ≤ 64 ∧ x < ((2 ^ L : Nat) : Int) := by
  unfold bits_Len64.f
  by_cases c1 : x ≥ 4294967296
  · obtain ⟨L, e, hL, hl⟩ := len_j0 k (x / 4294967296) 32 (by omega) (by omega) (by omega)
    rw [if_pos c1]
    refine ⟨32 + L, e, by omega, lt_pow x L 32 h0 (by have : x / ((2 ^ 32 : Nat) : Int) = x / 4294967296 := by simp only [Nat.reducePow]; rfl
                                                      rw [this]; exact hl)⟩
  · obtain ⟨L, e, hL, hl⟩ := len_j0 k x 0 (by omega) (by omega) (by omega)
    rw [if_neg c1]
    refine ⟨L, by simpa using e, by omega, hl⟩
/-! #### roots -/
/-- s is the greatest number whose square is not above n. -/
def IsRoot (n s : Int) : Prop := 0 ≤ s ∧ s * s ≤ n ∧ n < (s + 1) * (s + 1)
theorem IsRoot.unique {n s t : Int} (h : IsRoot n s) (g : IsRoot n t) : s = t := by
  obtain ⟨h0, h1, h2⟩ := h
  obtain ⟨g0, g1, g2⟩ := g
  rcases Int.lt_trichotomy s t with c | c | c
  · have := Int.mul_le_mul (show s + 1 ≤ t by omega) (show s + 1 ≤ t by omega) (by omega) (by omega); omega
  · exact c
  · have := Int.mul_le_mul (show t + 1 ≤ s by omega) (show t + 1 ≤ s by omega) (by omega) (by omega); omega
theorem newton (n : Int) (h1 : 1 ≤ n) (h2 : n ≤ 4611686018427387904) : ∀ (d : Nat) (r : Int), r.toNat ≤ d → 1 ≤ r → r ≤ 4294967296 → n < (r + 1) * (r + 1) → ∃ k s, num_Root.l0 k n r = some s ∧ IsRoot n s := by
  intro d
  induction d with
  | zero => intro r hd hr; omega
  | succ d ih =>
    intro r hd hr hr2 hn
    have eq : Int.tdiv n r = n / r := Int.tdiv_eq_ediv_of_nonneg (by omega)
    have q1 : n / r * r ≤ n := Int.ediv_mul_le n (by omega)
    have q2 : n < (n / r + 1) * r := Int.lt_ediv_add_one_mul_self n (by omega)
    have q0 : 0 ≤ n / r := Int.ediv_nonneg (by omega) (by omega)
    have q3 : n / r ≤ n := Int.ediv_le_self r (by omega)
    generalize hq : n / r = q at *
    have e1 : wrap64 q = q := w64 _ (by omega)
    have e2 : wrap64 (r + q) = r + q := w64 _ (by omega)
    have e3 : Int.tdiv (r + q) 2 = (r + q) / 2 := Int.tdiv_eq_ediv_of_nonneg (by omega)
    have e4 : wrap64 ((r + q) / 2) = (r + q) / 2 := w64 _ (by omega)
    have step : ∀ k, num_Root.l0 (k + 1) n r = if (r + q) / 2 ≥ r then some r else num_Root.l0 k n ((r + q) / 2) := by
      intro k
      rw [num_Root.l0, if_neg (by omega), eq, e1, e2, e3, e4]
    clear e1 e2 e3 e4 eq
    by_cases c : (r + q) / 2 ≥ r
    · refine ⟨1, r, by rw [step, if_pos c], by omega, ?_, hn⟩
      have := Int.mul_le_mul_of_nonneg_right (show r ≤ q by omega) (show 0 ≤ r by omega)
      omega
    · obtain ⟨m, em⟩ : ∃ m, (r + q) / 2 = m - 1 := ⟨(r + q) / 2 + 1, by omega⟩
      have k1 : (q + 1) * r ≤ (2 * m - r) * r := Int.mul_le_mul_of_nonneg_right (by omega) (by omega)
      have k2 : 0 ≤ (m - r) * (m - r) := by
        rcases Int.le_total 0 (m - r) with z | z
        · exact Int.mul_nonneg z z
        · have := Int.mul_nonneg (show 0 ≤ -(m - r) by omega) (show 0 ≤ -(m - r) by omega); rwa [Int.neg_mul_neg] at this
      have k3 : (m - r) * (m - r) = m * m - 2 * (m * r) + r * r := by
        rw [Int.sub_mul, Int.mul_sub, Int.mul_sub, Int.mul_comm r m]; omega
      have k4 : (2 * m - r) * r = 2 * (m * r) - r * r := by rw [Int.sub_mul, Int.mul_assoc]
      have hlt : n < m * m := by omega
      have hm1 : 1 ≤ m - 1 := by
        rcases Int.lt_or_le (m - 1) 1 with z | z
        · exfalso
          have r1 : r = 1 := by omega
          have q1' : q = 0 := by omega
          subst r1 q1'
          omega
        · exact z
      obtain ⟨k, s, hs, hi⟩ := ih (m - 1) (by omega) hm1 (by omega) (by rw [show m - 1 + 1 = m by omega]; exact hlt)
      exact ⟨k + 1, s, by rw [step, if_neg c, em]; exact hs, hi⟩
theorem pow_le_int {a b : Nat} (h : a ≤ b) : ((2 ^ a : Nat) : Int) ≤ ((2 ^ b : Nat) : Int) := Int.ofNat_le.mpr (Nat.pow_le_pow_right (by decide) h)
theorem root_eq (n : Int) (h1 : 1 ≤ n) (h2 : n ≤ 4611686018427387904) : ∃ k s, num_Root.f k n = some s ∧ IsRoot n s := by
  obtain ⟨L, eL, hL, hl⟩ := len_eq 0 n (by omega) (by omega)
  have hh : (L + 1) / 2 ≤ 32 := by omega
  have b := pow_le_int hh
  rw [show ((2 ^ 32 : Nat) : Int) = 4294967296 from by decide] at b
  have bp : 1 ≤ ((2 ^ ((L + 1) / 2) : Nat) : Int) := Int.ofNat_le.mpr (Nat.two_pow_pos ((L + 1) / 2))
  have es : shl .i64 1 (((L + 1) / 2 : Nat) : Int) = ((2 ^ ((L + 1) / 2) : Nat) : Int) := by
    unfold shl
    rw [Int.toNat_natCast, Nat.min_eq_left (show (L + 1) / 2 ≤ IntKind.bits .i64 by show _ ≤ 64; omega), Int.one_mul, i64_w]
    rw [show (2 : Int) ^ ((L + 1) / 2) = ((2 ^ ((L + 1) / 2) : Nat) : Int) by rw [Int.natCast_pow]; rfl]
    exact w64 _ (by omega)
  have g : ((2 ^ L : Nat) : Int) ≤ ((2 ^ ((L + 1) / 2) : Nat) : Int) * ((2 ^ ((L + 1) / 2) : Nat) : Int) := by
    rw [← Int.natCast_mul, ← Nat.pow_add]
    exact pow_le_int (by omega)
  have hn : n < (((2 ^ ((L + 1) / 2) : Nat) : Int) + 1) * (((2 ^ ((L + 1) / 2) : Nat) : Int) + 1) := by
    generalize ((2 ^ ((L + 1) / 2) : Nat) : Int) = p at *
    have := Int.mul_le_mul (show p ≤ p + 1 by omega) (show p ≤ p + 1 by omega) (by omega) (by omega)
    omega
  obtain ⟨k, s, hs, hi⟩ := newton n h1 h2 (((2 ^ ((L + 1) / 2) : Nat) : Int)).toNat ((2 ^ ((L + 1) / 2) : Nat) : Int) (Nat.le_refl _) bp b hn
  refine ⟨k + 2, s, ?_, hi⟩
  unfold num_Root.f
  have e2 : wrap64 ((L : Int) + 1) = ((L + 1 : Nat) : Int) := by rw [w64 _ (by omega)]; omega
  have e3 : wrap64 (Int.tdiv ((L + 1 : Nat) : Int) 2) = (((L + 1) / 2 : Nat) : Int) := by
    rw [Int.tdiv_eq_ediv_of_nonneg (by omega), w64 _ (by omega)]; omega
  have eL' : bits_Len64.f (k + 1) n = some (L : Int) := up_ (f := fun k => bits_Len64.f k n) (fun k => bits_Len64.mono n k) (k + 1) (by omega) eL
  rw [if_neg (by omega), decide_eq_false (by omega), num_Root.j0, if_neg (by decide), wU n (by omega), eL', Option.bind_some, e2, e3, if_pos (by omega), es]
  exact up_ (f := fun k => num_Root.l0 k n _) (fun k => (num_Root.mono_l k).2 n _) (k + 1) (by omega) hs

/-! ### the law NumTells -/
theorem awake_k : chainmanlaw01_awake.f 31 = some true := by decide +kernel
theorem awake_up (K : Nat) (h : 31 ≤ K) : chainmanlaw01_awake.f K = some true := up_ chainmanlaw01_awake.mono K h awake_k
theorem div_bounds (a b : Int) (ha : -9223372036854775808 ≤ a ∧ a ≤ 9223372036854775807) (hb : 1 ≤ b) :
    -9223372036854775808 ≤ Int.tdiv a b ∧ Int.tdiv a b ≤ 9223372036854775807 ∧ Int.tdiv a b * b + Int.tmod a b = a ∧ -b < Int.tmod a b ∧ Int.tmod a b < b ∧ (0 ≤ a → 0 ≤ Int.tmod a b) ∧ (Int.tmod a b < 0 → -9223372036854775808 < Int.tdiv a b) := by
  have e := Int.tdiv_mul_add_tmod a b
  have h1 : (Int.tdiv a b).natAbs ≤ a.natAbs := by rw [Int.natAbs_tdiv]; exact Nat.div_le_self _ _
  have hm : 0 ≤ a → Int.tdiv a b ≥ 0 := fun h => Int.tdiv_nonneg h (by omega)
  have hs : (0 ≤ a → 0 ≤ Int.tmod a b) := fun h => Int.tmod_nonneg b h
  have l1 := Int.lt_tmod_of_pos a (show 0 < b by omega)
  have l2 := Int.tmod_lt_of_pos a (show 0 < b by omega)
  refine ⟨by omega, ?_, e, by omega, l2, hs, ?_⟩
  · rcases Int.lt_or_le a 0 with h | h
    · have : Int.tdiv a b ≤ 0 := by
        have := Int.tdiv_nonneg (show 0 ≤ -a by omega) (show 0 ≤ b by omega)
        rw [Int.neg_tdiv] at this; omega
      omega
    · omega
  · intro hr
    rcases Int.lt_or_le (-9223372036854775808) (Int.tdiv a b) with z | z
    · exact z
    · exfalso
      have ez : Int.tdiv a b = -9223372036854775808 := by omega
      rw [ez] at e
      omega
theorem floor_eq (a b : Int) (ha : -9223372036854775808 ≤ a ∧ a ≤ 9223372036854775807) (hb : 1 ≤ b) :
    num_Floor.f a b = some (if Int.tmod a b < 0 then Int.tdiv a b - 1 else Int.tdiv a b) ∧ chainmanref01_Floor.f a b = some (if Int.tmod a b < 0 then Int.tdiv a b - 1 else Int.tdiv a b) := by
  obtain ⟨h1, h2, e, h3, h4, h5, h6⟩ := div_bounds a b ha hb
  unfold num_Floor.f chainmanref01_Floor.f
  have hn1 : ¬ b < 1 := by omega
  have hn0 : ¬ b = 0 := by omega
  have hz : Int.tmod a b < 0 → a < 0 := fun h => by rcases Int.lt_or_le a 0 with z | z; exact z; have := h5 z; omega
  have hlow : -9223372036854775808 ≤ Int.tdiv a b * b := by
    rcases Int.lt_or_le (Int.tmod a b) 0 with z | z
    · omega
    · rcases Int.lt_or_le a 0 with y | y
      · by_cases hq : Int.tmod a b = 0
        · omega
        · exfalso
          have := Int.tmod_nonneg b (show 0 ≤ -a by omega)
          rw [Int.neg_tmod] at this; omega
      · have := Int.mul_nonneg (Int.tdiv_nonneg y (show 0 ≤ b by omega)) (show 0 ≤ b by omega); omega
  have hup : a < 0 → Int.tdiv a b * b ≤ 0 := by
    intro h
    have := Int.mul_nonneg (Int.tdiv_nonneg (show 0 ≤ -a by omega) (show 0 ≤ b by omega)) (show 0 ≤ b by omega)
    rw [Int.neg_tdiv, Int.neg_mul] at this; omega
  generalize hQ : Int.tdiv a b = q at *
  generalize hR : Int.tmod a b = r at *
  have hP : wrap64 (q * b) = q * b := by
    refine w64 _ ⟨hlow, ?_⟩
    rcases Int.lt_or_le r 0 with z | z
    · have := hup (hz z); omega
    · omega
  have hq : wrap64 q = q := w64 q ⟨h1, h2⟩
  simp only [if_neg hn1, if_neg hn0, hq, hP]
  by_cases h : r < 0
  · rw [if_pos h, if_pos h, if_pos (by omega), w64 (q - 1) (by have := h6 h; omega)]
    exact ⟨rfl, rfl⟩
  · rw [if_neg h, if_neg h, if_neg (by omega)]
    exact ⟨rfl, rfl⟩
theorem ceil_tell (k : Nat) (a b : Int) (ha : -9223372036854775808 ≤ a ∧ a ≤ 9223372036854775807) (hbm : b ≤ 9223372036854775807) : ∃ c, num_Ceil.f (k + 1) a b = some c ∧ chainmanref01_Ceil.f a b = some c := by
  unfold num_Ceil.f chainmanref01_Ceil.f
  have hj : num_Ceil.j0 (k + 1) a b true = some 0 := by rw [num_Ceil.j0, if_pos rfl]
  by_cases c1 : b < 1
  · rw [if_pos c1, if_pos c1, hj]; exact ⟨0, rfl, rfl⟩
  rw [if_neg c1, if_neg c1]
  by_cases c2 : a < -4611686018427387904
  · rw [if_pos c2, if_pos c2, hj]; exact ⟨0, rfl, rfl⟩
  rw [if_neg c2, if_neg c2]
  by_cases c3 : a > 4611686018427387904
  · rw [decide_eq_true c3, if_pos c3, hj]; exact ⟨0, rfl, rfl⟩
  rw [decide_eq_false c3, if_neg c3, num_Ceil.j0, if_neg (by decide), w64 (-a) (by omega)]
  have f1 := (floor_eq a b ha (by omega)).1
  have f2 := (floor_eq (-a) b (by omega) (by omega)).2
  obtain ⟨h1, h2, e, h3, h4, h5, h6⟩ := div_bounds a b ha (by omega)
  have hq : (Int.tdiv a b).natAbs ≤ a.natAbs := by rw [Int.natAbs_tdiv]; exact Nat.div_le_self _ _
  rw [Int.neg_tdiv, Int.neg_tmod] at f2
  rw [f1, f2, Option.bind_some, Option.bind_some]
  have hr : num_Rest.f a b = some (if Int.tmod a b < 0 then Int.tmod a b + b else Int.tmod a b) := by
    unfold num_Rest.f
    rw [if_neg c1, if_neg (by omega)]
    by_cases h : Int.tmod a b < 0
    · rw [if_pos h, if_pos h, w64 _ (by omega)]
    · rw [if_neg h, if_neg h]
  rw [hr, Option.bind_some]
  clear f1 f2 hr hj
  generalize Int.tdiv a b = q at *
  generalize Int.tmod a b = r at *
  clear e
  rcases Int.lt_trichotomy r 0 with z | z | z
  · refine ⟨q, ?_, ?_⟩
    · rw [if_pos z, if_pos z, if_pos (by omega : r + b > 0), w64 _ (by omega)]
      congr 1; omega
    · rw [if_neg (by omega), w64 _ (by omega)]
      congr 1; omega
  · have z1 : ¬ r < 0 := by omega
    have z2 : ¬ -r < 0 := by omega
    have z3 : ¬ r > 0 := by omega
    refine ⟨q, ?_, ?_⟩
    · rw [if_neg z1, if_neg z1, if_neg z3]
    · rw [if_neg z2, w64 _ (by omega)]
      congr 1; omega
  · refine ⟨q + 1, ?_, ?_⟩
    · have z1 : ¬ r < 0 := by omega
      rw [if_neg z1, if_neg z1, if_pos (show r > 0 from z), w64 _ (by omega)]
    · rw [if_pos (by omega), w64 _ (by omega)]
      congr 1; omega
theorem fr_tell (a b : Int) (ha : -9223372036854775808 ≤ a ∧ a ≤ 9223372036854775807) (hb : b ≤ 9223372036854775807) : ∃ f r, num_Floor.f a b = some f ∧ chainmanref01_Floor.f a b = some f ∧ num_Rest.f a b = some r ∧ chainmanref01_Rest.f a b = some r := by
  by_cases c1 : b < 1
  · unfold num_Floor.f chainmanref01_Floor.f num_Rest.f chainmanref01_Rest.f
    simp only [if_pos c1]
    exact ⟨0, 0, rfl, rfl, rfl, rfl⟩
  · obtain ⟨f1, f2⟩ := floor_eq a b ha (by omega)
    have hr : ∃ r, num_Rest.f a b = some r := by
      unfold num_Rest.f
      rw [if_neg c1, if_neg (by omega)]
      split
      · exact ⟨_, rfl⟩
      · exact ⟨_, rfl⟩
    obtain ⟨r, hr⟩ := hr
    exact ⟨_, r, f1, f2, hr, hr⟩
theorem refadd (k : Nat) (a b c : Int) (ha : a ≤ 9223372036854775807) (hb : b ≤ 9223372036854775807) (hc : c ≤ 9223372036854775807) :
    chainmanref01_Add.f (k + 1) a b c = some (if 0 ≤ a ∧ 0 ≤ b ∧ 0 ≤ c then (if c < a + b then c else a + b) else 0) := by
  unfold chainmanref01_Add.f
  have hj : chainmanref01_Add.j0 (k + 1) a b c true = some 0 := by rw [chainmanref01_Add.j0, if_pos rfl]
  by_cases c1 : a < 0
  · rw [if_pos c1, hj, if_neg (by omega)]
  rw [if_neg c1]
  by_cases c2 : b < 0
  · rw [if_pos c2, hj, if_neg (by omega)]
  rw [if_neg c2]
  by_cases c3 : c < 0
  · rw [decide_eq_true c3, hj, if_neg (by omega)]
  rw [decide_eq_false c3, chainmanref01_Add.j0, if_neg (by decide), if_pos (show 0 ≤ a ∧ 0 ≤ b ∧ 0 ≤ c by omega), w64 (c - a) (by omega)]
  by_cases c4 : a > c
  · rw [if_pos c4, if_pos (by omega)]
  rw [if_neg c4]
  by_cases c5 : b > c - a
  · rw [if_pos c5, if_pos (by omega)]
  · rw [if_neg c5, if_neg (by omega), w64 _ (by omega)]
theorem refmul (k : Nat) (a b c : Int) (ha : a ≤ 9223372036854775807) (hb : b ≤ 9223372036854775807) (hc : c ≤ 9223372036854775807) :
    chainmanref01_Mul.f (k + 2) a b c = some (if 0 ≤ a ∧ 0 ≤ b ∧ 0 ≤ c then (if c < a * b then c else a * b) else 0) := by
  unfold chainmanref01_Mul.f
  have hj : chainmanref01_Mul.j0 (k + 2) a b c true = some 0 := by rw [chainmanref01_Mul.j0, if_pos rfl]
  have hj1 : chainmanref01_Mul.j1 (k + 1) a b c true = some 0 := by rw [chainmanref01_Mul.j1, if_pos rfl]
  by_cases c1 : a < 0
  · rw [if_pos c1, hj, if_neg (by omega)]
  rw [if_neg c1]
  by_cases c2 : b < 0
  · rw [if_pos c2, hj, if_neg (by omega)]
  rw [if_neg c2]
  by_cases c3 : c < 0
  · rw [decide_eq_true c3, hj, if_neg (by omega)]
  rw [decide_eq_false c3, chainmanref01_Mul.j0, if_neg (by decide), if_pos (show 0 ≤ a ∧ 0 ≤ b ∧ 0 ≤ c by omega)]
  by_cases c4 : a = 0
  · rw [if_pos c4, hj1]
    subst c4
    rw [Int.zero_mul, if_neg (by omega)]
  rw [if_neg c4]
  by_cases c5 : b = 0
  · subst c5
    rw [show ((0 : Int) == 0) = true from rfl, hj1, Int.mul_zero, if_neg (by omega)]
  rw [beq_false_of_ne c5, chainmanref01_Mul.j1, if_neg (by decide), if_neg c5]
  have e1 : Int.tdiv c b = c / b := Int.tdiv_eq_ediv_of_nonneg (by omega)
  have e2 : 0 ≤ c / b := Int.ediv_nonneg (by omega) (by omega)
  have e3 : c / b ≤ c := Int.ediv_le_self b (by omega)
  have e4 : c / b < a ↔ c < a * b := Int.ediv_lt_iff_lt_mul (by omega)
  have e5 : 0 ≤ a * b := Int.mul_nonneg (by omega) (by omega)
  rw [e1, w64 _ (by omega)]
  by_cases c6 : c < a * b
  · rw [if_pos c6, if_pos (e4.mpr c6)]
  · rw [if_neg c6, if_neg (fun h => c6 (e4.mp h)), w64 _ (by omega)]
theorem refroot_l0 (n : Int) (h2 : n ≤ 4611686018427387904) : ∀ (j k : Nat) (r : Int), j ≤ 32 → 0 ≤ r → r + ((2 ^ j : Nat) : Int) ≤ 4294967296 → r * r ≤ n → n < (r + ((2 ^ j : Nat) : Int)) * (r + ((2 ^ j : Nat) : Int)) → ∃ s, chainmanref01_Root.l0 (k + j + 1) n r ((j : Int) - 1) = some s ∧ IsRoot n s := by
  intro j
  induction j with
  | zero =>
    intro k r _ h0 _ h3 h4
    refine ⟨r, ?_, h0, h3, h4⟩
    rw [chainmanref01_Root.l0, if_neg (by omega)]
  | succ j ih =>
    intro k r hj h0 h1 h3 h4
    have e0 : ((j + 1 : Nat) : Int) - 1 = (j : Int) := by omega
    have es : shl .i64 1 (j : Int) = ((2 ^ j : Nat) : Int) := by
      unfold shl
      rw [Int.toNat_natCast, Nat.min_eq_left (show j ≤ IntKind.bits .i64 by show _ ≤ 64; omega), Int.one_mul, i64_w]
      rw [show (2 : Int) ^ j = ((2 ^ j : Nat) : Int) by rw [Int.natCast_pow]; rfl]
      have b := pow_le_int (show j ≤ 31 by omega)
      rw [show ((2 ^ 31 : Nat) : Int) = 2147483648 from by decide] at b
      have b1 : 1 ≤ ((2 ^ j : Nat) : Int) := Int.ofNat_le.mpr (Nat.two_pow_pos j)
      exact w64 _ (by omega)
    have ep : ((2 ^ (j + 1) : Nat) : Int) = 2 * ((2 ^ j : Nat) : Int) := by rw [Nat.pow_succ]; omega
    have b1 : 1 ≤ ((2 ^ j : Nat) : Int) := Int.ofNat_le.mpr (Nat.two_pow_pos j)
    rw [ep] at h1 h4
    have i1 := ih k r (by omega) h0 (by omega) h3
    have i2 := ih k (r + ((2 ^ j : Nat) : Int)) (by omega) (by omega) (by omega)
    have ew : wrap64 ((j : Int) - 1) = (j : Int) - 1 := w64 _ (by omega)
    rw [show k + (j + 1) + 1 = (k + j + 1) + 1 from by omega, chainmanref01_Root.l0, e0, if_pos (by omega), if_pos (by omega), es, ew]
    generalize ((2 ^ j : Nat) : Int) = p at *
    have e1 : wrap64 (r + p) = r + p := w64 _ (by omega)
    rw [e1]
    rcases Int.lt_or_le 2147483648 (r + p) with c | c
    · rw [if_neg (by omega)]
      refine i1 ?_
      have := Int.mul_le_mul (show 2147483649 ≤ r + p by omega) (show 2147483649 ≤ r + p by omega) (by omega) (by omega)
      omega
    · have m := Int.mul_le_mul c c (by omega) (by omega)
      have m0 := Int.mul_nonneg (show 0 ≤ r + p by omega) (show 0 ≤ r + p by omega)
      rw [if_pos c, w64 ((r + p) * (r + p)) (by omega)]
      by_cases d : (r + p) * (r + p) ≤ n
      · rw [if_pos d]
        exact i2 d (by rw [show r + p + p = r + 2 * p by omega]; exact h4)
      · rw [if_neg d]
        exact i1 (by omega)
theorem roots (n : Int) : ∃ k s, num_Root.f k n = some s ∧ chainmanref01_Root.f k n = some s := by
  by_cases c1 : n < 0
  · refine ⟨1, 0, ?_, ?_⟩
    · unfold num_Root.f; rw [if_pos (by omega), num_Root.j0, if_pos rfl]
    · unfold chainmanref01_Root.f; rw [if_pos c1, chainmanref01_Root.j0, if_pos rfl]
  by_cases c2 : n > 4611686018427387904
  · refine ⟨1, 0, ?_, ?_⟩
    · unfold num_Root.f; rw [if_neg (by omega), decide_eq_true c2, num_Root.j0, if_pos rfl]
    · unfold chainmanref01_Root.f; rw [if_neg c1, decide_eq_true c2, chainmanref01_Root.j0, if_pos rfl]
  have hroot : ∃ k s, num_Root.f k n = some s ∧ IsRoot n s := by
    by_cases h : n < 1
    · have e : n = 0 := by omega
      subst e
      exact ⟨1, 0, rfl, by decide, by decide, by decide⟩
    · exact root_eq n (by omega) (by omega)
  obtain ⟨k, s, hs, hi⟩ := hroot
  obtain ⟨t, ht, hti⟩ := refroot_l0 n (by omega) 32 0 0 (by decide) (by decide) (by decide) (by omega) (by
    have : ((0 : Int) + ((2 ^ 32 : Nat) : Int)) * (0 + ((2 ^ 32 : Nat) : Int)) = 18446744073709551616 := by decide
    rw [this]; omega)
  obtain rfl := hi.unique hti
  refine ⟨k + 34, s, up_ (f := fun k => num_Root.f k n) (fun k => num_Root.mono n k) _ (by omega) hs, ?_⟩
  unfold chainmanref01_Root.f
  rw [if_neg c1, decide_eq_false c2, chainmanref01_Root.j0, if_neg (by decide)]
  exact up_ (f := fun k => chainmanref01_Root.l0 k n 0 31) (fun k => (chainmanref01_Root.mono_l k).2 n _ _) (k + 33) (by omega) ht
theorem NumTells : chainmanlaw01_NumTells.Pure := by
  intro a b c wa wb wc
  have ha : -9223372036854775808 ≤ a ∧ a ≤ 9223372036854775807 := by simpa [Lit.wf, IntKind.min, IntKind.max, IntKind.signed, IntKind.bits] using wa
  have hb : -9223372036854775808 ≤ b ∧ b ≤ 9223372036854775807 := by simpa [Lit.wf, IntKind.min, IntKind.max, IntKind.signed, IntKind.bits] using wb
  have hc : -9223372036854775808 ≤ c ∧ c ≤ 9223372036854775807 := by simpa [Lit.wf, IntKind.min, IntKind.max, IntKind.signed, IntKind.bits] using wc
  obtain ⟨f, r, f1, f2, r1, r2⟩ := fr_tell a b ha hb.2
  obtain ⟨kr, s, s1, s2⟩ := roots a
  refine ⟨kr + 31, ?_⟩
  obtain ⟨d, d1, d2⟩ := ceil_tell (kr + 30) a b ha hb.2
  have hh := up_ (f := fun k => num_Hold.f k a b c) (fun k => num_Hold.mono a b c k) (kr + 31) (by omega) (hold_eq a b c)
  have hhr : chainmanref01_Hold.f a b c = some (if a < b then b else if c < a then c else a) := by
    unfold chainmanref01_Hold.f
    split
    · rfl
    · split
      · rfl
      · rfl
  have had := up_ (f := fun k => num_Add.f k a b c) (fun k => num_Add.mono a b c k) (kr + 31) (by omega) (add_eq a b c (by omega) (by omega) (by omega))
  have hmu := up_ (f := fun k => num_Mul.f k a b c) (fun k => num_Mul.mono a b c k) (kr + 31) (by omega) (mul_eq a b c (by omega) (by omega) (by omega))
  have hs := up_ (f := fun k => num_Root.f k a) (fun k => num_Root.mono a k) (kr + 31) (by omega) s1
  have hsr := up_ (f := fun k => chainmanref01_Root.f k a) (fun k => chainmanref01_Root.mono a k) (kr + 31) (by omega) s2
  unfold chainmanlaw01_NumTells.f
  rw [f1, Option.bind_some, f2, Option.bind_some, if_pos rfl, r1, Option.bind_some, r2, Option.bind_some, if_pos rfl, d1, Option.bind_some, d2, Option.bind_some, if_pos rfl]
  rw [hh, Option.bind_some, hhr, Option.bind_some, if_pos rfl, had, Option.bind_some, refadd (kr + 30) a b c (by omega) (by omega) (by omega), Option.bind_some, if_pos rfl]
  rw [hmu, Option.bind_some, refmul (kr + 29) a b c (by omega) (by omega) (by omega), Option.bind_some, if_pos rfl, hs, Option.bind_some, hsr, Option.bind_some, if_pos rfl, awake_up _ (by omega), Option.bind_some]

end Go.Proofs.Ytgpgekjhpkakbaa.Pure
