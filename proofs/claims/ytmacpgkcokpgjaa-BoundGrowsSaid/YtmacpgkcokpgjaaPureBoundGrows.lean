/- More records cost no less to sort, who has more left pays no more, and what it costs is at least 48 and at most 2^62 (the law BoundGrows). -/
import Derived.Test.YtmacpgkcokpgjaaPBoundGrowsx5
namespace Go.Proofs.Ytmacpgkcokpgjaa.Pure
open Go.RowKit Go.Proofs.Ytmacpgkcokpgjaa.PBoundGrows Go.Proofs.YtmacpgkcokpgjaaW.PrintWords Go.Proofs.YtmacpgkcokpgjaaW.PrintLast
set_option linter.unusedVariables false
set_option linter.unusedSimpArgs false
/-! ### what the package num computes -/
theorem w64 (n : Int) (h : -9223372036854775808 ≤ n ∧ n ≤ 9223372036854775807) : wrap64 n = n := by unfold wrap64; omega
theorem wU (n : Int) (h : 0 ≤ n ∧ n < 18446744073709551616) : IntKind.u64.wrap n = n := by
  simp only [IntKind.wrap, IntKind.bits, IntKind.signed, Bool.false_and]
  simp
  omega
theorem wUm (n : Int) : IntKind.u64.wrap n = n % 18446744073709551616 := by
  simp only [IntKind.wrap, IntKind.bits, IntKind.signed, Bool.false_and]
  simp
theorem up_ {α : Type} {f : Nat → Option α} (h : ∀ k, LeO (f k) (f (k + 1))) {r : α} {k : Nat} (K : Nat) (hk : k ≤ K) (e : f k = some r) : f K = some r := by
  induction K with
  | zero => obtain rfl : k = 0 := by omega
            exact e
  | succ K ih =>
    by_cases hq : k = K + 1
    · subst hq; exact e
    · exact h K _ (ih (by omega))
theorem natural_eq (a b c : Int) : num_natural.f 4 [a, b, c] = some (decide (0 ≤ a ∧ 0 ≤ b ∧ 0 ≤ c)) := by
  have e : num_least.f 4 0 [a, b, c] = some (mn (mn (mn 0 a) b) c) := by simp [num_least.f, num_least.l0, rd, wrap64]
  unfold num_natural.f
  rw [e, Option.bind_some]
  congr 1
  rw [Bool.eq_iff_iff, beq_iff_eq, decide_eq_true_iff]
  unfold mn
  repeat' split
  all_goals omega
theorem hold_eq (a b c : Int) : num_Hold.f 2 a b c = some (if a < b then b else if c < a then c else a) := by
  have e : num_least.f 2 a [c] = some (mn a c) := by simp [num_least.f, num_least.l0, rd, wrap64]
  unfold num_Hold.f
  rw [e, Option.bind_some]
  unfold mn
  split
  · rfl
  · rfl
/-! #### a product's two halves -/
theorem mask32 (n : Nat) (h : n < 18446744073709551616) : Go.bits .and .u64 (n : Int) 4294967295 = ((n % 4294967296 : Nat) : Int) := by
  have e : Go.bits .and .u64 (n : Int) 4294967295 = IntKind.u64.wrap (((BitVec.ofInt 64 (n : Int)) &&& (BitVec.ofInt 64 4294967295)).toNat : Int) := rfl
  have e2 : (BitVec.ofInt 64 4294967295).toNat = 2 ^ 32 - 1 := by decide
  have e3 : (BitVec.ofInt 64 (n : Int)).toNat = n := by rw [BitVec.ofInt_natCast, BitVec.toNat_ofNat]; omega
  rw [e, BitVec.toNat_and, e2, e3, Nat.and_two_pow_sub_one_eq_mod, wU _ (by omega)]
theorem mul64_eq (a b : Nat) (ha : a < 9223372036854775808) (hb : b < 9223372036854775808) :
    bits_Mul64.f (a : Int) (b : Int) = some (((a * b / 18446744073709551616 : Nat) : Int), ((a * b % 18446744073709551616 : Nat) : Int)) := by
  unfold bits_Mul64.f
  rw [mask32 a (by omega), mask32 b (by omega)]
  have e1 : (a : Int) / 4294967296 = ((a / 4294967296 : Nat) : Int) := by omega
  have e2 : (b : Int) / 4294967296 = ((b / 4294967296 : Nat) : Int) := by omega
  rw [e1, e2]
  have ea : a = a / 4294967296 * 4294967296 + a % 4294967296 := by omega
  have eb : b = b / 4294967296 * 4294967296 + b % 4294967296 := by omega
  have hah : a / 4294967296 ≤ 2147483647 := by omega
  have hbh : b / 4294967296 ≤ 2147483647 := by omega
  have hal : a % 4294967296 ≤ 4294967295 := by omega
  have hbl : b % 4294967296 ≤ 4294967295 := by omega
  generalize a / 4294967296 = x at *
  generalize a % 4294967296 = y at *
  generalize b / 4294967296 = u at *
  generalize b % 4294967296 = v at *
  have eP : a * b = (x * u) * 18446744073709551616 + (x * v + y * u) * 4294967296 + y * v := by
    rw [ea, eb]
    simp only [Nat.add_mul, Nat.mul_add]
    have i1 : x * 4294967296 * (u * 4294967296) = x * u * 18446744073709551616 := by
      rw [Nat.mul_mul_mul_comm]
    have i2 : x * 4294967296 * v = x * v * 4294967296 := by rw [Nat.mul_right_comm]
    have i3 : y * (u * 4294967296) = y * u * 4294967296 := by rw [Nat.mul_assoc]
    omega
  have b1 : x * u ≤ 2147483647 * 2147483647 := Nat.mul_le_mul hah hbh
  have b2 : x * v ≤ 2147483647 * 4294967295 := Nat.mul_le_mul hah hbl
  have b3 : y * u ≤ 4294967295 * 2147483647 := Nat.mul_le_mul hal hbh
  have b4 : y * v ≤ 4294967295 * 4294967295 := Nat.mul_le_mul hal hbl
  rw [← Int.natCast_mul, ← Int.natCast_mul, ← Int.natCast_mul, ← Int.natCast_mul, ← Int.natCast_mul, eP]
  clear eP ea eb e1 e2
  generalize x * u = p1 at *
  generalize x * v = p2 at *
  generalize y * u = p3 at *
  generalize y * v = p4 at *
  clear hah hbh hal hbl
  have t1 : IntKind.u64.wrap (p4 : Int) = (p4 : Int) := wU _ (by omega)
  have t2 : IntKind.u64.wrap (p2 : Int) = (p2 : Int) := wU _ (by omega)
  have t3 : IntKind.u64.wrap (p1 : Int) = (p1 : Int) := wU _ (by omega)
  have t4 : IntKind.u64.wrap (p3 : Int) = (p3 : Int) := wU _ (by omega)
  rw [t1, t2, t3, t4]
  have t5 : IntKind.u64.wrap ((p2 : Int) + (p4 : Int) / 4294967296) = ((p2 + p4 / 4294967296 : Nat) : Int) := by rw [wU _ (by omega)]; omega
  rw [t5, mask32 _ (by omega)]
  generalize hq : p2 + p4 / 4294967296 = q
  have t6 : IntKind.u64.wrap ((p1 : Int) + (q : Int) / 4294967296) = ((p1 + q / 4294967296 : Nat) : Int) := by rw [wU _ (by omega)]; omega
  have t7 : IntKind.u64.wrap (((q % 4294967296 : Nat) : Int) + (p3 : Int)) = ((q % 4294967296 + p3 : Nat) : Int) := by rw [wU _ (by omega)]; omega
  rw [t6, t7]
  generalize hr : q % 4294967296 + p3 = r
  have t8 : IntKind.u64.wrap (((p1 + q / 4294967296 : Nat) : Int) + (r : Int) / 4294967296) = ((p1 + q / 4294967296 + r / 4294967296 : Nat) : Int) := by rw [wU _ (by omega)]; omega
  rw [t8, wUm]
  congr 2
  · omega

theorem add_eq (a b c : Int) (ha : a ≤ 9223372036854775807) (hb : b ≤ 9223372036854775807) (hc : c ≤ 9223372036854775807) :
    num_Add.f 4 a b c = some (if 0 ≤ a ∧ 0 ≤ b ∧ 0 ≤ c then (if c < a + b then c else a + b) else 0) := by
  unfold num_Add.f
  rw [natural_eq, Option.bind_some]
  by_cases h : 0 ≤ a ∧ 0 ≤ b ∧ 0 ≤ c
  · obtain ⟨h1, h2, h3⟩ := h
    rw [if_pos (decide_eq_true ⟨h1, h2, h3⟩), if_pos (show 0 ≤ a ∧ 0 ≤ b ∧ 0 ≤ c from ⟨h1, h2, h3⟩), wU a (by omega), wU b (by omega), wU c (by omega)]
    unfold bits_Add64.f
    rw [if_pos (by omega), Option.bind_some]
    have e1 : (a + b + 0) / 18446744073709551616 = 0 := by omega
    have e2 : (a + b + 0) % 18446744073709551616 = a + b := by omega
    show (if (a + b + 0) / 18446744073709551616 > 0 then some c else if (a + b + 0) % 18446744073709551616 > c then some c else some (wrap64 ((a + b + 0) % 18446744073709551616))) = _
    rw [e1, e2, if_neg (by decide)]
    by_cases h4 : c < a + b
    · rw [if_pos h4, if_pos h4]
    · rw [if_neg h4, if_neg h4, w64 _ (by omega)]
  · rw [if_neg (by simpa using h), if_neg h]
theorem mul_eq (a b c : Int) (ha : a ≤ 9223372036854775807) (hb : b ≤ 9223372036854775807) (hc : c ≤ 9223372036854775807) :
    num_Mul.f 4 a b c = some (if 0 ≤ a ∧ 0 ≤ b ∧ 0 ≤ c then (if c < a * b then c else a * b) else 0) := by
  unfold num_Mul.f
  rw [natural_eq, Option.bind_some]
  by_cases h : 0 ≤ a ∧ 0 ≤ b ∧ 0 ≤ c
  · obtain ⟨h1, h2, h3⟩ := h
    rw [if_pos (decide_eq_true ⟨h1, h2, h3⟩), if_pos (show 0 ≤ a ∧ 0 ≤ b ∧ 0 ≤ c from ⟨h1, h2, h3⟩), wU a (by omega), wU b (by omega), wU c (by omega)]
    obtain ⟨x, rfl⟩ := Int.eq_ofNat_of_zero_le h1
    obtain ⟨y, rfl⟩ := Int.eq_ofNat_of_zero_le h2
    rw [mul64_eq x y (by omega) (by omega), Option.bind_some, ← Int.natCast_mul]
    show (if ((x * y / 18446744073709551616 : Nat) : Int) > 0 then some c else if ((x * y % 18446744073709551616 : Nat) : Int) > c then some c else some (wrap64 ((x * y % 18446744073709551616 : Nat) : Int))) = _
    generalize x * y = p
    by_cases h4 : ((p / 18446744073709551616 : Nat) : Int) > 0
    · rw [if_pos h4, if_pos (by omega)]
    · rw [if_neg h4]
      have e : ((p % 18446744073709551616 : Nat) : Int) = (p : Int) := by omega
      rw [e]
      by_cases h5 : c < (p : Int)
      · rw [if_pos h5, if_pos h5]
      · rw [if_neg h5, if_neg h5, w64 _ (by omega)]
  · rw [if_neg (by simpa using h), if_neg h]
/-! #### how long a number is -/

/-! #### how often all are written -/
theorem ceil_less (c f : Int) (hc : 1 < c) (hf : 2 ≤ f) : 1 ≤ (c + f - 1) / f ∧ (c + f - 1) / f < c := by
  have h1 : (c + f - 1) / f * f ≤ c + f - 1 := Int.ediv_mul_le _ (by omega)
  have h2 : c + f - 1 < ((c + f - 1) / f + 1) * f := Int.lt_ediv_add_one_mul_self _ (by omega)
  generalize (c + f - 1) / f = q at *
  have h3 : (1 : Int) * 1 ≤ (c - 1) * (f - 1) := Int.mul_le_mul (by omega) (by omega) (by omega) (by omega)
  rw [Int.sub_mul, Int.mul_sub] at h3
  constructor
  · rcases Int.lt_or_le 0 q with z | z
    · omega
    · have := Int.mul_le_mul_of_nonneg_right (show q + 1 ≤ 1 by omega) (show 0 ≤ f by omega)
      omega
  · rcases Int.lt_or_le q c with z | z
    · exact z
    · have := Int.mul_le_mul_of_nonneg_right z (show 0 ≤ f by omega)
      omega
theorem mxmn_ok (x : Int) : mn 64 x ≤ 64 := by unfold mn; split <;> omega
theorem xrounds (f : Int) (hf : 2 ≤ f) (hf2 : f ≤ 64) : ∀ (d : Nat) (c p : Int), c.toNat ≤ d → 1 ≤ p → p + c ≤ 4611686018427387904 → 0 ≤ c →
    ∃ k v, xsort_Passes.l0 k f p c = some v ∧ p ≤ v := by
  intro d
  induction d with
  | zero =>
    intro c p hd h1 h2 h0
    exact ⟨1, p, by rw [xsort_Passes.l0, if_neg (by omega)], Int.le_refl _⟩
  | succ d ih =>
    intro c p hd h1 h2 h0
    by_cases hc : c > 1
    · obtain ⟨q1, q2⟩ := ceil_less c f hc hf
      have e1 : wrap64 (c + f) = c + f := w64 _ (by omega)
      have e2 : wrap64 (c + f - 1) = c + f - 1 := w64 _ (by omega)
      have e3 : Int.tdiv (c + f - 1) f = (c + f - 1) / f := Int.tdiv_eq_ediv_of_nonneg (by omega)
      have e4 : wrap64 ((c + f - 1) / f) = (c + f - 1) / f := w64 _ (by omega)
      have e5 : wrap64 (p + 1) = p + 1 := w64 _ (by omega)
      obtain ⟨k, v, a1, a3⟩ := ih ((c + f - 1) / f) (p + 1) (by omega) (by omega) (by omega) (by omega)
      exact ⟨k + 1, v, by rw [xsort_Passes.l0, if_pos hc, if_neg (by omega), e1, e2, e3, e4, e5]; exact a1, by omega⟩
    · exact ⟨1, p, by rw [xsort_Passes.l0, if_neg hc], Int.le_refl _⟩
/-- Rounded up: of less, by more, no more. -/
theorem ceil_anti {c c' f f' : Int} (hc : c' ≤ c) (h0 : 0 ≤ c') (hf : f ≤ f') (h1 : 1 ≤ f) : 0 ≤ (c' + f' - 1) / f' ∧ (c' + f' - 1) / f' ≤ (c + f - 1) / f := by
  have h2 : c + f - 1 < ((c + f - 1) / f + 1) * f := Int.lt_ediv_add_one_mul_self _ (by omega)
  have h3 : 0 ≤ (c + f - 1) / f := Int.ediv_nonneg (by omega) (by omega)
  refine ⟨Int.ediv_nonneg (by omega) (by omega), ?_⟩
  generalize (c + f - 1) / f = q at *
  have h4 : q * f ≤ q * f' := Int.mul_le_mul_of_nonneg_left hf h3
  rw [Int.add_mul, Int.one_mul] at h2
  have h5 : (c' + f' - 1) / f' < q + 1 := Int.ediv_lt_of_lt_mul (by omega) (by rw [Int.add_mul, Int.one_mul]; omega)
  omega
theorem anti (f f' : Int) (hf : 2 ≤ f) (hff : f ≤ f') (hf2 : f' ≤ 64) : ∀ (k k' : Nat) (c c' p p' v v' : Int), xsort_Passes.l0 k f p c = some v → xsort_Passes.l0 k' f' p' c' = some v' →
    1 ≤ p' → p' ≤ p → 0 ≤ c' → c' ≤ c → p + c ≤ 4611686018427387904 → v' ≤ v := by
  intro k
  induction k with
  | zero => intro k' c c' p p' v v' h; simp [xsort_Passes.l0] at h
  | succ k ih =>
    intro k' c c' p p' v v' h h' h1 hp h0 hc hb
    cases k' with
    | zero => simp [xsort_Passes.l0] at h'
    | succ k' =>
      by_cases hc1 : c > 1
      · obtain ⟨q1, q2⟩ := ceil_less c f hc1 hf
        have e1 : wrap64 (c + f) = c + f := w64 _ (by omega)
        have e2 : wrap64 (c + f - 1) = c + f - 1 := w64 _ (by omega)
        have e3 : Int.tdiv (c + f - 1) f = (c + f - 1) / f := Int.tdiv_eq_ediv_of_nonneg (by omega)
        have e4 : wrap64 ((c + f - 1) / f) = (c + f - 1) / f := w64 _ (by omega)
        have e5 : wrap64 (p + 1) = p + 1 := w64 _ (by omega)
        rw [xsort_Passes.l0, if_pos hc1, if_neg (by omega), e1, e2, e3, e4, e5] at h
        by_cases hc2 : c' > 1
        · obtain ⟨r1, r2⟩ := ceil_less c' f' hc2 (by omega)
          obtain ⟨_, an⟩ := ceil_anti hc h0 hff (by omega)
          have d1 : wrap64 (c' + f') = c' + f' := w64 _ (by omega)
          have d2 : wrap64 (c' + f' - 1) = c' + f' - 1 := w64 _ (by omega)
          have d3 : Int.tdiv (c' + f' - 1) f' = (c' + f' - 1) / f' := Int.tdiv_eq_ediv_of_nonneg (by omega)
          have d4 : wrap64 ((c' + f' - 1) / f') = (c' + f' - 1) / f' := w64 _ (by omega)
          have d5 : wrap64 (p' + 1) = p' + 1 := w64 _ (by omega)
          rw [xsort_Passes.l0, if_pos hc2, if_neg (by omega), d1, d2, d3, d4, d5] at h'
          exact ih k' _ _ _ _ v v' h h' (by omega) (by omega) (by omega) an (by omega)
        · rw [xsort_Passes.l0, if_neg hc2] at h'
          obtain rfl := Option.some.inj h'
          obtain ⟨kk, u, hu, hpu⟩ := xrounds f hf (by omega) _ ((c + f - 1) / f) (p + 1) (Nat.le_refl _) (by omega) (by omega) (by omega)
          have g1 := up_ (f := fun k => xsort_Passes.l0 k f (p + 1) ((c + f - 1) / f)) (fun k => (xsort_Passes.mono_l k).2 _ _ _) (k + kk) (by omega) h
          have g2 := up_ (f := fun k => xsort_Passes.l0 k f (p + 1) ((c + f - 1) / f)) (fun k => (xsort_Passes.mono_l k).2 _ _ _) (k + kk) (by omega) hu
          have : v = u := Option.some.inj (g1.symm.trans g2)
          omega
      · have hc2 : ¬ c' > 1 := by omega
        rw [xsort_Passes.l0, if_neg hc1] at h
        rw [xsort_Passes.l0, if_neg hc2] at h'
        obtain rfl := Option.some.inj h
        obtain rfl := Option.some.inj h'
        exact hp
/-- The passes of a program that has so many left: its loop. -/
theorem xpasses_f (k : Nat) (n m : Int) (hn : 0 ≤ n ∧ n ≤ 1099511627776) (hm : 16 ≤ m ∧ m ≤ 1099511627776) :
    xsort_Passes.f (k + 1) n m = xsort_Passes.l0 k (mn 64 ((m - 4) / 4)) 1 ((n + (m - 8) - 1) / (m - 8)) := by
  have e1 : wrap64 (m - 8) = m - 8 := w64 _ (by omega)
  have e2 : wrap64 (m - 4) = m - 4 := w64 _ (by omega)
  have e3 : Int.tdiv (m - 4) 4 = (m - 4) / 4 := Int.tdiv_eq_ediv_of_nonneg (by omega)
  have e4 : wrap64 ((m - 4) / 4) = (m - 4) / 4 := w64 _ (by omega)
  have e5 : wrap64 (n + (m - 8)) = n + (m - 8) := w64 _ (by omega)
  have e6 : wrap64 (n + (m - 8) - 1) = n + (m - 8) - 1 := w64 _ (by omega)
  have e9 : Int.tdiv (n + (m - 8) - 1) (m - 8) = (n + (m - 8) - 1) / (m - 8) := Int.tdiv_eq_ediv_of_nonneg (by omega)
  have q0 : 0 ≤ (n + (m - 8) - 1) / (m - 8) := Int.ediv_nonneg (by omega) (by omega)
  have q1 : (n + (m - 8) - 1) / (m - 8) ≤ n + (m - 8) - 1 := Int.ediv_le_self _ (by omega)
  have e10 : wrap64 ((n + (m - 8) - 1) / (m - 8)) = (n + (m - 8) - 1) / (m - 8) := w64 _ (by omega)
  unfold xsort_Passes.f
  rw [if_neg (by omega), if_neg (by omega), if_neg (by omega), decide_eq_false (by omega), xsort_Passes.j0, if_neg (by decide)]
  unfold xsort_room.f
  rw [Option.bind_some]
  show (if wrap64 (m - 8) = 0 then none else xsort_Passes.l0 k (mn 64 (wrap64 (Int.tdiv (wrap64 (m - 4)) 4))) 1 (wrap64 (Int.tdiv (wrap64 (wrap64 (n + wrap64 (m - 8)) - 1)) (wrap64 (m - 8))))) = _
  rw [e1, if_neg (by omega), e2, e3, e4, e5, e6, e9, e10]
theorem xfan (m : Int) (hm : 16 ≤ m) : 2 ≤ mn 64 ((m - 4) / 4) ∧ mn 64 ((m - 4) / 4) ≤ 64 := by unfold mn; split <;> omega
theorem xcount (n m : Int) (hn : 0 ≤ n ∧ n ≤ 1099511627776) (hm : 16 ≤ m ∧ m ≤ 1099511627776) : 0 ≤ (n + (m - 8) - 1) / (m - 8) ∧ (n + (m - 8) - 1) / (m - 8) ≤ 2199023255552 := by
  have q0 : 0 ≤ (n + (m - 8) - 1) / (m - 8) := Int.ediv_nonneg (by omega) (by omega)
  have q1 : (n + (m - 8) - 1) / (m - 8) ≤ n + (m - 8) - 1 := Int.ediv_le_self _ (by omega)
  omega
theorem xpasses (n m : Int) (hn : 0 ≤ n ∧ n ≤ 1099511627776) (hm : 16 ≤ m ∧ m ≤ 1099511627776) : ∃ k v, xsort_Passes.f k n m = some v ∧ 1 ≤ v := by
  have hF := xfan m hm.1
  have hc := xcount n m hn hm
  obtain ⟨k, v, a1, a3⟩ := xrounds (mn 64 ((m - 4) / 4)) hF.1 hF.2 _ ((n + (m - 8) - 1) / (m - 8)) 1 (Nat.le_refl _) (Int.le_refl _) (by omega) hc.1
  exact ⟨k + 1, v, by rw [xpasses_f k n m hn hm]; exact a1, a3⟩
/-- Who has more left writes no more often. -/
theorem xpasses_anti {n m m' v v' : Int} {k k' : Nat} (hn : 0 ≤ n ∧ n ≤ 1099511627776) (hm : 16 ≤ m) (hmm : m ≤ m') (hm2 : m' ≤ 1099511627776) (h : xsort_Passes.f k n m = some v) (h' : xsort_Passes.f k' n m' = some v') : v' ≤ v := by
  have g := up_ (f := fun k => xsort_Passes.f k n m) (fun k => xsort_Passes.mono n m k) (k + 1) (by omega) h
  have g' := up_ (f := fun k => xsort_Passes.f k n m') (fun k => xsort_Passes.mono n m' k) (k' + 1) (by omega) h'
  have g1 : xsort_Passes.f (k + 1) n m = some v := g
  have g2 : xsort_Passes.f (k' + 1) n m' = some v' := g'
  rw [xpasses_f k n m hn (by omega)] at g1
  rw [xpasses_f k' n m' hn (by omega)] at g2
  have c1 := xcount n m hn (by omega)
  have c2 := xcount n m' hn (by omega)
  have an := ceil_anti (c := n) (c' := n) (f := m - 8) (f' := m' - 8) (Int.le_refl _) hn.1 (by omega) (by omega)
  refine anti (mn 64 ((m - 4) / 4)) (mn 64 ((m' - 4) / 4)) (xfan m hm).1 ?_ (xfan m' (by omega)).2 k k' _ _ 1 1 v v' g1 g2 (Int.le_refl _) (Int.le_refl _) an.1 an.2 (by omega)
  unfold mn
  split <;> split <;> omega

/-! ### costs: sums and products up to a bound -/
def satN (x : Nat) : Nat := if 4611686018427387904 < x then 4611686018427387904 else x
theorem satN_le (x : Nat) : satN x ≤ 4611686018427387904 := by unfold satN; split <;> omega
theorem satN_self (x : Nat) (h : x ≤ 4611686018427387904) : satN x = x := by unfold satN; rw [if_neg (by omega)]
theorem satN_add_right (a b : Nat) : satN (a + satN b) = satN (a + b) := by unfold satN; split <;> split <;> (try split) <;> omega
theorem satN_add_left (a b : Nat) : satN (satN a + b) = satN (a + b) := by rw [Nat.add_comm, satN_add_right, Nat.add_comm]
theorem satN_satN (a : Nat) : satN (satN a) = satN a := satN_self _ (satN_le _)
theorem satN_mul_right (a b : Nat) : satN (a * satN b) = satN (a * b) := by
  by_cases h : 4611686018427387904 < b
  · have e : satN b = 4611686018427387904 := by unfold satN; rw [if_pos h]
    rw [e]
    rcases Nat.eq_zero_or_pos a with z | z
    · subst z; simp
    · have h1 := Nat.le_mul_of_pos_left 4611686018427387904 z
      have h2 := Nat.le_mul_of_pos_left b z
      unfold satN
      split <;> split <;> omega
  · rw [satN_self b (by omega)]
theorem satN_mul_left (a b : Nat) : satN (satN a * b) = satN (a * b) := by rw [Nat.mul_comm, satN_mul_right, Nat.mul_comm]
theorem satN_mono {a b : Nat} (h : a ≤ b) : satN a ≤ satN b := by unfold satN; split <;> split <;> omega
theorem add_ev (a b : Nat) (ha : a ≤ 4611686018427387904) (hb : b ≤ 4611686018427387904) : Ev (fun k => num_Add.f k a b 4611686018427387904) ((satN (a + b) : Nat) : Int) := by
  refine Ev.of (fun k => num_Add.mono _ _ _ k) (k := 4) ?_
  rw [add_eq a b 4611686018427387904 (by omega) (by omega) (by omega), if_pos (by omega)]
  unfold satN
  congr 1
  split <;> split <;> omega
theorem mul_ev (a b : Nat) (ha : a ≤ 4611686018427387904) (hb : b ≤ 4611686018427387904) : Ev (fun k => num_Mul.f k a b 4611686018427387904) ((satN (a * b) : Nat) : Int) := by
  refine Ev.of (fun k => num_Mul.mono _ _ _ k) (k := 4) ?_
  rw [mul_eq a b 4611686018427387904 (by omega) (by omega) (by omega), if_pos (by omega), ← Int.natCast_mul]
  unfold satN
  congr 1
  generalize a * b = p
  split <;> split <;> omega
def totA : Nat → List Nat → Nat
  | a, [] => a
  | a, x :: l => totA (a + x) l
def prdA : Nat → List Nat → Nat
  | a, [] => a
  | a, x :: l => prdA (a * x) l
def ints (l : List Nat) : List Int := l.map (fun (x : Nat) => ((x : Nat) : Int))
theorem ints_len (l : List Nat) : (ints l).length = l.length := by simp [ints]
theorem rd_ints (l : List Nat) (i : Nat) (h : i < l.length) : rd (ints l) (i : Int) = (l[i] : Int) := by
  show (ints l).getD (i : Int).toNat 0 = _
  rw [Int.toNat_natCast, List.getD_eq_getElem?_getD, List.getElem?_eq_getElem (by rw [ints_len]; exact h)]
  simp [ints]
theorem sum_loop (l : List Nat) (hl : ∀ x ∈ l, x ≤ 4611686018427387904) (hn : l.length < 1000) : ∀ (d i : Nat), i + d = l.length → ∀ acc : Nat,
    Ev (fun k => bound_sum.l0 k ((satN acc : Nat) : Int) (ints l) (l.length : Int) (i : Int)) ((satN (totA acc (l.drop i)) : Nat) : Int) := by
  intro d
  induction d with
  | zero =>
    intro i hi acc
    refine Ev.step (f := fun _ => some ((satN acc : Nat) : Int)) (fun k => ?_) ?_
    · rw [bound_sum.l0, if_neg (by omega)]
    · rw [List.drop_eq_nil_of_le (by omega)]
      exact Ev.now _
  | succ d ih =>
    intro i hi acc
    have hlt : i < l.length := by omega
    refine Ev.step (f := fun k => (num_Add.f k ((satN acc : Nat) : Int) (l[i] : Int) 4611686018427387904).bind fun t => bound_sum.l0 k t (ints l) (l.length : Int) ((i + 1 : Nat) : Int)) (fun k => ?_) ?_
    · have e : wrap64 ((i : Int) + 1) = ((i + 1 : Nat) : Int) := by rw [w64 _ (by omega)]; omega
      rw [bound_sum.l0, if_pos (by omega), if_pos (by omega), if_pos (by rw [ints_len]; omega), rd_ints l i hlt, e]
    · refine Ev.bind (add_ev (satN acc) l[i] (satN_le _) (hl _ (List.getElem_mem hlt))) ?_
      have := ih (i + 1) (by omega) (acc + l[i])
      rw [List.drop_eq_getElem_cons hlt, totA]
      rw [satN_add_left]
      exact this
theorem sum_ev (l : List Nat) (hl : ∀ x ∈ l, x ≤ 4611686018427387904) (hn : l.length < 1000) : Ev (fun k => bound_sum.f k (ints l)) ((satN (totA 0 l) : Nat) : Int) := by
  have := sum_loop l hl hn l.length 0 (by omega) 0
  simp only [List.drop_zero] at this
  refine Ev.congr (fun k => ?_) this
  unfold bound_sum.f
  rw [ints_len]
  rfl
theorem prd_loop (l : List Nat) (hl : ∀ x ∈ l, x ≤ 4611686018427387904) (hn : l.length < 1000) : ∀ (d i : Nat), i + d = l.length → ∀ acc : Nat,
    Ev (fun k => bound_product.l0 k ((satN acc : Nat) : Int) (ints l) (l.length : Int) (i : Int)) ((satN (prdA acc (l.drop i)) : Nat) : Int) := by
  intro d
  induction d with
  | zero =>
    intro i hi acc
    refine Ev.step (f := fun _ => some ((satN acc : Nat) : Int)) (fun k => ?_) ?_
    · rw [bound_product.l0, if_neg (by omega)]
    · rw [List.drop_eq_nil_of_le (by omega)]
      exact Ev.now _
  | succ d ih =>
    intro i hi acc
    have hlt : i < l.length := by omega
    refine Ev.step (f := fun k => (num_Mul.f k ((satN acc : Nat) : Int) (l[i] : Int) 4611686018427387904).bind fun t => bound_product.l0 k t (ints l) (l.length : Int) ((i + 1 : Nat) : Int)) (fun k => ?_) ?_
    · have e : wrap64 ((i : Int) + 1) = ((i + 1 : Nat) : Int) := by rw [w64 _ (by omega)]; omega
      rw [bound_product.l0, if_pos (by omega), if_pos (by omega), if_pos (by rw [ints_len]; omega), rd_ints l i hlt, e]
    · refine Ev.bind (mul_ev (satN acc) l[i] (satN_le _) (hl _ (List.getElem_mem hlt))) ?_
      have := ih (i + 1) (by omega) (acc * l[i])
      rw [List.drop_eq_getElem_cons hlt, prdA]
      rw [satN_mul_left]
      exact this
theorem product_ev (l : List Nat) (hl : ∀ x ∈ l, x ≤ 4611686018427387904) (hn : l.length < 1000) : Ev (fun k => bound_product.f k (ints l)) ((satN (prdA 1 l) : Nat) : Int) := by
  have := prd_loop l hl hn l.length 0 (by omega) 1
  simp only [List.drop_zero] at this
  refine Ev.congr (fun k => ?_) this
  unfold bound_product.f
  rw [ints_len]
  rfl
def mayB (l : List Int) (m : Int) : Bool := l.all (fun x => decide (0 ≤ x ∧ x ≤ 1099511627776)) && decide (16 ≤ m ∧ m ≤ 1099511627776)
theorem may_loop (m : Int) (l : List Int) (hn : l.length < 1000) : ∀ (d i : Nat), i + d = l.length → Ev (fun k => bound_may.l0 k m l (l.length : Int) (i : Int)) (mayB (l.drop i) m) := by
  intro d
  induction d with
  | zero =>
    intro i hi
    refine Ev.step (f := fun _ => some (mayB (l.drop i) m)) (fun k => ?_) (Ev.now _)
    rw [bound_may.l0, if_neg (by omega), List.drop_eq_nil_of_le (by omega)]
    unfold mayB
    by_cases c : 16 ≤ m
    · rw [if_pos c]; simp [c]
    · rw [if_neg c]; simp [c]
  | succ d ih =>
    intro i hi
    have hlt : i < l.length := by omega
    have e : wrap64 ((i : Int) + 1) = ((i + 1 : Nat) : Int) := by rw [w64 _ (by omega)]; omega
    have er : rd l (i : Int) = l[i] := by
      show l.getD (i : Int).toNat 0 = _
      rw [Int.toNat_natCast, List.getD_eq_getElem?_getD, List.getElem?_eq_getElem hlt]
      rfl
    have hd : mayB (l.drop i) m = (decide (0 ≤ l[i] ∧ l[i] ≤ 1099511627776) && mayB (l.drop (i + 1)) m) := by
      rw [List.drop_eq_getElem_cons hlt]
      unfold mayB
      rw [List.all_cons, Bool.and_assoc]
    by_cases c1 : l[i] < 0
    · refine Ev.step (f := fun _ => some (mayB (l.drop i) m)) (fun k => ?_) (Ev.now _)
      rw [bound_may.l0, if_pos (by omega), if_pos (by omega), if_pos (by omega), er, if_pos c1, hd, decide_eq_false (by omega), Bool.false_and]
    · by_cases c2 : l[i] > 1099511627776
      · refine Ev.step (f := fun _ => some (mayB (l.drop i) m)) (fun k => ?_) (Ev.now _)
        rw [bound_may.l0, if_pos (by omega), if_pos (by omega), if_pos (by omega), er, if_neg c1, if_pos c2, hd, decide_eq_false (by omega), Bool.false_and]
      · refine Ev.step (fun k => ?_) (by rw [hd, decide_eq_true (by omega), Bool.true_and]; exact ih (i + 1) (by omega))
        rw [bound_may.l0, if_pos (by omega), if_pos (by omega), if_pos (by omega), er, if_neg c1, if_neg c2, e]
theorem may_ev (m : Int) (l : List Int) (hn : l.length < 1000) : Ev (fun k => bound_may.f k m l) (mayB l m) := may_loop m l hn l.length 0 (by omega)

/-! #### what it costs to sort -/
theorem xupper (f : Int) (hf : 2 ≤ f) (hf2 : f ≤ 64) : ∀ (k : Nat) (c p v : Int), xsort_Passes.l0 k f p c = some v → 1 ≤ p → 0 ≤ c → p + c ≤ 4611686018427387904 → v ≤ p + c := by
  intro k
  induction k with
  | zero => intro c p v h; simp [xsort_Passes.l0] at h
  | succ k ih =>
    intro c p v h h1 h0 hb
    by_cases hc : c > 1
    · obtain ⟨q1, q2⟩ := ceil_less c f hc hf
      have e1 : wrap64 (c + f) = c + f := w64 _ (by omega)
      have e2 : wrap64 (c + f - 1) = c + f - 1 := w64 _ (by omega)
      have e3 : Int.tdiv (c + f - 1) f = (c + f - 1) / f := Int.tdiv_eq_ediv_of_nonneg (by omega)
      have e4 : wrap64 ((c + f - 1) / f) = (c + f - 1) / f := w64 _ (by omega)
      have e5 : wrap64 (p + 1) = p + 1 := w64 _ (by omega)
      rw [xsort_Passes.l0, if_pos hc, if_neg (by omega), e1, e2, e3, e4, e5] at h
      have := ih _ _ _ h (by omega) (by omega) (by omega)
      omega
    · rw [xsort_Passes.l0, if_neg hc] at h
      obtain rfl := Option.some.inj h
      omega
/-- Who has fewer records, and more left, writes no more often. -/
theorem xpasses_anti2 {n n' m m' v v' : Int} {k k' : Nat} (hn : 0 ≤ n ∧ n ≤ 1099511627776) (hn' : 0 ≤ n' ∧ n' ≤ n) (hm : 16 ≤ m) (hmm : m ≤ m') (hm2 : m' ≤ 1099511627776) (h : xsort_Passes.f k n m = some v) (h' : xsort_Passes.f k' n' m' = some v') : v' ≤ v := by
  have g := up_ (f := fun k => xsort_Passes.f k n m) (fun k => xsort_Passes.mono n m k) (k + 1) (by omega) h
  have g' := up_ (f := fun k => xsort_Passes.f k n' m') (fun k => xsort_Passes.mono n' m' k) (k' + 1) (by omega) h'
  have g1 : xsort_Passes.f (k + 1) n m = some v := g
  have g2 : xsort_Passes.f (k' + 1) n' m' = some v' := g'
  rw [xpasses_f k n m hn (by omega)] at g1
  rw [xpasses_f k' n' m' (by omega) (by omega)] at g2
  have c1 := xcount n m hn (by omega)
  have an := ceil_anti (c := n) (c' := n') (f := m - 8) (f' := m' - 8) hn'.2 hn'.1 (by omega) (by omega)
  refine anti (mn 64 ((m - 4) / 4)) (mn 64 ((m' - 4) / 4)) (xfan m hm).1 ?_ (xfan m' (by omega)).2 k k' _ _ 1 1 v v' g1 g2 (Int.le_refl _) (Int.le_refl _) an.1 an.2 (by omega)
  unfold mn
  split <;> split <;> omega
theorem xpass_ev (r m : Nat) (hr : r ≤ 1099511627776) (hm : 16 ≤ m ∧ m ≤ 1099511627776) : ∃ (k v : Nat), xsort_Passes.f k r m = some (v : Int) ∧ 1 ≤ v ∧ v ≤ 2199023255553 := by
  obtain ⟨k, v, h1, h2⟩ := xpasses (r : Int) (m : Int) (by omega) (by omega)
  obtain ⟨u, rfl⟩ := Int.eq_ofNat_of_zero_le (show 0 ≤ v by omega)
  refine ⟨k, u, h1, by omega, ?_⟩
  have g := up_ (f := fun k => xsort_Passes.f k r m) (fun k => xsort_Passes.mono r m k) (k + 1) (by omega) h1
  have g1 : xsort_Passes.f (k + 1) r m = some (u : Int) := g
  rw [xpasses_f k r m (by omega) (by omega)] at g1
  have c1 := xcount (r : Int) (m : Int) (by omega) (by omega)
  have := xupper _ (xfan (m : Int) (by omega)).1 (xfan (m : Int) (by omega)).2 _ _ _ _ g1 (by omega) c1.1 (by omega)
  omega
theorem sorted_ev (r m v k : Nat) (hr : r ≤ 1099511627776) (hm : 16 ≤ m ∧ m ≤ 1099511627776) (hv : v ≤ 2199023255553) (h : xsort_Passes.f k r m = some (v : Int)) :
    Ev (fun k => bound_sorted.f k r m) ((satN ((v + 1) * (24 * (r + 1))) : Nat) : Int) := by
  unfold bound_sorted.f
  simp only [if_neg (show ¬ (r : Int) > 1099511627776 by omega)]
  refine Ev.bind (Ev.of (fun k => xsort_Passes.mono _ _ k) h) ?_
  refine Ev.bind (a := ((satN (totA 0 [r, 1]) : Nat) : Int)) (sum_ev [r, 1] (by intro x hx; simp at hx; omega) (by simp)) ?_
  have e : wrap64 ((v : Int) + 1) = ((v + 1 : Nat) : Int) := by rw [w64 _ (by omega)]; omega
  simp only [e]
  have h1 := product_ev [v + 1, 24, satN (totA 0 [r, 1])] (by intro x hx; simp at hx; rcases hx with rfl | rfl | rfl; omega; omega; exact satN_le _) (by simp)
  have e2 : satN (prdA 1 [v + 1, 24, satN (totA 0 [r, 1])]) = satN ((v + 1) * (24 * (r + 1))) := by
    simp only [prdA, totA, satN_mul_right]
    congr 1; grind
  rw [e2] at h1
  exact Ev.bind h1 (Ev.now _)
theorem sort_ev (r m v k : Nat) (hr : r ≤ 1099511627776) (hm : 16 ≤ m ∧ m ≤ 1099511627776) (hv : v ≤ 2199023255553) (h : xsort_Passes.f k r m = some (v : Int)) :
    Ev (fun k => bound_Sort.f k r m) ((satN ((v + 1) * (24 * (r + 1))) : Nat) : Int) := by
  unfold bound_Sort.f
  refine Ev.bind (may_ev (m : Int) [(r : Int)] (by simp)) ?_
  have e : mayB [(r : Int)] (m : Int) = true := by simp [mayB]; omega
  simp only [e, if_true]
  exact Ev.bind (sorted_ev r m v k hr hm hv h) (Ev.now _)

/-! ### the law BoundGrows -/
theorem awake_k : chainmanlaw40_awake.f 60 = some true := by decide +kernel
theorem grow_ev (a d x y : Nat) (ba : a < 549755813888) (bd : d < 549755813888) (bx : x < 274877906944) (by_ : y < 274877906944) :
    ∃ s1 s2 s3 : Int, Ev (fun k => bound_Sort.f k (a : Int) ((16 + x : Nat) : Int)) s1 ∧ Ev (fun k => bound_Sort.f k ((a + d : Nat) : Int) ((16 + x : Nat) : Int)) s2 ∧ Ev (fun k => bound_Sort.f k ((a + d : Nat) : Int) ((16 + x + y : Nat) : Int)) s3 ∧ s1 ≥ 48 ∧ s1 ≤ s2 ∧ s3 ≤ s2 ∧ s2 ≤ 4611686018427387904 := by
  obtain ⟨k1, v1, p1, q1, r1⟩ := xpass_ev a (16 + x) (by omega) (by omega)
  obtain ⟨k2, v2, p2, q2, r2⟩ := xpass_ev (a + d) (16 + x) (by omega) (by omega)
  obtain ⟨k3, v3, p3, q3, r3⟩ := xpass_ev (a + d) (16 + x + y) (by omega) (by omega)
  have l1 := xpasses_anti2 (n := ((a + d : Nat) : Int)) (n' := (a : Int)) (m := ((16 + x : Nat) : Int)) (m' := ((16 + x : Nat) : Int)) (by omega) (by omega) (by omega) (by omega) (by omega) p2 p1
  have l2 := xpasses_anti2 (n := ((a + d : Nat) : Int)) (n' := ((a + d : Nat) : Int)) (m := ((16 + x : Nat) : Int)) (m' := ((16 + x + y : Nat) : Int)) (by omega) (by omega) (by omega) (by omega) (by omega) p2 p3
  have s1 := sort_ev a (16 + x) v1 k1 (by omega) (by omega) r1 p1
  have s2 := sort_ev (a + d) (16 + x) v2 k2 (by omega) (by omega) r2 p2
  have s3 := sort_ev (a + d) (16 + x + y) v3 k3 (by omega) (by omega) r3 p3
  refine ⟨_, _, _, s1, s2, s3, ?_⟩
  clear s1 s2 s3 p1 p2 p3
  have g1 : 48 ≤ satN ((v1 + 1) * (24 * (a + 1))) := by
    have : 2 * (24 * 1) ≤ (v1 + 1) * (24 * (a + 1)) := Nat.mul_le_mul (by omega) (Nat.mul_le_mul_left _ (by omega))
    unfold satN
    split <;> omega
  have g2 : satN ((v1 + 1) * (24 * (a + 1))) ≤ satN ((v2 + 1) * (24 * (a + d + 1))) := satN_mono (Nat.mul_le_mul (by omega) (Nat.mul_le_mul_left _ (by omega)))
  have g3 : satN ((v3 + 1) * (24 * (a + d + 1))) ≤ satN ((v2 + 1) * (24 * (a + d + 1))) := satN_mono (Nat.mul_le_mul (by omega) (Nat.le_refl _))
  have g4 := satN_le ((v2 + 1) * (24 * (a + d + 1)))
  generalize satN ((v1 + 1) * (24 * (a + 1))) = t1 at *
  generalize satN ((v2 + 1) * (24 * (a + d + 1))) = t2 at *
  generalize satN ((v3 + 1) * (24 * (a + d + 1))) = t3 at *
  omega
theorem range_ (a n : Int) (h : 0 ≤ a) (hn : 0 < n) (hb : n ≤ 1000000000000) : ∃ x : Nat, wrap64 (Int.tmod a n) = (x : Int) ∧ (x : Int) < n := by
  have h1 := Int.emod_nonneg a (show n ≠ 0 by omega)
  have h2 := Int.emod_lt_of_pos a hn
  rw [Int.tmod_eq_emod_of_nonneg h, w64 _ (by omega)]
  exact ⟨(a % n).toNat, by omega, by omega⟩
theorem wadd (a b : Nat) (h : a + b < 1000000000000000) : wrap64 ((a : Int) + (b : Int)) = ((a + b : Nat) : Int) := by rw [w64 _ (by omega)]; omega
theorem BoundGrows : chainmanlaw40_BoundGrows.Pure := by
  intro a0 a1 a2 a3 w0 w1 w2 w3
  have h0 : 0 ≤ a0 := by have : 0 ≤ a0 ∧ a0 ≤ 18446744073709551615 := by simpa [Lit.wf, IntKind.min, IntKind.max, IntKind.signed, IntKind.bits] using w0
                         exact this.1
  have h1 : 0 ≤ a1 := by have : 0 ≤ a1 ∧ a1 ≤ 18446744073709551615 := by simpa [Lit.wf, IntKind.min, IntKind.max, IntKind.signed, IntKind.bits] using w1
                         exact this.1
  have h2 : 0 ≤ a2 := by have : 0 ≤ a2 ∧ a2 ≤ 18446744073709551615 := by simpa [Lit.wf, IntKind.min, IntKind.max, IntKind.signed, IntKind.bits] using w2
                         exact this.1
  have h3 : 0 ≤ a3 := by have : 0 ≤ a3 ∧ a3 ≤ 18446744073709551615 := by simpa [Lit.wf, IntKind.min, IntKind.max, IntKind.signed, IntKind.bits] using w3
                         exact this.1
  clear w0 w1 w2 w3
  obtain ⟨a, e1, b1⟩ := range_ a0 549755813888 h0 (by decide) (by decide)
  obtain ⟨d, e2, b2⟩ := range_ a1 549755813888 h1 (by decide) (by decide)
  obtain ⟨x, e3, b3⟩ := range_ a2 274877906944 h2 (by decide) (by decide)
  obtain ⟨y, e4, b4⟩ := range_ a3 274877906944 h3 (by decide) (by decide)
  obtain ⟨s1, s2, s3, v1, v2, v3, g1, g2, g3, g4⟩ := grow_ev a d x y (by clear e1 e2 e3 e4; omega) (by clear e1 e2 e3 e4; omega) (by clear e1 e2 e3 e4; omega) (by clear e1 e2 e3 e4; omega)
  have n5 : a + d < 1000000000000000 := by clear e1 e2 e3 e4; omega
  have n6 : 16 + x < 1000000000000000 := by clear e1 e2 e3 e4; omega
  have n7 : 16 + x + y < 1000000000000000 := by clear e1 e2 e3 e4; omega
  have e5 := wadd a d n5
  have e6 : wrap64 (16 + (x : Int)) = ((16 + x : Nat) : Int) := wadd 16 x n6
  have e7 := wadd (16 + x) y n7
  suffices H : Ev (fun k => chainmanlaw40_BoundGrows.f k a0 a1 a2 a3) true from H.rounds
  unfold chainmanlaw40_BoundGrows.f
  simp only [e1, e2, e3, e4, e5, e6, e7]
  refine Ev.bind v1 (Ev.bind v2 (Ev.bind v3 ?_))
  refine Ev.congr (f := fun k => (chainmanlaw40_awake.f k).bind fun t => some t) (fun k => ?_) (Ev.bind (Ev.of chainmanlaw40_awake.mono awake_k) (Ev.now _))
  rw [if_pos g1, if_pos g2, if_pos g3, if_pos g4]

end Go.Proofs.Ytmacpgkcokpgjaa.Pure
