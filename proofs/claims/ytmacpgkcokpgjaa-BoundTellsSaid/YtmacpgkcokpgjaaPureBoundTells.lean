/- What a sort, a join, a round and a job cost is what the other reckoning says (the law BoundTells). -/
import Derived.Test.YtmacpgkcokpgjaaPBoundTellsx8
namespace Go.Proofs.Ytmacpgkcokpgjaa.Pure
open Go.RowKit Go.Proofs.Ytmacpgkcokpgjaa.PBoundTells Go.Proofs.YtmacpgkcokpgjaaW.PrintWords Go.Proofs.YtmacpgkcokpgjaaW.PrintLast
set_option linter.unusedVariables false
set_option linter.unusedSimpArgs false
/-! ### what the package num computes -/
theorem w64 (n : Int) (h : -9223372036854775808 ≤ n ∧ n ≤ 9223372036854775807) : wrap64 n = n := by unfold wrap64; omega
theorem wU (n : Int) (h : 0 ≤ n ∧ n < 18446744073709551616) : IntKind.u64.wrap n = n := by
  simp only [IntKind.wrap, IntKind.bits, IntKind.signed, Bool.false_and]
  simp
  omega
theorem wUm (n : Int) : IntKind.u64.wrap n = n % 18446744073709551616 := by
  simp only [IntKind.wrap, IntKind.bits, IntKind.signed, Bool.false_and]
  simp
theorem up_ {α : Type} {f : Nat → Option α} (h : ∀ k, LeO (f k) (f (k + 1))) {r : α} {k : Nat} (K : Nat) (hk : k ≤ K) (e : f k = some r) : f K = some r := by
  induction K with
  | zero => obtain rfl : k = 0 := by omega
            exact e
  | succ K ih =>
    by_cases hq : k = K + 1
    · subst hq; exact e
    · exact h K _ (ih (by omega))
theorem natural_eq (a b c : Int) : num_natural.f 4 [a, b, c] = some (decide (0 ≤ a ∧ 0 ≤ b ∧ 0 ≤ c)) := by
  have e : num_least.f 4 0 [a, b, c] = some (mn (mn (mn 0 a) b) c) := by simp [num_least.f, num_least.l0, rd, wrap64]
  unfold num_natural.f
  rw [e, Option.bind_some]
  congr 1
  rw [Bool.eq_iff_iff, beq_iff_eq, decide_eq_true_iff]
  unfold mn
  repeat' split
  all_goals omega
theorem hold_eq (a b c : Int) : num_Hold.f 2 a b c = some (if a < b then b else if c < a then c else a) := by
  have e : num_least.f 2 a [c] = some (mn a c) := by simp [num_least.f, num_least.l0, rd, wrap64]
  unfold num_Hold.f
  rw [e, Option.bind_some]
  unfold mn
  split
  · rfl
  · rfl
/-! #### a product's two halves -/
theorem mask32 (n : Nat) (h : n < 18446744073709551616) : Go.bits .and .u64 (n : Int) 4294967295 = ((n % 4294967296 : Nat) : Int) := by
  have e : Go.bits .and .u64 (n : Int) 4294967295 = IntKind.u64.wrap (((BitVec.ofInt 64 (n : Int)) &&& (BitVec.ofInt 64 4294967295)).toNat : Int) := rfl
  have e2 : (BitVec.ofInt 64 4294967295).toNat = 2 ^ 32 - 1 := by decide
  have e3 : (BitVec.ofInt 64 (n : Int)).toNat = n := by rw [BitVec.ofInt_natCast, BitVec.toNat_ofNat]; omega
  rw [e, BitVec.toNat_and, e2, e3, Nat.and_two_pow_sub_one_eq_mod, wU _ (by omega)]
theorem mul64_eq (a b : Nat) (ha : a < 9223372036854775808) (hb : b < 9223372036854775808) :
    bits_Mul64.f (a : Int) (b : Int) = some (((a * b / 18446744073709551616 : Nat) : Int), ((a * b % 18446744073709551616 : Nat) : Int)) := by
  unfold bits_Mul64.f
  rw [mask32 a (by omega), mask32 b (by omega)]
  have e1 : (a : Int) / 4294967296 = ((a / 4294967296 : Nat) : Int) := by omega
  have e2 : (b : Int) / 4294967296 = ((b / 4294967296 : Nat) : Int) := by omega
  rw [e1, e2]
  have ea : a = a / 4294967296 * 4294967296 + a % 4294967296 := by omega
  have eb : b = b / 4294967296 * 4294967296 + b % 4294967296 := by omega
  have hah : a / 4294967296 ≤ 2147483647 := by omega
  have hbh : b / 4294967296 ≤ 2147483647 := by omega
  have hal : a % 4294967296 ≤ 4294967295 := by omega
  have hbl : b % 4294967296 ≤ 4294967295 := by omega
  generalize a / 4294967296 = x at *
  generalize a % 4294967296 = y at *
  generalize b / 4294967296 = u at *
  generalize b % 4294967296 = v at *
  have eP : a * b = (x * u) * 18446744073709551616 + (x * v + y * u) * 4294967296 + y * v := by
    rw [ea, eb]
    simp only [Nat.add_mul, Nat.mul_add]
    have i1 : x * 4294967296 * (u * 4294967296) = x * u * 18446744073709551616 := by
      rw [Nat.mul_mul_mul_comm]
    have i2 : x * 4294967296 * v = x * v * 4294967296 := by rw [Nat.mul_right_comm]
    have i3 : y * (u * 4294967296) = y * u * 4294967296 := by rw [Nat.mul_assoc]
    omega
  have b1 : x * u ≤ 2147483647 * 2147483647 := Nat.mul_le_mul hah hbh
  have b2 : x * v ≤ 2147483647 * 4294967295 := Nat.mul_le_mul hah hbl
  have b3 : y * u ≤ 4294967295 * 2147483647 := Nat.mul_le_mul hal hbh
  have b4 : y * v ≤ 4294967295 * 4294967295 := Nat.mul_le_mul hal hbl
  rw [← Int.natCast_mul, ← Int.natCast_mul, ← Int.natCast_mul, ← Int.natCast_mul, ← Int.natCast_mul, eP]
  clear eP ea eb e1 e2
  generalize x * u = p1 at *
  generalize x * v = p2 at *
  generalize y * u = p3 at *
  generalize y * v = p4 at *
  clear hah hbh hal hbl
  have t1 : IntKind.u64.wrap (p4 : Int) = (p4 : Int) := wU _ (by omega)
  have t2 : IntKind.u64.wrap (p2 : Int) = (p2 : Int) := wU _ (by omega)
  have t3 : IntKind.u64.wrap (p1 : Int) = (p1 : Int) := wU _ (by omega)
  have t4 : IntKind.u64.wrap (p3 : Int) = (p3 : Int) := wU _ (by omega)
  rw [t1, t2, t3, t4]
  have t5 : IntKind.u64.wrap ((p2 : Int) + (p4 : Int) / 4294967296) = ((p2 + p4 / 4294967296 : Nat) : Int) := by rw [wU _ (by omega)]; omega
  rw [t5, mask32 _ (by omega)]
  generalize hq : p2 + p4 / 4294967296 = q
  have t6 : IntKind.u64.wrap ((p1 : Int) + (q : Int) / 4294967296) = ((p1 + q / 4294967296 : Nat) : Int) := by rw [wU _ (by omega)]; omega
  have t7 : IntKind.u64.wrap (((q % 4294967296 : Nat) : Int) + (p3 : Int)) = ((q % 4294967296 + p3 : Nat) : Int) := by rw [wU _ (by omega)]; omega
  rw [t6, t7]
  generalize hr : q % 4294967296 + p3 = r
  have t8 : IntKind.u64.wrap (((p1 + q / 4294967296 : Nat) : Int) + (r : Int) / 4294967296) = ((p1 + q / 4294967296 + r / 4294967296 : Nat) : Int) := by rw [wU _ (by omega)]; omega
  rw [t8, wUm]
  congr 2
  · omega

theorem add_eq (a b c : Int) (ha : a ≤ 9223372036854775807) (hb : b ≤ 9223372036854775807) (hc : c ≤ 9223372036854775807) :
    num_Add.f 4 a b c = some (if 0 ≤ a ∧ 0 ≤ b ∧ 0 ≤ c then (if c < a + b then c else a + b) else 0) := by
  unfold num_Add.f
  rw [natural_eq, Option.bind_some]
  by_cases h : 0 ≤ a ∧ 0 ≤ b ∧ 0 ≤ c
  · obtain ⟨h1, h2, h3⟩ := h
    rw [if_pos (decide_eq_true ⟨h1, h2, h3⟩), if_pos (show 0 ≤ a ∧ 0 ≤ b ∧ 0 ≤ c from ⟨h1, h2, h3⟩), wU a (by omega), wU b (by omega), wU c (by omega)]
    unfold bits_Add64.f
    rw [if_pos (by omega), Option.bind_some]
    have e1 : (a + b + 0) / 18446744073709551616 = 0 := by omega
    have e2 : (a + b + 0) % 18446744073709551616 = a + b := by omega
    show (if (a + b + 0) / 18446744073709551616 > 0 then some c else if (a + b + 0) % 18446744073709551616 > c then some c else some (wrap64 ((a + b + 0) % 18446744073709551616))) = _
    rw [e1, e2, if_neg (by decide)]
    by_cases h4 : c < a + b
    · rw [if_pos h4, if_pos h4]
    · rw [if_neg h4, if_neg h4, w64 _ (by omega)]
  · rw [if_neg (by simpa using h), if_neg h]
theorem mul_eq (a b c : Int) (ha : a ≤ 9223372036854775807) (hb : b ≤ 9223372036854775807) (hc : c ≤ 9223372036854775807) :
    num_Mul.f 4 a b c = some (if 0 ≤ a ∧ 0 ≤ b ∧ 0 ≤ c then (if c < a * b then c else a * b) else 0) := by
  unfold num_Mul.f
  rw [natural_eq, Option.bind_some]
  by_cases h : 0 ≤ a ∧ 0 ≤ b ∧ 0 ≤ c
  · obtain ⟨h1, h2, h3⟩ := h
    rw [if_pos (decide_eq_true ⟨h1, h2, h3⟩), if_pos (show 0 ≤ a ∧ 0 ≤ b ∧ 0 ≤ c from ⟨h1, h2, h3⟩), wU a (by omega), wU b (by omega), wU c (by omega)]
    obtain ⟨x, rfl⟩ := Int.eq_ofNat_of_zero_le h1
    obtain ⟨y, rfl⟩ := Int.eq_ofNat_of_zero_le h2
    rw [mul64_eq x y (by omega) (by omega), Option.bind_some, ← Int.natCast_mul]
    show (if ((x * y / 18446744073709551616 : Nat) : Int) > 0 then some c else if ((x * y % 18446744073709551616 : Nat) : Int) > c then some c else some (wrap64 ((x * y % 18446744073709551616 : Nat) : Int))) = _
    generalize x * y = p
    by_cases h4 : ((p / 18446744073709551616 : Nat) : Int) > 0
    · rw [if_pos h4, if_pos (by omega)]
    · rw [if_neg h4]
      have e : ((p % 18446744073709551616 : Nat) : Int) = (p : Int) := by omega
      rw [e]
      by_cases h5 : c < (p : Int)
      · rw [if_pos h5, if_pos h5]
      · rw [if_neg h5, if_neg h5, w64 _ (by omega)]
  · rw [if_neg (by simpa using h), if_neg h]
/-! #### how long a number is -/

/-! #### how often all are written -/
theorem ceil_less (c f : Int) (hc : 1 < c) (hf : 2 ≤ f) : 1 ≤ (c + f - 1) / f ∧ (c + f - 1) / f < c := by
  have h1 : (c + f - 1) / f * f ≤ c + f - 1 := Int.ediv_mul_le _ (by omega)
  have h2 : c + f - 1 < ((c + f - 1) / f + 1) * f := Int.lt_ediv_add_one_mul_self _ (by omega)
  generalize (c + f - 1) / f = q at *
  have h3 : (1 : Int) * 1 ≤ (c - 1) * (f - 1) := Int.mul_le_mul (by omega) (by omega) (by omega) (by omega)
  rw [Int.sub_mul, Int.mul_sub] at h3
  constructor
  · rcases Int.lt_or_le 0 q with z | z
    · omega
    · have := Int.mul_le_mul_of_nonneg_right (show q + 1 ≤ 1 by omega) (show 0 ≤ f by omega)
      omega
  · rcases Int.lt_or_le q c with z | z
    · exact z
    · have := Int.mul_le_mul_of_nonneg_right z (show 0 ≤ f by omega)
      omega
theorem mxmn_ok (x : Int) : mn 64 x ≤ 64 := by unfold mn; split <;> omega
theorem xrounds (f : Int) (hf : 2 ≤ f) (hf2 : f ≤ 64) : ∀ (d : Nat) (c p : Int), c.toNat ≤ d → 1 ≤ p → p + c ≤ 4611686018427387904 → 0 ≤ c →
    ∃ k v, xsort_Passes.l0 k f p c = some v ∧ p ≤ v := by
  intro d
  induction d with
  | zero =>
    intro c p hd h1 h2 h0
    exact ⟨1, p, by rw [xsort_Passes.l0, if_neg (by omega)], Int.le_refl _⟩
  | succ d ih =>
    intro c p hd h1 h2 h0
    by_cases hc : c > 1
    · obtain ⟨q1, q2⟩ := ceil_less c f hc hf
      have e1 : wrap64 (c + f) = c + f := w64 _ (by omega)
      have e2 : wrap64 (c + f - 1) = c + f - 1 := w64 _ (by omega)
      have e3 : Int.tdiv (c + f - 1) f = (c + f - 1) / f := Int.tdiv_eq_ediv_of_nonneg (by omega)
      have e4 : wrap64 ((c + f - 1) / f) = (c + f - 1) / f := w64 _ (by omega)
      have e5 : wrap64 (p + 1) = p + 1 := w64 _ (by omega)
      obtain ⟨k, v, a1, a3⟩ := ih ((c + f - 1) / f) (p + 1) (by omega) (by omega) (by omega) (by omega)
      exact ⟨k + 1, v, by rw [xsort_Passes.l0, if_pos hc, if_neg (by omega), e1, e2, e3, e4, e5]; exact a1, by omega⟩
    · exact ⟨1, p, by rw [xsort_Passes.l0, if_neg hc], Int.le_refl _⟩
/-- Rounded up: of less, by more, no more. -/
theorem ceil_anti {c c' f f' : Int} (hc : c' ≤ c) (h0 : 0 ≤ c') (hf : f ≤ f') (h1 : 1 ≤ f) : 0 ≤ (c' + f' - 1) / f' ∧ (c' + f' - 1) / f' ≤ (c + f - 1) / f := by
  have h2 : c + f - 1 < ((c + f - 1) / f + 1) * f := Int.lt_ediv_add_one_mul_self _ (by omega)
  have h3 : 0 ≤ (c + f - 1) / f := Int.ediv_nonneg (by omega) (by omega)
  refine ⟨Int.ediv_nonneg (by omega) (by omega), ?_⟩
  generalize (c + f - 1) / f = q at *
  have h4 : q * f ≤ q * f' := Int.mul_le_mul_of_nonneg_left hf h3
  rw [Int.add_mul, Int.one_mul] at h2
  have h5 : (c' + f' - 1) / f' < q + 1 := Int.ediv_lt_of_lt_mul (by omega) (by rw [Int.add_mul, Int.one_mul]; omega)
  omega
theorem anti (f f' : Int) (hf : 2 ≤ f) (hff : f ≤ f') (hf2 : f' ≤ 64) : ∀ (k k' : Nat) (c c' p p' v v' : Int), xsort_Passes.l0 k f p c = some v → xsort_Passes.l0 k' f' p' c' = some v' →
    1 ≤ p' → p' ≤ p → 0 ≤ c' → c' ≤ c → p + c ≤ 4611686018427387904 → v' ≤ v := by
  intro k
  induction k with
  | zero => intro k' c c' p p' v v' h; simp [xsort_Passes.l0] at h
  | succ k ih =>
    intro k' c c' p p' v v' h h' h1 hp h0 hc hb
    cases k' with
    | zero => simp [xsort_Passes.l0] at h'
    | succ k' =>
      by_cases hc1 : c > 1
      · obtain ⟨q1, q2⟩ := ceil_less c f hc1 hf
        have e1 : wrap64 (c + f) = c + f := w64 _ (by omega)
        have e2 : wrap64 (c + f - 1) = c + f - 1 := w64 _ (by omega)
        have e3 : Int.tdiv (c + f - 1) f = (c + f - 1) / f := Int.tdiv_eq_ediv_of_nonneg (by omega)
        have e4 : wrap64 ((c + f - 1) / f) = (c + f - 1) / f := w64 _ (by omega)
        have e5 : wrap64 (p + 1) = p + 1 := w64 _ (by omega)
        rw [xsort_Passes.l0, if_pos hc1, if_neg (by omega), e1, e2, e3, e4, e5] at h
        by_cases hc2 : c' > 1
        · obtain ⟨r1, r2⟩ := ceil_less c' f' hc2 (by omega)
          obtain ⟨_, an⟩ := ceil_anti hc h0 hff (by omega)
          have d1 : wrap64 (c' + f') = c' + f' := w64 _ (by omega)
          have d2 : wrap64 (c' + f' - 1) = c' + f' - 1 := w64 _ (by omega)
          have d3 : Int.tdiv (c' + f' - 1) f' = (c' + f' - 1) / f' := Int.tdiv_eq_ediv_of_nonneg (by omega)
          have d4 : wrap64 ((c' + f' - 1) / f') = (c' + f' - 1) / f' := w64 _ (by omega)
          have d5 : wrap64 (p' + 1) = p' + 1 := w64 _ (by omega)
          rw [xsort_Passes.l0, if_pos hc2, if_neg (by omega), d1, d2, d3, d4, d5] at h'
          exact ih k' _ _ _ _ v v' h h' (by omega) (by omega) (by omega) an (by omega)
        · rw [xsort_Passes.l0, if_neg hc2] at h'
          obtain rfl := Option.some.inj h'
          obtain ⟨kk, u, hu, hpu⟩ := xrounds f hf (by omega) _ ((c + f - 1) / f) (p + 1) (Nat.le_refl _) (by omega) (by omega) (by omega)
          have g1 := up_ (f := fun k => xsort_Passes.l0 k f (p + 1) ((c + f - 1) / f)) (fun k => (xsort_Passes.mono_l k).2 _ _ _) (k + kk) (by omega) h
          have g2 := up_ (f := fun k => xsort_Passes.l0 k f (p + 1) ((c + f - 1) / f)) (fun k => (xsort_Passes.mono_l k).2 _ _ _) (k + kk) (by omega) hu
          have : v = u := Option.some.inj (g1.symm.trans g2)
          omega
      · have hc2 : ¬ c' > 1 := by omega
        rw [xsort_Passes.l0, if_neg hc1] at h
        rw [xsort_Passes.l0, if_neg hc2] at h'
        obtain rfl := Option.some.inj h
        obtain rfl := Option.some.inj h'
        exact hp
/-- The passes of a program that has so many left: its loop. -/
theorem xpasses_f (k : Nat) (n m : Int) (hn : 0 ≤ n ∧ n ≤ 1099511627776) (hm : 16 ≤ m ∧ m ≤ 1099511627776) :
    xsort_Passes.f (k + 1) n m = xsort_Passes.l0 k (mn 64 ((m - 4) / 4)) 1 ((n + (m - 8) - 1) / (m - 8)) := by
  have e1 : wrap64 (m - 8) = m - 8 := w64 _ (by omega)
  have e2 : wrap64 (m - 4) = m - 4 := w64 _ (by omega)
  have e3 : Int.tdiv (m - 4) 4 = (m - 4) / 4 := Int.tdiv_eq_ediv_of_nonneg (by omega)
  have e4 : wrap64 ((m - 4) / 4) = (m - 4) / 4 := w64 _ (by omega)
  have e5 : wrap64 (n + (m - 8)) = n + (m - 8) := w64 _ (by omega)
  have e6 : wrap64 (n + (m - 8) - 1) = n + (m - 8) - 1 := w64 _ (by omega)
  have e9 : Int.tdiv (n + (m - 8) - 1) (m - 8) = (n + (m - 8) - 1) / (m - 8) := Int.tdiv_eq_ediv_of_nonneg (by omega)
  have q0 : 0 ≤ (n + (m - 8) - 1) / (m - 8) := Int.ediv_nonneg (by omega) (by omega)
  have q1 : (n + (m - 8) - 1) / (m - 8) ≤ n + (m - 8) - 1 := Int.ediv_le_self _ (by omega)
  have e10 : wrap64 ((n + (m - 8) - 1) / (m - 8)) = (n + (m - 8) - 1) / (m - 8) := w64 _ (by omega)
  unfold xsort_Passes.f
  rw [if_neg (by omega), if_neg (by omega), if_neg (by omega), decide_eq_false (by omega), xsort_Passes.j0, if_neg (by decide)]
  unfold xsort_room.f
  rw [Option.bind_some]
  show (if wrap64 (m - 8) = 0 then none else xsort_Passes.l0 k (mn 64 (wrap64 (Int.tdiv (wrap64 (m - 4)) 4))) 1 (wrap64 (Int.tdiv (wrap64 (wrap64 (n + wrap64 (m - 8)) - 1)) (wrap64 (m - 8))))) = _
  rw [e1, if_neg (by omega), e2, e3, e4, e5, e6, e9, e10]
theorem xfan (m : Int) (hm : 16 ≤ m) : 2 ≤ mn 64 ((m - 4) / 4) ∧ mn 64 ((m - 4) / 4) ≤ 64 := by unfold mn; split <;> omega
theorem xcount (n m : Int) (hn : 0 ≤ n ∧ n ≤ 1099511627776) (hm : 16 ≤ m ∧ m ≤ 1099511627776) : 0 ≤ (n + (m - 8) - 1) / (m - 8) ∧ (n + (m - 8) - 1) / (m - 8) ≤ 2199023255552 := by
  have q0 : 0 ≤ (n + (m - 8) - 1) / (m - 8) := Int.ediv_nonneg (by omega) (by omega)
  have q1 : (n + (m - 8) - 1) / (m - 8) ≤ n + (m - 8) - 1 := Int.ediv_le_self _ (by omega)
  omega
theorem xpasses (n m : Int) (hn : 0 ≤ n ∧ n ≤ 1099511627776) (hm : 16 ≤ m ∧ m ≤ 1099511627776) : ∃ k v, xsort_Passes.f k n m = some v ∧ 1 ≤ v := by
  have hF := xfan m hm.1
  have hc := xcount n m hn hm
  obtain ⟨k, v, a1, a3⟩ := xrounds (mn 64 ((m - 4) / 4)) hF.1 hF.2 _ ((n + (m - 8) - 1) / (m - 8)) 1 (Nat.le_refl _) (Int.le_refl _) (by omega) hc.1
  exact ⟨k + 1, v, by rw [xpasses_f k n m hn hm]; exact a1, a3⟩
/-- Who has more left writes no more often. -/
theorem xpasses_anti {n m m' v v' : Int} {k k' : Nat} (hn : 0 ≤ n ∧ n ≤ 1099511627776) (hm : 16 ≤ m) (hmm : m ≤ m') (hm2 : m' ≤ 1099511627776) (h : xsort_Passes.f k n m = some v) (h' : xsort_Passes.f k' n m' = some v') : v' ≤ v := by
  have g := up_ (f := fun k => xsort_Passes.f k n m) (fun k => xsort_Passes.mono n m k) (k + 1) (by omega) h
  have g' := up_ (f := fun k => xsort_Passes.f k n m') (fun k => xsort_Passes.mono n m' k) (k' + 1) (by omega) h'
  have g1 : xsort_Passes.f (k + 1) n m = some v := g
  have g2 : xsort_Passes.f (k' + 1) n m' = some v' := g'
  rw [xpasses_f k n m hn (by omega)] at g1
  rw [xpasses_f k' n m' hn (by omega)] at g2
  have c1 := xcount n m hn (by omega)
  have c2 := xcount n m' hn (by omega)
  have an := ceil_anti (c := n) (c' := n) (f := m - 8) (f' := m' - 8) (Int.le_refl _) hn.1 (by omega) (by omega)
  refine anti (mn 64 ((m - 4) / 4)) (mn 64 ((m' - 4) / 4)) (xfan m hm).1 ?_ (xfan m' (by omega)).2 k k' _ _ 1 1 v v' g1 g2 (Int.le_refl _) (Int.le_refl _) an.1 an.2 (by omega)
  unfold mn
  split <;> split <;> omega

/-! ### costs: sums and products up to a bound -/
def satN (x : Nat) : Nat := if 4611686018427387904 < x then 4611686018427387904 else x
theorem satN_le (x : Nat) : satN x ≤ 4611686018427387904 := by unfold satN; split <;> omega
theorem satN_self (x : Nat) (h : x ≤ 4611686018427387904) : satN x = x := by unfold satN; rw [if_neg (by omega)]
theorem satN_add_right (a b : Nat) : satN (a + satN b) = satN (a + b) := by unfold satN; split <;> split <;> (try split) <;> omega
theorem satN_add_left (a b : Nat) : satN (satN a + b) = satN (a + b) := by rw [Nat.add_comm, satN_add_right, Nat.add_comm]
theorem satN_satN (a : Nat) : satN (satN a) = satN a := satN_self _ (satN_le _)
theorem satN_mul_right (a b : Nat) : satN (a * satN b) = satN (a * b) := by
  by_cases h : 4611686018427387904 < b
  · have e : satN b = 4611686018427387904 := by unfold satN; rw [if_pos h]
    rw [e]
    rcases Nat.eq_zero_or_pos a with z | z
    · subst z; simp
    · have h1 := Nat.le_mul_of_pos_left 4611686018427387904 z
      have h2 := Nat.le_mul_of_pos_left b z
      unfold satN
      split <;> split <;> omega
  · rw [satN_self b (by omega)]
theorem satN_mul_left (a b : Nat) : satN (satN a * b) = satN (a * b) := by rw [Nat.mul_comm, satN_mul_right, Nat.mul_comm]
theorem satN_mono {a b : Nat} (h : a ≤ b) : satN a ≤ satN b := by unfold satN; split <;> split <;> omega
theorem add_ev (a b : Nat) (ha : a ≤ 4611686018427387904) (hb : b ≤ 4611686018427387904) : Ev (fun k => num_Add.f k a b 4611686018427387904) ((satN (a + b) : Nat) : Int) := by
  refine Ev.of (fun k => num_Add.mono _ _ _ k) (k := 4) ?_
  rw [add_eq a b 4611686018427387904 (by omega) (by omega) (by omega), if_pos (by omega)]
  unfold satN
  congr 1
  split <;> split <;> omega
theorem mul_ev (a b : Nat) (ha : a ≤ 4611686018427387904) (hb : b ≤ 4611686018427387904) : Ev (fun k => num_Mul.f k a b 4611686018427387904) ((satN (a * b) : Nat) : Int) := by
  refine Ev.of (fun k => num_Mul.mono _ _ _ k) (k := 4) ?_
  rw [mul_eq a b 4611686018427387904 (by omega) (by omega) (by omega), if_pos (by omega), ← Int.natCast_mul]
  unfold satN
  congr 1
  generalize a * b = p
  split <;> split <;> omega
def totA : Nat → List Nat → Nat
  | a, [] => a
  | a, x :: l => totA (a + x) l
def prdA : Nat → List Nat → Nat
  | a, [] => a
  | a, x :: l => prdA (a * x) l
def ints (l : List Nat) : List Int := l.map (fun (x : Nat) => ((x : Nat) : Int))
theorem ints_len (l : List Nat) : (ints l).length = l.length := by simp [ints]
theorem rd_ints (l : List Nat) (i : Nat) (h : i < l.length) : rd (ints l) (i : Int) = (l[i] : Int) := by
  show (ints l).getD (i : Int).toNat 0 = _
  rw [Int.toNat_natCast, List.getD_eq_getElem?_getD, List.getElem?_eq_getElem (by rw [ints_len]; exact h)]
  simp [ints]
theorem sum_loop (l : List Nat) (hl : ∀ x ∈ l, x ≤ 4611686018427387904) (hn : l.length < 1000) : ∀ (d i : Nat), i + d = l.length → ∀ acc : Nat,
    Ev (fun k => bound_sum.l0 k ((satN acc : Nat) : Int) (ints l) (l.length : Int) (i : Int)) ((satN (totA acc (l.drop i)) : Nat) : Int) := by
  intro d
  induction d with
  | zero =>
    intro i hi acc
    refine Ev.step (f := fun _ => some ((satN acc : Nat) : Int)) (fun k => ?_) ?_
    · rw [bound_sum.l0, if_neg (by omega)]
    · rw [List.drop_eq_nil_of_le (by omega)]
      exact Ev.now _
  | succ d ih =>
    intro i hi acc
    have hlt : i < l.length := by omega
    refine Ev.step (f := fun k => (num_Add.f k ((satN acc : Nat) : Int) (l[i] : Int) 4611686018427387904).bind fun t => bound_sum.l0 k t (ints l) (l.length : Int) ((i + 1 : Nat) : Int)) (fun k => ?_) ?_
    · have e : wrap64 ((i : Int) + 1) = ((i + 1 : Nat) : Int) := by rw [w64 _ (by omega)]; omega
      rw [bound_sum.l0, if_pos (by omega), if_pos (by omega), if_pos (by rw [ints_len]; omega), rd_ints l i hlt, e]
    · refine Ev.bind (add_ev (satN acc) l[i] (satN_le _) (hl _ (List.getElem_mem hlt))) ?_
      have := ih (i + 1) (by omega) (acc + l[i])
      rw [List.drop_eq_getElem_cons hlt, totA]
      rw [satN_add_left]
      exact this
theorem sum_ev (l : List Nat) (hl : ∀ x ∈ l, x ≤ 4611686018427387904) (hn : l.length < 1000) : Ev (fun k => bound_sum.f k (ints l)) ((satN (totA 0 l) : Nat) : Int) := by
  have := sum_loop l hl hn l.length 0 (by omega) 0
  simp only [List.drop_zero] at this
  refine Ev.congr (fun k => ?_) this
  unfold bound_sum.f
  rw [ints_len]
  rfl
theorem prd_loop (l : List Nat) (hl : ∀ x ∈ l, x ≤ 4611686018427387904) (hn : l.length < 1000) : ∀ (d i : Nat), i + d = l.length → ∀ acc : Nat,
    Ev (fun k => bound_product.l0 k ((satN acc : Nat) : Int) (ints l) (l.length : Int) (i : Int)) ((satN (prdA acc (l.drop i)) : Nat) : Int) := by
  intro d
  induction d with
  | zero =>
    intro i hi acc
    refine Ev.step (f := fun _ => some ((satN acc : Nat) : Int)) (fun k => ?_) ?_
    · rw [bound_product.l0, if_neg (by omega)]
    · rw [List.drop_eq_nil_of_le (by omega)]
      exact Ev.now _
  | succ d ih =>
    intro i hi acc
    have hlt : i < l.length := by omega
    refine Ev.step (f := fun k => (num_Mul.f k ((satN acc : Nat) : Int) (l[i] : Int) 4611686018427387904).bind fun t => bound_product.l0 k t (ints l) (l.length : Int) ((i + 1 : Nat) : Int)) (fun k => ?_) ?_
    · have e : wrap64 ((i : Int) + 1) = ((i + 1 : Nat) : Int) := by rw [w64 _ (by omega)]; omega
      rw [bound_product.l0, if_pos (by omega), if_pos (by omega), if_pos (by rw [ints_len]; omega), rd_ints l i hlt, e]
    · refine Ev.bind (mul_ev (satN acc) l[i] (satN_le _) (hl _ (List.getElem_mem hlt))) ?_
      have := ih (i + 1) (by omega) (acc * l[i])
      rw [List.drop_eq_getElem_cons hlt, prdA]
      rw [satN_mul_left]
      exact this
theorem product_ev (l : List Nat) (hl : ∀ x ∈ l, x ≤ 4611686018427387904) (hn : l.length < 1000) : Ev (fun k => bound_product.f k (ints l)) ((satN (prdA 1 l) : Nat) : Int) := by
  have := prd_loop l hl hn l.length 0 (by omega) 1
  simp only [List.drop_zero] at this
  refine Ev.congr (fun k => ?_) this
  unfold bound_product.f
  rw [ints_len]
  rfl
def mayB (l : List Int) (m : Int) : Bool := l.all (fun x => decide (0 ≤ x ∧ x ≤ 1099511627776)) && decide (16 ≤ m ∧ m ≤ 1099511627776)
theorem may_loop (m : Int) (l : List Int) (hn : l.length < 1000) : ∀ (d i : Nat), i + d = l.length → Ev (fun k => bound_may.l0 k m l (l.length : Int) (i : Int)) (mayB (l.drop i) m) := by
  intro d
  induction d with
  | zero =>
    intro i hi
    refine Ev.step (f := fun _ => some (mayB (l.drop i) m)) (fun k => ?_) (Ev.now _)
    rw [bound_may.l0, if_neg (by omega), List.drop_eq_nil_of_le (by omega)]
    unfold mayB
    by_cases c : 16 ≤ m
    · rw [if_pos c]; simp [c]
    · rw [if_neg c]; simp [c]
  | succ d ih =>
    intro i hi
    have hlt : i < l.length := by omega
    have e : wrap64 ((i : Int) + 1) = ((i + 1 : Nat) : Int) := by rw [w64 _ (by omega)]; omega
    have er : rd l (i : Int) = l[i] := by
      show l.getD (i : Int).toNat 0 = _
      rw [Int.toNat_natCast, List.getD_eq_getElem?_getD, List.getElem?_eq_getElem hlt]
      rfl
    have hd : mayB (l.drop i) m = (decide (0 ≤ l[i] ∧ l[i] ≤ 1099511627776) && mayB (l.drop (i + 1)) m) := by
      rw [List.drop_eq_getElem_cons hlt]
      unfold mayB
      rw [List.all_cons, Bool.and_assoc]
    by_cases c1 : l[i] < 0
    · refine Ev.step (f := fun _ => some (mayB (l.drop i) m)) (fun k => ?_) (Ev.now _)
      rw [bound_may.l0, if_pos (by omega), if_pos (by omega), if_pos (by omega), er, if_pos c1, hd, decide_eq_false (by omega), Bool.false_and]
    · by_cases c2 : l[i] > 1099511627776
      · refine Ev.step (f := fun _ => some (mayB (l.drop i) m)) (fun k => ?_) (Ev.now _)
        rw [bound_may.l0, if_pos (by omega), if_pos (by omega), if_pos (by omega), er, if_neg c1, if_pos c2, hd, decide_eq_false (by omega), Bool.false_and]
      · refine Ev.step (fun k => ?_) (by rw [hd, decide_eq_true (by omega), Bool.true_and]; exact ih (i + 1) (by omega))
        rw [bound_may.l0, if_pos (by omega), if_pos (by omega), if_pos (by omega), er, if_neg c1, if_neg c2, e]
theorem may_ev (m : Int) (l : List Int) (hn : l.length < 1000) : Ev (fun k => bound_may.f k m l) (mayB l m) := may_loop m l hn l.length 0 (by omega)

/-! #### what it costs to sort -/
theorem xupper (f : Int) (hf : 2 ≤ f) (hf2 : f ≤ 64) : ∀ (k : Nat) (c p v : Int), xsort_Passes.l0 k f p c = some v → 1 ≤ p → 0 ≤ c → p + c ≤ 4611686018427387904 → v ≤ p + c := by
  intro k
  induction k with
  | zero => intro c p v h; simp [xsort_Passes.l0] at h
  | succ k ih =>
    intro c p v h h1 h0 hb
    by_cases hc : c > 1
    · obtain ⟨q1, q2⟩ := ceil_less c f hc hf
      have e1 : wrap64 (c + f) = c + f := w64 _ (by omega)
      have e2 : wrap64 (c + f - 1) = c + f - 1 := w64 _ (by omega)
      have e3 : Int.tdiv (c + f - 1) f = (c + f - 1) / f := Int.tdiv_eq_ediv_of_nonneg (by omega)
      have e4 : wrap64 ((c + f - 1) / f) = (c + f - 1) / f := w64 _ (by omega)
      have e5 : wrap64 (p + 1) = p + 1 := w64 _ (by omega)
      rw [xsort_Passes.l0, if_pos hc, if_neg (by omega), e1, e2, e3, e4, e5] at h
      have := ih _ _ _ h (by omega) (by omega) (by omega)
      omega
    · rw [xsort_Passes.l0, if_neg hc] at h
      obtain rfl := Option.some.inj h
      omega
/-- Who has fewer records, and more left, writes no more often. -/
theorem xpasses_anti2 {n n' m m' v v' : Int} {k k' : Nat} (hn : 0 ≤ n ∧ n ≤ 1099511627776) (hn' : 0 ≤ n' ∧ n' ≤ n) (hm : 16 ≤ m) (hmm : m ≤ m') (hm2 : m' ≤ 1099511627776) (h : xsort_Passes.f k n m = some v) (h' : xsort_Passes.f k' n' m' = some v') : v' ≤ v := by
  have g := up_ (f := fun k => xsort_Passes.f k n m) (fun k => xsort_Passes.mono n m k) (k + 1) (by omega) h
  have g' := up_ (f := fun k => xsort_Passes.f k n' m') (fun k => xsort_Passes.mono n' m' k) (k' + 1) (by omega) h'
  have g1 : xsort_Passes.f (k + 1) n m = some v := g
  have g2 : xsort_Passes.f (k' + 1) n' m' = some v' := g'
  rw [xpasses_f k n m hn (by omega)] at g1
  rw [xpasses_f k' n' m' (by omega) (by omega)] at g2
  have c1 := xcount n m hn (by omega)
  have an := ceil_anti (c := n) (c' := n') (f := m - 8) (f' := m' - 8) hn'.2 hn'.1 (by omega) (by omega)
  refine anti (mn 64 ((m - 4) / 4)) (mn 64 ((m' - 4) / 4)) (xfan m hm).1 ?_ (xfan m' (by omega)).2 k k' _ _ 1 1 v v' g1 g2 (Int.le_refl _) (Int.le_refl _) an.1 an.2 (by omega)
  unfold mn
  split <;> split <;> omega
theorem xpass_ev (r m : Nat) (hr : r ≤ 1099511627776) (hm : 16 ≤ m ∧ m ≤ 1099511627776) : ∃ (k v : Nat), xsort_Passes.f k r m = some (v : Int) ∧ 1 ≤ v ∧ v ≤ 2199023255553 := by
  obtain ⟨k, v, h1, h2⟩ := xpasses (r : Int) (m : Int) (by omega) (by omega)
  obtain ⟨u, rfl⟩ := Int.eq_ofNat_of_zero_le (show 0 ≤ v by omega)
  refine ⟨k, u, h1, by omega, ?_⟩
  have g := up_ (f := fun k => xsort_Passes.f k r m) (fun k => xsort_Passes.mono r m k) (k + 1) (by omega) h1
  have g1 : xsort_Passes.f (k + 1) r m = some (u : Int) := g
  rw [xpasses_f k r m (by omega) (by omega)] at g1
  have c1 := xcount (r : Int) (m : Int) (by omega) (by omega)
  have := xupper _ (xfan (m : Int) (by omega)).1 (xfan (m : Int) (by omega)).2 _ _ _ _ g1 (by omega) c1.1 (by omega)
  omega
theorem sorted_ev (r m v k : Nat) (hr : r ≤ 1099511627776) (hm : 16 ≤ m ∧ m ≤ 1099511627776) (hv : v ≤ 2199023255553) (h : xsort_Passes.f k r m = some (v : Int)) :
    Ev (fun k => bound_sorted.f k r m) ((satN ((v + 1) * (24 * (r + 1))) : Nat) : Int) := by
  unfold bound_sorted.f
  simp only [if_neg (show ¬ (r : Int) > 1099511627776 by omega)]
  refine Ev.bind (Ev.of (fun k => xsort_Passes.mono _ _ k) h) ?_
  refine Ev.bind (a := ((satN (totA 0 [r, 1]) : Nat) : Int)) (sum_ev [r, 1] (by intro x hx; simp at hx; omega) (by simp)) ?_
  have e : wrap64 ((v : Int) + 1) = ((v + 1 : Nat) : Int) := by rw [w64 _ (by omega)]; omega
  simp only [e]
  have h1 := product_ev [v + 1, 24, satN (totA 0 [r, 1])] (by intro x hx; simp at hx; rcases hx with rfl | rfl | rfl; omega; omega; exact satN_le _) (by simp)
  have e2 : satN (prdA 1 [v + 1, 24, satN (totA 0 [r, 1])]) = satN ((v + 1) * (24 * (r + 1))) := by
    simp only [prdA, totA, satN_mul_right]
    congr 1; grind
  rw [e2] at h1
  exact Ev.bind h1 (Ev.now _)
theorem sort_ev (r m v k : Nat) (hr : r ≤ 1099511627776) (hm : 16 ≤ m ∧ m ≤ 1099511627776) (hv : v ≤ 2199023255553) (h : xsort_Passes.f k r m = some (v : Int)) :
    Ev (fun k => bound_Sort.f k r m) ((satN ((v + 1) * (24 * (r + 1))) : Nat) : Int) := by
  unfold bound_Sort.f
  refine Ev.bind (may_ev (m : Int) [(r : Int)] (by simp)) ?_
  have e : mayB [(r : Int)] (m : Int) = true := by simp [mayB]; omega
  simp only [e, if_true]
  exact Ev.bind (sorted_ev r m v k hr hm hv h) (Ev.now _)

/-! ### the law BoundTells -/
theorem cS {a a' : Nat} (h : satN a = satN a') : satN (satN a) = satN a' := (satN_satN a).trans h
theorem cA {a a' b b' : Nat} (h : satN a = satN a') (g : satN b = satN b') : satN (a + b) = satN (a' + b') := by
  rw [← satN_add_right, ← satN_add_left, h, g, satN_add_left, satN_add_right]
theorem cM {a a' b b' : Nat} (h : satN a = satN a') (g : satN b = satN b') : satN (a * b) = satN (a' * b') := by
  rw [← satN_mul_right, ← satN_mul_left, h, g, satN_mul_left, satN_mul_right]
theorem cV {a b x y : Nat} (h : satN a = satN x) (g : satN b = satN y) (e : x = y) : satN a = satN b := by rw [h, g, e]
/-! #### the bound's own sums and products -/
theorem p2 (a b v : Nat) (ha : a ≤ 4611686018427387904) (hb : b ≤ 4611686018427387904) (e : satN (a * b) = v) : Ev (fun k => bound_product.f k [(a : Int), (b : Int)]) (v : Int) := by
  have h := product_ev [a, b] (by intro x hx; simp at hx; rcases hx with rfl | rfl <;> omega) (by simp)
  rw [show prdA 1 [a, b] = a * b by simp [prdA], e] at h
  exact h
theorem p3 (a b c v : Nat) (ha : a ≤ 4611686018427387904) (hb : b ≤ 4611686018427387904) (hc : c ≤ 4611686018427387904) (e : satN (a * b * c) = v) : Ev (fun k => bound_product.f k [(a : Int), (b : Int), (c : Int)]) (v : Int) := by
  have h := product_ev [a, b, c] (by intro x hx; simp at hx; rcases hx with rfl | rfl | rfl <;> omega) (by simp)
  rw [show prdA 1 [a, b, c] = a * b * c by simp [prdA], e] at h
  exact h
theorem p4 (a b c d v : Nat) (ha : a ≤ 4611686018427387904) (hb : b ≤ 4611686018427387904) (hc : c ≤ 4611686018427387904) (hd : d ≤ 4611686018427387904) (e : satN (a * b * c * d) = v) : Ev (fun k => bound_product.f k [(a : Int), (b : Int), (c : Int), (d : Int)]) (v : Int) := by
  have h := product_ev [a, b, c, d] (by intro x hx; simp at hx; rcases hx with rfl | rfl | rfl | rfl <;> omega) (by simp)
  rw [show prdA 1 [a, b, c, d] = a * b * c * d by simp [prdA], e] at h
  exact h
theorem s2 (a b v : Nat) (ha : a ≤ 4611686018427387904) (hb : b ≤ 4611686018427387904) (e : satN (a + b) = v) : Ev (fun k => bound_sum.f k [(a : Int), (b : Int)]) (v : Int) := by
  have h := sum_ev [a, b] (by intro x hx; simp at hx; rcases hx with rfl | rfl <;> omega) (by simp)
  rw [show totA 0 [a, b] = a + b by simp [totA], e] at h
  exact h
theorem s3 (a b c v : Nat) (ha : a ≤ 4611686018427387904) (hb : b ≤ 4611686018427387904) (hc : c ≤ 4611686018427387904) (e : satN (a + b + c) = v) : Ev (fun k => bound_sum.f k [(a : Int), (b : Int), (c : Int)]) (v : Int) := by
  have h := sum_ev [a, b, c] (by intro x hx; simp at hx; rcases hx with rfl | rfl | rfl <;> omega) (by simp)
  rw [show totA 0 [a, b, c] = a + b + c by simp [totA], e] at h
  exact h
theorem s4 (a b c d v : Nat) (ha : a ≤ 4611686018427387904) (hb : b ≤ 4611686018427387904) (hc : c ≤ 4611686018427387904) (hd : d ≤ 4611686018427387904) (e : satN (a + b + c + d) = v) : Ev (fun k => bound_sum.f k [(a : Int), (b : Int), (c : Int), (d : Int)]) (v : Int) := by
  have h := sum_ev [a, b, c, d] (by intro x hx; simp at hx; rcases hx with rfl | rfl | rfl | rfl <;> omega) (by simp)
  rw [show totA 0 [a, b, c, d] = a + b + c + d by simp [totA], e] at h
  exact h
theorem s5 (a b c d f v : Nat) (ha : a ≤ 4611686018427387904) (hb : b ≤ 4611686018427387904) (hc : c ≤ 4611686018427387904) (hd : d ≤ 4611686018427387904) (hf : f ≤ 4611686018427387904) (e : satN (a + b + c + d + f) = v) : Ev (fun k => bound_sum.f k [(a : Int), (b : Int), (c : Int), (d : Int), (f : Int)]) (v : Int) := by
  have h := sum_ev [a, b, c, d, f] (by intro x hx; simp at hx; rcases hx with rfl | rfl | rfl | rfl | rfl <;> omega) (by simp)
  rw [show totA 0 [a, b, c, d, f] = a + b + c + d + f by simp [totA], e] at h
  exact h
theorem blay (a n v : Nat) (ha : a ≤ 4611686018427387904) (hn : n ≤ 4611686018427387904) (e : satN (n * (a + 8)) = v) : Ev (fun k => bound_lay.f k a n) (v : Int) := by
  unfold bound_lay.f
  refine Ev.bind (s2 a 8 _ ha (by omega) rfl) ?_
  refine Ev.bind (p2 n (satN (a + 8)) v hn (satN_le _) (by rw [satN_mul_right]; exact e)) ?_
  exact Ev.now _
/-! #### the other reckoning's -/
theorem rmul (a b v : Nat) (ha : a ≤ 4611686018427387904) (hb : b ≤ 4611686018427387904) (e : satN (a * b) = v) : Ev (fun k => chainmanref40_mul.f k a b) (v : Int) := by
  unfold chainmanref40_mul.f chainmanref40_far.f
  subst e
  refine Ev.congr (f := fun k => (chainmanref01_Mul.f k a b 4611686018427387904).bind fun t => some t) (fun k => rfl) (Ev.bind (a := ((satN (a * b) : Nat) : Int)) ?_ (Ev.now _))
  refine Ev.of (fun k => chainmanref01_Mul.mono _ _ _ k) (k := 2) ?_
  unfold chainmanref01_Mul.f
  rw [if_neg (by omega), if_neg (by omega), chainmanref01_Mul.j0, if_neg (by simp)]
  by_cases za : a = 0
  · subst za
    rw [if_pos (by simp), chainmanref01_Mul.j1, if_pos rfl, Nat.zero_mul, satN_self 0 (by omega)]
    rfl
  · rw [if_neg (by omega), chainmanref01_Mul.j1]
    by_cases zb : b = 0
    · subst zb
      rw [if_pos (by simp), Nat.mul_zero, satN_self 0 (by omega)]
      rfl
    · rw [if_neg (by simp; omega), if_neg (by omega)]
      have hp : 0 < b := by omega
      have e1 : wrap64 (Int.tdiv 4611686018427387904 (b : Int)) = ((4611686018427387904 / b : Nat) : Int) := by
        have h1 : Int.tdiv 4611686018427387904 (b : Int) = ((4611686018427387904 / b : Nat) : Int) := by
          rw [Int.tdiv_eq_ediv_of_nonneg (by omega), Int.natCast_ediv]; rfl
        have h2 := Nat.div_le_self 4611686018427387904 b
        generalize 4611686018427387904 / b = q at h1 h2 ⊢
        have h3 : -9223372036854775808 ≤ (q : Int) ∧ (q : Int) ≤ 9223372036854775807 := by clear h1; omega
        rw [h1, w64 _ h3]
      rw [e1]
      have key : a ≤ 4611686018427387904 / b ↔ a * b ≤ 4611686018427387904 := Nat.le_div_iff_mul_le hp
      generalize 4611686018427387904 / b = q at key
      rw [← Int.natCast_mul]
      generalize a * b = p at key
      by_cases c : a ≤ q
      · have := key.mp c
        rw [if_neg (by omega), satN_self p this, w64 _ (by omega)]
      · have : ¬ p ≤ 4611686018427387904 := fun h => c (key.mpr h)
        rw [if_pos (by omega)]
        unfold satN
        rw [if_pos (by omega)]
        rfl
theorem radd1 (a b : Nat) (ha : a ≤ 4611686018427387904) (hb : b ≤ 4611686018427387904) : Ev (fun k => chainmanref01_Add.f k a b 4611686018427387904) ((satN (a + b) : Nat) : Int) := by
  refine Ev.of (fun k => chainmanref01_Add.mono _ _ _ k) (k := 1) ?_
  unfold chainmanref01_Add.f
  have e1 : wrap64 (4611686018427387904 - (a : Int)) = 4611686018427387904 - (a : Int) := w64 _ (by omega)
  rw [if_neg (by omega), if_neg (by omega), chainmanref01_Add.j0, if_neg (by simp), if_neg (by omega), e1]
  clear e1
  unfold satN
  by_cases c : 4611686018427387904 < a + b
  · rw [if_pos (by omega), if_pos c]; rfl
  · rw [if_neg (by omega), if_neg c, w64 _ (by omega)]; simp
theorem radd_loop (l : List Nat) (hl : ∀ x ∈ l, x ≤ 4611686018427387904) (hn : l.length < 1000) : ∀ (d i : Nat), i + d = l.length → ∀ acc : Nat,
    Ev (fun k => chainmanref40_add.l0 k (ints l) ((satN acc : Nat) : Int) (i : Int)) ((satN (totA acc (l.drop i)) : Nat) : Int) := by
  intro d
  induction d with
  | zero =>
    intro i hi acc
    refine Ev.step (f := fun _ => some ((satN acc : Nat) : Int)) (fun k => ?_) ?_
    · rw [chainmanref40_add.l0, if_neg (by rw [ints_len]; omega)]
    · rw [List.drop_eq_nil_of_le (by omega)]
      exact Ev.now _
  | succ d ih =>
    intro i hi acc
    have hlt : i < l.length := by omega
    refine Ev.step (f := fun k => (chainmanref01_Add.f k ((satN acc : Nat) : Int) (l[i] : Int) 4611686018427387904).bind fun t => chainmanref40_add.l0 k (ints l) t ((i + 1 : Nat) : Int)) (fun k => ?_) ?_
    · have e : wrap64 ((i : Int) + 1) = ((i + 1 : Nat) : Int) := by rw [w64 _ (by omega)]; omega
      rw [chainmanref40_add.l0, if_pos (by rw [ints_len]; omega), if_pos (by omega), rd_ints l i hlt, e]
      rfl
    · refine Ev.bind (radd1 (satN acc) l[i] (satN_le _) (hl _ (List.getElem_mem hlt))) ?_
      have := ih (i + 1) (by omega) (acc + l[i])
      rw [List.drop_eq_getElem_cons hlt, totA]
      rw [satN_add_left]
      exact this
theorem radd (l : List Nat) (v : Nat) (hl : ∀ x ∈ l, x ≤ 4611686018427387904) (hn : l.length < 1000) (e : satN (totA 0 l) = v) : Ev (fun k => chainmanref40_add.f k (ints l)) (v : Int) := by
  have := radd_loop l hl hn l.length 0 (by omega) 0
  simp only [List.drop_zero] at this
  rw [e] at this
  refine Ev.congr (fun k => ?_) this
  unfold chainmanref40_add.f
  rfl
theorem rlay (a v : Nat) (ha : a ≤ 4611686018427387904) (e : satN (a + 8) = v) : Ev (fun k => chainmanref40_lay.f k a) (v : Int) := by
  unfold chainmanref40_lay.f
  exact Ev.bind (radd [a, 8] v (by intro x hx; simp at hx; omega) (by simp) (by simp only [totA, Nat.zero_add]; exact e)) (Ev.now _)
theorem rmay_loop (m : Int) (l : List Int) (hn : l.length < 1000) : ∀ (d i : Nat), i + d = l.length → Ev (fun k => chainmanref40_may.l0 k l m (i : Int)) (mayB (l.drop i) m) := by
  intro d
  induction d with
  | zero =>
    intro i hi
    refine Ev.step (f := fun _ => some (mayB (l.drop i) m)) (fun k => ?_) (Ev.now _)
    rw [chainmanref40_may.l0, if_neg (by omega), List.drop_eq_nil_of_le (by omega)]
    unfold mayB
    by_cases c : 16 ≤ m
    · rw [if_pos c]; simp [c]
    · rw [if_neg c]; simp [c]
  | succ d ih =>
    intro i hi
    have hlt : i < l.length := by omega
    have e : wrap64 ((i : Int) + 1) = ((i + 1 : Nat) : Int) := by rw [w64 _ (by omega)]; omega
    have er : rd l (i : Int) = l[i] := by
      show l.getD (i : Int).toNat 0 = _
      rw [Int.toNat_natCast, List.getD_eq_getElem?_getD, List.getElem?_eq_getElem hlt]
      rfl
    have hd : mayB (l.drop i) m = (decide (0 ≤ l[i] ∧ l[i] ≤ 1099511627776) && mayB (l.drop (i + 1)) m) := by
      rw [List.drop_eq_getElem_cons hlt]
      unfold mayB
      rw [List.all_cons, Bool.and_assoc]
    by_cases c1 : l[i] < 0
    · refine Ev.step (f := fun _ => some (mayB (l.drop i) m)) (fun k => ?_) (Ev.now _)
      rw [chainmanref40_may.l0, if_pos (by omega), if_pos (by omega), er, if_pos c1, hd, decide_eq_false (by omega), Bool.false_and]
    · by_cases c2 : l[i] > 1099511627776
      · refine Ev.step (f := fun _ => some (mayB (l.drop i) m)) (fun k => ?_) (Ev.now _)
        rw [chainmanref40_may.l0, if_pos (by omega), if_pos (by omega), er, if_neg c1, if_pos c2, hd, decide_eq_false (by omega), Bool.false_and]
      · refine Ev.step (fun k => ?_) (by rw [hd, decide_eq_true (by omega), Bool.true_and]; exact ih (i + 1) (by omega))
        rw [chainmanref40_may.l0, if_pos (by omega), if_pos (by omega), er, if_neg c1, if_neg c2, e]
theorem rmay_ev (m : Int) (l : List Int) (hn : l.length < 1000) : Ev (fun k => chainmanref40_may.f k l m) (mayB l m) := rmay_loop m l hn l.length 0 (by omega)
/-! #### sorting -/
theorem pl_eq : ∀ (k : Nat) (f p c : Int), xsort_Passes.l0 k f p c = chainmanref18_Passes.l0 k c f p := by
  intro k
  induction k with
  | zero => intro f p c; rfl
  | succ k ih => intro f p c; rw [xsort_Passes.l0, chainmanref18_Passes.l0, ih]
theorem pass_eq (k : Nat) (n m : Int) : xsort_Passes.f k n m = chainmanref18_Passes.f k n m := by
  have t : ∀ k, xsort_Passes.j0 k n m true = chainmanref18_Passes.j0 k n m true := by intro k; cases k <;> rfl
  unfold xsort_Passes.f chainmanref18_Passes.f
  by_cases h1 : n < 0
  · rw [if_pos h1, if_pos h1, t]
  · by_cases h2 : n > 1099511627776
    · rw [if_neg h1, if_neg h1, if_pos h2, if_pos h2, t]
    · by_cases h3 : m < 16
      · rw [if_neg h1, if_neg h1, if_neg h2, if_neg h2, if_pos h3, if_pos h3, t]
      · rw [if_neg h1, if_neg h1, if_neg h2, if_neg h2, if_neg h3, if_neg h3]
        by_cases h4 : m > 1099511627776
        · rw [decide_eq_true h4, t]
        · rw [decide_eq_false h4]
          cases k with
          | zero => rfl
          | succ k =>
            have e1 : wrap64 (m - 8) = m - 8 := w64 _ (by omega)
            have e2 : wrap64 (n + (m - 8)) = n + (m - 8) := w64 _ (by omega)
            have e3 : wrap64 (n + m) = n + m := w64 _ (by omega)
            have e4 : n + (m - 8) - 1 = n + m - 9 := by omega
            rw [xsort_Passes.j0, chainmanref18_Passes.j0, if_neg (by simp), if_neg (by simp)]
            unfold xsort_room.f
            simp only [e1, Option.bind_some, e2, e3, e4, pl_eq]
theorem both_sort (r m : Nat) (hr : r ≤ 4611686018427387904) (hm : 16 ≤ m ∧ m ≤ 1099511627776) :
    ∃ s : Nat, s ≤ 4611686018427387904 ∧ Ev (fun k => bound_sorted.f k r m) (s : Int) ∧ Ev (fun k => chainmanref40_sort.f k r m) (s : Int) := by
  by_cases c : r ≤ 1099511627776
  · obtain ⟨k, v, h, b1, b2⟩ := xpass_ev r m c hm
    refine ⟨satN ((v + 1) * (24 * (r + 1))), satN_le _, sorted_ev r m v k c hm b2 h, ?_⟩
    unfold chainmanref40_sort.f
    simp only [if_neg (show ¬ (r : Int) > 1099511627776 by omega)]
    refine Ev.bind (Ev.of (fun k => chainmanref18_Passes.mono _ _ k) ((pass_eq k r m).symm.trans h)) ?_
    refine Ev.bind (radd [r, 1] (satN (r + 1)) (by intro x hx; simp at hx; omega) (by simp) (by simp only [totA, Nat.zero_add])) ?_
    refine Ev.bind (rmul 24 (satN (r + 1)) (satN (24 * (r + 1))) (by omega) (satN_le _) (satN_mul_right _ _)) ?_
    have e : wrap64 ((v : Int) + 1) = ((v + 1 : Nat) : Int) := by rw [w64 _ (by omega)]; omega
    simp only [e]
    exact Ev.bind (rmul (v + 1) (satN (24 * (r + 1))) _ (by omega) (satN_le _) (satN_mul_right _ _)) (Ev.now _)
  · refine ⟨4611686018427387904, Nat.le_refl _, ?_, ?_⟩
    · unfold bound_sorted.f
      simp only [if_pos (show (r : Int) > 1099511627776 by omega)]
      exact Ev.now _
    · unfold chainmanref40_sort.f chainmanref40_far.f
      simp only [if_pos (show (r : Int) > 1099511627776 by omega)]
      exact Ev.now _
theorem mayB1 (a m : Int) (h : mayB [a] m = true) : (0 ≤ a ∧ a ≤ 1099511627776) ∧ 16 ≤ m ∧ m ≤ 1099511627776 := by simpa [mayB] using h
theorem mayB2 (a b m : Int) (h : mayB [a, b] m = true) : ((0 ≤ a ∧ a ≤ 1099511627776) ∧ 0 ≤ b ∧ b ≤ 1099511627776) ∧ 16 ≤ m ∧ m ≤ 1099511627776 := by simpa [mayB] using h
theorem mayB3 (a b c m : Int) (h : mayB [a, b, c] m = true) : ((0 ≤ a ∧ a ≤ 1099511627776) ∧ (0 ≤ b ∧ b ≤ 1099511627776) ∧ 0 ≤ c ∧ c ≤ 1099511627776) ∧ 16 ≤ m ∧ m ≤ 1099511627776 := by simpa [mayB] using h
theorem both_Sort (a m : Int) : ∃ v : Int, 0 ≤ v ∧ Ev (fun k => bound_Sort.f k a m) v ∧ Ev (fun k => chainmanref40_Sort.f k a m) v := by
  cases h : mayB [a] m with
  | false =>
    refine ⟨0, Int.le_refl _, ?_, ?_⟩
    · unfold bound_Sort.f
      refine Ev.bind (may_ev m [a] (by simp)) ?_
      simp only [h]
      exact Ev.now _
    · unfold chainmanref40_Sort.f
      refine Ev.bind (rmay_ev m [a] (by simp)) ?_
      simp only [h]
      exact Ev.now _
  | true =>
    obtain ⟨h1, h2⟩ := mayB1 a m h
    obtain ⟨r, rfl⟩ := Int.eq_ofNat_of_zero_le h1.1
    obtain ⟨n, rfl⟩ := Int.eq_ofNat_of_zero_le (show 0 ≤ m by omega)
    obtain ⟨s, b, e1, e2⟩ := both_sort r n (by omega) (by omega)
    refine ⟨s, by omega, ?_, ?_⟩
    · unfold bound_Sort.f
      refine Ev.bind (may_ev _ [(r : Int)] (by simp)) ?_
      simp only [h]
      exact Ev.bind e1 (Ev.now _)
    · unfold chainmanref40_Sort.f
      refine Ev.bind (rmay_ev _ [(r : Int)] (by simp)) ?_
      simp only [h]
      exact Ev.bind e2 (Ev.now _)
/-! #### a join -/
theorem both_Join (a b m : Int) : ∃ v : Nat, v ≤ 4611686018427387904 ∧ Ev (fun k => bound_Join.f k a b m) (v : Int) ∧ Ev (fun k => chainmanref40_Join.f k a b m) (v : Int) := by
  cases h : mayB [a, b] m with
  | false =>
    refine ⟨0, by omega, ?_, ?_⟩
    · unfold bound_Join.f
      refine Ev.bind (may_ev m [a, b] (by simp)) ?_
      simp only [h]
      exact Ev.now _
    · unfold chainmanref40_Join.f
      refine Ev.bind (rmay_ev m [a, b] (by simp)) ?_
      simp only [h]
      exact Ev.now _
  | true =>
    obtain ⟨⟨h1, h3⟩, h2⟩ := mayB2 a b m h
    obtain ⟨r, rfl⟩ := Int.eq_ofNat_of_zero_le h1.1
    obtain ⟨q, rfl⟩ := Int.eq_ofNat_of_zero_le h3.1
    obtain ⟨n, rfl⟩ := Int.eq_ofNat_of_zero_le (show 0 ≤ m by omega)
    have hr : r ≤ 1099511627776 := by omega
    have hq : q ≤ 1099511627776 := by omega
    clear h1 h3
    obtain ⟨sa, ba, e1, f1⟩ := both_sort r n (by omega) (by omega)
    obtain ⟨sb, bb, e2, f2⟩ := both_sort (satN (5 * (q + 1))) n (satN_le _) (by omega)
    refine ⟨satN (r + 2 * (r + 8) + sa + ((r + 8) + 64 * (r + 1) * (r + 1)) + 2 * (5 * (q + 1) + 8) + sb), satN_le _, ?_, ?_⟩
    · unfold bound_Join.f
      refine Ev.bind (may_ev _ [(r : Int), (q : Int)] (by simp)) ?_
      simp only [h, if_true]
      refine Ev.bind (s2 q 1 (satN (q + 1)) (by omega) (by omega) rfl) ?_
      refine Ev.bind (p2 5 (satN (q + 1)) (satN (5 * (q + 1))) (by omega) (satN_le _) (satN_mul_right _ _)) ?_
      refine Ev.bind (blay r 2 (satN (2 * (r + 8))) (by omega) (by omega) rfl) ?_
      refine Ev.bind e1 ?_
      refine Ev.bind (s3 r (satN (2 * (r + 8))) sa (satN (r + 2 * (r + 8) + sa)) (by omega) (satN_le _) ba (cA (cA rfl (cS rfl)) rfl)) ?_
      refine Ev.bind (blay r 1 (satN (r + 8)) (by omega) (by omega) (by rw [Nat.one_mul])) ?_
      refine Ev.bind (s2 r 1 (satN (r + 1)) (by omega) (by omega) rfl) ?_
      refine Ev.bind (s2 r 1 (satN (r + 1)) (by omega) (by omega) rfl) ?_
      refine Ev.bind (p3 64 (satN (r + 1)) (satN (r + 1)) (satN (64 * (r + 1) * (r + 1))) (by omega) (satN_le _) (satN_le _) (cM (cM rfl (cS rfl)) (cS rfl))) ?_
      refine Ev.bind (s2 (satN (r + 8)) (satN (64 * (r + 1) * (r + 1))) (satN ((r + 8) + 64 * (r + 1) * (r + 1))) (satN_le _) (satN_le _) (cA (cS rfl) (cS rfl))) ?_
      refine Ev.bind (blay (satN (5 * (q + 1))) 2 (satN (2 * (5 * (q + 1) + 8))) (satN_le _) (by omega) (cM rfl (cA (cS rfl) rfl))) ?_
      refine Ev.bind e2 ?_
      refine Ev.bind (s4 (satN (r + 2 * (r + 8) + sa)) (satN ((r + 8) + 64 * (r + 1) * (r + 1))) (satN (2 * (5 * (q + 1) + 8))) sb _ (satN_le _) (satN_le _) (satN_le _) bb (cA (cA (cA (cS rfl) (cS rfl)) (cS rfl)) rfl)) ?_
      exact Ev.now _
    · unfold chainmanref40_Join.f
      refine Ev.bind (rmay_ev _ [(r : Int), (q : Int)] (by simp)) ?_
      simp only [h, if_true]
      refine Ev.bind (radd [q, 1] (satN (q + 1)) (by intro x hx; simp at hx; omega) (by simp) (by simp only [totA, Nat.zero_add])) ?_
      refine Ev.bind (rmul 5 (satN (q + 1)) (satN (5 * (q + 1))) (by omega) (satN_le _) (satN_mul_right _ _)) ?_
      refine Ev.bind (radd [r, 1] (satN (r + 1)) (by intro x hx; simp at hx; omega) (by simp) (by simp only [totA, Nat.zero_add])) ?_
      refine Ev.bind (radd [r, 1] (satN (r + 1)) (by intro x hx; simp at hx; omega) (by simp) (by simp only [totA, Nat.zero_add])) ?_
      refine Ev.bind (rmul (satN (r + 1)) (satN (r + 1)) (satN ((r + 1) * (r + 1))) (satN_le _) (satN_le _) (cM (cS rfl) (cS rfl))) ?_
      refine Ev.bind (rmul 64 (satN ((r + 1) * (r + 1))) (satN (64 * ((r + 1) * (r + 1)))) (by omega) (satN_le _) (satN_mul_right _ _)) ?_
      refine Ev.bind (rlay r (satN (r + 8)) (by omega) rfl) ?_
      refine Ev.bind (rlay r (satN (r + 8)) (by omega) rfl) ?_
      refine Ev.bind f1 ?_
      refine Ev.bind (rlay r (satN (r + 8)) (by omega) rfl) ?_
      refine Ev.bind (rlay (satN (5 * (q + 1))) (satN (5 * (q + 1) + 8)) (satN_le _) (cA (cS rfl) rfl)) ?_
      refine Ev.bind (rlay (satN (5 * (q + 1))) (satN (5 * (q + 1) + 8)) (satN_le _) (cA (cS rfl) rfl)) ?_
      refine Ev.bind f2 ?_
      refine Ev.bind (radd [r, satN (r + 8), satN (r + 8), sa, satN (r + 8), satN (64 * ((r + 1) * (r + 1))), satN (5 * (q + 1) + 8), satN (5 * (q + 1) + 8), sb] _ ?_ (by simp) ?_) (Ev.now _)
      · intro x hx
        simp only [List.mem_cons, List.mem_nil_iff, or_false] at hx
        rcases hx with rfl | rfl | rfl | rfl | rfl | rfl | rfl | rfl | rfl
        all_goals first | exact satN_le _ | omega
      · simp only [totA, Nat.zero_add]
        refine cV (cA (cA (cA (cA (cA (cA (cA (cA rfl (cS rfl)) (cS rfl)) rfl) (cS rfl)) (cS rfl)) (cS rfl)) (cS rfl)) rfl) rfl ?_
        grind
/-! #### a round -/
theorem both_Round (a b c m : Int) : ∃ v : Nat, v ≤ 4611686018427387904 ∧ Ev (fun k => bound_Round.f k a b c m) (v : Int) ∧ Ev (fun k => chainmanref40_Round.f k a b c m) (v : Int) := by
  cases h : mayB [a, b, c] m with
  | false =>
    refine ⟨0, by omega, ?_, ?_⟩
    · unfold bound_Round.f
      refine Ev.bind (may_ev m [a, b, c] (by simp)) ?_
      simp only [h]
      exact Ev.now _
    · unfold chainmanref40_Round.f
      refine Ev.bind (rmay_ev m [a, b, c] (by simp)) ?_
      simp only [h]
      exact Ev.now _
  | true =>
    obtain ⟨⟨h1, h3, h4⟩, h2⟩ := mayB3 a b c m h
    obtain ⟨p, rfl⟩ := Int.eq_ofNat_of_zero_le h1.1
    obtain ⟨q, rfl⟩ := Int.eq_ofNat_of_zero_le h3.1
    obtain ⟨d, rfl⟩ := Int.eq_ofNat_of_zero_le h4.1
    obtain ⟨n, rfl⟩ := Int.eq_ofNat_of_zero_le (show 0 ≤ m by omega)
    have hp : p ≤ 4611686018427387904 := by omega
    have hq : q ≤ 4611686018427387904 := by omega
    have hd : d ≤ 4611686018427387904 := by omega
    clear h1 h3 h4
    have t16 : (16 : Nat) ≤ 4611686018427387904 := by omega
    have t4 : (4 : Nat) ≤ 4611686018427387904 := by omega
    have t3 : (3 : Nat) ≤ 4611686018427387904 := by omega
    have t2 : (2 : Nat) ≤ 4611686018427387904 := by omega
    have t1 : (1 : Nat) ≤ 4611686018427387904 := by omega
    have t8 : (8 : Nat) ≤ 4611686018427387904 := by omega
    obtain ⟨sa, ba, e1, f1⟩ := both_sort (satN (4 * (d * p))) n (satN_le _) (by omega)
    obtain ⟨sb, bb, e2, f2⟩ := both_sort (satN (2 * (16 * (d * (d * p))))) n (satN_le _) (by omega)
    refine ⟨satN ((2 * (p * q + 8) + sa + 2 * (4 * (d * p) + 8)) + (3 * (16 * (d * (d * p))) + (2 * (16 * (d * (d * p))) + 8) + sb) + (2 * (16 * (d * (d * p))) + 8) + 2 * (p * q + 8) + 8), satN_le _, ?_, ?_⟩
    · unfold bound_Round.f
      refine Ev.bind (may_ev _ [(p : Int), (q : Int), (d : Int)] (by simp)) ?_
      simp only [h, if_true]
      refine Ev.bind (p2 p q (satN (p * q)) hp hq rfl) ?_
      refine Ev.bind (p3 4 d p (satN (4 * (d * p))) t4 hd hp (by rw [Nat.mul_assoc])) ?_
      refine Ev.bind (p4 16 d d p (satN (16 * (d * (d * p)))) t16 hd hd hp (by rw [Nat.mul_assoc, Nat.mul_assoc])) ?_
      refine Ev.bind (p2 2 (satN (16 * (d * (d * p)))) (satN (2 * (16 * (d * (d * p))))) t2 (satN_le _) (satN_mul_right _ _)) ?_
      refine Ev.bind (blay (satN (p * q)) 2 (satN (2 * (p * q + 8))) (satN_le _) t2 (cM rfl (cA (cS rfl) rfl))) ?_
      refine Ev.bind e1 ?_
      refine Ev.bind (blay (satN (4 * (d * p))) 2 (satN (2 * (4 * (d * p) + 8))) (satN_le _) t2 (cM rfl (cA (cS rfl) rfl))) ?_
      refine Ev.bind (s3 (satN (2 * (p * q + 8))) sa (satN (2 * (4 * (d * p) + 8))) (satN (2 * (p * q + 8) + sa + 2 * (4 * (d * p) + 8))) (satN_le _) ba (satN_le _) (cA (cA (cS rfl) rfl) (cS rfl))) ?_
      refine Ev.bind (p2 3 (satN (16 * (d * (d * p)))) (satN (3 * (16 * (d * (d * p))))) t3 (satN_le _) (satN_mul_right _ _)) ?_
      refine Ev.bind (blay (satN (2 * (16 * (d * (d * p))))) 1 (satN (2 * (16 * (d * (d * p))) + 8)) (satN_le _) t1 (by rw [Nat.one_mul]; exact cA (cS rfl) rfl)) ?_
      refine Ev.bind e2 ?_
      refine Ev.bind (s3 (satN (3 * (16 * (d * (d * p))))) (satN (2 * (16 * (d * (d * p))) + 8)) sb (satN (3 * (16 * (d * (d * p))) + (2 * (16 * (d * (d * p))) + 8) + sb)) (satN_le _) (satN_le _) bb (cA (cA (cS rfl) (cS rfl)) rfl)) ?_
      refine Ev.bind (blay (satN (2 * (16 * (d * (d * p))))) 1 (satN (2 * (16 * (d * (d * p))) + 8)) (satN_le _) t1 (by rw [Nat.one_mul]; exact cA (cS rfl) rfl)) ?_
      refine Ev.bind (blay (satN (p * q)) 2 (satN (2 * (p * q + 8))) (satN_le _) t2 (cM rfl (cA (cS rfl) rfl))) ?_
      refine Ev.bind (s5 (satN (2 * (p * q + 8) + sa + 2 * (4 * (d * p) + 8))) (satN (3 * (16 * (d * (d * p))) + (2 * (16 * (d * (d * p))) + 8) + sb)) (satN (2 * (16 * (d * (d * p))) + 8)) (satN (2 * (p * q + 8))) 8 _ (satN_le _) (satN_le _) (satN_le _) (satN_le _) t8 (cA (cA (cA (cA (cS rfl) (cS rfl)) (cS rfl)) (cS rfl)) rfl)) ?_
      exact Ev.now _
    · unfold chainmanref40_Round.f
      refine Ev.bind (rmay_ev _ [(p : Int), (q : Int), (d : Int)] (by simp)) ?_
      simp only [h, if_true]
      refine Ev.bind (rmul p q (satN (p * q)) hp hq rfl) ?_
      refine Ev.bind (rmul d p (satN (d * p)) hd hp rfl) ?_
      refine Ev.bind (rmul 4 (satN (d * p)) (satN (4 * (d * p))) t4 (satN_le _) (satN_mul_right _ _)) ?_
      refine Ev.bind (rmul d (satN (d * p)) (satN (d * (d * p))) hd (satN_le _) (satN_mul_right _ _)) ?_
      refine Ev.bind (rmul 16 (satN (d * (d * p))) (satN (16 * (d * (d * p)))) t16 (satN_le _) (satN_mul_right _ _)) ?_
      refine Ev.bind (rmul 2 (satN (16 * (d * (d * p)))) (satN (2 * (16 * (d * (d * p))))) t2 (satN_le _) (satN_mul_right _ _)) ?_
      refine Ev.bind (rlay (satN (p * q)) (satN (p * q + 8)) (satN_le _) (cA (cS rfl) rfl)) ?_
      refine Ev.bind (rlay (satN (p * q)) (satN (p * q + 8)) (satN_le _) (cA (cS rfl) rfl)) ?_
      refine Ev.bind f1 ?_
      refine Ev.bind (rlay (satN (4 * (d * p))) (satN (4 * (d * p) + 8)) (satN_le _) (cA (cS rfl) rfl)) ?_
      refine Ev.bind (rlay (satN (4 * (d * p))) (satN (4 * (d * p) + 8)) (satN_le _) (cA (cS rfl) rfl)) ?_
      refine Ev.bind (rmul 3 (satN (16 * (d * (d * p)))) (satN (3 * (16 * (d * (d * p))))) t3 (satN_le _) (satN_mul_right _ _)) ?_
      refine Ev.bind (rlay (satN (2 * (16 * (d * (d * p))))) (satN (2 * (16 * (d * (d * p))) + 8)) (satN_le _) (cA (cS rfl) rfl)) ?_
      refine Ev.bind f2 ?_
      refine Ev.bind (rlay (satN (2 * (16 * (d * (d * p))))) (satN (2 * (16 * (d * (d * p))) + 8)) (satN_le _) (cA (cS rfl) rfl)) ?_
      refine Ev.bind (rlay (satN (p * q)) (satN (p * q + 8)) (satN_le _) (cA (cS rfl) rfl)) ?_
      refine Ev.bind (rlay (satN (p * q)) (satN (p * q + 8)) (satN_le _) (cA (cS rfl) rfl)) ?_
      refine Ev.bind (radd [satN (p * q + 8), satN (p * q + 8), sa, satN (4 * (d * p) + 8), satN (4 * (d * p) + 8), satN (3 * (16 * (d * (d * p)))), satN (2 * (16 * (d * (d * p))) + 8), sb, satN (2 * (16 * (d * (d * p))) + 8), satN (p * q + 8), satN (p * q + 8), 8] _ ?_ (by simp) ?_) (Ev.now _)
      · intro x hx
        simp only [List.mem_cons, List.mem_nil_iff, or_false] at hx
        rcases hx with rfl | rfl | rfl | rfl | rfl | rfl | rfl | rfl | rfl | rfl | rfl | rfl
        all_goals first | exact satN_le _ | omega
      · simp only [totA, Nat.zero_add]
        refine cV (cA (cA (cA (cA (cA (cA (cA (cA (cA (cA (cA (cS rfl) (cS rfl)) rfl) (cS rfl)) (cS rfl)) (cS rfl)) (cS rfl)) rfl) (cS rfl)) (cS rfl)) (cS rfl)) rfl) rfl ?_
        generalize d * (d * p) = y
        generalize d * p = x
        generalize p * q = z
        omega
/-! #### a job -/
theorem w_ev (a lo hi : Int) (h : lo ≤ hi) : Ev (fun k => descent_within.f k a lo hi) (decide (lo ≤ a ∧ a ≤ hi)) := by
  unfold descent_within.f
  refine Ev.bind (Ev.of (fun k => num_Hold.mono _ _ _ k) (hold_eq a lo hi)) ?_
  have e : ((if a < lo then lo else if hi < a then hi else a) == a) = decide (lo ≤ a ∧ a ≤ hi) := by
    by_cases c1 : a < lo
    · rw [if_pos c1, decide_eq_false (by omega)]; simp; omega
    · rw [if_neg c1]
      by_cases c2 : hi < a
      · rw [if_pos c2, decide_eq_false (by omega)]; simp; omega
      · rw [if_neg c2, decide_eq_true (by omega)]; simp
  rw [e]
  exact Ev.now _
theorem right_both (c0 c1 c2 c3 c4 c5 c6 c7 c8 : Int) : ∃ b : Bool, (b = true → (1 ≤ c3 ∧ c3 ≤ 64) ∧ (1 ≤ c4 ∧ c4 ≤ 1000) ∧ 1 ≤ c6 ∧ c6 ≤ 64) ∧
    Ev (fun k => descent_Right.f k c0 c1 c2 c3 c4 c5 c6 c7 c8) b ∧ chainmanref32_Right.f c0 c1 c2 c3 c4 c5 c6 c7 c8 = some b := by
  unfold descent_Right.f chainmanref32_Right.f
  by_cases h1 : 1 ≤ c3 ∧ c3 ≤ 64
  · by_cases h2 : 1 ≤ c4 ∧ c4 ≤ 1000
    · by_cases h3 : 1 ≤ c6 ∧ c6 ≤ 64
      · refine ⟨decide (0 ≤ c7 ∧ c7 ≤ 1000), fun _ => ⟨h1, h2, h3⟩, ?_, ?_⟩
        · refine Ev.bind (w_ev _ _ _ (by decide)) ?_
          simp only [decide_eq_true h1, if_true]
          refine Ev.bind (w_ev _ _ _ (by decide)) ?_
          simp only [decide_eq_true h2, if_true]
          refine Ev.bind (w_ev _ _ _ (by decide)) ?_
          simp only [decide_eq_true h3, if_true]
          exact Ev.bind (w_ev _ _ _ (by decide)) (Ev.now _)
        · rw [if_pos h1.1, if_pos h1.2, if_pos h2.1, if_pos h2.2, if_pos h3.1, if_pos h3.2]
          by_cases c : c7 ≥ 0
          · rw [if_pos c]; simp only [Option.some.injEq, decide_eq_decide]; omega
          · rw [if_neg c, decide_eq_false (by omega)]
      · refine ⟨false, (fun h => by cases h), ?_, ?_⟩
        · refine Ev.bind (w_ev _ _ _ (by decide)) ?_
          simp only [decide_eq_true h1, if_true]
          refine Ev.bind (w_ev _ _ _ (by decide)) ?_
          simp only [decide_eq_true h2, if_true]
          refine Ev.bind (w_ev _ _ _ (by decide)) ?_
          simp only [decide_eq_false h3]
          exact Ev.now _
        · rw [if_pos h1.1, if_pos h1.2, if_pos h2.1, if_pos h2.2]
          by_cases c : c6 ≥ 1
          · rw [if_pos c, if_neg (by omega)]
          · rw [if_neg c]
    · refine ⟨false, (fun h => by cases h), ?_, ?_⟩
      · refine Ev.bind (w_ev _ _ _ (by decide)) ?_
        simp only [decide_eq_true h1, if_true]
        refine Ev.bind (w_ev _ _ _ (by decide)) ?_
        simp only [decide_eq_false h2]
        exact Ev.now _
      · rw [if_pos h1.1, if_pos h1.2]
        by_cases c : c4 ≥ 1
        · rw [if_pos c, if_neg (by omega)]
        · rw [if_neg c]
  · refine ⟨false, (fun h => by cases h), ?_, ?_⟩
    · refine Ev.bind (w_ev _ _ _ (by decide)) ?_
      simp only [decide_eq_false h1]
      exact Ev.now _
    · by_cases c : c3 ≥ 1
      · rw [if_pos c, if_neg (by omega)]
      · rw [if_neg c]
theorem fits_eq (a b : Int) : ∃ r, cell_Fits.f a b = some r ∧ chainmanref23_Fits.f a b = some r := by
  unfold cell_Fits.f chainmanref23_Fits.f cell_wide.f
  by_cases c1 : b ≥ 1
  · rw [if_pos c1, if_pos c1, Option.bind_some]
    by_cases c2 : b ≤ 2147483648
    · rw [if_pos c2, decide_eq_true c2, if_pos rfl]
      by_cases c3 : a ≥ 0
      · rw [if_pos c3]
        by_cases c4 : a ≤ 4611686018427387904
        · rw [if_pos c4]; exact ⟨_, rfl, rfl⟩
        · rw [if_neg c4]; exact ⟨_, rfl, rfl⟩
      · rw [if_neg c3]; exact ⟨_, rfl, rfl⟩
    · rw [if_neg c2, decide_eq_false c2, if_neg (by simp)]; exact ⟨_, rfl, rfl⟩
  · rw [if_neg c1, if_neg c1, Option.bind_some, if_neg (by simp)]; exact ⟨_, rfl, rfl⟩
theorem cw_eq (a lo hi : Int) : config_within.f a lo hi = some (decide (lo ≤ a ∧ a ≤ hi)) := by
  unfold config_within.f
  by_cases c : lo ≤ a
  · rw [if_pos c]; simp only [Option.some.injEq, decide_eq_decide]; omega
  · rw [if_neg c, decide_eq_false (by omega)]
theorem may_both (c0 c1 c2 c3 c4 c5 c6 c7 c8 : Int) : ∃ b : Bool, (b = true → ((1 ≤ c3 ∧ c3 ≤ 64) ∧ (1 ≤ c4 ∧ c4 ≤ 1000) ∧ 1 ≤ c6 ∧ c6 ≤ 64) ∧ (0 ≤ c2 ∧ c2 ≤ 1048576) ∧
      Ev (fun k => descent_Right.f k c0 c1 c2 c3 c4 c5 c6 c7 c8) true ∧ chainmanref32_Right.f c0 c1 c2 c3 c4 c5 c6 c7 c8 = some true) ∧
    Ev (fun k => config_May.f k c0 c1 c2 c3 c4 c5 c6 c7 c8) b ∧ chainmanref38_May.f c0 c1 c2 c3 c4 c5 c6 c7 c8 = some b := by
  obtain ⟨rf, f1, f2⟩ := fits_eq c0 c1
  obtain ⟨rr, g0, g1, g2⟩ := right_both c0 c1 c2 c3 c4 c5 c6 c7 c8
  unfold config_May.f chainmanref38_May.f
  simp only [f1, f2, Option.bind_some, g2]
  cases rf with
  | false => exact ⟨false, fun h => (by cases h), by simp only [Bool.false_eq_true, if_false]; exact Ev.now _, by simp⟩
  | true =>
    simp only [if_true]
    cases rr with
    | false =>
      refine ⟨false, fun h => (by cases h), ?_, by simp⟩
      refine Ev.bind g1 ?_
      simp only [Bool.false_eq_true, if_false]
      exact Ev.now _
    | true =>
      simp only [if_true]
      by_cases h8 : 1 ≤ c8 ∧ c8 ≤ 128
      · by_cases h5 : 0 ≤ c5 ∧ c5 ≤ 4611686018427387904
        · refine ⟨decide (0 ≤ c2 ∧ c2 ≤ 1048576), fun h => ⟨g0 rfl, of_decide_eq_true h, g1, by first | exact g2 | trivial⟩, ?_, ?_⟩
          · refine Ev.bind g1 ?_
            simp only [if_true, cw_eq, Option.bind_some, decide_eq_true h8, decide_eq_true h5]
            exact Ev.now _
          · rw [if_pos h8.1, if_pos h8.2, if_pos h5.1, if_pos h5.2]
            by_cases c : c2 ≥ 0
            · rw [if_pos c]; simp only [Option.some.injEq, decide_eq_decide]; omega
            · rw [if_neg c, decide_eq_false (by omega)]
        · refine ⟨false, fun h => (by cases h), ?_, ?_⟩
          · refine Ev.bind g1 ?_
            simp only [if_true, cw_eq, Option.bind_some, decide_eq_true h8, decide_eq_false h5, Bool.false_eq_true, if_false]
            exact Ev.now _
          · rw [if_pos h8.1, if_pos h8.2]
            by_cases c : c5 ≥ 0
            · rw [if_pos c, if_neg (by omega)]
            · rw [if_neg c]
      · refine ⟨false, fun h => (by cases h), ?_, ?_⟩
        · refine Ev.bind g1 ?_
          simp only [if_true, cw_eq, Option.bind_some, decide_eq_false h8, Bool.false_eq_true, if_false]
          exact Ev.now _
        · by_cases c : c8 ≥ 1
          · rw [if_pos c, if_neg (by omega)]
          · rw [if_neg c]
theorem floor_eq (x : Nat) (h : x ≤ 64000) : num_Floor.f (x : Int) 1000 = some ((x / 1000 : Nat) : Int) := by
  have e1 : Int.tdiv (x : Int) 1000 = ((x / 1000 : Nat) : Int) := by rw [Int.tdiv_eq_ediv_of_nonneg (by omega)]; omega
  have e2 : wrap64 ((x / 1000 : Nat) : Int) = ((x / 1000 : Nat) : Int) := w64 _ (by omega)
  have e3 : wrap64 (((x / 1000 : Nat) : Int) * 1000) = ((x / 1000 : Nat) : Int) * 1000 := w64 _ (by omega)
  unfold num_Floor.f
  rw [if_neg (by decide), if_neg (by decide), e1, e2, e3, if_neg (by clear e1 e2 e3; omega)]
theorem both_Job (a t c0 c1 c2 c3 c4 c5 c6 c7 c8 : Int) : ∃ v : Nat, Ev (fun k => bound_Job.f k a t c0 c1 c2 c3 c4 c5 c6 c7 c8) (v : Int) ∧ Ev (fun k => chainmanref40_Job.f k a t c0 c1 c2 c3 c4 c5 c6 c7 c8) (v : Int) := by
  have z1 : Ev (fun k => bound_Job.j0 k a t true c0 c1 c2 c3 c4 c5 c6 c7 c8) ((0 : Nat) : Int) := Ev.step (f := fun _ => some 0) (fun k => by rw [bound_Job.j0, if_pos rfl]) (Ev.now _)
  have z2 : Ev (fun k => chainmanref40_Job.j0 k a t true c0 c1 c2 c3 c4 c5 c6 c7 c8) ((0 : Nat) : Int) := Ev.step (f := fun _ => some 0) (fun k => by rw [chainmanref40_Job.j0, if_pos rfl]) (Ev.now _)
  by_cases A1 : a < 1
  · exact ⟨0, Ev.congr (fun k => by unfold bound_Job.f; rw [if_pos A1]) z1, Ev.congr (fun k => by unfold chainmanref40_Job.f; rw [if_pos A1]) z2⟩
  by_cases A2 : a > 1048576
  · exact ⟨0, Ev.congr (fun k => by unfold bound_Job.f; rw [if_neg A1, if_pos A2]) z1, Ev.congr (fun k => by unfold chainmanref40_Job.f; rw [if_neg A1, if_pos A2]) z2⟩
  by_cases A3 : t < 0
  · exact ⟨0, Ev.congr (fun k => by unfold bound_Job.f; rw [if_neg A1, if_neg A2, if_pos A3]) z1, Ev.congr (fun k => by unfold chainmanref40_Job.f; rw [if_neg A1, if_neg A2, if_pos A3]) z2⟩
  by_cases A4 : t > 1099511627776
  · exact ⟨0, Ev.congr (fun k => by unfold bound_Job.f; rw [if_neg A1, if_neg A2, if_neg A3, decide_eq_true A4]) z1, Ev.congr (fun k => by unfold chainmanref40_Job.f; rw [if_neg A1, if_neg A2, if_neg A3, if_pos A4]) z2⟩
  obtain ⟨b, m0, m1, m2⟩ := may_both c0 c1 c2 c3 c4 c5 c6 c7 c8
  have y1 : ∀ k, bound_Job.f k a t c0 c1 c2 c3 c4 c5 c6 c7 c8 = bound_Job.j0 k a t false c0 c1 c2 c3 c4 c5 c6 c7 c8 := by
    intro k; unfold bound_Job.f; rw [if_neg A1, if_neg A2, if_neg A3, decide_eq_false A4]
  have y2 : ∀ k, chainmanref40_Job.f k a t c0 c1 c2 c3 c4 c5 c6 c7 c8 = (if b = true then ((chainmanref32_Least.f c0 c1 c2 c3 c4 c5 c6 c7 c8).bind fun t382 => (chainmanref40_Job.j0 k a t (decide (c2 < t382)) c0 c1 c2 c3 c4 c5 c6 c7 c8)) else (chainmanref40_Job.j0 k a t true c0 c1 c2 c3 c4 c5 c6 c7 c8)) := by
    intro k; unfold chainmanref40_Job.f; rw [if_neg A1, if_neg A2, if_neg A3, if_neg A4, m2, Option.bind_some]
  cases b with
  | false =>
    refine ⟨0, Ev.congr y1 (Ev.step (fun k => by rw [bound_Job.j0, if_neg (by simp)]) (Ev.bind m1 ?_)), Ev.congr y2 (by simp only [Bool.false_eq_true, if_false]; exact z2)⟩
    simp only [Bool.false_eq_true, if_false]
    exact Ev.now _
  | true =>
    obtain ⟨⟨h3, h4, h6⟩, h2, r1, r2⟩ := m0 rfl
    simp only [if_true] at y2
    obtain ⟨n, rfl⟩ := Int.eq_ofNat_of_zero_le (show 0 ≤ a by omega)
    obtain ⟨q, rfl⟩ := Int.eq_ofNat_of_zero_le (show 0 ≤ t by omega)
    obtain ⟨d3, rfl⟩ := Int.eq_ofNat_of_zero_le (show 0 ≤ c3 by omega)
    obtain ⟨d4, rfl⟩ := Int.eq_ofNat_of_zero_le (show 0 ≤ c4 by omega)
    obtain ⟨d6, rfl⟩ := Int.eq_ofNat_of_zero_le (show 0 ≤ c6 by omega)
    obtain ⟨m, rfl⟩ := Int.eq_ofNat_of_zero_le (show 0 ≤ c2 by omega)
    have b3 : d3 ≤ 64 := by omega
    have b4 : d4 ≤ 1000 := by omega
    have b6 : d6 ≤ 4611686018427387904 := by omega
    have bn : n ≤ 4611686018427387904 := by omega
    have bq : q ≤ 4611686018427387904 := by omega
    have bd : d3 ≤ 4611686018427387904 := by omega
    have p34 : d3 * d4 ≤ 64000 := Nat.mul_le_mul b3 b4
    have l1 : wrap64 (4 * (d3 : Int)) = 4 * (d3 : Int) := w64 _ (by omega)
    have l2 : wrap64 (4 * (d3 : Int) + 20) = 4 * (d3 : Int) + 20 := w64 _ (by omega)
    have L1 : Ev (fun k => descent_Least.f k c0 c1 m d3 d4 c5 d6 c7 c8) (4 * (d3 : Int) + 20) := by
      unfold descent_Least.f
      refine Ev.bind r1 ?_
      simp only [if_true, l1, l2]
      exact Ev.now _
    have L2 : chainmanref32_Least.f c0 c1 m d3 d4 c5 d6 c7 c8 = some (4 * (d3 : Int) + 20) := by
      unfold chainmanref32_Least.f
      rw [r2, Option.bind_some, if_pos rfl, l1, l2]
    have g1 : wrap64 ((d3 : Int) * (d4 : Int)) = ((d3 * d4 : Nat) : Int) := by rw [← Int.natCast_mul]; exact w64 _ (by omega)
    have M1 : Ev (fun k => descent_Meet.f k c0 c1 m d3 d4 c5 d6 c7 c8) (mx 1 ((d3 * d4 / 1000 : Nat) : Int)) := by
      unfold descent_Meet.f
      refine Ev.bind r1 ?_
      simp only [if_true, g1]
      rw [floor_eq _ p34]
      exact Ev.now _
    have M2 : chainmanref32_Meet.f c0 c1 m d3 d4 c5 d6 c7 c8 = some (mx 1 ((d3 * d4 / 1000 : Nat) : Int)) := by
      unfold chainmanref32_Meet.f
      have e1 : Int.tdiv ((d3 * d4 : Nat) : Int) 1000 = ((d3 * d4 / 1000 : Nat) : Int) := by rw [Int.tdiv_eq_ediv_of_nonneg (by omega)]; omega
      rw [r2, Option.bind_some, if_pos rfl, g1, e1, w64 _ (by clear e1 g1 l1 l2; omega)]
    clear l1 l2 g1 h3 h4 h6
    by_cases c : (m : Int) < 4 * (d3 : Int) + 20
    · refine ⟨0, Ev.congr y1 (Ev.step (fun k => by rw [bound_Job.j0, if_neg (by simp)]) (Ev.bind m1 ?_)), Ev.congr y2 (by rw [L2]; simp only [Option.bind_some, decide_eq_true c]; exact z2)⟩
      simp only [if_true]
      refine Ev.bind L1 ?_
      simp only [if_pos c]
      exact Ev.now _
    · have hm : 16 ≤ m ∧ m ≤ 1099511627776 := by omega
      have t1 : (1 : Nat) ≤ 4611686018427387904 := by omega
      have t2 : (2 : Nat) ≤ 4611686018427387904 := by omega
      have t5 : (5 : Nat) ≤ 4611686018427387904 := by omega
      have t6 : (6 : Nat) ≤ 4611686018427387904 := by omega
      have t60 : (60 : Nat) ≤ 4611686018427387904 := by omega
      have t100 : (100 : Nat) ≤ 4611686018427387904 := by omega
      have t400 : (400 : Nat) ≤ 4611686018427387904 := by omega
      obtain ⟨s, bs, e1, f1⟩ := both_sort (satN (2 * (n * d3))) m (satN_le _) hm
      obtain ⟨R, bR, e2, f2⟩ := both_Round n d3 (mx 1 ((d3 * d4 / 1000 : Nat) : Int)) m
      obtain ⟨J, bJ, e3, f3⟩ := both_Join n q m
      refine ⟨satN (400 + J + (n * 6 * d3 + (n * d3 + 8)) + d6 * (R + 60) + ((n * d3 + 8) + s + 5 * (2 * (n * d3) + 8) + 2 * (q + 8) + 100)), Ev.congr y1 (Ev.step (fun k => by rw [bound_Job.j0, if_neg (by simp)]) (Ev.bind m1 ?_)),
        Ev.congr y2 (Ev.congr (fun k => by rw [L2, Option.bind_some, decide_eq_false c]) (Ev.step (fun k => by rw [chainmanref40_Job.j0, if_neg (by simp)]) ?_))⟩
      · simp only [if_true]
        refine Ev.bind L1 ?_
        simp only [if_neg c]
        refine Ev.bind (p2 n d3 (satN (n * d3)) bn bd rfl) ?_
        refine Ev.bind (p2 2 (satN (n * d3)) (satN (2 * (n * d3))) t2 (satN_le _) (satN_mul_right _ _)) ?_
        refine Ev.bind M1 ?_
        refine Ev.bind e2 ?_
        refine Ev.bind (s2 R 60 (satN (R + 60)) bR t60 rfl) ?_
        refine Ev.bind (p3 n 6 d3 (satN (n * 6 * d3)) bn t6 bd rfl) ?_
        refine Ev.bind (blay (satN (n * d3)) 1 (satN (n * d3 + 8)) (satN_le _) t1 (by rw [Nat.one_mul]; exact cA (cS rfl) rfl)) ?_
        refine Ev.bind (s2 (satN (n * 6 * d3)) (satN (n * d3 + 8)) (satN (n * 6 * d3 + (n * d3 + 8))) (satN_le _) (satN_le _) (cA (cS rfl) (cS rfl))) ?_
        refine Ev.bind (blay (satN (n * d3)) 1 (satN (n * d3 + 8)) (satN_le _) t1 (by rw [Nat.one_mul]; exact cA (cS rfl) rfl)) ?_
        refine Ev.bind e1 ?_
        refine Ev.bind (blay (satN (2 * (n * d3))) 5 (satN (5 * (2 * (n * d3) + 8))) (satN_le _) t5 (cM rfl (cA (cS rfl) rfl))) ?_
        refine Ev.bind (blay q 2 (satN (2 * (q + 8))) bq t2 rfl) ?_
        refine Ev.bind (s5 (satN (n * d3 + 8)) s (satN (5 * (2 * (n * d3) + 8))) (satN (2 * (q + 8))) 100 (satN ((n * d3 + 8) + s + 5 * (2 * (n * d3) + 8) + 2 * (q + 8) + 100)) (satN_le _) bs (satN_le _) (satN_le _) t100 (cA (cA (cA (cA (cS rfl) rfl) (cS rfl)) (cS rfl)) rfl)) ?_
        refine Ev.bind e3 ?_
        refine Ev.bind (p2 d6 (satN (R + 60)) (satN (d6 * (R + 60))) b6 (satN_le _) (satN_mul_right _ _)) ?_
        refine Ev.bind (s5 400 J (satN (n * 6 * d3 + (n * d3 + 8))) (satN (d6 * (R + 60))) (satN ((n * d3 + 8) + s + 5 * (2 * (n * d3) + 8) + 2 * (q + 8) + 100)) _ t400 bJ (satN_le _) (satN_le _) (satN_le _) (cA (cA (cA (cA rfl rfl) (cS rfl)) (cS rfl)) (cS rfl))) ?_
        exact Ev.now _
      · refine Ev.bind (rmul n d3 (satN (n * d3)) bn bd rfl) ?_
        refine Ev.bind (rmul 2 (satN (n * d3)) (satN (2 * (n * d3))) t2 (satN_le _) (satN_mul_right _ _)) ?_
        simp only [M2]
        rw [show (fun (k : Nat) => _) = _ from rfl]
        refine Ev.bind (g := fun _ => some (mx 1 ((d3 * d4 / 1000 : Nat) : Int))) (Ev.now _) ?_
        refine Ev.bind f2 ?_
        refine Ev.bind (radd [R, 60] (satN (R + 60)) (by intro x hx; simp at hx; omega) (by simp) (by simp only [totA, Nat.zero_add])) ?_
        refine Ev.bind (rlay (satN (n * d3)) (satN (n * d3 + 8)) (satN_le _) (cA (cS rfl) rfl)) ?_
        refine Ev.bind f1 ?_
        refine Ev.bind (rlay (satN (2 * (n * d3))) (satN (2 * (n * d3) + 8)) (satN_le _) (cA (cS rfl) rfl)) ?_
        refine Ev.bind (rmul 5 (satN (2 * (n * d3) + 8)) (satN (5 * (2 * (n * d3) + 8))) t5 (satN_le _) (satN_mul_right _ _)) ?_
        refine Ev.bind (rlay q (satN (q + 8)) bq rfl) ?_
        refine Ev.bind (rmul 2 (satN (q + 8)) (satN (2 * (q + 8))) t2 (satN_le _) (satN_mul_right _ _)) ?_
        refine Ev.bind (radd [satN (n * d3 + 8), s, satN (5 * (2 * (n * d3) + 8)), satN (2 * (q + 8)), 100] (satN ((n * d3 + 8) + s + 5 * (2 * (n * d3) + 8) + 2 * (q + 8) + 100)) ?_ (by simp) (by simp only [totA, Nat.zero_add]; exact cA (cA (cA (cA (cS rfl) rfl) (cS rfl)) (cS rfl)) rfl)) ?_
        · intro x hx
          simp only [List.mem_cons, List.mem_nil_iff, or_false] at hx
          rcases hx with rfl | rfl | rfl | rfl | rfl
          all_goals first | exact satN_le _ | omega
        refine Ev.bind f3 ?_
        refine Ev.bind (rmul 6 d3 (satN (6 * d3)) t6 bd rfl) ?_
        refine Ev.bind (rmul n (satN (6 * d3)) (satN (n * (6 * d3))) bn (satN_le _) (satN_mul_right _ _)) ?_
        refine Ev.bind (rlay (satN (n * d3)) (satN (n * d3 + 8)) (satN_le _) (cA (cS rfl) rfl)) ?_
        refine Ev.bind (rmul d6 (satN (R + 60)) (satN (d6 * (R + 60))) b6 (satN_le _) (satN_mul_right _ _)) ?_
        refine Ev.bind (radd [400, J, satN (n * (6 * d3)), satN (n * d3 + 8), satN (d6 * (R + 60)), satN ((n * d3 + 8) + s + 5 * (2 * (n * d3) + 8) + 2 * (q + 8) + 100)] _ ?_ (by simp) ?_) (Ev.now _)
        · intro x hx
          simp only [List.mem_cons, List.mem_nil_iff, or_false] at hx
          rcases hx with rfl | rfl | rfl | rfl | rfl | rfl
          all_goals first | exact satN_le _ | omega
        · simp only [totA, Nat.zero_add]
          refine cV (cA (cA (cA (cA (cA rfl rfl) (cS rfl)) (cS rfl)) (cS rfl)) (cS rfl)) rfl ?_
          grind
theorem bt_awake : chainmanlaw40_awake.f 60 = some true := by decide +kernel
theorem BoundTells : chainmanlaw40_BoundTells.Pure := by
  intro a0 a1 a2 a3 a4 c0 c1 c2 c3 c4 c5 c6 c7 c8 _ _ _ _ _ _ _ _ _ _ _ _ _ _
  obtain ⟨v1, n1, s1, s1'⟩ := both_Sort a0 a4
  obtain ⟨v2, _, s2, s2'⟩ := both_Join a0 a1 a4
  obtain ⟨v3, _, s3, s3'⟩ := both_Round a0 a2 a3 a4
  obtain ⟨v4, s4, s4'⟩ := both_Job a0 a1 c0 c1 c2 c3 c4 c5 c6 c7 c8
  suffices H : Ev (fun k => chainmanlaw40_BoundTells.f k a0 a1 a2 a3 a4 c0 c1 c2 c3 c4 c5 c6 c7 c8) true from (by obtain ⟨K, hK⟩ := H; exact ⟨K, hK K (Nat.le_refl K)⟩)
  unfold chainmanlaw40_BoundTells.f
  refine Ev.bind s1 (Ev.bind s1' (Ev.congr (fun k => if_pos rfl) ?_))
  refine Ev.bind s2 (Ev.bind s2' (Ev.congr (fun k => if_pos rfl) ?_))
  refine Ev.bind s3 (Ev.bind s3' (Ev.congr (fun k => if_pos rfl) ?_))
  refine Ev.bind s4 (Ev.bind s4' (Ev.congr (fun k => if_pos rfl) ?_))
  refine Ev.bind s1 (Ev.congr (fun k => if_pos n1) ?_)
  refine Ev.bind s4 (Ev.congr (fun k => if_pos (by omega)) ?_)
  exact Ev.bind (Ev.of chainmanlaw40_awake.mono bt_awake) (Ev.now _)

end Go.Proofs.Ytmacpgkcokpgjaa.Pure
