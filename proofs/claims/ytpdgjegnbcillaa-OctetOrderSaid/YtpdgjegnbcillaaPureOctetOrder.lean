/- Numbers and coordinates come back from their bytes, and the bytes of a lesser one stand ahead of those of a greater one; for two numbers from 0 on, of 8 bytes, and two coordinates of 32 bits (the law OctetOrder, over numbers alone). -/
import Derived.Test.YtpdgjegnbcillaaPOctetOrderx2
import Derived.Lib.Strings
namespace Go.Proofs.Ytpdgjegnbcillaa.Pure
open Go.RowKit Go.Proofs.Ytpdgjegnbcillaa.POctetOrder Go.Proofs.YtpdgjegnbcillaaW.PrintWords Go.Proofs.YtpdgjegnbcillaaW.PrintLast
set_option linter.unusedVariables false
set_option linter.unusedSimpArgs false
/-! ### numbers as bytes -/
def beN (n k : Nat) : List Int := (List.range k).reverse.map fun i => ((n / 256 ^ i % 256 : Nat) : Int)
theorem beN_len (n k : Nat) : (beN n k).length = k := by simp [beN]
theorem beN_succ (n k : Nat) : beN n (k + 1) = ((n / 256 ^ k % 256 : Nat) : Int) :: beN n k := by
  unfold beN
  rw [List.range_succ, List.reverse_append]; rfl
theorem beN_range (n k : Nat) : ∀ x ∈ beN n k, 0 ≤ x ∧ x < 256 := by
  intro x hx
  obtain ⟨i, _, rfl⟩ := List.mem_map.1 hx
  have := Nat.mod_lt (n / 256 ^ i) (show 256 > 0 by decide)
  omega
def putB (n k : Int) : ByteArray × Bool := if n < 0 ∨ k < 1 ∨ 8 < k then (⟨#[]⟩, false) else if n.toNat < 256 ^ k.toNat then (strOfNums (beN n.toNat k.toNat), true) else (⟨#[]⟩, false)
theorem octs_be (n : Nat) : octet_Put.octs (n : Int) = beN n 8 := by
  have e7 : (n : Int) / 72057594037927936 % 256 = ((n / 256 ^ 7 % 256 : Nat) : Int) := by rw [show 256 ^ 7 = 72057594037927936 from rfl]; omega
  have e6 : (n : Int) / 281474976710656 % 256 = ((n / 256 ^ 6 % 256 : Nat) : Int) := by rw [show 256 ^ 6 = 281474976710656 from rfl]; omega
  have e5 : (n : Int) / 1099511627776 % 256 = ((n / 256 ^ 5 % 256 : Nat) : Int) := by rw [show 256 ^ 5 = 1099511627776 from rfl]; omega
  have e4 : (n : Int) / 4294967296 % 256 = ((n / 256 ^ 4 % 256 : Nat) : Int) := by rw [show 256 ^ 4 = 4294967296 from rfl]; omega
  have e3 : (n : Int) / 16777216 % 256 = ((n / 256 ^ 3 % 256 : Nat) : Int) := by rw [show 256 ^ 3 = 16777216 from rfl]; omega
  have e2 : (n : Int) / 65536 % 256 = ((n / 256 ^ 2 % 256 : Nat) : Int) := by rw [show 256 ^ 2 = 65536 from rfl]; omega
  have e1 : (n : Int) / 256 % 256 = ((n / 256 ^ 1 % 256 : Nat) : Int) := by rw [show 256 ^ 1 = 256 from rfl]; omega
  have e0 : (n : Int) % 256 = ((n / 256 ^ 0 % 256 : Nat) : Int) := by rw [show 256 ^ 0 = 1 from rfl]; omega
  unfold octet_Put.octs
  rw [e7, e6, e5, e4, e3, e2, e1, e0]
  rfl
theorem beN_take (m k : Nat) : ∀ j, m < 256 ^ (k + j) → ((((beN m (k + j)).take j).all (· == 0) = true) ↔ m < 256 ^ k) := by
  intro j
  induction j with
  | zero => intro h; simpa using h
  | succ j ih =>
    intro h
    have hp : 256 ^ (k + (j + 1)) = 256 ^ (k + j) * 256 := Nat.pow_succ ..
    have hx : m / 256 ^ (k + j) < 256 := Nat.div_lt_of_lt_mul (by omega)
    rw [show k + (j + 1) = (k + j) + 1 from rfl, beN_succ, List.take_succ_cons, List.all_cons, Bool.and_eq_true]
    have hz : ((((m / 256 ^ (k + j) % 256 : Nat) : Int) == 0) = true) ↔ m < 256 ^ (k + j) := by
      rw [beq_iff_eq, Nat.mod_eq_of_lt hx]
      constructor
      · intro e
        rcases Nat.lt_or_ge m (256 ^ (k + j)) with h' | h'
        · exact h'
        · have := Nat.div_pos h' (Nat.pow_pos (by decide)); omega
      · intro h'; rw [Nat.div_eq_of_lt h']; rfl
    rw [hz]
    constructor
    · rintro ⟨h1, h2⟩; exact (ih h1).1 h2
    · intro h1
      have : 256 ^ k ≤ 256 ^ (k + j) := Nat.pow_le_pow_right (by decide) (by omega)
      exact ⟨by omega, (ih (by omega)).2 h1⟩
theorem beN_drop (m k : Nat) : ∀ j, (beN m (k + j)).drop j = beN m k := by
  intro j
  induction j with
  | zero => rfl
  | succ j ih => rw [show k + (j + 1) = (k + j) + 1 from rfl, beN_succ, List.drop_succ_cons, ih]
theorem put_bv (n k : Int) (hn : n < 9223372036854775808) : octet_Put.f n k = some (putB n k) := by
  unfold octet_Put.f putB
  by_cases hb : n < 0 ∨ k < 1 ∨ 8 < k
  · rw [if_pos hb, if_pos hb]
  · rw [if_neg hb, if_neg hb]
    obtain ⟨m, rfl⟩ : ∃ m : Nat, n = (m : Int) := ⟨n.toNat, by omega⟩
    obtain ⟨q, rfl⟩ : ∃ q : Nat, k = (q : Int) := ⟨k.toNat, by omega⟩
    have hq8 : q ≤ 8 := by omega
    have hm : m < 256 ^ 8 := by have : 256 ^ 8 = 18446744073709551616 := by decide
                                omega
    have e8 : q + (8 - q) = 8 := by omega
    have h1 := beN_take m q (8 - q) (by rw [e8]; exact hm)
    have h2 := beN_drop m q (8 - q)
    rw [e8] at h1 h2
    rw [octs_be, Int.toNat_natCast, Int.toNat_natCast, show ((8 : Int) - (q : Int)).toNat = 8 - q from by omega, h2]
    by_cases hlt : m < 256 ^ q
    · rw [if_pos (h1.2 hlt), if_pos hlt]
    · rw [if_neg (fun h => hlt (h1.1 h)), if_neg hlt]
def numN (l : List UInt8) : Nat := l.foldl (fun n c => n * 256 + c.toNat) 0
theorem numN_snoc (l : List UInt8) (c : UInt8) : numN (l ++ [c]) = numN l * 256 + c.toNat := by
  unfold numN
  rw [List.foldl_append]; rfl
theorem snoc_ind (P : List UInt8 → Prop) (h0 : P []) (h1 : ∀ m c, P m → P (m ++ [c])) (l : List UInt8) : P l := by
  have : ∀ n (l : List UInt8), l.length = n → P l := by
    intro n
    induction n with
    | zero => intro l hl; rw [List.length_eq_zero_iff.1 hl]; exact h0
    | succ n ih =>
      intro l hl
      rcases List.eq_nil_or_concat l with rfl | ⟨m, c, rfl⟩
      · exact h0
      · rw [List.concat_eq_append] at hl ⊢
        exact h1 m c (ih m (by simpa using hl))
  exact this _ l rfl
theorem numN_lt (l : List UInt8) : numN l < 256 ^ l.length := by
  refine snoc_ind (fun l => numN l < 256 ^ l.length) (by decide) (fun m c ih => ?_) l
  rw [numN_snoc, List.length_append]
  have := c.toNat_lt
  have : 256 ^ (m.length + [c].length) = 256 ^ m.length * 256 := Nat.pow_succ ..
  omega
theorem join_bv (x : Nat) (c : UInt8) (hx : x * 256 < 18446744073709551616) : octet_Get.join (x : Int) (c.toNat : Int) = ((x * 256 + c.toNat : Nat) : Int) := by
  have hc := c.toNat_lt
  have hw : IntKind.u64.wrap ((x : Int) * 256) = ((x * 256 : Nat) : Int) := by
    simp only [IntKind.wrap, IntKind.bits, IntKind.signed, Bool.false_and]
    simp
    omega
  unfold octet_Get.join
  rw [hw]
  show IntKind.u64.wrap ((BitVec.ofInt 64 ((x * 256 : Nat) : Int) ||| BitVec.ofInt 64 (c.toNat : Int)).toNat : Int) = _
  rw [BitVec.ofInt_natCast, BitVec.ofInt_natCast, BitVec.toNat_or, BitVec.toNat_ofNat, BitVec.toNat_ofNat, Nat.mod_eq_of_lt (by omega), Nat.mod_eq_of_lt (by omega)]
  have ho : x * 256 ||| c.toNat = x * 256 + c.toNat := by
    have := Nat.shiftLeft_add_eq_or_of_lt (b := c.toNat) (i := 8) hc x
    rw [Nat.shiftLeft_eq] at this
    exact this.symm
  rw [ho]
  simp only [IntKind.wrap, IntKind.bits, IntKind.signed, Bool.false_and]
  simp
  omega
theorem num_bv (l : List UInt8) (hl : l.length ≤ 8) : octet_Get.num (l.map fun b => (b.toNat : Int)) = (numN l : Int) := by
  refine snoc_ind (fun l => l.length ≤ 8 → octet_Get.num (l.map fun b => (b.toNat : Int)) = (numN l : Int)) (fun _ => rfl) (fun m c ih hl => ?_) l hl
  rw [List.length_append] at hl
  have hm : m.length ≤ 7 := by simp at hl; omega
  have hlt := numN_lt m
  have hp : 256 ^ m.length ≤ 256 ^ 7 := Nat.pow_le_pow_right (by decide) hm
  rw [List.map_append, List.map_singleton, octet_Get.num_snoc, ih (by omega), join_bv _ _ (by omega), numN_snoc]
theorem ba_ext {s t : ByteArray} (h : s.data.toList = t.data.toList) : s = t := by
  cases s; cases t
  simp only [ByteArray.mk.injEq]
  exact Array.toList_inj.1 h
theorem ba_append (s t : ByteArray) : (s ++ t).data.toList = s.data.toList ++ t.data.toList := by
  rw [ByteArray.data_append, Array.toList_append]
theorem ba_size (s : ByteArray) : s.size = s.data.toList.length := by simp
def getB (s : ByteArray) (p k : Int) : Int × Bool :=
  if k < 1 ∨ 8 < k ∨ p < 0 ∨ (s.size : Int) - k < p then (0, false)
  else if numN ((s.data.toList.drop p.toNat).take k.toNat) < 9223372036854775808 then ((numN ((s.data.toList.drop p.toNat).take k.toNat) : Int), true) else (0, false)
theorem get_bv (s : ByteArray) (p k : Int) (hs : s.size ≤ 1000000000) (hp : (Lit.int .i64 p).wf = true) : octet_Get.f s p k = some (getB s p k) := by
  have hp' : -9223372036854775808 ≤ p ∧ p ≤ 9223372036854775807 := by simpa [Lit.wf, IntKind.min, IntKind.max, IntKind.signed, IntKind.bits] using hp
  unfold octet_Get.f getB
  rw [if_pos ⟨hs, hp'.1, hp'.2⟩]
  by_cases hb : k < 1 ∨ 8 < k ∨ p < 0 ∨ (s.size : Int) - k < p
  · rw [if_pos hb, if_pos hb]
  · rw [if_neg hb, if_neg hb]
    have he : bytesOf (s.extract p.toNat (p + k).toNat) = ((s.data.toList.drop p.toNat).take k.toNat).map fun b => (b.toNat : Int) := by
      unfold bytesOf
      rw [Lib.extract_data, show (p + k).toNat - p.toNat = k.toNat from by omega]
    rw [he, num_bv _ (by rw [List.length_take]; omega)]
    by_cases hlt : numN ((s.data.toList.drop p.toNat).take k.toNat) < 9223372036854775808
    · rw [if_pos hlt, if_pos (by omega)]
    · rw [if_neg hlt, if_neg (by omega)]
theorem awake_k : chainmanlaw02_awake.f = some true := by decide +kernel

def beU (n k : Nat) : List UInt8 := (beN n k).map fun x => UInt8.ofNat x.toNat
theorem beU_data (n k : Nat) : (strOfNums (beN n k)).data.toList = beU n k := strOfNums_data _
theorem beU_len (n k : Nat) : (beU n k).length = k := by unfold beU; rw [List.length_map, beN_len]
theorem beU_succ (n k : Nat) : beU n (k + 1) = UInt8.ofNat (n / 256 ^ k % 256) :: beU n k := by
  unfold beU; rw [beN_succ, List.map_cons, Int.toNat_natCast]
theorem beU_top (n : Nat) (hn : (UInt8.ofNat (n % 256)).toNat = n % 256) : True := trivial
/-- what comes back: the number's last k bytes -/
theorem numN_from (l : List UInt8) : ∀ a : Nat, l.foldl (fun n c => n * 256 + c.toNat) a = a * 256 ^ l.length + numN l := by
  induction l with
  | nil => intro a; simp [numN]
  | cons c l ih =>
    intro a
    have h1 : (c :: l).foldl (fun n c => n * 256 + c.toNat) a = l.foldl (fun n c => n * 256 + c.toNat) (a * 256 + c.toNat) := rfl
    have h2 : numN (c :: l) = l.foldl (fun n c => n * 256 + c.toNat) (0 * 256 + c.toNat) := rfl
    rw [h1, ih, h2, ih, List.length_cons, Nat.pow_succ, Nat.add_mul, Nat.zero_mul, Nat.zero_add, Nat.mul_assoc, Nat.mul_comm 256, Nat.add_assoc]
theorem numN_cons (c : UInt8) (l : List UInt8) : numN (c :: l) = c.toNat * 256 ^ l.length + numN l := by
  have h := numN_from l (0 * 256 + c.toNat)
  rw [Nat.zero_mul, Nat.zero_add] at h
  have h2 : numN (c :: l) = l.foldl (fun n c => n * 256 + c.toNat) (0 * 256 + c.toNat) := rfl
  rw [h2, Nat.zero_mul, Nat.zero_add]
  exact h
theorem numN_beU (n : Nat) : ∀ k, numN (beU n k) = n % 256 ^ k := by
  intro k
  induction k with
  | zero => show 0 = n % 1; rw [Nat.mod_one]
  | succ k ih =>
    have hb : (UInt8.ofNat (n / 256 ^ k % 256)).toNat = n / 256 ^ k % 256 := by
      rw [UInt8.toNat_ofNat']
      exact Nat.mod_mod_of_dvd _ (by decide)
    rw [beU_succ, numN_cons, ih, beU_len, hb, Nat.pow_succ, Nat.mod_mul, Nat.mul_comm (256 ^ k)]
    exact Nat.add_comm _ _
/-- bytes of one length stand in their numbers' order -/
theorem less_num (l : List UInt8) : ∀ m : List UInt8, l.length = m.length → (Op.bytesLess l m = true ↔ numN l < numN m) := by
  induction l with
  | nil =>
    intro m h
    cases m with
    | nil => exact ⟨fun h => (by cases h), fun h => absurd h (Nat.lt_irrefl _)⟩
    | cons _ _ => cases h
  | cons a l ih =>
    intro m h
    cases m with
    | nil => cases h
    | cons b m =>
      have h' : l.length = m.length := by simpa using h
      have hl := numN_lt l
      have hm := numN_lt m
      rw [numN_cons, numN_cons, h']
      rw [h'] at hl
      show (decide (a < b) || (a == b && Op.bytesLess l m)) = true ↔ _
      rw [Bool.or_eq_true, Bool.and_eq_true, ih m h', decide_eq_true_iff, beq_iff_eq, UInt8.lt_iff_toNat_lt, ← UInt8.toNat_inj]
      generalize 256 ^ m.length = p at hl hm
      generalize numN l = x at hl ⊢
      generalize numN m = y at hm ⊢
      generalize a.toNat = u
      generalize b.toNat = v
      constructor
      · rintro (h1 | ⟨h1, h2⟩)
        · have : (u + 1) * p ≤ v * p := Nat.mul_le_mul_right p h1
          rw [Nat.add_mul, Nat.one_mul] at this
          omega
        · rw [h1]; omega
      · intro h1
        rcases Nat.lt_trichotomy u v with h2 | h2 | h2
        · exact .inl h2
        · rw [h2] at h1; exact .inr ⟨h2, by omega⟩
        · have : (v + 1) * p ≤ u * p := Nat.mul_le_mul_right p h2
          rw [Nat.add_mul, Nat.one_mul] at this
          omega
theorem put_ok (n k : Nat) (hk : 1 ≤ k) (hk8 : k ≤ 8) (hn : n < 256 ^ k) (hn' : n < 9223372036854775808) : octet_Put.f (n : Int) (k : Int) = some (strOfNums (beN n k), true) := by
  rw [put_bv _ _ (by clear hn; omega)]
  unfold putB
  rw [if_neg (by clear hn; omega), Int.toNat_natCast, Int.toNat_natCast, if_pos hn]
theorem less_be (n m k : Nat) (hn : n < 256 ^ k) (hm : m < 256 ^ k) : (Op.bytesLess (strOfNums (beN n k)).toList (strOfNums (beN m k)).toList = true) ↔ n < m := by
  rw [ByteArray.toList_eq, ByteArray.toList_eq, beU_data, beU_data, less_num _ _ (by rw [beU_len, beU_len]), numN_beU, numN_beU, Nat.mod_eq_of_lt hn, Nat.mod_eq_of_lt hm]
theorem size_be (n k : Nat) : (strOfNums (beN n k)).size = k := (strOfNums_size _).trans (beN_len _ _)
theorem get_ok (s : ByteArray) (p k n : Nat) (hs : s.size ≤ 1000000) (hk : 1 ≤ k) (hk8 : k ≤ 8) (hpk : p + k ≤ s.size) (hd : (s.data.toList.drop p).take k = beU n k) (hn : n < 256 ^ k) (hn' : n < 9223372036854775808) : octet_Get.f s (p : Int) (k : Int) = some ((n : Int), true) := by
  have hwf : (Lit.int .i64 (p : Int)).wf = true := by
    simp [Lit.wf, IntKind.min, IntKind.max, IntKind.signed, IntKind.bits]; clear hn; omega
  rw [get_bv s _ _ (by clear hn; omega) hwf]
  unfold getB
  rw [if_neg (by clear hn; omega), Int.toNat_natCast, Int.toNat_natCast, hd, numN_beU, Nat.mod_eq_of_lt hn, if_pos hn']
theorem coord (x : Int) (hx : -2147483648 ≤ x ∧ x ≤ 2147483647) : octet_PutCoord.f (wrap64 x) = some (strOfNums (beN (x + 2147483648).toNat 4), true) := by
  have e1 : wrap64 x = x := by unfold wrap64; omega
  have e2 : wrap64 (x + 2147483648) = (((x + 2147483648).toNat : Nat) : Int) := by unfold wrap64; omega
  have h1 : (x + 2147483648).toNat < 4294967296 := by omega
  have h2 : ¬ x < -2147483648 := by omega
  have h3 : ¬ x ≥ 2147483648 := by omega
  have h4 : (x + 2147483648).toNat < 9223372036854775808 := by omega
  unfold octet_PutCoord.f
  rw [e1, if_neg h2, if_neg h3, e2, show (4 : Int) = ((4 : Nat) : Int) from rfl, put_ok _ 4 (by decide) (by decide) (by rw [show 256 ^ 4 = 4294967296 from rfl]; exact h1) h4, Option.bind_some]
theorem OctetOrder : chainmanlaw02_OctetOrder.Pure := by
  intro a0 a1 a2 a3 h0 h1 h2 h3
  have h0' : -9223372036854775808 ≤ a0 ∧ a0 ≤ 9223372036854775807 := by simpa [Lit.wf, IntKind.min, IntKind.max, IntKind.signed, IntKind.bits] using h0
  have h1' : -9223372036854775808 ≤ a1 ∧ a1 ≤ 9223372036854775807 := by simpa [Lit.wf, IntKind.min, IntKind.max, IntKind.signed, IntKind.bits] using h1
  have h2' : -2147483648 ≤ a2 ∧ a2 ≤ 2147483647 := by simpa [Lit.wf, IntKind.min, IntKind.max, IntKind.signed, IntKind.bits] using h2
  have h3' : -2147483648 ≤ a3 ∧ a3 ≤ 2147483647 := by simpa [Lit.wf, IntKind.min, IntKind.max, IntKind.signed, IntKind.bits] using h3
  clear h0 h1 h2 h3
  refine ⟨2, ?_⟩
  obtain ⟨u, hu⟩ : ∃ u : Nat, u = (a2 + 2147483648).toNat := ⟨_, rfl⟩
  obtain ⟨v, hv⟩ : ∃ v : Nat, v = (a3 + 2147483648).toNat := ⟨_, rfl⟩
  have e2 : a2 = (u : Int) - 2147483648 := by omega
  have hu4 : u < 4294967296 := by omega
  have hv4 : v < 4294967296 := by omega
  have huv : (u < v) ↔ (a2 < a3) := by omega
  have hcmp : (Op.bytesLess (strOfNums (beN u 4)).toList (strOfNums (beN v 4)).toList != decide (a2 < a3)) = false := by
    have := less_be u v 4 (by rw [show 256 ^ 4 = 4294967296 from rfl]; exact hu4) (by rw [show 256 ^ 4 = 4294967296 from rfl]; exact hv4)
    rw [huv] at this
    by_cases h : a2 < a3
    · rw [this.2 h, decide_eq_true h]; rfl
    · rw [Bool.eq_false_iff.2 (fun e => h (this.1 e)), decide_eq_false h]; rfl
  have hget : octet_GetCoord.f (strOfNums (beN u 4)) 0 = some (wrap64 a2, true) := by
    unfold octet_GetCoord.f
    have hg := get_ok (strOfNums (beN u 4)) 0 4 u (by rw [size_be]; decide) (by decide) (by decide) (by rw [size_be]; decide) (by rw [beU_data, List.drop_zero, List.take_of_length_le (by rw [beU_len]; decide)]) (by rw [show 256 ^ 4 = 4294967296 from rfl]; exact hu4) (by omega)
    rw [show (0 : Int) = ((0 : Nat) : Int) from rfl, show (4 : Int) = ((4 : Nat) : Int) from rfl, hg, Option.bind_some, if_pos rfl]
    rw [e2]
  unfold chainmanlaw02_OctetOrder.f
  rw [coord a2 h2', Option.bind_some, coord a3 h3', Option.bind_some, ← hu, ← hv, hget, Option.bind_some]
  rw [if_pos rfl, if_pos rfl, if_pos (by rw [size_be]; rfl), if_pos (by rw [size_be]; rfl), if_pos rfl, if_pos rfl, hcmp, chainmanlaw02_OctetOrder.j0, if_neg (by decide)]
  by_cases g0 : a0 < 0
  · rw [if_pos g0, chainmanlaw02_OctetOrder.j1, if_pos rfl, awake_k, Option.bind_some]
  · rw [if_neg g0]
    by_cases g1 : a1 < 0
    · rw [decide_eq_true g1, chainmanlaw02_OctetOrder.j1, if_pos rfl, awake_k, Option.bind_some]
    · rw [decide_eq_false g1, chainmanlaw02_OctetOrder.j1, if_neg (by decide)]
      obtain ⟨n, rfl⟩ : ∃ n : Nat, a0 = (n : Int) := ⟨a0.toNat, by omega⟩
      obtain ⟨m, rfl⟩ : ∃ m : Nat, a1 = (m : Int) := ⟨a1.toNat, by omega⟩
      have hn : n < 9223372036854775808 := by omega
      have hm : m < 9223372036854775808 := by omega
      have p8 : 256 ^ 8 = 18446744073709551616 := by decide
      have hn8 : n < 256 ^ 8 := by rw [p8]; omega
      have hm8 : m < 256 ^ 8 := by rw [p8]; omega
      have hnm : ((n : Int) < (m : Int)) ↔ n < m := by omega
      have hdat : ((strOfNums (beN n 8) ++ strOfNums (beN m 8)).data.toList.drop 8).take 8 = beU m 8 := by
        rw [ba_append, beU_data, beU_data, List.drop_append_of_le_length (by rw [beU_len]; decide), List.drop_of_length_le (by rw [beU_len]; decide), List.nil_append, List.take_of_length_le (by rw [beU_len]; decide)]
      have hsz : (strOfNums (beN n 8) ++ strOfNums (beN m 8)).size = 16 := by
        rw [ByteArray.size_append, size_be, size_be]
      have hg := get_ok (strOfNums (beN n 8) ++ strOfNums (beN m 8)) 8 8 m (by rw [hsz]; decide) (by decide) (by decide) (by rw [hsz]; decide) hdat hm8 hm
      have hless : (Op.bytesLess (strOfNums (beN n 8)).toList (strOfNums (beN m 8)).toList == decide ((n : Int) < (m : Int))) = true := by
        have := less_be n m 8 hn8 hm8
        by_cases h : n < m
        · rw [this.2 h, decide_eq_true (hnm.2 h)]; rfl
        · rw [Bool.eq_false_iff.2 (fun e => h (this.1 e)), decide_eq_false (fun e => h (hnm.1 e))]; rfl
      rw [show (8 : Int) = ((8 : Nat) : Int) from rfl, put_ok n 8 (by decide) (by decide) hn8 hn, Option.bind_some, put_ok m 8 (by decide) (by decide) hm8 hm, Option.bind_some]
      rw [if_pos (by rw [size_be, size_be]; decide), hg, Option.bind_some, if_pos rfl, if_pos rfl, if_pos (by rw [size_be]), if_pos rfl, if_pos rfl, if_pos hless, awake_k, Option.bind_some]

end Go.Proofs.Ytpdgjegnbcillaa.Pure
