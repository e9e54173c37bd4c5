/- The dataset of any vectors, the vectors of any bytes, and what any head says, are the ones of the document, or there are none; for up to 20 lists of up to 20 numbers, up to 700 bytes, and any numbers (the law DatasetTells, over bytes and numbers alone). -/
import Derived.Test.YtmacpgkcokpgjaaPDatasetTellsx8
import Derived.Lib.Strings
namespace Go.Proofs.Ytmacpgkcokpgjaa.Pure
open Go.RowKit Go.Proofs.Ytmacpgkcokpgjaa.PDatasetTells Go.Proofs.YtmacpgkcokpgjaaW.PrintWords Go.Proofs.YtmacpgkcokpgjaaW.PrintLast
set_option linter.unusedVariables false
set_option linter.unusedSimpArgs false
namespace Cr
/-! ### strings as lists of bytes -/
theorem ba_ext {s t : ByteArray} (h : s.data.toList = t.data.toList) : s = t := by
  cases s; cases t
  simp only [ByteArray.mk.injEq]
  exact Array.toList_inj.1 h
theorem ba_append (s t : ByteArray) : (s ++ t).data.toList = s.data.toList ++ t.data.toList := by
  rw [ByteArray.data_append, Array.toList_append]
theorem ba_size (s : ByteArray) : s.size = s.data.toList.length := by simp

end Cr

namespace Oc
/-! ### numbers as bytes -/
def beN (n k : Nat) : List Int := (List.range k).reverse.map fun i => ((n / 256 ^ i % 256 : Nat) : Int)
theorem beN_len (n k : Nat) : (beN n k).length = k := by simp [beN]
theorem beN_succ (n k : Nat) : beN n (k + 1) = ((n / 256 ^ k % 256 : Nat) : Int) :: beN n k := by
  unfold beN
  rw [List.range_succ, List.reverse_append]; rfl
theorem beN_range (n k : Nat) : ∀ x ∈ beN n k, 0 ≤ x ∧ x < 256 := by
  intro x hx
  obtain ⟨i, _, rfl⟩ := List.mem_map.1 hx
  have := Nat.mod_lt (n / 256 ^ i) (show 256 > 0 by decide)
  omega
def putB (n k : Int) : ByteArray × Bool := if n < 0 ∨ k < 1 ∨ 8 < k then (⟨#[]⟩, false) else if n.toNat < 256 ^ k.toNat then (strOfNums (beN n.toNat k.toNat), true) else (⟨#[]⟩, false)
theorem octs_be (n : Nat) : octet_Put.octs (n : Int) = beN n 8 := by
  have e7 : (n : Int) / 72057594037927936 % 256 = ((n / 256 ^ 7 % 256 : Nat) : Int) := by rw [show 256 ^ 7 = 72057594037927936 from rfl]; omega
  have e6 : (n : Int) / 281474976710656 % 256 = ((n / 256 ^ 6 % 256 : Nat) : Int) := by rw [show 256 ^ 6 = 281474976710656 from rfl]; omega
  have e5 : (n : Int) / 1099511627776 % 256 = ((n / 256 ^ 5 % 256 : Nat) : Int) := by rw [show 256 ^ 5 = 1099511627776 from rfl]; omega
  have e4 : (n : Int) / 4294967296 % 256 = ((n / 256 ^ 4 % 256 : Nat) : Int) := by rw [show 256 ^ 4 = 4294967296 from rfl]; omega
  have e3 : (n : Int) / 16777216 % 256 = ((n / 256 ^ 3 % 256 : Nat) : Int) := by rw [show 256 ^ 3 = 16777216 from rfl]; omega
  have e2 : (n : Int) / 65536 % 256 = ((n / 256 ^ 2 % 256 : Nat) : Int) := by rw [show 256 ^ 2 = 65536 from rfl]; omega
  have e1 : (n : Int) / 256 % 256 = ((n / 256 ^ 1 % 256 : Nat) : Int) := by rw [show 256 ^ 1 = 256 from rfl]; omega
  have e0 : (n : Int) % 256 = ((n / 256 ^ 0 % 256 : Nat) : Int) := by rw [show 256 ^ 0 = 1 from rfl]; omega
  unfold octet_Put.octs
  rw [e7, e6, e5, e4, e3, e2, e1, e0]
  rfl
theorem beN_take (m k : Nat) : ∀ j, m < 256 ^ (k + j) → ((((beN m (k + j)).take j).all (· == 0) = true) ↔ m < 256 ^ k) := by
  intro j
  induction j with
  | zero => intro h; simpa using h
  | succ j ih =>
    intro h
    have hp : 256 ^ (k + (j + 1)) = 256 ^ (k + j) * 256 := Nat.pow_succ ..
    have hx : m / 256 ^ (k + j) < 256 := Nat.div_lt_of_lt_mul (by omega)
    rw [show k + (j + 1) = (k + j) + 1 from rfl, beN_succ, List.take_succ_cons, List.all_cons, Bool.and_eq_true]
    have hz : ((((m / 256 ^ (k + j) % 256 : Nat) : Int) == 0) = true) ↔ m < 256 ^ (k + j) := by
      rw [beq_iff_eq, Nat.mod_eq_of_lt hx]
      constructor
      · intro e
        rcases Nat.lt_or_ge m (256 ^ (k + j)) with h' | h'
        · exact h'
        · have := Nat.div_pos h' (Nat.pow_pos (by decide)); omega
      · intro h'; rw [Nat.div_eq_of_lt h']; rfl
    rw [hz]
    constructor
    · rintro ⟨h1, h2⟩; exact (ih h1).1 h2
    · intro h1
      have : 256 ^ k ≤ 256 ^ (k + j) := Nat.pow_le_pow_right (by decide) (by omega)
      exact ⟨by omega, (ih (by omega)).2 h1⟩
theorem beN_drop (m k : Nat) : ∀ j, (beN m (k + j)).drop j = beN m k := by
  intro j
  induction j with
  | zero => rfl
  | succ j ih => rw [show k + (j + 1) = (k + j) + 1 from rfl, beN_succ, List.drop_succ_cons, ih]
theorem put_bv (n k : Int) (hn : n < 9223372036854775808) : octet_Put.f n k = some (putB n k) := by
  unfold octet_Put.f putB
  by_cases hb : n < 0 ∨ k < 1 ∨ 8 < k
  · rw [if_pos hb, if_pos hb]
  · rw [if_neg hb, if_neg hb]
    obtain ⟨m, rfl⟩ : ∃ m : Nat, n = (m : Int) := ⟨n.toNat, by omega⟩
    obtain ⟨q, rfl⟩ : ∃ q : Nat, k = (q : Int) := ⟨k.toNat, by omega⟩
    have hq8 : q ≤ 8 := by omega
    have hm : m < 256 ^ 8 := by have : 256 ^ 8 = 18446744073709551616 := by decide
                                omega
    have e8 : q + (8 - q) = 8 := by omega
    have h1 := beN_take m q (8 - q) (by rw [e8]; exact hm)
    have h2 := beN_drop m q (8 - q)
    rw [e8] at h1 h2
    rw [octs_be, Int.toNat_natCast, Int.toNat_natCast, show ((8 : Int) - (q : Int)).toNat = 8 - q from by omega, h2]
    by_cases hlt : m < 256 ^ q
    · rw [if_pos (h1.2 hlt), if_pos hlt]
    · rw [if_neg (fun h => hlt (h1.1 h)), if_neg hlt]
def numN (l : List UInt8) : Nat := l.foldl (fun n c => n * 256 + c.toNat) 0
theorem numN_snoc (l : List UInt8) (c : UInt8) : numN (l ++ [c]) = numN l * 256 + c.toNat := by
  unfold numN
  rw [List.foldl_append]; rfl
theorem snoc_ind (P : List UInt8 → Prop) (h0 : P []) (h1 : ∀ m c, P m → P (m ++ [c])) (l : List UInt8) : P l := by
  have : ∀ n (l : List UInt8), l.length = n → P l := by
    intro n
    induction n with
    | zero => intro l hl; rw [List.length_eq_zero_iff.1 hl]; exact h0
    | succ n ih =>
      intro l hl
      rcases List.eq_nil_or_concat l with rfl | ⟨m, c, rfl⟩
      · exact h0
      · rw [List.concat_eq_append] at hl ⊢
        exact h1 m c (ih m (by simpa using hl))
  exact this _ l rfl
theorem numN_lt (l : List UInt8) : numN l < 256 ^ l.length := by
  refine snoc_ind (fun l => numN l < 256 ^ l.length) (by decide) (fun m c ih => ?_) l
  rw [numN_snoc, List.length_append]
  have := c.toNat_lt
  have : 256 ^ (m.length + [c].length) = 256 ^ m.length * 256 := Nat.pow_succ ..
  omega
theorem join_bv (x : Nat) (c : UInt8) (hx : x * 256 < 18446744073709551616) : octet_Get.join (x : Int) (c.toNat : Int) = ((x * 256 + c.toNat : Nat) : Int) := by
  have hc := c.toNat_lt
  have hw : IntKind.u64.wrap ((x : Int) * 256) = ((x * 256 : Nat) : Int) := by
    simp only [IntKind.wrap, IntKind.bits, IntKind.signed, Bool.false_and]
    simp
    omega
  unfold octet_Get.join
  rw [hw]
  show IntKind.u64.wrap ((BitVec.ofInt 64 ((x * 256 : Nat) : Int) ||| BitVec.ofInt 64 (c.toNat : Int)).toNat : Int) = _
  rw [BitVec.ofInt_natCast, BitVec.ofInt_natCast, BitVec.toNat_or, BitVec.toNat_ofNat, BitVec.toNat_ofNat, Nat.mod_eq_of_lt (by omega), Nat.mod_eq_of_lt (by omega)]
  have ho : x * 256 ||| c.toNat = x * 256 + c.toNat := by
    have := Nat.shiftLeft_add_eq_or_of_lt (b := c.toNat) (i := 8) hc x
    rw [Nat.shiftLeft_eq] at this
    exact this.symm
  rw [ho]
  simp only [IntKind.wrap, IntKind.bits, IntKind.signed, Bool.false_and]
  simp
  omega
theorem num_bv (l : List UInt8) (hl : l.length ≤ 8) : octet_Get.num (l.map fun b => (b.toNat : Int)) = (numN l : Int) := by
  refine snoc_ind (fun l => l.length ≤ 8 → octet_Get.num (l.map fun b => (b.toNat : Int)) = (numN l : Int)) (fun _ => rfl) (fun m c ih hl => ?_) l hl
  rw [List.length_append] at hl
  have hm : m.length ≤ 7 := by simp at hl; omega
  have hlt := numN_lt m
  have hp : 256 ^ m.length ≤ 256 ^ 7 := Nat.pow_le_pow_right (by decide) hm
  rw [List.map_append, List.map_singleton, octet_Get.num_snoc, ih (by omega), join_bv _ _ (by omega), numN_snoc]
theorem ba_ext {s t : ByteArray} (h : s.data.toList = t.data.toList) : s = t := by
  cases s; cases t
  simp only [ByteArray.mk.injEq]
  exact Array.toList_inj.1 h
theorem ba_append (s t : ByteArray) : (s ++ t).data.toList = s.data.toList ++ t.data.toList := by
  rw [ByteArray.data_append, Array.toList_append]
theorem ba_size (s : ByteArray) : s.size = s.data.toList.length := by simp
def getB (s : ByteArray) (p k : Int) : Int × Bool :=
  if k < 1 ∨ 8 < k ∨ p < 0 ∨ (s.size : Int) - k < p then (0, false)
  else if numN ((s.data.toList.drop p.toNat).take k.toNat) < 9223372036854775808 then ((numN ((s.data.toList.drop p.toNat).take k.toNat) : Int), true) else (0, false)
theorem get_bv (s : ByteArray) (p k : Int) (hs : s.size ≤ 1000000000) (hp : (Lit.int .i64 p).wf = true) : octet_Get.f s p k = some (getB s p k) := by
  have hp' : -9223372036854775808 ≤ p ∧ p ≤ 9223372036854775807 := by simpa [Lit.wf, IntKind.min, IntKind.max, IntKind.signed, IntKind.bits] using hp
  unfold octet_Get.f getB
  rw [if_pos ⟨hs, hp'.1, hp'.2⟩]
  by_cases hb : k < 1 ∨ 8 < k ∨ p < 0 ∨ (s.size : Int) - k < p
  · rw [if_pos hb, if_pos hb]
  · rw [if_neg hb, if_neg hb]
    have he : bytesOf (s.extract p.toNat (p + k).toNat) = ((s.data.toList.drop p.toNat).take k.toNat).map fun b => (b.toNat : Int) := by
      unfold bytesOf
      rw [Lib.extract_data, show (p + k).toNat - p.toNat = k.toNat from by omega]
    rw [he, num_bv _ (by rw [List.length_take]; omega)]
    by_cases hlt : numN ((s.data.toList.drop p.toNat).take k.toNat) < 9223372036854775808
    · rw [if_pos hlt, if_pos (by omega)]
    · rw [if_neg hlt, if_neg (by omega)]

/-! ### the document's bytes -/
theorem wrap_succ (i : Nat) (h : i < 1000000000) : wrap64 ((i : Int) + 1) = ((i + 1 : Nat) : Int) := by unfold wrap64; omega
theorem stepq (q : Nat) (hq : q < 9223372036854775808) : Int.tmod (q : Int) 256 % 256 = ((q % 256 : Nat) : Int) ∧ wrap64 (Int.tdiv (q : Int) 256) = ((q / 256 : Nat) : Int) := by
  rw [Int.tmod_eq_emod_of_nonneg (Int.natCast_nonneg _), Int.tdiv_eq_ediv_of_nonneg (Int.natCast_nonneg _)]
  unfold wrap64
  omega
theorem beN_fits (x : Int) (n i : Nat) (h : i < 9) : (strOfNums [x]).size + (strOfNums (beN n i)).size ≤ 9223372036854775807 := by
  have h1 : (strOfNums [x]).size = 1 := strOfNums_size _
  have h2 : (strOfNums (beN n i)).size = i := (strOfNums_size _).trans (beN_len _ _)
  omega
theorem refl0 (n k : Nat) (hn : n < 9223372036854775808) : ∀ (r f i : Nat), i + r = k → r < f → k ≤ 8 →
    chainmanref02_Put.l0 f ((n / 256 ^ i : Nat) : Int) (k : Int) (strOfNums (beN n i)) (i : Int) = some (if n < 256 ^ k then (strOfNums (beN n k), true) else (⟨#[]⟩, false)) := by
  intro r
  induction r with
  | zero =>
    intro f i hi hf hk
    obtain ⟨f, rfl⟩ : ∃ m, f = m + 1 := ⟨f - 1, by omega⟩
    obtain rfl : i = k := by omega
    rw [chainmanref02_Put.l0, if_neg (by omega)]
    have hz : (0 < n / 256 ^ i) ↔ ¬ n < 256 ^ i := by
      have h := Nat.div_eq_zero_iff (a := n) (b := 256 ^ i)
      have hp : 256 ^ i ≠ 0 := Nat.ne_of_gt (Nat.pow_pos (by decide))
      constructor
      · intro h1 h2; have := Nat.div_eq_of_lt h2; omega
      · intro h1; exact Nat.div_pos (by omega) (Nat.pow_pos (by decide))
    by_cases h : n < 256 ^ i
    · rw [if_neg (by omega), if_pos h]
    · rw [if_pos (by omega), if_neg h]
  | succ r ih =>
    intro f i hi hf hk
    obtain ⟨f, rfl⟩ : ∃ m, f = m + 1 := ⟨f - 1, by omega⟩
    rw [chainmanref02_Put.l0, if_pos (by omega), Option.bind_some]
    have hsz : (strOfNums [((n / 256 ^ i % 256 : Nat) : Int)]).size + (strOfNums (beN n i)).size ≤ 9223372036854775807 := by
      exact beN_fits _ n i (by omega)
    have a1 : i + 1 + r = k := by omega
    have a2 : r < f := by omega
    have a3 : i < 1000000000 := by omega
    have hq : n / 256 ^ i ≤ n := Nat.div_le_self _ _
    obtain ⟨e1, e2⟩ := stepq (n / 256 ^ i) (Nat.lt_of_le_of_lt hq hn)
    rw [Nat.div_div_eq_div_mul, ← Nat.pow_succ] at e2
    have e3 : wrap64 ((i : Int) + 1) = ((i + 1 : Nat) : Int) := wrap_succ i a3
    have e4 : strOfNums [((n / 256 ^ i % 256 : Nat) : Int)] ++ strOfNums (beN n i) = strOfNums (beN n (i + 1)) := by
      apply ba_ext
      rw [ba_append, strOfNums_data, strOfNums_data, strOfNums_data, beN_succ]; rfl
    rw [e1, if_pos hsz, e2, e4, e3]
    exact ih f (i + 1) a1 a2 hk
theorem refput_bv (n k : Int) (f : Nat) (hf : 20 ≤ f) (hn : n < 9223372036854775808) : chainmanref02_Put.f f n k = some (putB n k) := by
  obtain ⟨f, rfl⟩ : ∃ m, f = m + 1 := ⟨f - 1, by omega⟩
  unfold chainmanref02_Put.f putB
  by_cases h1 : k < 1
  · rw [if_pos h1, if_pos (.inr (.inl h1)), chainmanref02_Put.j0, if_pos rfl]
  · rw [if_neg h1]
    by_cases h2 : k > 8
    · rw [if_pos h2, if_pos (.inr (.inr h2)), chainmanref02_Put.j0, if_pos rfl]
    · rw [if_neg h2]
      by_cases h3 : n < 0
      · rw [if_pos (.inl h3), chainmanref02_Put.j0, if_pos (decide_eq_true h3)]
      · rw [if_neg (by omega), chainmanref02_Put.j0, if_neg (by simpa using h3)]
        obtain ⟨m, rfl⟩ : ∃ m : Nat, n = (m : Int) := ⟨n.toNat, by omega⟩
        obtain ⟨j, rfl⟩ : ∃ j : Nat, k = (j : Int) := ⟨k.toNat, by omega⟩
        have h := refl0 m j (by omega) j f 0 (by omega) (by omega) (by omega)
        rw [Nat.pow_zero, Nat.div_one] at h
        rw [Int.toNat_natCast, Int.toNat_natCast]
        exact h
theorem bt_nat (s : ByteArray) (i : Nat) (h : i < s.data.toList.length) : bt s (i : Int) = ((s.data.toList[i]).toNat : Int) := by
  have h' : i < s.size := by rw [ba_size]; exact h
  unfold bt
  rw [dif_pos (by simpa using h')]
  rfl
theorem numN_grow (l : List UInt8) (j k : Nat) (h : j < k) (hk : k ≤ l.length) : numN (l.take j) * 256 ≤ numN (l.take k) := by
  induction k with
  | zero => omega
  | succ k ih =>
    rw [List.take_succ_eq_append_getElem (show k < l.length by omega), numN_snoc]
    by_cases hjk : j = k
    · subst hjk; omega
    · have := ih (by omega) (by omega); omega
theorem wrap_in (x : Int) (h0 : 0 ≤ x) (h1 : x < 9223372036854775808) : wrap64 x = x := by unfold wrap64; omega
theorem wrap_addn (p i : Nat) (h : p + i < 1000000) : wrap64 ((p : Int) + (i : Int)) = ((p + i : Nat) : Int) := by unfold wrap64; omega
theorem wrap_step (x c : Nat) (hx : x < 36028797018963968) (hc : c < 256) : wrap64 (wrap64 ((x : Int) * 256) + wrap64 (c : Int)) = ((x * 256 + c : Nat) : Int) := by
  rw [wrap_in ((x : Int) * 256) (by omega) (by omega), wrap_in (c : Int) (by omega) (by omega), wrap_in _ (by omega) (by omega)]
  omega
theorem refg0 (s : ByteArray) (hs : s.size ≤ 1000000) (p k : Nat) (hpk : p + k ≤ s.size) (hk8 : k ≤ 8) : ∀ (r f i : Nat), i + r = k → r < f → numN ((s.data.toList.drop p).take i) < 9223372036854775808 →
    chainmanref02_Get.l0 f s (p : Int) (k : Int) (numN ((s.data.toList.drop p).take i) : Int) (i : Int) = some (if numN ((s.data.toList.drop p).take k) < 9223372036854775808 then ((numN ((s.data.toList.drop p).take k) : Int), true) else (0, false)) := by
  have hz := ba_size s
  intro r
  induction r with
  | zero =>
    intro f i hi hf hlt
    obtain ⟨f, rfl⟩ : ∃ m, f = m + 1 := ⟨f - 1, by omega⟩
    obtain rfl : i = k := by omega
    rw [chainmanref02_Get.l0, if_neg (by omega), if_pos hlt]
  | succ r ih =>
    intro f i hi hf hlt
    obtain ⟨f, rfl⟩ : ∃ m, f = m + 1 := ⟨f - 1, by clear ih; omega⟩
    have hln : (s.data.toList.drop p).length = s.size - p := by rw [List.length_drop, hz]
    rw [chainmanref02_Get.l0, if_pos (by clear ih; omega)]
    by_cases hbig : numN ((s.data.toList.drop p).take i) ≥ 36028797018963968
    · have := numN_grow (s.data.toList.drop p) i k (by clear ih; omega) (by clear ih; omega)
      rw [if_pos (by clear ih; omega), if_neg (by clear ih; omega)]
    · have hpi : p + i < 1000000 := by clear ih; omega
      have hlt2 : p + i < s.data.toList.length := by clear ih; omega
      have g1 : ¬ ((numN ((s.data.toList.drop p).take i) : Int) ≥ 36028797018963968) := by clear ih; omega
      have g2 : (0 : Int) ≤ ((p + i : Nat) : Int) := Int.natCast_nonneg _
      have g3 : ((p + i : Nat) : Int) < (s.size : Int) := by clear ih; omega
      have g4 : i < (s.data.toList.drop p).length := by clear ih; omega
      have g5 : i + 1 + r = k := by clear ih; omega
      have g6 : r < f := by clear ih; omega
      have g7 : i < 1000000000 := by clear ih; omega
      have hc := (s.data.toList[p + i]).toNat_lt
      have hsn : (s.data.toList.drop p).take (i + 1) = (s.data.toList.drop p).take i ++ [s.data.toList[p + i]] := by
        rw [List.take_succ_eq_append_getElem g4, List.getElem_drop]
      have hN : numN ((s.data.toList.drop p).take (i + 1)) = numN ((s.data.toList.drop p).take i) * 256 + (s.data.toList[p + i]).toNat := by rw [hsn, numN_snoc]
      have g8 : numN ((s.data.toList.drop p).take (i + 1)) < 9223372036854775808 := by clear ih; omega
      rw [if_neg g1, wrap_addn p i hpi, if_pos g2, if_pos g3, bt_nat s (p + i) hlt2, wrap_step _ _ (Nat.lt_of_not_ge hbig) hc, ← hN, wrap_succ i g7]
      exact ih f (i + 1) g5 g6 g8
theorem refget_bv (s : ByteArray) (p k : Int) (hs : s.size ≤ 1000000) (hp : (Lit.int .i64 p).wf = true) (f : Nat) (hf : 20 ≤ f) : chainmanref02_Get.f f s p k = some (getB s p k) := by
  have hp' : -9223372036854775808 ≤ p ∧ p ≤ 9223372036854775807 := by simpa [Lit.wf, IntKind.min, IntKind.max, IntKind.signed, IntKind.bits] using hp
  obtain ⟨f, rfl⟩ : ∃ m, f = m + 1 := ⟨f - 1, by omega⟩
  unfold chainmanref02_Get.f getB
  by_cases h1 : k < 1
  · rw [if_pos h1, if_pos (.inl h1), chainmanref02_Get.j0, if_pos rfl]
  · rw [if_neg h1]
    by_cases h2 : k > 8
    · rw [if_pos h2, if_pos (.inr (.inl h2)), chainmanref02_Get.j0, if_pos rfl]
    · rw [if_neg h2]
      by_cases h3 : p < 0
      · rw [if_pos h3, if_pos (.inr (.inr (.inl h3))), chainmanref02_Get.j0, if_pos rfl]
      · rw [if_neg h3]
        by_cases h4 : p > (s.size : Int)
        · rw [if_pos h4, if_pos (.inr (.inr (.inr (by omega)))), chainmanref02_Get.j0, if_pos rfl]
        · rw [if_neg h4]
          have hw : wrap64 ((s.size : Int) - p) = (s.size : Int) - p := by unfold wrap64; omega
          rw [hw]
          by_cases h5 : k > (s.size : Int) - p
          · rw [if_pos (.inr (.inr (.inr (by omega)))), chainmanref02_Get.j0, if_pos (decide_eq_true h5)]
          · rw [if_neg (by omega), chainmanref02_Get.j0, if_neg (by simpa using h5)]
            obtain ⟨q, rfl⟩ : ∃ q : Nat, p = (q : Int) := ⟨p.toNat, by omega⟩
            obtain ⟨j, rfl⟩ : ∃ j : Nat, k = (j : Int) := ⟨k.toNat, by omega⟩
            rw [Int.toNat_natCast, Int.toNat_natCast]
            exact refg0 s hs q j (by omega) (by omega) j f 0 (by omega) (by omega) (show (0 : Nat) < 9223372036854775808 by decide)

/-! ### bytes in pieces: the program's and the document's -/
theorem w64 (n : Int) (h : -9223372036854775808 ≤ n ∧ n ≤ 9223372036854775807) : wrap64 n = n := by unfold wrap64; omega
theorem ex_data (s : ByteArray) (a b : Nat) : (s.extract a b).data.toList = (s.data.toList.take b).drop a := by
  rw [ByteArray.data_extract, Array.toList_extract]
  rw [List.extract_eq_drop_take', ]
theorem ex_size (s : ByteArray) (a b : Nat) (hb : b ≤ s.size) : (s.extract a b).size = b - a := by
  rw [ba_size, ex_data, List.length_drop, List.length_take, ← ba_size]; omega
theorem ex_front (s : ByteArray) (a k : Nat) (h : a + k ≤ s.size) : (s.extract a s.size).extract 0 k = s.extract a (a + k) := by
  apply ba_ext
  rw [ex_data, ex_data, ex_data, List.drop_zero, ba_size, List.take_length, List.take_drop]
theorem ex_back (s : ByteArray) (a k : Nat) : (s.extract a s.size).extract k (s.extract a s.size).size = s.extract (a + k) s.size := by
  apply ba_ext
  rw [ex_data, ba_size, ← ba_size, List.take_of_length_le (by rw [ba_size]; exact Nat.le_refl _), ex_data, ex_data, List.drop_drop]

end Oc

/-! ### numbers' bytes, and texts one behind the other -/
def catL (l : List ByteArray) : List UInt8 := (l.map (·.data.toList)).flatten
theorem catL_cons (x : ByteArray) (l : List ByteArray) : catL (x :: l) = x.data.toList ++ catL l := by simp [catL]
theorem catL_le (l : List ByteArray) (m : Nat) (h : ∀ x ∈ l, x.size ≤ m) : (catL l).length ≤ l.length * m := by
  induction l with
  | nil => simp [catL]
  | cons x l ih =>
    have h1 := h x (by simp)
    have h2 := ih (fun y hy => h y (by simp [hy]))
    rw [catL_cons, List.length_append, List.length_cons, Nat.add_mul, ← Cr.ba_size]; omega
theorem catL_len (l : List ByteArray) (m : Nat) (h : ∀ x ∈ l, x.size = m) : (catL l).length = l.length * m := by
  induction l with
  | nil => simp [catL]
  | cons x l ih =>
    have h1 := h x (by simp)
    have h2 := ih (fun y hy => h y (by simp [hy]))
    rw [catL_cons, List.length_append, List.length_cons, Nat.add_mul, ← Cr.ba_size]; omega
theorem join_all (l : List ByteArray) : strings_Join.all l ⟨#[]⟩ = catL l := by
  unfold strings_Join.all catL
  cases l with
  | nil => rfl
  | cons x l =>
    rw [List.map_cons, Lib.join_cons, List.flatten_cons]
    congr 1
    unfold Lib.joinTail
    congr 1
    exact (List.map_congr_left (fun y _ => List.nil_append y)).trans (List.map_id _)
theorem wsucc (i : Nat) (h : i < 1000000) : wrap64 ((i : Int) + 1) = ((i + 1 : Nat) : Int) := by unfold wrap64; omega
theorem numN_inj (l : List UInt8) : ∀ m : List UInt8, l.length = m.length → Oc.numN l = Oc.numN m → l = m := by
  refine Oc.snoc_ind (fun l => ∀ m : List UInt8, l.length = m.length → Oc.numN l = Oc.numN m → l = m) ?_ ?_ l
  · intro m h _; exact (List.eq_nil_of_length_eq_zero h.symm).symm
  · intro l c ih m hl hn
    rcases List.eq_nil_or_concat m with rfl | ⟨m', d, rfl⟩
    · simp at hl
    · rw [List.concat_eq_append] at hl hn ⊢
      rw [Oc.numN_snoc, Oc.numN_snoc] at hn
      have hc := c.toNat_lt; have hd := d.toNat_lt
      have e1 := ih m' (by simpa using hl) (by omega)
      have e2 : c = d := UInt8.toNat.inj (by omega)
      rw [e1, e2]
def beU (n k : Nat) : List UInt8 := (Oc.beN n k).map fun x => UInt8.ofNat x.toNat
theorem beU_data (n k : Nat) : (strOfNums (Oc.beN n k)).data.toList = beU n k := strOfNums_data _
theorem beU_len (n k : Nat) : (beU n k).length = k := by unfold beU; rw [List.length_map, Oc.beN_len]
theorem beU_succ (n k : Nat) : beU n (k + 1) = UInt8.ofNat (n / 256 ^ k % 256) :: beU n k := by
  unfold beU; rw [Oc.beN_succ, List.map_cons, Int.toNat_natCast]
/-- what comes back: the number's last k bytes -/
theorem numN_from (l : List UInt8) : ∀ a : Nat, l.foldl (fun n c => n * 256 + c.toNat) a = a * 256 ^ l.length + Oc.numN l := by
  induction l with
  | nil => intro a; simp [Oc.numN]
  | cons c l ih =>
    intro a
    have h1 : (c :: l).foldl (fun n c => n * 256 + c.toNat) a = l.foldl (fun n c => n * 256 + c.toNat) (a * 256 + c.toNat) := rfl
    have h2 : Oc.numN (c :: l) = l.foldl (fun n c => n * 256 + c.toNat) (0 * 256 + c.toNat) := rfl
    rw [h1, ih, h2, ih, List.length_cons, Nat.pow_succ, Nat.add_mul, Nat.zero_mul, Nat.zero_add, Nat.mul_assoc, Nat.mul_comm 256, Nat.add_assoc]
theorem numN_cons (c : UInt8) (l : List UInt8) : Oc.numN (c :: l) = c.toNat * 256 ^ l.length + Oc.numN l := by
  have h := numN_from l (0 * 256 + c.toNat)
  rw [Nat.zero_mul, Nat.zero_add] at h
  have h2 : Oc.numN (c :: l) = l.foldl (fun n c => n * 256 + c.toNat) (0 * 256 + c.toNat) := rfl
  rw [h2, Nat.zero_mul, Nat.zero_add]
  exact h
theorem numN_beU (n : Nat) : ∀ k, Oc.numN (beU n k) = n % 256 ^ k := by
  intro k
  induction k with
  | zero => show 0 = n % 1; rw [Nat.mod_one]
  | succ k ih =>
    have hb : (UInt8.ofNat (n / 256 ^ k % 256)).toNat = n / 256 ^ k % 256 := by
      rw [UInt8.toNat_ofNat']
      exact Nat.mod_mod_of_dvd _ (by decide)
    rw [beU_succ, numN_cons, ih, beU_len, hb, Nat.pow_succ, Nat.mod_mul, Nat.mul_comm (256 ^ k)]
    exact Nat.add_comm _ _

/-! ### ends -/
theorem putB_ok (n k : Nat) (hk : 1 ≤ k) (hk8 : k ≤ 8) (hn : n < 256 ^ k) : Oc.putB (n : Int) (k : Int) = (strOfNums (Oc.beN n k), true) := by
  unfold Oc.putB; rw [if_neg (by omega), Int.toNat_natCast, Int.toNat_natCast, if_pos hn]
theorem be_size (n k : Nat) : (strOfNums (Oc.beN n k)).size = k := (strOfNums_size _).trans (Oc.beN_len _ _)
theorem beU_num (l : List UInt8) : beU (Oc.numN l) l.length = l := by
  refine numN_inj _ _ (beU_len _ _) ?_
  rw [numN_beU, Nat.mod_eq_of_lt (Oc.numN_lt l)]
theorem bt_head (s : ByteArray) (c : UInt8) (L : List UInt8) (h : s.data.toList = c :: L) : bt s 0 = (c.toNat : Int) := by
  have := Oc.bt_nat s 0 (by rw [h]; simp)
  rw [show ((0 : Nat) : Int) = 0 from rfl] at this
  rw [this]; congr 2; simp [h]
theorem num4 (L : List UInt8) (k : Nat) (h : L.length ≤ k) : Oc.numN L < 256 ^ k := Nat.lt_of_lt_of_le (Oc.numN_lt L) (Nat.pow_le_pow_right (by decide) h)
theorem take_len (L : List UInt8) (p k : Nat) (h : p + k ≤ L.length) : ((L.drop p).take k).length = k := by rw [List.length_take, List.length_drop]; omega

/-! ### one item behind the other -/
def goG {α β : Type} (F : α → Option (β × Bool)) : List β → List α → Option (List β × Bool)
  | acc, [] => some (acc, true)
  | acc, x :: l => (F x).bind fun r => if r.2 = true then goG F (acc ++ [r.1]) l else some ([], false)
theorem go1 (F : Int → Option (ByteArray × Bool)) : ∀ (l : List Int) acc, dataset_each_int_string_158.go F acc l = goG F acc l := by
  intro l; induction l with
  | nil => intro acc; rfl
  | cons x l ih => intro acc; rw [dataset_each_int_string_158.go, goG]; simp only [ih]
theorem go2 (F : List Int → Option (ByteArray × Bool)) : ∀ (l : List (List Int)) acc, dataset_each_int_string_111.go F acc l = goG F acc l := by
  intro l; induction l with
  | nil => intro acc; rfl
  | cons x l ih => intro acc; rw [dataset_each_int_string_111.go, goG]; simp only [ih]
theorem go3 (F : ByteArray → Option (Int × Bool)) : ∀ (l : List ByteArray) acc, dataset_each_string_int_115.go F acc l = goG F acc l := by
  intro l; induction l with
  | nil => intro acc; rfl
  | cons x l ih => intro acc; rw [dataset_each_string_int_115.go, goG]; simp only [ih]
theorem go4 (F : ByteArray → Option (List Int × Bool)) : ∀ (l : List ByteArray) acc, dataset_each_string_int_113.go F acc l = goG F acc l := by
  intro l; induction l with
  | nil => intro acc; rfl
  | cons x l ih => intro acc; rw [dataset_each_string_int_113.go, goG]; simp only [ih]
theorem goG_all {α β : Type} (F : α → Option (β × Bool)) (g : α → β) (p : α → Bool) : ∀ (l : List α) (acc : List β), (∀ x ∈ l, F x = some (g x, p x)) → goG F acc l = some (if l.all p = true then (acc ++ l.map g, true) else ([], false)) := by
  intro l
  induction l with
  | nil => intro acc _; simp [goG]
  | cons x l ih =>
    intro acc h
    rw [goG, h x (by simp), Option.bind_some]
    by_cases hp : p x = true
    · rw [if_pos hp, ih _ (fun y hy => h y (by simp [hy]))]
      simp [hp]
    · rw [if_neg hp, if_neg (by simp [hp])]
theorem goG_ev {α β : Type} (F : Nat → α → Option (β × Bool)) (G : α → β × Bool) : ∀ (l : List α) (acc : List β), (∀ x ∈ l, Ev (fun k => F k x) (G x)) → Ev (fun k => goG (F k) acc l) (if l.all (fun x => (G x).2) = true then (acc ++ l.map (fun x => (G x).1), true) else ([], false)) := by
  intro l
  induction l with
  | nil => intro acc _; exact Ev.congr (f := fun _ => some _) (fun k => by simp [goG]) (Ev.now _)
  | cons x l ih =>
    intro acc h
    refine Ev.congr (fun k => goG.eq_2 _ _ _ _) ?_
    refine Ev.bind (h x (by simp)) ?_
    by_cases hp : (G x).2 = true
    · refine Ev.congr (fun k => if_pos hp) ?_
      have := ih (acc ++ [(G x).1]) (fun y hy => h y (by simp [hy]))
      rw [show (x :: l).all (fun x => (G x).2) = l.all (fun x => (G x).2) by simp [hp], List.map_cons]
      rw [List.append_assoc] at this
      exact this
    · rw [show (x :: l).all (fun x => (G x).2) = false by simp [hp]]
      exact Ev.congr (f := fun _ => some _) (fun k => if_neg hp) (Ev.now _)
/-! ### coordinates -/
def fits (x : Int) : Bool := decide (-16777215 ≤ x) && decide (x ≤ 16777215)
theorem fits_iff (x : Int) : fits x = true ↔ -16777215 ≤ x ∧ x ≤ 16777215 := by unfold fits; simp
def in32 (x : Int) : Prop := -2147483648 ≤ x ∧ x < 2147483648
instance (x : Int) : Decidable (in32 x) := by unfold in32; infer_instance
def cw (x : Int) : ByteArray := strOfNums (Oc.beN (x + 2147483648).toNat 4)
def cwF (x : Int) : ByteArray × Bool := if in32 x then (cw x, true) else (⟨#[]⟩, false)
theorem put4 (x : Int) (h : in32 x) : Oc.putB (wrap64 (x + 2147483648)) 4 = (cw x, true) := by
  unfold in32 at h
  have e : wrap64 (x + 2147483648) = x + 2147483648 := by unfold wrap64; omega
  obtain ⟨m, hm⟩ := Int.eq_ofNat_of_zero_le (show 0 ≤ x + 2147483648 by omega)
  unfold cw
  rw [e, hm, Int.toNat_natCast]
  exact putB_ok m 4 (by decide) (by decide) (by omega)
theorem putc (x : Int) : octet_PutCoord.f x = some (cwF x) := by
  unfold octet_PutCoord.f cwF
  by_cases h : in32 x
  · have h' := h
    unfold in32 at h'
    have e : wrap64 (x + 2147483648) = x + 2147483648 := by unfold wrap64; omega
    rw [if_neg (by omega), if_neg (by omega), if_pos h, Oc.put_bv _ _ (by rw [e]; omega), Option.bind_some, put4 x h]
  · have h' := h
    unfold in32 at h'
    by_cases h1 : x < -2147483648
    · rw [if_pos h1, if_neg h]
    · rw [if_neg h1, if_pos (by omega), if_neg h]
theorem refputc (x : Int) : Ev (fun k => chainmanref02_PutCoord.f k x) (cwF x) := by
  refine ⟨20, fun k hk => ?_⟩
  show chainmanref02_PutCoord.f k x = _
  unfold chainmanref02_PutCoord.f cwF
  by_cases h : in32 x
  · have h' := h
    unfold in32 at h'
    have e : wrap64 (x + 2147483648) = x + 2147483648 := by unfold wrap64; omega
    rw [if_neg (by omega), if_neg (by omega), if_pos h, Oc.refput_bv _ _ k hk (by rw [e]; omega), Option.bind_some, put4 x h]
  · have h' := h
    unfold in32 at h'
    by_cases h1 : x < -2147483648
    · rw [if_pos h1, if_neg h]
    · rw [if_neg h1, if_pos (by omega), if_neg h]
theorem may_b (x : Int) : dataset_may.f x = some (fits x) := by
  unfold dataset_may.f fits
  by_cases h : -16777215 ≤ x
  · rw [if_pos h, decide_eq_true h, Bool.true_and]
  · rw [if_neg h, decide_eq_false h, Bool.false_and]
theorem one_b (x : Int) : dataset_Lay.one x = some ((cwF x).1, fits x) := by
  unfold dataset_Lay.one
  rw [putc, Option.bind_some]
  by_cases h : in32 x
  · have e : cwF x = (cw x, true) := if_pos h
    rw [e, if_pos rfl, may_b, Option.bind_some]
  · have e : cwF x = (⟨#[]⟩, false) := if_neg h
    rw [e, if_neg (by decide)]
    have : fits x = false := by
      rw [Bool.eq_false_iff]; intro hf; rw [fits_iff] at hf; exact h ⟨by omega, by omega⟩
    rw [this]
theorem cwF_fits (x : Int) (h : fits x = true) : cwF x = (cw x, true) := by
  rw [fits_iff] at h
  exact if_pos ⟨by omega, by omega⟩
theorem cw_data (x : Int) : (cw x).data.toList = beU (x + 2147483648).toNat 4 := beU_data _ _
theorem cw_size (x : Int) : (cw x).size = 4 := be_size _ 4
/-- A vector's bytes. -/
def vecL (v : List Int) : List UInt8 := catL (v.map cw)
theorem vecL_len (v : List Int) : (vecL v).length = 4 * v.length := by
  unfold vecL; rw [catL_len _ 4 (fun x hx => by obtain ⟨y, _, rfl⟩ := List.mem_map.mp hx; exact cw_size y), List.length_map]; omega
theorem vecL_cons (x : Int) (v : List Int) : vecL (x :: v) = (cw x).data.toList ++ vecL v := by unfold vecL; rw [List.map_cons, catL_cons]
def vecP (d : Nat) (v : List Int) : Bool := v.all fits && decide (v.length = d)
def vecW (v : List Int) : ByteArray := if v.all fits = true then ⟨(vecL v).toArray⟩ else ⟨#[]⟩
theorem vec_b (d : Nat) (v : List Int) (hv : v.length ≤ 1000000) : dataset_Lay.vec (d : Int) v = some (vecW v, vecP d v) := by
  unfold dataset_Lay.vec
  rw [if_pos (by omega), go1, goG_all dataset_Lay.one (fun x => (cwF x).1) fits v [] (fun x _ => one_b x), Option.bind_some]
  unfold vecW vecP
  have hd : decide ((v.length : Int) = (d : Int)) = decide (v.length = d) := decide_eq_decide.mpr (by omega)
  by_cases h : v.all fits = true
  · have hm : v.map (fun x => (cwF x).1) = v.map cw := List.map_congr_left (fun x hx => by rw [cwF_fits x (List.all_eq_true.mp h x hx)])
    rw [if_pos h, List.nil_append, hm]
    have hj : strings_Join.f (v.map cw) ⟨#[]⟩ = some ⟨(vecL v).toArray⟩ := by
      unfold strings_Join.f; rw [join_all, if_pos ⟨by show (vecL v).length ≤ _; rw [vecL_len]; omega, by rw [List.length_map]; omega⟩]; rfl
    rw [hj, Option.bind_some, hd, h, if_pos rfl]
  · have h' : v.all fits = false := by rw [Bool.eq_false_iff]; exact h
    rw [h', if_neg (by decide)]
    have hj : strings_Join.f [] ⟨#[]⟩ = some ⟨#[]⟩ := by
      unfold strings_Join.f; rw [join_all, if_pos ⟨by simp [catL], by simp⟩]; rfl
    rw [hj, Option.bind_some, if_neg (by decide)]
    rfl
/-! ### the dataset of vectors -/
def rightB (l : List (List Int)) : Bool := decide (1 ≤ (l.headD []).length) && l.all (vecP (l.headD []).length)
def layL (l : List (List Int)) : List UInt8 := [86, 69, 67, 49] ++ beU l.length 4 ++ beU (l.headD []).length 2 ++ (l.map vecL).flatten
def layF (l : List (List Int)) : ByteArray × Bool := if rightB l = true then (⟨(layL l).toArray⟩, true) else (⟨#[]⟩, false)
theorem flat_le (l : List (List Int)) (h : ∀ v ∈ l, v.length ≤ 20) : ((l.map vecL).flatten).length ≤ l.length * 80 := by
  induction l with
  | nil => simp
  | cons v l ih =>
    have h1 := h v (by simp)
    have h2 := ih (fun y hy => h y (by simp [hy]))
    rw [List.map_cons, List.flatten_cons, List.length_append, vecL_len, List.length_cons, Nat.add_mul]; omega
theorem cat_flat (l : List (List Int)) : catL (l.map fun v => (⟨(vecL v).toArray⟩ : ByteArray)) = (l.map vecL).flatten := by
  unfold catL; rw [List.map_map]; rfl
theorem lay_b (l : List (List Int)) (hl : l.length ≤ 20) (hv : ∀ v ∈ l, v.length ≤ 20) : dataset_Lay.f l = some (layF l) := by
  unfold dataset_Lay.f layF
  rw [if_pos (by omega)]
  cases l with
  | nil => rfl
  | cons v l =>
    have hv0 := hv v (by simp)
    have hfl := flat_le (v :: l) hv
    rw [if_neg (by simp)]
    show (dataset_shaped.f (((v :: l).length : Nat) : Int) (v.length : Int)).bind _ = _
    have hs : dataset_shaped.f (((v :: l).length : Nat) : Int) (v.length : Int) = some (decide (1 ≤ v.length)) := by
      unfold dataset_shaped.f
      rw [if_pos (by simp; omega), if_pos (by omega)]
      by_cases h1 : 1 ≤ v.length
      · rw [if_pos (by omega), decide_eq_true h1, decide_eq_true (by omega)]
      · rw [if_neg (by omega), decide_eq_false h1]
    rw [hs, Option.bind_some]
    have hr : rightB (v :: l) = (decide (1 ≤ v.length) && (v :: l).all (vecP v.length)) := rfl
    by_cases h1 : 1 ≤ v.length
    case neg => rw [hr, decide_eq_false h1]; rfl
    rw [hr, decide_eq_true h1, if_pos rfl, Bool.true_and]
    have p4 : Oc.putB (((v :: l).length : Nat) : Int) 4 = (strOfNums (Oc.beN (v :: l).length 4), true) := putB_ok (v :: l).length 4 (by decide) (by decide) (by omega)
    have p2 : Oc.putB ((v.length : Nat) : Int) 2 = (strOfNums (Oc.beN v.length 2), true) := putB_ok v.length 2 (by decide) (by decide) (by omega)
    rw [Oc.put_bv _ _ (by omega), Oc.put_bv _ _ (by show ((v.length : Nat) : Int) < _; omega), Option.bind_some, p4]
    show (Option.bind (some (Oc.putB (v.length : Int) 2)) _) = _
    rw [p2, Option.bind_some]
    show (Option.bind (dataset_each_int_string_111.go (dataset_Lay.vec (v.length : Int)) [] (v :: l)) _) = _
    rw [go2, goG_all (dataset_Lay.vec (v.length : Int)) vecW (vecP v.length) (v :: l) [] (fun x hx => vec_b v.length x (by have := hv x hx; omega)), Option.bind_some]
    by_cases h2 : (v :: l).all (vecP v.length) = true
    case neg => rw [if_neg h2, if_neg (by decide), if_neg h2]
    rw [if_pos h2, if_pos h2, if_pos rfl, List.nil_append]
    have hm : (v :: l).map vecW = (v :: l).map fun v => (⟨(vecL v).toArray⟩ : ByteArray) := List.map_congr_left (fun x hx => by
      have := List.all_eq_true.mp h2 x hx
      unfold vecP at this
      rw [Bool.and_eq_true] at this
      exact if_pos this.1)
    have hj : strings_Join.f ((v :: l).map vecW) ⟨#[]⟩ = some ⟨(((v :: l).map vecL).flatten).toArray⟩ := by
      unfold strings_Join.f; rw [join_all, hm, cat_flat, if_pos ⟨by omega, by rw [List.length_map]; omega⟩]
    have hs4 := be_size (v :: l).length 4
    have hs2 := be_size v.length 2
    have hjs : (⟨(((v :: l).map vecL).flatten).toArray⟩ : ByteArray).size = (((v :: l).map vecL).flatten).length := by rw [Cr.ba_size]
    rw [hj, Option.bind_some, if_pos ⟨by show 4 + (strOfNums _).size ≤ _; omega, by show 4 + (strOfNums _).size + (strOfNums _).size ≤ _; omega, by show 4 + (strOfNums _).size + (strOfNums _).size + _ ≤ _; omega⟩]
    refine congrArg some (Prod.ext (Cr.ba_ext ?_) rfl)
    rw [Cr.ba_append, Cr.ba_append, Cr.ba_append, beU_data, beU_data]
    rfl

/-! ### whether lists are vectors, and their dataset, by the document -/
theorem rdL (l : List (List Int)) (i : Nat) (h : i < l.length) : rd_L1 l (i : Int) = l[i] := by
  unfold rd_L1
  rw [Int.toNat_natCast, List.getD_eq_getElem?_getD, List.getElem?_eq_getElem h]; rfl
theorem rdL0 (l : List (List Int)) (h : 0 < l.length) : rd_L1 l 0 = l.headD [] := by
  cases l with
  | nil => simp at h
  | cons v l => rfl
theorem rdI (v : List Int) (j : Nat) (h : j < v.length) : rd v (j : Int) = v[j] := by
  unfold rd
  rw [Int.toNat_natCast, List.getD_eq_getElem?_getD, List.getElem?_eq_getElem h]; rfl
theorem all_drop {α : Type} (p : α → Bool) (l : List α) (i : Nat) (h : i < l.length) : (l.drop i).all p = (p l[i] && (l.drop (i + 1)).all p) := by rw [List.drop_eq_getElem_cons h]; rfl
theorem right_in (l : List (List Int)) (i : Nat) (hi : i < l.length) (hl : l[i].length ≤ 100) (r : Bool) (hn : Ev (fun k => chainmanref10_Right.l0 k l ((i + 1 : Nat) : Int)) r) (hi' : i < 1000) : ∀ d j, j + d = l[i].length → Ev (fun k => chainmanref10_Right.l1 k l (i : Int) (j : Int)) ((l[i].drop j).all fits && r) := by
  intro d
  induction d with
  | zero =>
    intro j hj
    rw [List.drop_of_length_le (by omega), List.all_nil, Bool.true_and]
    refine Ev.step (fun k => ?_) hn
    rw [chainmanref10_Right.l1, if_pos (by omega), if_pos (by omega), rdL l i hi, if_neg (by omega), wsucc i (by omega)]
  | succ d ih =>
    intro j hj
    have hlt : j < l[i].length := by omega
    rw [all_drop fits _ j hlt]
    by_cases hf : fits l[i][j] = true
    · rw [hf, Bool.true_and]
      rw [fits_iff] at hf
      refine Ev.step (fun k => ?_) (ih (j + 1) (by omega))
      rw [chainmanref10_Right.l1, if_pos (by omega), if_pos (by omega), rdL l i hi, if_pos (by omega), if_pos (by omega), rdI _ j hlt, if_neg (by omega), if_neg (by omega), wsucc j (by omega)]
    · have hf' : fits l[i][j] = false := by rw [Bool.eq_false_iff]; exact hf
      rw [hf', Bool.false_and, Bool.false_and]
      rw [fits_iff] at hf
      refine Ev.step (f := fun _ => some false) (fun k => ?_) (Ev.now _)
      rw [chainmanref10_Right.l1, if_pos (by omega), if_pos (by omega), rdL l i hi, if_pos (by omega), if_pos (by omega), rdI _ j hlt]
      by_cases h1 : l[i][j] ≤ -16777216
      · rw [if_pos h1]
      · rw [if_neg h1, if_pos (by omega)]
def okV (d : Nat) (v : List Int) : Bool := decide (1 ≤ v.length) && (decide (v.length = d) && v.all fits)
theorem right_out (l : List (List Int)) (hl : l.length ≤ 20) (hv : ∀ v ∈ l, v.length ≤ 20) : ∀ d i, i + d = l.length → Ev (fun k => chainmanref10_Right.l0 k l (i : Int)) ((l.drop i).all (okV (l.headD []).length) && decide (1 ≤ l.length)) := by
  intro d
  induction d with
  | zero =>
    intro i hi
    rw [List.drop_of_length_le (by omega), List.all_nil, Bool.true_and]
    refine Ev.step (f := fun k => chainmanref10_Right.j1 k l (i : Int) false) (fun k => by rw [chainmanref10_Right.l0, if_neg (by omega)]) (Ev.step (f := fun _ => some _) (fun k => ?_) (Ev.now _))
    rw [chainmanref10_Right.j1, if_neg (by decide)]
    by_cases h1 : 1 ≤ l.length
    · rw [if_pos (by omega), decide_eq_true h1, decide_eq_true (by omega)]
    · rw [if_neg (by omega), decide_eq_false h1]
  | succ d ih =>
    intro i hi
    have hlt : i < l.length := by omega
    have hvl : l[i].length ≤ 20 := hv _ (List.getElem_mem hlt)
    rw [all_drop _ _ i hlt]
    refine Ev.step (f := fun k => chainmanref10_Right.j1 k l (i : Int) true) (fun k => by rw [chainmanref10_Right.l0, if_pos (by omega), decide_eq_true (by omega)]) ?_
    have j2n : ∀ b : Bool, b = true → Ev (fun k => chainmanref10_Right.j2 k l (i : Int) b) false := fun b hb => Ev.step (f := fun _ => some false) (fun k => by rw [chainmanref10_Right.j2, if_pos hb]) (Ev.now _)
    have s1 : ∀ k, chainmanref10_Right.j1 (k + 1) l (i : Int) true = (if ((l[i]).length : Int) < 1 then (chainmanref10_Right.j2 k l (i : Int) true) else (if ((l[i]).length : Int) > 4096 then (chainmanref10_Right.j2 k l (i : Int) true) else (chainmanref10_Right.j2 k l (i : Int) (((l[i]).length : Int) != ((l.headD []).length : Int))))) := fun k => by
      rw [chainmanref10_Right.j1, if_pos rfl, if_pos (by omega), if_pos (by omega), rdL l i hlt, rdL0 l (by omega)]
      rw [if_pos (show 0 < (l.length : Int) by omega)]
    by_cases h1 : 1 ≤ l[i].length
    case neg =>
      rw [show okV (l.headD []).length l[i] = false by unfold okV; rw [decide_eq_false h1]; rfl, Bool.false_and, Bool.false_and]
      exact Ev.step (fun k => by rw [s1, if_pos (by omega)]) (j2n true rfl)
    by_cases h2 : l[i].length = (l.headD []).length
    case neg =>
      rw [show okV (l.headD []).length l[i] = false by unfold okV; rw [decide_eq_false h2]; simp, Bool.false_and, Bool.false_and]
      exact Ev.step (fun k => by rw [s1, if_neg (by omega), if_neg (by omega)]) (j2n _ (by rw [bne_iff_ne]; omega))
    have hb : (((l[i]).length : Int) != ((l.headD []).length : Int)) = false := by rw [h2]; simp
    refine Ev.step (f := fun k => chainmanref10_Right.j2 k l (i : Int) false) (fun k => by rw [s1, if_neg (by omega), if_neg (by omega), hb]) ?_
    refine Ev.step (fun k => by rw [chainmanref10_Right.j2, if_neg (by decide)]) ?_
    have := right_in l i hlt (by omega) _ (ih (i + 1) (by omega)) (by omega) l[i].length 0 (by omega)
    rw [show okV (l.headD []).length l[i] = l[i].all fits by unfold okV; rw [decide_eq_true h1, decide_eq_true h2]; simp, Bool.and_assoc]
    rw [List.drop_zero] at this
    exact this
theorem right_eq (l : List (List Int)) : (l.all (okV (l.headD []).length) && decide (1 ≤ l.length)) = rightB l := by
  cases l with
  | nil => rfl
  | cons v l =>
    unfold rightB
    show ((v :: l).all (okV v.length) && true) = (decide (1 ≤ v.length) && (v :: l).all (vecP v.length))
    rw [Bool.and_true, Bool.eq_iff_iff]
    simp only [List.all_eq_true, Bool.and_eq_true, okV, vecP, decide_eq_true_eq]
    constructor
    · intro h; exact ⟨(h v (by simp)).1, fun x hx => ⟨(h x hx).2.2, (h x hx).2.1⟩⟩
    · rintro ⟨h1, h2⟩ x hx; have := h2 x hx; exact ⟨by omega, this.2, this.1⟩
theorem right_ev (l : List (List Int)) (hl : l.length ≤ 20) (hv : ∀ v ∈ l, v.length ≤ 20) : Ev (fun k => chainmanref10_Right.f k l) (rightB l) := by
  have := right_out l hl hv l.length 0 (by omega)
  rw [List.drop_zero, right_eq] at this
  exact this
theorem flat_drop (l : List (List Int)) (i : Nat) (h : i < l.length) : ((l.drop i).map vecL).flatten = vecL l[i] ++ ((l.drop (i + 1)).map vecL).flatten := by rw [List.drop_eq_getElem_cons h]; rfl
theorem vecL_drop (v : List Int) (j : Nat) (h : j < v.length) : vecL (v.drop j) = (cw v[j]).data.toList ++ vecL (v.drop (j + 1)) := by rw [List.drop_eq_getElem_cons h, vecL_cons]
theorem lay_in (l : List (List Int)) (i : Nat) (hi : i < l.length) (hi' : i < 1000) (hv : l[i].length ≤ 20) (hf : l[i].all fits = true) (R : ByteArray × Bool) (hn : ∀ acc' : ByteArray, acc'.size ≤ 100 + 80 * (i + 1) → (∀ M, acc'.data.toList = M → Ev (fun k => chainmanref10_Lay.l0 k l acc' ((i + 1 : Nat) : Int)) (⟨(M ++ ((l.drop (i + 1)).map vecL).flatten).toArray⟩, true))) :
    ∀ d j (acc : ByteArray), j + d = l[i].length → acc.size ≤ 100 + 80 * i + 4 * j → Ev (fun k => chainmanref10_Lay.l1 k l acc (i : Int) (j : Int)) (⟨(acc.data.toList ++ (vecL (l[i].drop j) ++ ((l.drop (i + 1)).map vecL).flatten)).toArray⟩, true) := by
  intro d
  induction d with
  | zero =>
    intro j acc hj ha
    rw [List.drop_of_length_le (by omega), show vecL [] = [] from rfl, List.nil_append]
    refine Ev.step (fun k => ?_) (hn acc (by omega) _ rfl)
    rw [chainmanref10_Lay.l1, if_pos (by omega), if_pos (by omega), rdL l i hi, if_neg (by omega), wsucc i (by omega)]
  | succ d ih =>
    intro j acc hj ha
    have hlt : j < l[i].length := by omega
    have hfj : fits l[i][j] = true := List.all_eq_true.mp hf _ (List.getElem_mem hlt)
    have hz : (acc ++ cw l[i][j]).size = acc.size + 4 := by rw [ByteArray.size_append, cw_size]
    have := ih (j + 1) (acc ++ cw l[i][j]) (by omega) (by omega)
    rw [vecL_drop _ j hlt, List.append_assoc]
    rw [Cr.ba_append, List.append_assoc] at this
    refine Ev.step (fun k => ?_) (Ev.bind (g := fun k => chainmanref02_PutCoord.f k l[i][j]) (refputc l[i][j]) (f := fun k bt => if acc.size + bt.1.size ≤ 9223372036854775807 then chainmanref10_Lay.l1 k l (acc ++ bt.1) (i : Int) (wrap64 ((j : Int) + 1)) else none) ?_)
    · rw [chainmanref10_Lay.l1, if_pos (by omega), if_pos (by omega), rdL l i hi, if_pos (by omega), if_pos (by omega), rdI _ j hlt]
    · rw [cwF_fits _ hfj]
      refine Ev.congr (fun k => ?_) this
      rw [if_pos (by show acc.size + (cw l[i][j]).size ≤ _; rw [cw_size]; omega), wsucc j (by omega)]
theorem lay_out (l : List (List Int)) (hl : l.length ≤ 20) (hv : ∀ v ∈ l, v.length ≤ 20) (hf : ∀ v ∈ l, v.all fits = true) : ∀ d i (acc : ByteArray), i + d = l.length → acc.size ≤ 100 + 80 * i → Ev (fun k => chainmanref10_Lay.l0 k l acc (i : Int)) (⟨(acc.data.toList ++ ((l.drop i).map vecL).flatten).toArray⟩, true) := by
  intro d
  induction d with
  | zero =>
    intro i acc hi ha
    rw [List.drop_of_length_le (by omega), List.map_nil, List.flatten_nil, List.append_nil]
    refine Ev.step (f := fun _ => some (acc, true)) (fun k => ?_) (Ev.now _)
    rw [chainmanref10_Lay.l0, if_neg (by omega)]
  | succ d ih =>
    intro i acc hi ha
    have hlt : i < l.length := by omega
    rw [flat_drop l i hlt]
    refine Ev.step (fun k => by rw [chainmanref10_Lay.l0, if_pos (by omega)]) ?_
    have := lay_in l i hlt (by omega) (hv _ (List.getElem_mem hlt)) (hf _ (List.getElem_mem hlt)) (⟨#[]⟩, true) (fun acc' ha' M hM => by rw [← hM]; exact ih (i + 1) acc' (by omega) ha') l[i].length 0 acc (by omega) (by omega)
    rw [List.drop_zero] at this
    exact this
theorem must_ev (x k' : Nat) (a1 : 1 ≤ k') (a2 : k' ≤ 8) (a3 : x < 256 ^ k') (a4 : x < 9223372036854775808) : Ev (fun k => chainmanref02_Must.f k (x : Int) (k' : Int)) (strOfNums (Oc.beN x k')) := ⟨20, fun k hk => by
  show chainmanref02_Must.f k (x : Int) (k' : Int) = _
  unfold chainmanref02_Must.f
  rw [Oc.refput_bv _ _ k hk (by omega), Option.bind_some, putB_ok x k' a1 a2 a3]⟩
theorem reflay_ev (l : List (List Int)) (hl : l.length ≤ 20) (hv : ∀ v ∈ l, v.length ≤ 20) : Ev (fun k => chainmanref10_Lay.f k l) (layF l) := by
  unfold layF
  refine Ev.bind (right_ev l hl hv) ?_
  cases hr : rightB l with
  | false => exact Ev.congr (f := fun _ => some _) (fun k => if_neg (by decide)) (Ev.now _)
  | true =>
    have hr' := hr
    unfold rightB at hr'
    rw [Bool.and_eq_true, decide_eq_true_eq] at hr'
    obtain ⟨h1, h2⟩ := hr'
    have hpos : 0 < l.length := by
      cases l with
      | nil => simp at h1
      | cons v l => simp
    have hh : (l.headD []).length ≤ 20 := by
      cases l with
      | nil => simp
      | cons v l => exact hv v (by simp)
    refine Ev.congr (fun k => if_pos rfl) ?_
    have hs4 := be_size l.length 4
    have hs2 := be_size (l.headD []).length 2
    refine Ev.bind (must_ev l.length 4 (by decide) (by decide) (by omega) (by omega)) ?_
    refine Ev.congr (fun k => by rw [if_pos (by omega), if_pos (by omega), rdL0 l hpos]) ?_
    refine Ev.bind (must_ev (l.headD []).length 2 (by decide) (by decide) (by omega) (by omega)) ?_
    have hz : ((⟨#[86, 69, 67, 49]⟩ : ByteArray) ++ strOfNums (Oc.beN l.length 4)).size = 8 := by rw [ByteArray.size_append, hs4]; rfl
    have hz2 : (((⟨#[86, 69, 67, 49]⟩ : ByteArray) ++ strOfNums (Oc.beN l.length 4)) ++ strOfNums (Oc.beN (l.headD []).length 2)).size = 10 := by rw [ByteArray.size_append, hz, hs2]
    refine Ev.congr (fun k => if_pos (by omega)) ?_
    have := lay_out l hl hv (fun v hv' => by have := List.all_eq_true.mp h2 v hv'; unfold vecP at this; rw [Bool.and_eq_true] at this; exact this.1) l.length 0 (((⟨#[86, 69, 67, 49]⟩ : ByteArray) ++ strOfNums (Oc.beN l.length 4)) ++ strOfNums (Oc.beN (l.headD []).length 2)) (by omega) (by omega)
    rw [List.drop_zero, Cr.ba_append, Cr.ba_append, beU_data, beU_data] at this
    exact this

/-! ### a head's numbers -/
def shapeF (h : ByteArray) (size : Int) : Int × Int × Int :=
  if h.size = 10 ∧ h.data.toList.take 4 = [86, 69, 67, 49] ∧ (1 ≤ Oc.numN ((h.data.toList.drop 4).take 4) ∧ Oc.numN ((h.data.toList.drop 4).take 4) ≤ 1048576) ∧ (1 ≤ Oc.numN ((h.data.toList.drop 8).take 2) ∧ Oc.numN ((h.data.toList.drop 8).take 2) ≤ 4096) ∧ size = ((10 + 4 * Oc.numN ((h.data.toList.drop 4).take 4) * Oc.numN ((h.data.toList.drop 8).take 2) : Nat) : Int)
  then ((Oc.numN ((h.data.toList.drop 4).take 4) : Int), (Oc.numN ((h.data.toList.drop 8).take 2) : Int), 0) else (0, 0, 7)
theorem prod_le (n d : Nat) (hn : n ≤ 1048576) (hd : d ≤ 4096) : n * d ≤ 4294967296 := Nat.le_trans (Nat.mul_le_mul hn hd) (by decide)
theorem wrap_p1 (n d : Nat) (hn : n ≤ 1048576) (hd : d ≤ 4096) : wrap64 (10 + (wrap64 ((wrap64 ((n : Int) * (d : Int))) * 4))) = ((10 + 4 * n * d : Nat) : Int) := by
  have hp := prod_le n d hn hd
  rw [← Int.natCast_mul, show 4 * n * d = 4 * (n * d) from Nat.mul_assoc _ _ _]
  generalize n * d = p at hp
  have e : wrap64 (p : Int) = (p : Int) := by unfold wrap64; omega
  rw [e]; clear e
  have e : wrap64 ((p : Int) * 4) = (p : Int) * 4 := by unfold wrap64; omega
  rw [e]; clear e
  have e : wrap64 (10 + (p : Int) * 4) = 10 + (p : Int) * 4 := by unfold wrap64; omega
  rw [e]; clear e
  omega
theorem wrap_p2 (n d : Nat) (hn : n ≤ 1048576) (hd : d ≤ 4096) : wrap64 (10 + (wrap64 ((wrap64 (4 * (n : Int))) * (d : Int)))) = ((10 + 4 * n * d : Nat) : Int) := by
  have hp := prod_le n d hn hd
  have e : wrap64 (4 * (n : Int)) = ((4 * n : Nat) : Int) := by unfold wrap64; omega
  rw [e, ← Int.natCast_mul]; clear e
  have hq : 4 * n * d = 4 * (n * d) := Nat.mul_assoc _ _ _
  generalize n * d = p at hp hq
  generalize 4 * n * d = q at hq
  have e : wrap64 (q : Int) = (q : Int) := by unfold wrap64; omega
  rw [e]; clear e
  have e : wrap64 (10 + (q : Int)) = 10 + (q : Int) := by unfold wrap64; omega
  rw [e]; clear e
  omega
theorem getB_in (s : ByteArray) (p k : Nat) (hk : 1 ≤ k) (hk8 : k ≤ 7) (h : p + k ≤ s.size) : Oc.getB s (p : Int) (k : Int) = ((Oc.numN ((s.data.toList.drop p).take k) : Int), true) := by
  unfold Oc.getB
  have hb : Oc.numN ((s.data.toList.drop p).take k) < 256 ^ 7 := num4 _ 7 (by rw [List.length_take]; omega)
  rw [if_neg (by omega), Int.toNat_natCast, Int.toNat_natCast, if_pos (by omega)]
theorem prefix_b (h : ByteArray) (hs : h.size = 10) : strings_HasPrefix.f h (⟨#[86, 69, 67, 49]⟩ : ByteArray) = some (decide (h.data.toList.take 4 = [86, 69, 67, 49])) := by
  unfold strings_HasPrefix.f stringslite_HasPrefix.f
  have hm : (⟨#[86, 69, 67, 49]⟩ : ByteArray).size = 4 := rfl
  rw [hm, if_pos (by omega), if_pos (by decide), if_pos (by omega), Option.bind_some]
  refine congrArg some ?_
  rw [Bool.eq_iff_iff, beq_iff_eq, decide_eq_true_eq, ByteArray.toList_eq, ByteArray.toList_eq]
  show (h.extract 0 4).data.toList = [86, 69, 67, 49] ↔ _
  rw [Oc.ex_data, List.drop_zero]
theorem shape_ev (h : ByteArray) (size : Int) : Ev (fun k => dataset_Shape.f k h size) (shapeF h size) := by
  have no : ∀ b : Bool, b = true → Ev (fun k => dataset_Shape.j0 k h size b) ((0 : Int), (0 : Int), (7 : Int)) := fun b hb => Ev.step (f := fun _ => some (0, 0, 7)) (fun k => by rw [dataset_Shape.j0, if_pos hb]) (Ev.now _)
  unfold shapeF
  by_cases h1 : (h.size : Int) = 10
  case neg =>
    rw [if_neg (by rintro ⟨h', _⟩; omega)]
    exact Ev.congr (fun k => by unfold dataset_Shape.f; rw [if_neg h1]) (no true rfl)
  have h10 : h.size = 10 := by omega
  refine Ev.congr (fun k => by unfold dataset_Shape.f; rw [if_pos h1, prefix_b h h10, Option.bind_some]) ?_
  by_cases h2 : h.data.toList.take 4 = [86, 69, 67, 49]
  case neg =>
    rw [if_neg (by rintro ⟨_, h', _⟩; exact h2 h')]
    exact no _ (by rw [decide_eq_false h2]; rfl)
  rw [decide_eq_true h2]
  refine Ev.step (f := fun _ => some _) (fun k => ?_) (Ev.now _)
  have g1 := Oc.get_bv h 4 4 (by omega) (by decide)
  have g2 := Oc.get_bv h 8 2 (by omega) (by decide)
  rw [show Oc.getB h 4 4 = _ from getB_in h 4 4 (by decide) (by decide) (by omega)] at g1
  rw [show Oc.getB h 8 2 = _ from getB_in h 8 2 (by decide) (by decide) (by omega)] at g2
  rw [dataset_Shape.j0, if_neg (by decide), g1, g2, Option.bind_some, Option.bind_some]
  generalize Oc.numN ((h.data.toList.drop 4).take 4) = n
  generalize Oc.numN ((h.data.toList.drop 8).take 2) = d
  have hsh : dataset_shaped.f (n : Int) (d : Int) = some (decide ((1 ≤ n ∧ n ≤ 1048576) ∧ (1 ≤ d ∧ d ≤ 4096))) := by
    unfold dataset_shaped.f
    by_cases q1 : 1 ≤ n
    · rw [if_pos (by omega)]
      by_cases q2 : n ≤ 1048576
      · rw [if_pos (by omega)]
        by_cases q3 : 1 ≤ d
        · rw [if_pos (by omega)]; exact congrArg some (decide_eq_decide.mpr (by omega))
        · rw [if_neg (by omega)]; exact congrArg some (Eq.symm (decide_eq_false (by omega)))
      · rw [if_neg (by omega)]; exact congrArg some (Eq.symm (decide_eq_false (by omega)))
    · rw [if_neg (by omega)]; exact congrArg some (Eq.symm (decide_eq_false (by omega)))
  show (dataset_shaped.f (n : Int) (d : Int)).bind _ = _
  rw [hsh, Option.bind_some]
  by_cases h3 : (1 ≤ n ∧ n ≤ 1048576) ∧ (1 ≤ d ∧ d ≤ 4096)
  case neg => rw [if_neg (by simpa using h3), if_neg (by rintro ⟨_, _, h4, h5, _⟩; exact h3 ⟨h4, h5⟩)]
  rw [decide_eq_true h3, if_pos rfl, wrap_p1 n d h3.1.2 h3.2.2]
  by_cases h4 : size = ((10 + 4 * n * d : Nat) : Int)
  · rw [if_pos h4.symm, if_pos ⟨h10, h2, h3.1, h3.2, h4⟩]
  · rw [if_neg (fun e => h4 e.symm), if_neg (by rintro ⟨_, _, _, _, h5⟩; exact h4 h5)]
theorem refshape_ev (h : ByteArray) (size : Int) : Ev (fun k => chainmanref10_Shape.f k h size) (shapeF h size) := by
  have no : ∀ b : Bool, b = true → Ev (fun k => chainmanref10_Shape.j0 k h size b) ((0 : Int), (0 : Int), (7 : Int)) := fun b hb => Ev.step (f := fun _ => some (0, 0, 7)) (fun k => by rw [chainmanref10_Shape.j0, if_pos hb]) (Ev.now _)
  unfold shapeF
  by_cases h1 : (h.size : Int) = 10
  case neg =>
    rw [if_neg (by rintro ⟨h', _⟩; omega)]
    exact Ev.congr (fun k => by unfold chainmanref10_Shape.f; rw [if_neg h1]) (no true rfl)
  have h10 : h.size = 10 := by omega
  have hx : (h.extract 0 4).toList = h.data.toList.take 4 := by rw [ByteArray.toList_eq, Oc.ex_data, List.drop_zero]
  refine Ev.congr (fun k => by unfold chainmanref10_Shape.f; rw [if_pos h1, if_pos (by decide), if_pos (by omega), hx]) ?_
  by_cases h2 : h.data.toList.take 4 = [86, 69, 67, 49]
  case neg =>
    rw [if_neg (by rintro ⟨_, h', _⟩; exact h2 h')]
    exact no _ (by rw [bne_iff_ne]; exact h2)
  refine Ev.step (f := fun k => (chainmanref02_Get.f k h 4 4).bind fun bt177 => ((chainmanref02_Get.f k h 8 2).bind fun bt179 => (if bt177.1 < 1 then (some ((0 : Int), (0 : Int), (7 : Int))) else (if bt177.1 > 1048576 then (some (0, 0, 7)) else (if bt179.1 < 1 then (some (0, 0, 7)) else (if bt179.1 > 4096 then (some (0, 0, 7)) else (if size = (wrap64 (10 + (wrap64 ((wrap64 (4 * bt177.1)) * bt179.1)))) then (some (bt177.1, bt179.1, 0)) else (some (0, 0, 7))))))))) (fun k => by rw [chainmanref10_Shape.j0, h2, if_neg (by decide)]) ?_
  have g1 : Ev (fun k => chainmanref02_Get.f k h 4 4) _ := ⟨20, fun k hk => Oc.refget_bv h 4 4 (by omega) (by decide) k hk⟩
  have g2 : Ev (fun k => chainmanref02_Get.f k h 8 2) _ := ⟨20, fun k hk => Oc.refget_bv h 8 2 (by omega) (by decide) k hk⟩
  rw [show Oc.getB h 4 4 = _ from getB_in h 4 4 (by decide) (by decide) (by omega)] at g1
  rw [show Oc.getB h 8 2 = _ from getB_in h 8 2 (by decide) (by decide) (by omega)] at g2
  refine Ev.bind g1 (Ev.bind g2 ?_)
  generalize Oc.numN ((h.data.toList.drop 4).take 4) = n
  generalize Oc.numN ((h.data.toList.drop 8).take 2) = d
  refine Ev.congr (f := fun _ => some _) (fun k => ?_) (Ev.now _)
  show (if (n : Int) < 1 then _ else _) = _
  by_cases q1 : (n : Int) < 1
  · rw [if_pos q1, if_neg (by rintro ⟨_, _, h4, _, _⟩; omega)]
  rw [if_neg q1]
  by_cases q2 : (n : Int) > 1048576
  · rw [if_pos q2, if_neg (by rintro ⟨_, _, h4, _, _⟩; omega)]
  rw [if_neg q2]
  show (if (d : Int) < 1 then _ else _) = _
  by_cases q3 : (d : Int) < 1
  · rw [if_pos q3, if_neg (by rintro ⟨_, _, _, h4, _⟩; omega)]
  rw [if_neg q3]
  by_cases q4 : (d : Int) > 4096
  · rw [if_pos q4, if_neg (by rintro ⟨_, _, _, h4, _⟩; omega)]
  rw [if_neg q4]
  rw [show wrap64 (10 + (wrap64 ((wrap64 (4 * (n : Int))) * (d : Int)))) = ((10 + 4 * n * d : Nat) : Int) from wrap_p2 n d (by omega) (by omega)]
  by_cases h4 : size = ((10 + 4 * n * d : Nat) : Int)
  · rw [if_pos h4, if_pos ⟨h10, h2, ⟨by omega, by omega⟩, ⟨by omega, by omega⟩, h4⟩]
  · rw [if_neg h4, if_neg (by rintro ⟨_, _, _, _, h5⟩; exact h4 h5)]
/-! ### bytes in pieces -/
def piecesF (s : ByteArray) (k : Nat) : Nat → Nat → List ByteArray
  | _, 0 => []
  | at_, d + 1 => s.extract at_ (at_ + k) :: piecesF s k (at_ + k) d
theorem pieces_len (s : ByteArray) (k : Nat) : ∀ d at_, (piecesF s k at_ d).length = d := by
  intro d; induction d with
  | zero => intro a; rfl
  | succ d ih => intro a; rw [piecesF, List.length_cons, ih]
theorem split_loop (s : ByteArray) (k : Nat) (hk : 1 ≤ k) : ∀ (d at_ : Nat) (acc : List ByteArray), at_ + d * k = s.size → acc.length + d ≤ 2000 →
    Ev (fun q => octet_Split.l0 q (s.extract at_ s.size) (k : Int) acc) (acc ++ piecesF s k at_ d, true) := by
  intro d
  induction d with
  | zero =>
    intro at_ acc h ha
    rw [piecesF, List.append_nil]
    refine Ev.step (f := fun _ => some (acc, true)) (fun q => ?_) (Ev.now _)
    have : (s.extract at_ s.size).toList = [] := by
      rw [← List.length_eq_zero_iff, ByteArray.toList_eq, ← Cr.ba_size]
      rw [Oc.ex_size _ _ _ (Nat.le_refl _)]; omega
    rw [octet_Split.l0, if_pos this]
  | succ d ih =>
    intro at_ acc h ha
    rw [Nat.add_mul, Nat.one_mul] at h
    have hd : 0 ≤ d * k := Nat.zero_le _
    have := ih (at_ + k) (acc ++ [s.extract at_ (at_ + k)]) (by omega) (by rw [List.length_append]; simp; omega)
    rw [List.append_assoc] at this
    rw [piecesF]
    refine Ev.step (fun q => ?_) this
    have hne : ¬ (s.extract at_ s.size).toList = [] := by
      rw [← List.length_eq_zero_iff, ByteArray.toList_eq, ← Cr.ba_size]
      rw [Oc.ex_size _ _ _ (Nat.le_refl _)]; omega
    have es := Oc.ex_size s at_ s.size (Nat.le_refl _)
    rw [octet_Split.l0, if_neg hne, if_pos (by omega), if_pos (by omega), if_pos (by omega), Int.toNat_natCast, Oc.ex_front s at_ k (by omega), Oc.ex_back]
theorem split_ev (s : ByteArray) (k d : Nat) (hk : 1 ≤ k) (hs : s.size = d * k) (hd : d ≤ 1000) : Ev (fun q => octet_Split.f q s (k : Int)) (piecesF s k 0 d, true) := by
  have h2 := split_loop s k hk d 0 [] (by omega) (by simp; omega)
  have e0 : s.extract 0 s.size = s := Cr.ba_ext (by rw [Oc.ex_data, List.drop_zero, Cr.ba_size, List.take_length])
  rw [e0, List.nil_append] at h2
  have hz' : ((s.size : Int) % (k : Int)) = 0 := by rw [hs, ← Int.natCast_emod, Nat.mul_mod_left]; rfl
  refine Ev.congr (f := fun q => octet_Split.j0 q s (k : Int) false) (fun q => ?_) (Ev.step (fun q => ?_) h2)
  · unfold octet_Split.f; rw [if_neg (by omega), if_neg (by omega), hz', decide_eq_false (by omega)]
  · rw [octet_Split.j0, if_neg (by decide)]
/-! ### the vector of bytes -/
def co (s : ByteArray) (at_ : Nat) : Int := (Oc.numN ((s.data.toList.drop at_).take 4) : Int) - 2147483648
def coords (s : ByteArray) : Nat → Nat → List Int
  | _, 0 => []
  | at_, d + 1 => co s at_ :: coords s (at_ + 4) d
theorem coords_len (s : ByteArray) : ∀ d at_, (coords s at_ d).length = d := by
  intro d; induction d with
  | zero => intro a; rfl
  | succ d ih => intro a; rw [coords, List.length_cons, ih]
def vecR (s : ByteArray) (d : Nat) : List Int × Bool := if (coords s 0 d).all fits = true then (coords s 0 d, true) else ([], false)
theorem co_wrap (s : ByteArray) (p : Nat) : wrap64 ((Oc.numN ((s.data.toList.drop p).take 4) : Int) - 2147483648) = co s p := by
  have hb : Oc.numN ((s.data.toList.drop p).take 4) < 256 ^ 4 := num4 _ 4 (by rw [List.length_take]; omega)
  unfold co wrap64; omega
theorem getc (s : ByteArray) (p : Nat) (hs : s.size ≤ 100000) (h : p + 4 ≤ s.size) : octet_GetCoord.f s (p : Int) = some (co s p, true) := by
  unfold octet_GetCoord.f
  rw [Oc.get_bv s (p : Int) 4 (by omega) (by simp [Lit.wf, IntKind.min, IntKind.max, IntKind.signed, IntKind.bits]; omega), show Oc.getB s (p : Int) 4 = _ from getB_in s p 4 (by decide) (by decide) h, Option.bind_some, if_pos rfl, co_wrap]
theorem refgetc (s : ByteArray) (p : Nat) (hs : s.size ≤ 100000) (h : p + 4 ≤ s.size) : Ev (fun k => chainmanref02_GetCoord.f k s (p : Int)) (co s p, true) := by
  refine ⟨20, fun k hk => ?_⟩
  show chainmanref02_GetCoord.f k s (p : Int) = _
  unfold chainmanref02_GetCoord.f
  rw [Oc.refget_bv s (p : Int) 4 (by omega) (by simp [Lit.wf, IntKind.min, IntKind.max, IntKind.signed, IntKind.bits]; omega) k hk, show Oc.getB s (p : Int) 4 = _ from getB_in s p 4 (by decide) (by decide) h, Option.bind_some, if_pos rfl, co_wrap]
theorem co_ex (s : ByteArray) (a b p : Nat) (h : a + p + 4 ≤ b) : co (s.extract a b) p = co s (a + p) := by
  unfold co
  rw [Oc.ex_data, List.drop_drop, List.drop_take, List.take_take, show min 4 (b - (a + p)) = 4 by omega]
theorem map_co (s : ByteArray) : ∀ d at_, (piecesF s 4 at_ d).map (fun b => co b 0) = coords s at_ d := by
  intro d; induction d with
  | zero => intro a; rfl
  | succ d ih =>
    intro a
    rw [piecesF, List.map_cons, ih, coords, co_ex s a (a + 4) 0 (by omega)]; rfl
theorem pieces_sz (s : ByteArray) (k : Nat) : ∀ d at_, at_ + d * k ≤ s.size → ∀ b ∈ piecesF s k at_ d, b.size = k := by
  intro d; induction d with
  | zero => intro a _ b hb; simp [piecesF] at hb
  | succ d ih =>
    intro a h b hb
    rw [Nat.add_mul, Nat.one_mul] at h
    have h0 : 0 ≤ d * k := Nat.zero_le _
    rw [piecesF, List.mem_cons] at hb
    rcases hb with rfl | hb
    · rw [Oc.ex_size _ _ _ (by omega)]; omega
    · exact ih (a + k) (by omega) b hb
theorem onev (b : ByteArray) (hb : b.size = 4) : dataset_each_vec.one b = some (co b 0, fits (co b 0)) := by
  unfold dataset_each_vec.one
  rw [show octet_GetCoord.f b 0 = some (co b 0, true) from getc b 0 (by omega) (by omega), Option.bind_some, if_pos rfl, may_b, Option.bind_some]
theorem vector_ev (s : ByteArray) (d : Nat) (h1 : 1 ≤ d) (h2 : d ≤ 1000) (hs : s.size = d * 4) : Ev (fun k => dataset_Vector.f k s (d : Int)) (vecR s d) := by
  have hw : wrap64 ((d : Int) * 4) = ((d * 4 : Nat) : Int) := by unfold wrap64; omega
  refine Ev.congr (f := fun k => dataset_Vector.j0 k s false) (fun k => ?_) ?_
  · unfold dataset_Vector.f
    rw [if_neg (by omega), if_neg (by omega), hw, hs]
    congr 1
    simp
  refine Ev.step (fun k => by rw [dataset_Vector.j0, if_neg (by decide)]) ?_
  refine Ev.bind (split_ev s 4 d (by decide) hs h2) ?_
  refine Ev.congr (f := fun _ => some (vecR s d)) (fun k => ?_) (Ev.now _)
  rw [if_pos rfl]
  unfold dataset_each_vec.f
  rw [if_pos (by rw [pieces_len]; omega), go3, goG_all dataset_each_vec.one (fun b => co b 0) (fun b => fits (co b 0)) _ [] (fun b hb => onev b (pieces_sz s 4 d 0 (by omega) b hb)), Option.bind_some, List.nil_append, map_co]
  have ha : (piecesF s 4 0 d).all (fun b => fits (co b 0)) = (coords s 0 d).all fits := by rw [← map_co s d 0, List.all_map]; rfl
  rw [ha]
  unfold vecR
  split <;> rfl
theorem vector_no (s : ByteArray) (d : Int) (h : ¬ (1 ≤ d ∧ d ≤ 4096 ∧ (s.size : Int) = 4 * d)) (hs : s.size ≤ 100000) (hd : -9223372036854775808 ≤ d ∧ d ≤ 9223372036854775807) : Ev (fun k => dataset_Vector.f k s d) ([], false) ∧ Ev (fun k => chainmanref10_Vector.f k s d) ([], false) := by
  have no : ∀ b : Bool, b = true → Ev (fun k => dataset_Vector.j0 k s b) (([] : List Int), false) := fun b hb => Ev.step (f := fun _ => some ([], false)) (fun k => by rw [dataset_Vector.j0, if_pos hb]) (Ev.now _)
  have no' : ∀ b : Bool, b = true → Ev (fun k => chainmanref10_Vector.j0 k s d b) (([] : List Int), false) := fun b hb => Ev.step (f := fun _ => some ([], false)) (fun k => by rw [chainmanref10_Vector.j0, if_pos hb]) (Ev.now _)
  by_cases h1 : d < 1
  · exact ⟨Ev.congr (fun k => by unfold dataset_Vector.f; rw [if_pos h1]) (no true rfl), Ev.congr (fun k => by unfold chainmanref10_Vector.f; rw [if_pos h1]) (no' true rfl)⟩
  by_cases h2 : d > 4096
  · exact ⟨Ev.congr (fun k => by unfold dataset_Vector.f; rw [if_neg h1, if_pos h2]) (no true rfl), Ev.congr (fun k => by unfold chainmanref10_Vector.f; rw [if_neg h1, if_pos h2]) (no' true rfl)⟩
  have w1 : wrap64 (d * 4) = d * 4 := by unfold wrap64; omega
  have w2 : wrap64 (4 * d) = 4 * d := by unfold wrap64; omega
  have hne : ¬ (s.size : Int) = 4 * d := fun e => h ⟨by omega, by omega, e⟩
  refine ⟨Ev.congr (fun k => by unfold dataset_Vector.f; rw [if_neg h1, if_neg h2, w1]) (no _ (by rw [bne_iff_ne]; omega)), Ev.congr (fun k => by unfold chainmanref10_Vector.f; rw [if_neg h1, if_neg h2, w2]) (no' _ (by rw [bne_iff_ne]; exact hne))⟩
theorem refvec_loop (s : ByteArray) (n : Nat) (hn : n ≤ 1000) (hs : s.size = 4 * n) : ∀ d i (acc : List Int), i + d = n → acc.length ≤ 1000 + i → Ev (fun k => chainmanref10_Vector.l0 k s (n : Int) acc (i : Int)) (if (coords s (4 * i) d).all fits = true then (acc ++ coords s (4 * i) d, true) else ([], false)) := by
  intro d
  induction d with
  | zero =>
    intro i acc hi ha
    rw [coords, List.all_nil, if_pos rfl, List.append_nil]
    refine Ev.step (f := fun _ => some (acc, true)) (fun k => ?_) (Ev.now _)
    rw [chainmanref10_Vector.l0, if_neg (by omega)]
  | succ d ih =>
    intro i acc hi ha
    have hw : wrap64 (4 * (i : Int)) = ((4 * i : Nat) : Int) := by unfold wrap64; omega
    refine Ev.step (fun k => by rw [chainmanref10_Vector.l0, if_pos (by omega), hw]) ?_
    refine Ev.bind (refgetc s (4 * i) (by omega) (by omega)) ?_
    have hco : coords s (4 * i) (d + 1) = co s (4 * i) :: coords s (4 * (i + 1)) d := by rw [coords]; rfl
    rw [hco, List.all_cons]
    by_cases hf : fits (co s (4 * i)) = true
    · have hf' := hf
      rw [fits_iff] at hf'
      have := ih (i + 1) (acc ++ [co s (4 * i)]) (by omega) (by rw [List.length_append]; simp; omega)
      rw [hf, Bool.true_and]
      rw [List.append_assoc] at this
      refine Ev.congr (fun k => ?_) this
      rw [if_neg (by show ¬ co s (4 * i) ≤ _; omega), if_neg (by show ¬ co s (4 * i) ≥ _; omega), if_pos (by omega), wsucc i (by omega)]
    · have hf' := hf
      rw [fits_iff] at hf'
      rw [show fits (co s (4 * i)) = false by rw [Bool.eq_false_iff]; exact hf, Bool.false_and, if_neg (by decide)]
      refine Ev.congr (f := fun _ => some ([], false)) (fun k => ?_) (Ev.now _)
      show (if co s (4 * i) ≤ -16777216 then _ else _) = _
      by_cases q : co s (4 * i) ≤ -16777216
      · rw [if_pos q]
      · rw [if_neg q, if_pos (by show co s (4 * i) ≥ _; omega)]
theorem refvector_ev (s : ByteArray) (d : Nat) (h1 : 1 ≤ d) (h2 : d ≤ 1000) (hs : s.size = d * 4) : Ev (fun k => chainmanref10_Vector.f k s (d : Int)) (vecR s d) := by
  have hw : wrap64 (4 * (d : Int)) = ((4 * d : Nat) : Int) := by unfold wrap64; omega
  refine Ev.congr (f := fun k => chainmanref10_Vector.j0 k s (d : Int) false) (fun k => ?_) ?_
  · unfold chainmanref10_Vector.f
    rw [if_neg (by omega), if_neg (by omega), hw, hs, Nat.mul_comm]
    congr 1
    simp
  refine Ev.step (fun k => by rw [chainmanref10_Vector.j0, if_neg (by decide)]) ?_
  exact refvec_loop s d h2 (by omega) d 0 [] (by omega) (by simp)

/-! ### places -/
theorem wrap_p3 (n d : Nat) (hn : n ≤ 4096) (hd : d ≤ 1048576) : wrap64 (10 + (wrap64 ((wrap64 (4 * (n : Int))) * (d : Int)))) = ((10 + 4 * n * d : Nat) : Int) := by
  have hp : n * d ≤ 4294967296 := Nat.le_trans (Nat.mul_le_mul hn hd) (by decide)
  have e : wrap64 (4 * (n : Int)) = ((4 * n : Nat) : Int) := by unfold wrap64; omega
  rw [e, ← Int.natCast_mul]; clear e
  have hq : 4 * n * d = 4 * (n * d) := Nat.mul_assoc _ _ _
  generalize n * d = p at hp hq
  generalize 4 * n * d = q at hq
  have e : wrap64 (q : Int) = (q : Int) := by unfold wrap64; omega
  rw [e]; clear e
  have e : wrap64 (10 + (q : Int)) = 10 + (q : Int) := by unfold wrap64; omega
  rw [e]; clear e
  omega
theorem place_in (d i : Nat) (h1 : 1 ≤ d) (h2 : d ≤ 4096) (hi : i ≤ 1048576) : dataset_Place.f (d : Int) (i : Int) = some ((10 + 4 * d * i : Nat) : Int) ∧ chainmanref10_Place.f (d : Int) (i : Int) = some ((10 + 4 * d * i : Nat) : Int) := by
  constructor
  · unfold dataset_Place.f
    rw [if_neg (by omega), if_neg (by omega), if_neg (by omega), if_neg (by omega), wrap_p1 i d hi h2, Nat.mul_assoc 4 i d, Nat.mul_comm i d, ← Nat.mul_assoc]
  · unfold chainmanref10_Place.f
    rw [if_neg (by omega), if_neg (by omega), if_neg (by omega), if_neg (by omega), wrap_p3 d i h2 hi]
theorem place_both (d i : Int) : ∃ r, dataset_Place.f d i = some r ∧ chainmanref10_Place.f d i = some r := by
  by_cases h1 : d < 1
  · exact ⟨0, by unfold dataset_Place.f; rw [if_pos h1], by unfold chainmanref10_Place.f; rw [if_pos h1]⟩
  by_cases h2 : d > 4096
  · exact ⟨0, by unfold dataset_Place.f; rw [if_neg h1, if_pos h2], by unfold chainmanref10_Place.f; rw [if_neg h1, if_pos h2]⟩
  by_cases h3 : i < 0
  · exact ⟨0, by unfold dataset_Place.f; rw [if_neg h1, if_neg h2, if_pos h3], by unfold chainmanref10_Place.f; rw [if_neg h1, if_neg h2, if_pos h3]⟩
  by_cases h4 : i > 1048576
  · exact ⟨0, by unfold dataset_Place.f; rw [if_neg h1, if_neg h2, if_neg h3, if_pos h4], by unfold chainmanref10_Place.f; rw [if_neg h1, if_neg h2, if_neg h3, if_pos h4]⟩
  obtain ⟨a, rfl⟩ := Int.eq_ofNat_of_zero_le (show 0 ≤ d by omega)
  obtain ⟨b, rfl⟩ := Int.eq_ofNat_of_zero_le (show 0 ≤ i by omega)
  exact ⟨_, place_in a b (by omega) (by omega) (by omega)⟩
/-! ### the vectors of a dataset -/
theorem ex_ex (s : ByteArray) (p a k : Nat) (h : p + a + k ≤ s.size) : (s.extract p s.size).extract a (a + k) = s.extract (p + a) (p + a + k) := by
  apply Cr.ba_ext
  rw [Oc.ex_data, Oc.ex_data, Oc.ex_data, Cr.ba_size, List.take_length, List.drop_take, List.drop_take, List.drop_drop]
  congr 1; omega
theorem pieces_ex (s : ByteArray) (p k : Nat) : ∀ d at_, p + at_ + d * k ≤ s.size → piecesF (s.extract p s.size) k at_ d = piecesF s k (p + at_) d := by
  intro d; induction d with
  | zero => intro a _; rfl
  | succ d ih =>
    intro a h
    rw [Nat.add_mul, Nat.one_mul] at h
    have h0 : 0 ≤ d * k := Nat.zero_le _
    rw [piecesF, piecesF, ex_ex s p a k (by omega), ih (a + k) (by omega), Nat.add_assoc p a k]
def rowsV (s : ByteArray) (d at_ n : Nat) : Bool := (piecesF s (d * 4) at_ n).all fun b => (vecR b d).2
def rowsL (s : ByteArray) (d at_ n : Nat) : List (List Int) := (piecesF s (d * 4) at_ n).map fun b => (vecR b d).1
theorem rows_len (s : ByteArray) (d at_ n : Nat) : (rowsL s d at_ n).length = n := by unfold rowsL; rw [List.length_map, pieces_len]
theorem vecR_len (b : ByteArray) (d : Nat) : (vecR b d).1.length ≤ d := by
  unfold vecR; split
  · exact Nat.le_of_eq (coords_len _ _ _)
  · simp
theorem rows_each (s : ByteArray) (d at_ n : Nat) : ∀ v ∈ rowsL s d at_ n, v.length ≤ d := by
  intro v hv
  obtain ⟨b, _, rfl⟩ := List.mem_map.mp hv
  exact vecR_len b d
/-- What is parsed. -/
def parseF (s : ByteArray) : List (List Int) × Int :=
  if (shapeF (s.extract 0 (min s.size 10)) (s.size : Int)).2.2 = 0 ∧ rowsV s (shapeF (s.extract 0 (min s.size 10)) (s.size : Int)).2.1.toNat 10 (shapeF (s.extract 0 (min s.size 10)) (s.size : Int)).1.toNat = true
  then (rowsL s (shapeF (s.extract 0 (min s.size 10)) (s.size : Int)).2.1.toNat 10 (shapeF (s.extract 0 (min s.size 10)) (s.size : Int)).1.toNat, 0) else ([], 7)
/-- A head that says so: the numbers. -/
theorem shape_ok (h : ByteArray) (size : Int) (hz : (shapeF h size).2.2 = 0) : ∃ n d : Nat, shapeF h size = ((n : Int), (d : Int), 0) ∧ h.size = 10 ∧ h.data.toList.take 4 = [86, 69, 67, 49] ∧ (1 ≤ n ∧ n ≤ 1048576) ∧ (1 ≤ d ∧ d ≤ 4096) ∧ size = ((10 + 4 * n * d : Nat) : Int) ∧ n = Oc.numN ((h.data.toList.drop 4).take 4) ∧ d = Oc.numN ((h.data.toList.drop 8).take 2) := by
  unfold shapeF at hz ⊢
  split at hz
  · rename_i c
    exact ⟨_, _, by rw [if_pos c], c.1, c.2.1, c.2.2.1, c.2.2.2.1, c.2.2.2.2, rfl, rfl⟩
  · simp at hz
theorem shape_no (h : ByteArray) (size : Int) (hz : ¬ (shapeF h size).2.2 = 0) : shapeF h size = (0, 0, 7) := by
  unfold shapeF at hz ⊢
  split
  · rename_i c; rw [if_pos c] at hz; simp at hz
  · rfl
theorem small (n d m : Nat) (hn : 1 ≤ n) (hd : 1 ≤ d) (h : 10 + 4 * n * d ≤ m) : n ≤ m ∧ d ≤ m ∧ n * (d * 4) = 4 * n * d := by
  have e : n * (d * 4) = 4 * n * d := by rw [Nat.mul_assoc, Nat.mul_comm 4 (n * d), Nat.mul_assoc]
  have h1 : n ≤ n * d := Nat.le_mul_of_pos_right n hd
  have h2 : d ≤ n * d := Nat.le_mul_of_pos_left d hn
  have e2 : 4 * n * d = 4 * (n * d) := Nat.mul_assoc _ _ _
  omega
theorem parse_ev (s : ByteArray) (hs : s.size ≤ 900) : Ev (fun k => dataset_Parse.f k s) (parseF s) := by
  refine Ev.bind (shape_ev (s.extract 0 (min s.size 10)) (s.size : Int)) ?_
  unfold parseF
  by_cases hz : (shapeF (s.extract 0 (min s.size 10)) (s.size : Int)).2.2 = 0
  case neg =>
    rw [shape_no _ _ hz, if_neg (by simp)]
    exact Ev.congr (f := fun _ => some ([], 7)) (fun k => if_neg (by decide)) (Ev.now _)
  obtain ⟨n, d, e, h10, _, hn, hd, hsz, _, _⟩ := shape_ok _ _ hz
  rw [e]
  have h10' : 10 ≤ s.size := by rw [Oc.ex_size _ _ _ (Nat.min_le_left _ _)] at h10; omega
  obtain ⟨n1, d1, e1⟩ := small n d 900 hn.1 hd.1 (by omega)
  have hex : (s.extract 10 s.size).size = n * (d * 4) := by rw [Oc.ex_size _ _ _ (Nat.le_refl _), e1]; omega
  have hw : wrap64 ((d : Int) * 4) = ((d * 4 : Nat) : Int) := by unfold wrap64; omega
  refine Ev.congr (fun k => (if_pos rfl).trans (if_pos h10')) ?_
  refine Ev.bind (g := fun k => octet_Split.f k (s.extract 10 s.size) (wrap64 ((d : Int) * 4))) (f := fun k l => if l.1.length ≤ 1000000000 then (dataset_each_string_int_113.go (fun b => dataset_Vector.f k b (d : Int)) [] l.1).bind fun q => if q.2 = true then some (q.1, 0) else some ([], 7) else none) (Ev.congr (fun k => by rw [hw]) (split_ev (s.extract 10 s.size) (d * 4) n (by omega) hex (by omega))) ?_
  refine Ev.congr (fun k => by rw [if_pos (by rw [pieces_len]; omega), go4]) ?_
  have hp : piecesF (s.extract 10 s.size) (d * 4) 0 n = piecesF s (d * 4) 10 n := pieces_ex s 10 (d * 4) n 0 (by rw [e1]; omega)
  have hg := goG_ev (fun k b => dataset_Vector.f k b (d : Int)) (fun b => vecR b d) (piecesF s (d * 4) 10 n) [] (fun b hb => vector_ev b d hd.1 (by omega) (pieces_sz s (d * 4) n 10 (by rw [e1]; omega) b hb))
  rw [hp]
  refine Ev.bind hg ?_
  show Ev _ (if 0 = 0 ∧ rowsV s d 10 n = true then (rowsL s d 10 n, 0) else ([], 7))
  by_cases hv : rowsV s d 10 n = true
  · rw [show (if (0 : Int) = 0 ∧ rowsV s d 10 n = true then (rowsL s d 10 n, (0 : Int)) else ([], 7)) = (rowsL s d 10 n, 0) from if_pos ⟨rfl, hv⟩]
    refine Ev.congr (f := fun _ => some _) (fun k => ?_) (Ev.now _)
    rw [show ((piecesF s (d * 4) 10 n).all fun x => (vecR x d).2) = true from hv]
    rfl
  · rw [show (if (0 : Int) = 0 ∧ rowsV s d 10 n = true then (rowsL s d 10 n, (0 : Int)) else ([], 7)) = ([], 7) from if_neg (by rintro ⟨_, h⟩; exact hv h)]
    refine Ev.congr (f := fun _ => some _) (fun k => ?_) (Ev.now _)
    rw [show ((piecesF s (d * 4) 10 n).all fun x => (vecR x d).2) = false by rw [Bool.eq_false_iff]; exact hv]
    rfl
theorem refparse_loop (s : ByteArray) (hs : s.size ≤ 900) (n d : Nat) (hn : n ≤ 900) (hd : 1 ≤ d ∧ d ≤ 900) (hsz : s.size = 10 + n * (d * 4)) : ∀ m i (acc : List (List Int)), i + m = n → acc.length ≤ 1000 + i → Ev (fun k => chainmanref10_Parse.l0 k s (n : Int) (d : Int) acc (i : Int)) (if rowsV s d (10 + 4 * d * i) m = true then (acc ++ rowsL s d (10 + 4 * d * i) m, 0) else ([], 7)) := by
  intro m
  induction m with
  | zero =>
    intro i acc hi ha
    refine Ev.step (f := fun _ => some (acc, 0)) (fun k => ?_) ?_
    · rw [chainmanref10_Parse.l0, if_neg (by omega)]
    · rw [if_pos (show rowsV s d (10 + 4 * d * i) 0 = true from rfl)]; show Ev _ (acc ++ [], 0); rw [List.append_nil]; exact Ev.now _
  | succ m ih =>
    intro i acc hi ha
    have hmul : (i + (m + 1)) * (d * 4) = n * (d * 4) := by rw [hi]
    rw [Nat.add_mul, Nat.add_mul, Nat.one_mul] at hmul
    have hid : i * (d * 4) = 4 * d * i := by rw [Nat.mul_comm i, Nat.mul_comm d 4]
    have hpl := (place_in d i hd.1 (by omega) (by omega)).2
    have h4d : 4 * d = d * 4 := Nat.mul_comm _ _
    generalize hat : 10 + 4 * d * i = at_ at hpl ⊢
    have hnn : 0 ≤ m * (d * 4) := Nat.zero_le _
    have hle : at_ + d * 4 ≤ s.size := by omega
    have hat2 : 10 + 4 * d * (i + 1) = at_ + d * 4 := by rw [Nat.mul_add, Nat.mul_one]; omega
    refine Ev.step (f := fun k => (chainmanref10_Vector.f k (s.extract at_ (at_ + d * 4)) (d : Int)).bind fun bt192 => (if bt192.2 = true then (if acc.length < 5864062014805 then (chainmanref10_Parse.l0 k s (n : Int) (d : Int) (acc ++ [bt192.1]) (wrap64 ((i : Int) + 1))) else (none)) else (some (([] : List (List Int)), 7)))) (fun k => ?_) ?_
    · have c1 : (i : Int) < (n : Int) := by omega
      have c2 : 0 ≤ (at_ : Int) := by omega
      have c3 : (at_ : Int) ≤ ((at_ + d * 4 : Nat) : Int) := by omega
      have c4 : ((at_ + d * 4 : Nat) : Int) ≤ (s.size : Int) := by omega
      have hd2 := hd.2
      have hm2 : at_ + d * 4 ≤ 900 := by omega
      clear ih hmul hid h4d hat2 hle hnn
      have hw5 : wrap64 ((at_ : Int) + (wrap64 (4 * (d : Int)))) = ((at_ + d * 4 : Nat) : Int) := by
        have e : wrap64 (4 * (d : Int)) = 4 * (d : Int) := by unfold wrap64; omega
        rw [e]; clear e
        unfold wrap64; omega
      rw [chainmanref10_Parse.l0, if_pos c1, hpl, Option.bind_some, hw5, if_pos c2, if_pos c3, if_pos c4, Int.toNat_natCast, Int.toNat_natCast]
    have hes : (s.extract at_ (at_ + d * 4)).size = d * 4 := by rw [Oc.ex_size _ _ _ hle]; omega
    refine Ev.bind (refvector_ev (s.extract at_ (at_ + d * 4)) d hd.1 (by omega) hes) ?_
    have hrv : rowsV s d at_ (m + 1) = ((vecR (s.extract at_ (at_ + d * 4)) d).2 && rowsV s d (at_ + d * 4) m) := rfl
    have hrl : rowsL s d at_ (m + 1) = (vecR (s.extract at_ (at_ + d * 4)) d).1 :: rowsL s d (at_ + d * 4) m := rfl
    rw [hrv, hrl]
    cases hv : (vecR (s.extract at_ (at_ + d * 4)) d).2 with
    | false => exact Ev.congr (f := fun _ => some ([], 7)) (fun k => if_neg (by simp)) (Ev.now _)
    | true =>
      have := ih (i + 1) (acc ++ [(vecR (s.extract at_ (at_ + d * 4)) d).1]) (by omega) (by rw [List.length_append]; simp; omega)
      rw [hat2, List.append_assoc] at this
      rw [Bool.true_and]
      refine Ev.congr (fun k => ?_) this
      rw [if_pos rfl, if_pos (by omega), wsucc i (by omega)]
theorem refparse_ev (s : ByteArray) (hs : s.size ≤ 900) : Ev (fun k => chainmanref10_Parse.f k s) (parseF s) := by
  unfold parseF
  by_cases h1 : (s.size : Int) < 10
  · have hz : ¬ (shapeF (s.extract 0 (min s.size 10)) (s.size : Int)).2.2 = 0 := by
      intro hz
      obtain ⟨_, _, _, h10, _⟩ := shape_ok _ _ hz
      rw [Oc.ex_size _ _ _ (Nat.min_le_left _ _)] at h10; omega
    rw [if_neg (by rintro ⟨h, _⟩; exact hz h)]
    exact Ev.congr (f := fun _ => some ([], 7)) (fun k => by unfold chainmanref10_Parse.f; rw [if_pos h1]) (Ev.now _)
  rw [show min s.size 10 = 10 by omega]
  refine Ev.congr (fun k => by unfold chainmanref10_Parse.f; rw [if_neg h1, if_pos (by decide), if_pos (by omega)]) ?_
  refine Ev.bind (refshape_ev (s.extract 0 10) (s.size : Int)) ?_
  by_cases hz : (shapeF (s.extract 0 10) (s.size : Int)).2.2 = 0
  case neg =>
    rw [shape_no _ _ hz, if_neg (by simp)]
    exact Ev.congr (f := fun _ => some ([], 7)) (fun k => if_neg (by decide)) (Ev.now _)
  obtain ⟨n, d, e, h10, _, hn, hd, hsz, _, _⟩ := shape_ok _ _ hz
  rw [e]
  obtain ⟨n1, d1, e1⟩ := small n d 900 hn.1 hd.1 (by omega)
  refine Ev.congr (fun k => if_pos rfl) ?_
  have := refparse_loop s hs n d n1 ⟨hd.1, d1⟩ (by rw [e1]; omega) n 0 [] (by omega) (by simp)
  show Ev _ (if 0 = 0 ∧ rowsV s d 10 n = true then (rowsL s d 10 n, 0) else ([], 7))
  rw [Nat.mul_zero, List.nil_append] at this
  by_cases hv : rowsV s d 10 n = true
  · rw [if_pos ⟨rfl, hv⟩]; rw [if_pos hv] at this; exact this
  · rw [if_neg (by rintro ⟨_, h⟩; exact hv h)]; rw [if_neg hv] at this; exact this
theorem parse_small (s : ByteArray) (hs : s.size ≤ 900) : (parseF s).1.length ≤ 900 ∧ ∀ v ∈ (parseF s).1, v.length ≤ 900 := by
  unfold parseF
  split
  · rename_i c
    obtain ⟨n, d, e, h10, _, hn, hd, hsz, _, _⟩ := shape_ok _ _ c.1
    obtain ⟨n1, d1, e1⟩ := small n d 900 hn.1 hd.1 (by omega)
    rw [e]
    refine ⟨by show (rowsL s d 10 n).length ≤ _; rw [rows_len]; exact n1, fun v hv => Nat.le_trans (rows_each s d 10 n v hv) d1⟩
  · simp
/-! ### lists held against themselves -/
theorem samel_loop (v : List Int) (hv : v.length ≤ 1000) : ∀ d j, j + d = v.length → Ev (fun k => chainmanref10_SameList.l0 k v v (j : Int)) true := by
  intro d
  induction d with
  | zero =>
    intro j hj
    exact Ev.step (f := fun _ => some true) (fun k => by rw [chainmanref10_SameList.l0, if_neg (by omega)]) (Ev.now _)
  | succ d ih =>
    intro j hj
    exact Ev.step (fun k => by rw [chainmanref10_SameList.l0, if_pos (by omega), if_pos (by omega), if_pos (by omega), if_pos rfl, wsucc j (by omega)]) (ih (j + 1) (by omega))
theorem samel_ev (v : List Int) (hv : v.length ≤ 1000) : Ev (fun k => chainmanref10_SameList.f k v v) true :=
  Ev.congr (fun k => by unfold chainmanref10_SameList.f; rw [if_pos rfl]; rfl) (samel_loop v hv v.length 0 (by omega))
theorem same_loop (l : List (List Int)) (hl : l.length ≤ 1000) (hv : ∀ v ∈ l, v.length ≤ 1000) : ∀ d i, i + d = l.length → Ev (fun k => chainmanref10_Same.l0 k l l (i : Int)) true := by
  intro d
  induction d with
  | zero =>
    intro i hi
    exact Ev.step (f := fun _ => some true) (fun k => by rw [chainmanref10_Same.l0, if_neg (by omega)]) (Ev.now _)
  | succ d ih =>
    intro i hi
    have hlt : i < l.length := by omega
    refine Ev.step (fun k => by rw [chainmanref10_Same.l0, if_pos (by omega), if_pos (by omega), if_pos (by omega), rdL l i hlt]) ?_
    refine Ev.bind (samel_ev l[i] (hv _ (List.getElem_mem hlt))) ?_
    exact Ev.congr (fun k => by rw [if_pos rfl, wsucc i (by omega)]) (ih (i + 1) (by omega))
theorem same_ev (l : List (List Int)) (hl : l.length ≤ 1000) (hv : ∀ v ∈ l, v.length ≤ 1000) : Ev (fun k => chainmanref10_Same.f k l l) true :=
  Ev.congr (fun k => by unfold chainmanref10_Same.f; rw [if_pos rfl]; rfl) (same_loop l hl hv l.length 0 (by omega))
/-! ### few lists -/
theorem few_ev (l : List (List Int)) : ∀ d i : Nat, i + d = 20 → (∀ x ∈ l.take i, x.length ≤ 20) → ∃ b, Ev (fun k => chainmanref10_Few.l0 k l 20 20 (i : Int)) b ∧ (b = true → l.length ≤ 20 ∧ ∀ x ∈ l, x.length ≤ 20) := by
  intro d
  induction d with
  | zero =>
    intro i hi h
    refine ⟨decide ((l.length : Int) ≤ 20), ?_, ?_⟩
    · refine Ev.step (f := fun k => chainmanref10_Few.j1 k l 20 20 (i : Int) false) (fun k => ?_) (Ev.step (f := fun _ => some _) (fun k => by rw [chainmanref10_Few.j1, if_neg (by decide)]) (Ev.now _))
      rw [chainmanref10_Few.l0]
      split
      · rw [decide_eq_false (by omega)]
      · rfl
    · intro hb
      have := of_decide_eq_true hb
      exact ⟨by omega, fun x hx => h x (by rw [List.take_of_length_le (by omega)]; exact hx)⟩
  | succ d ih =>
    intro i hi h
    by_cases hlt : i < l.length
    · by_cases hs : l[i].length ≤ 20
      · obtain ⟨b, hb, hb'⟩ := ih (i + 1) (by omega) (by
          intro x hx
          rw [List.take_add_one, List.getElem?_eq_getElem hlt, Option.toList_some, List.mem_append, List.mem_singleton] at hx
          rcases hx with hx | rfl
          · exact h x hx
          · exact hs)
        refine ⟨b, Ev.step (f := fun k => chainmanref10_Few.j1 k l 20 20 (i : Int) true) (fun k => ?_) (Ev.step (fun k => ?_) hb), hb'⟩
        · rw [chainmanref10_Few.l0, if_pos (by omega), decide_eq_true (by omega)]
        · rw [chainmanref10_Few.j1, if_pos rfl, if_pos (by omega), if_pos (by omega), rdL l i hlt, if_neg (by omega), wsucc i (by omega)]
      · refine ⟨false, Ev.step (f := fun k => chainmanref10_Few.j1 k l 20 20 (i : Int) true) (fun k => ?_) (Ev.step (f := fun _ => some false) (fun k => ?_) (Ev.now _)), by simp⟩
        · rw [chainmanref10_Few.l0, if_pos (by omega), decide_eq_true (by omega)]
        · rw [chainmanref10_Few.j1, if_pos rfl, if_pos (by omega), if_pos (by omega), rdL l i hlt, if_pos (by omega)]
    · refine ⟨decide ((l.length : Int) ≤ 20), Ev.step (f := fun k => chainmanref10_Few.j1 k l 20 20 (i : Int) false) (fun k => ?_) (Ev.step (f := fun _ => some _) (fun k => by rw [chainmanref10_Few.j1, if_neg (by decide)]) (Ev.now _)), ?_⟩
      · rw [chainmanref10_Few.l0, if_neg (by omega)]
      · intro hb
        have := of_decide_eq_true hb
        exact ⟨by omega, fun x hx => h x (by rw [List.take_of_length_le (by omega)]; exact hx)⟩
theorem few_all (l : List (List Int)) : ∃ b, Ev (fun k => chainmanref10_Few.f k l 20 20) b ∧ (b = true → l.length ≤ 20 ∧ ∀ x ∈ l, x.length ≤ 20) := few_ev l 20 0 rfl (by simp)
theorem awake_ev : Ev (fun k => chainmanlaw10_awake.f k) true := Ev.of (fun k => chainmanlaw10_awake.mono k) (k := 30) (by decide +kernel)

theorem DatasetTells : chainmanlaw10_DatasetTells.Pure := by
  intro l s n d hl hs wn wd
  have hd : -9223372036854775808 ≤ d ∧ d ≤ 9223372036854775807 := by simpa [Lit.wf, IntKind.min, IntKind.max, IntKind.signed, IntKind.bits] using wd
  refine Ev.rounds ?_
  have no : ∀ b : Bool, b = true → Ev (fun k => chainmanlaw10_DatasetTells.j0 k l s n d b) true := fun b hb =>
    Ev.step (f := fun k => chainmanlaw10_awake.f k) (fun k => by rw [chainmanlaw10_DatasetTells.j0, if_pos hb]; cases chainmanlaw10_awake.f k <;> rfl) awake_ev
  obtain ⟨b, hb, hb'⟩ := few_all l
  refine Ev.bind hb ?_
  cases b with
  | false => exact Ev.congr (fun k => if_neg (by decide)) (no true rfl)
  | true =>
    obtain ⟨h1, h2⟩ := hb' rfl
    refine Ev.congr (fun k => if_pos rfl) ?_
    by_cases h7 : (s.size : Int) > 700
    · exact no _ (decide_eq_true h7)
    rw [decide_eq_false h7]
    refine Ev.step (fun k => by rw [chainmanlaw10_DatasetTells.j0, if_neg (by decide)]) ?_
    refine Ev.congr (fun k => by rw [lay_b l h1 h2, Option.bind_some]) ?_
    refine Ev.bind (reflay_ev l h1 h2) ?_
    refine Ev.bind (parse_ev s (by omega)) (Ev.bind (refparse_ev s (by omega)) ?_)
    refine Ev.bind (shape_ev s n) (Ev.bind (refshape_ev s n) ?_)
    have hmn : mn 10 (s.size : Int) = ((min 10 s.size : Nat) : Int) := by unfold mn; split <;> omega
    refine Ev.congr (fun k => by rw [hmn, if_pos (by omega), if_pos (by omega)]) ?_
    refine Ev.bind (shape_ev _ _) (Ev.bind (refshape_ev _ _) ?_)
    obtain ⟨r, v1, v2, v3⟩ : ∃ r, Ev (fun k => dataset_Vector.f k s d) r ∧ Ev (fun k => chainmanref10_Vector.f k s d) r ∧ r.1.length ≤ 1000 := by
      by_cases hv : 1 ≤ d ∧ d ≤ 4096 ∧ (s.size : Int) = 4 * d
      · obtain ⟨e, rfl⟩ := Int.eq_ofNat_of_zero_le (show 0 ≤ d by omega)
        exact ⟨_, vector_ev s e (by omega) (by omega) (by omega), refvector_ev s e (by omega) (by omega) (by omega), Nat.le_trans (vecR_len s e) (by omega)⟩
      · obtain ⟨q1, q2⟩ := vector_no s d hv (by omega) hd
        exact ⟨_, q1, q2, by simp⟩
    refine Ev.bind v1 (Ev.bind v2 ?_)
    obtain ⟨p1, p2⟩ := parse_small s (by omega)
    refine Ev.congr (fun k => by rw [if_pos rfl, if_pos (by simp)]) ?_
    refine Ev.bind (same_ev (parseF s).1 (by omega) (fun v hv => by have := p2 v hv; omega)) ?_
    refine Ev.congr (fun k => by rw [if_pos rfl, if_pos rfl, if_pos rfl, if_pos rfl, if_pos rfl, if_pos rfl, if_pos rfl, if_pos rfl]) ?_
    refine Ev.bind (samel_ev r.1 v3) ?_
    obtain ⟨q, q1, q2⟩ := place_both d n
    refine Ev.congr (fun k => by rw [if_pos rfl, if_pos (by simp), q1, Option.bind_some, q2, Option.bind_some, if_pos rfl]) ?_
    refine Ev.bind (g := fun k => dataset_Valid.f k s) (a := ((parseF s).2 == 0)) (Ev.bind (parse_ev s (by omega)) (Ev.now _)) ?_
    refine Ev.congr (fun k => if_pos (by simp)) ?_
    exact Ev.congr (fun k => by cases chainmanlaw10_awake.f k <;> rfl) awake_ev

end Go.Proofs.Ytmacpgkcokpgjaa.Pure
