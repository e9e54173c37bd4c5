/- Vectors come back from their dataset, each at its place, and what is read is written as it was; for up to 20 lists of up to 20 numbers and up to 700 bytes (the law DatasetBack, over bytes and numbers alone). -/
import Derived.Test.YtmacpgkcokpgjaaPDatasetBackx6
import Derived.Lib.Strings
namespace Go.Proofs.Ytmacpgkcokpgjaa.Pure
open Go.RowKit Go.Proofs.Ytmacpgkcokpgjaa.PDatasetBack Go.Proofs.YtmacpgkcokpgjaaW.PrintWords Go.Proofs.YtmacpgkcokpgjaaW.PrintLast
set_option linter.unusedVariables false
set_option linter.unusedSimpArgs false
namespace Cr
/-! ### strings as lists of bytes -/
theorem ba_ext {s t : ByteArray} (h : s.data.toList = t.data.toList) : s = t := by
  cases s; cases t
  simp only [ByteArray.mk.injEq]
  exact Array.toList_inj.1 h
theorem ba_append (s t : ByteArray) : (s ++ t).data.toList = s.data.toList ++ t.data.toList := by
  rw [ByteArray.data_append, Array.toList_append]
theorem ba_size (s : ByteArray) : s.size = s.data.toList.length := by simp

end Cr

namespace Oc
/-! ### numbers as bytes -/
def beN (n k : Nat) : List Int := (List.range k).reverse.map fun i => ((n / 256 ^ i % 256 : Nat) : Int)
theorem beN_len (n k : Nat) : (beN n k).length = k := by simp [beN]
theorem beN_succ (n k : Nat) : beN n (k + 1) = ((n / 256 ^ k % 256 : Nat) : Int) :: beN n k := by
  unfold beN
  rw [List.range_succ, List.reverse_append]; rfl
theorem beN_range (n k : Nat) : ∀ x ∈ beN n k, 0 ≤ x ∧ x < 256 := by
  intro x hx
  obtain ⟨i, _, rfl⟩ := List.mem_map.1 hx
  have := Nat.mod_lt (n / 256 ^ i) (show 256 > 0 by decide)
  omega
def putB (n k : Int) : ByteArray × Bool := if n < 0 ∨ k < 1 ∨ 8 < k then (⟨#[]⟩, false) else if n.toNat < 256 ^ k.toNat then (strOfNums (beN n.toNat k.toNat), true) else (⟨#[]⟩, false)
theorem octs_be (n : Nat) : octet_Put.octs (n : Int) = beN n 8 := by
  have e7 : (n : Int) / 72057594037927936 % 256 = ((n / 256 ^ 7 % 256 : Nat) : Int) := by rw [show 256 ^ 7 = 72057594037927936 from rfl]; omega
  have e6 : (n : Int) / 281474976710656 % 256 = ((n / 256 ^ 6 % 256 : Nat) : Int) := by rw [show 256 ^ 6 = 281474976710656 from rfl]; omega
  have e5 : (n : Int) / 1099511627776 % 256 = ((n / 256 ^ 5 % 256 : Nat) : Int) := by rw [show 256 ^ 5 = 1099511627776 from rfl]; omega
  have e4 : (n : Int) / 4294967296 % 256 = ((n / 256 ^ 4 % 256 : Nat) : Int) := by rw [show 256 ^ 4 = 4294967296 from rfl]; omega
  have e3 : (n : Int) / 16777216 % 256 = ((n / 256 ^ 3 % 256 : Nat) : Int) := by rw [show 256 ^ 3 = 16777216 from rfl]; omega
  have e2 : (n : Int) / 65536 % 256 = ((n / 256 ^ 2 % 256 : Nat) : Int) := by rw [show 256 ^ 2 = 65536 from rfl]; omega
  have e1 : (n : Int) / 256 % 256 = ((n / 256 ^ 1 % 256 : Nat) : Int) := by rw [show 256 ^ 1 = 256 from rfl]; omega
  have e0 : (n : Int) % 256 = ((n / 256 ^ 0 % 256 : Nat) : Int) := by rw [show 256 ^ 0 = 1 from rfl]; omega
  unfold octet_Put.octs
  rw [e7, e6, e5, e4, e3, e2, e1, e0]
  rfl
theorem beN_take (m k : Nat) : ∀ j, m < 256 ^ (k + j) → ((((beN m (k + j)).take j).all (· == 0) = true) ↔ m < 256 ^ k) := by
  intro j
  induction j with
  | zero => intro h; simpa using h
  | succ j ih =>
    intro h
    have hp : 256 ^ (k + (j + 1)) = 256 ^ (k + j) * 256 := Nat.pow_succ ..
    have hx : m / 256 ^ (k + j) < 256 := Nat.div_lt_of_lt_mul (by omega)
    rw [show k + (j + 1) = (k + j) + 1 from rfl, beN_succ, List.take_succ_cons, List.all_cons, Bool.and_eq_true]
    have hz : ((((m / 256 ^ (k + j) % 256 : Nat) : Int) == 0) = true) ↔ m < 256 ^ (k + j) := by
      rw [beq_iff_eq, Nat.mod_eq_of_lt hx]
      constructor
      · intro e
        rcases Nat.lt_or_ge m (256 ^ (k + j)) with h' | h'
        · exact h'
        · have := Nat.div_pos h' (Nat.pow_pos (by decide)); omega
      · intro h'; rw [Nat.div_eq_of_lt h']; rfl
    rw [hz]
    constructor
    · rintro ⟨h1, h2⟩; exact (ih h1).1 h2
    · intro h1
      have : 256 ^ k ≤ 256 ^ (k + j) := Nat.pow_le_pow_right (by decide) (by omega)
      exact ⟨by omega, (ih (by omega)).2 h1⟩
theorem beN_drop (m k : Nat) : ∀ j, (beN m (k + j)).drop j = beN m k := by
  intro j
  induction j with
  | zero => rfl
  | succ j ih => rw [show k + (j + 1) = (k + j) + 1 from rfl, beN_succ, List.drop_succ_cons, ih]
theorem put_bv (n k : Int) (hn : n < 9223372036854775808) : octet_Put.f n k = some (putB n k) := by
  unfold octet_Put.f putB
  by_cases hb : n < 0 ∨ k < 1 ∨ 8 < k
  · rw [if_pos hb, if_pos hb]
  · rw [if_neg hb, if_neg hb]
    obtain ⟨m, rfl⟩ : ∃ m : Nat, n = (m : Int) := ⟨n.toNat, by omega⟩
    obtain ⟨q, rfl⟩ : ∃ q : Nat, k = (q : Int) := ⟨k.toNat, by omega⟩
    have hq8 : q ≤ 8 := by omega
    have hm : m < 256 ^ 8 := by have : 256 ^ 8 = 18446744073709551616 := by decide
                                omega
    have e8 : q + (8 - q) = 8 := by omega
    have h1 := beN_take m q (8 - q) (by rw [e8]; exact hm)
    have h2 := beN_drop m q (8 - q)
    rw [e8] at h1 h2
    rw [octs_be, Int.toNat_natCast, Int.toNat_natCast, show ((8 : Int) - (q : Int)).toNat = 8 - q from by omega, h2]
    by_cases hlt : m < 256 ^ q
    · rw [if_pos (h1.2 hlt), if_pos hlt]
    · rw [if_neg (fun h => hlt (h1.1 h)), if_neg hlt]
def numN (l : List UInt8) : Nat := l.foldl (fun n c => n * 256 + c.toNat) 0
theorem numN_snoc (l : List UInt8) (c : UInt8) : numN (l ++ [c]) = numN l * 256 + c.toNat := by
  unfold numN
  rw [List.foldl_append]; rfl
theorem snoc_ind (P : List UInt8 → Prop) (h0 : P []) (h1 : ∀ m c, P m → P (m ++ [c])) (l : List UInt8) : P l := by
  have : ∀ n (l : List UInt8), l.length = n → P l := by
    intro n
    induction n with
    | zero => intro l hl; rw [List.length_eq_zero_iff.1 hl]; exact h0
    | succ n ih =>
      intro l hl
      rcases List.eq_nil_or_concat l with rfl | ⟨m, c, rfl⟩
      · exact h0
      · rw [List.concat_eq_append] at hl ⊢
        exact h1 m c (ih m (by simpa using hl))
  exact this _ l rfl
theorem numN_lt (l : List UInt8) : numN l < 256 ^ l.length := by
  refine snoc_ind (fun l => numN l < 256 ^ l.length) (by decide) (fun m c ih => ?_) l
  rw [numN_snoc, List.length_append]
  have := c.toNat_lt
  have : 256 ^ (m.length + [c].length) = 256 ^ m.length * 256 := Nat.pow_succ ..
  omega
theorem join_bv (x : Nat) (c : UInt8) (hx : x * 256 < 18446744073709551616) : octet_Get.join (x : Int) (c.toNat : Int) = ((x * 256 + c.toNat : Nat) : Int) := by
  have hc := c.toNat_lt
  have hw : IntKind.u64.wrap ((x : Int) * 256) = ((x * 256 : Nat) : Int) := by
    simp only [IntKind.wrap, IntKind.bits, IntKind.signed, Bool.false_and]
    simp
    omega
  unfold octet_Get.join
  rw [hw]
  show IntKind.u64.wrap ((BitVec.ofInt 64 ((x * 256 : Nat) : Int) ||| BitVec.ofInt 64 (c.toNat : Int)).toNat : Int) = _
  rw [BitVec.ofInt_natCast, BitVec.ofInt_natCast, BitVec.toNat_or, BitVec.toNat_ofNat, BitVec.toNat_ofNat, Nat.mod_eq_of_lt (by omega), Nat.mod_eq_of_lt (by omega)]
  have ho : x * 256 ||| c.toNat = x * 256 + c.toNat := by
    have := Nat.shiftLeft_add_eq_or_of_lt (b := c.toNat) (i := 8) hc x
    rw [Nat.shiftLeft_eq] at this
    exact this.symm
  rw [ho]
  simp only [IntKind.wrap, IntKind.bits, IntKind.signed, Bool.false_and]
  simp
  omega
theorem num_bv (l : List UInt8) (hl : l.length ≤ 8) : octet_Get.num (l.map fun b => (b.toNat : Int)) = (numN l : Int) := by
  refine snoc_ind (fun l => l.length ≤ 8 → octet_Get.num (l.map fun b => (b.toNat : Int)) = (numN l : Int)) (fun _ => rfl) (fun m c ih hl => ?_) l hl
  rw [List.length_append] at hl
  have hm : m.length ≤ 7 := by simp at hl; omega
  have hlt := numN_lt m
  have hp : 256 ^ m.length ≤ 256 ^ 7 := Nat.pow_le_pow_right (by decide) hm
  rw [List.map_append, List.map_singleton, octet_Get.num_snoc, ih (by omega), join_bv _ _ (by omega), numN_snoc]
theorem ba_ext {s t : ByteArray} (h : s.data.toList = t.data.toList) : s = t := by
  cases s; cases t
  simp only [ByteArray.mk.injEq]
  exact Array.toList_inj.1 h
theorem ba_append (s t : ByteArray) : (s ++ t).data.toList = s.data.toList ++ t.data.toList := by
  rw [ByteArray.data_append, Array.toList_append]
theorem ba_size (s : ByteArray) : s.size = s.data.toList.length := by simp
def getB (s : ByteArray) (p k : Int) : Int × Bool :=
  if k < 1 ∨ 8 < k ∨ p < 0 ∨ (s.size : Int) - k < p then (0, false)
  else if numN ((s.data.toList.drop p.toNat).take k.toNat) < 9223372036854775808 then ((numN ((s.data.toList.drop p.toNat).take k.toNat) : Int), true) else (0, false)
theorem get_bv (s : ByteArray) (p k : Int) (hs : s.size ≤ 1000000000) (hp : (Lit.int .i64 p).wf = true) : octet_Get.f s p k = some (getB s p k) := by
  have hp' : -9223372036854775808 ≤ p ∧ p ≤ 9223372036854775807 := by simpa [Lit.wf, IntKind.min, IntKind.max, IntKind.signed, IntKind.bits] using hp
  unfold octet_Get.f getB
  rw [if_pos ⟨hs, hp'.1, hp'.2⟩]
  by_cases hb : k < 1 ∨ 8 < k ∨ p < 0 ∨ (s.size : Int) - k < p
  · rw [if_pos hb, if_pos hb]
  · rw [if_neg hb, if_neg hb]
    have he : bytesOf (s.extract p.toNat (p + k).toNat) = ((s.data.toList.drop p.toNat).take k.toNat).map fun b => (b.toNat : Int) := by
      unfold bytesOf
      rw [Lib.extract_data, show (p + k).toNat - p.toNat = k.toNat from by omega]
    rw [he, num_bv _ (by rw [List.length_take]; omega)]
    by_cases hlt : numN ((s.data.toList.drop p.toNat).take k.toNat) < 9223372036854775808
    · rw [if_pos hlt, if_pos (by omega)]
    · rw [if_neg hlt, if_neg (by omega)]

/-! ### the document's bytes -/
theorem wrap_succ (i : Nat) (h : i < 1000000000) : wrap64 ((i : Int) + 1) = ((i + 1 : Nat) : Int) := by unfold wrap64; omega
theorem stepq (q : Nat) (hq : q < 9223372036854775808) : Int.tmod (q : Int) 256 % 256 = ((q % 256 : Nat) : Int) ∧ wrap64 (Int.tdiv (q : Int) 256) = ((q / 256 : Nat) : Int) := by
  rw [Int.tmod_eq_emod_of_nonneg (Int.natCast_nonneg _), Int.tdiv_eq_ediv_of_nonneg (Int.natCast_nonneg _)]
  unfold wrap64
  omega
theorem beN_fits (x : Int) (n i : Nat) (h : i < 9) : (strOfNums [x]).size + (strOfNums (beN n i)).size ≤ 9223372036854775807 := by
  have h1 : (strOfNums [x]).size = 1 := strOfNums_size _
  have h2 : (strOfNums (beN n i)).size = i := (strOfNums_size _).trans (beN_len _ _)
  omega
theorem bt_nat (s : ByteArray) (i : Nat) (h : i < s.data.toList.length) : bt s (i : Int) = ((s.data.toList[i]).toNat : Int) := by
  have h' : i < s.size := by rw [ba_size]; exact h
  unfold bt
  rw [dif_pos (by simpa using h')]
  rfl
theorem numN_grow (l : List UInt8) (j k : Nat) (h : j < k) (hk : k ≤ l.length) : numN (l.take j) * 256 ≤ numN (l.take k) := by
  induction k with
  | zero => omega
  | succ k ih =>
    rw [List.take_succ_eq_append_getElem (show k < l.length by omega), numN_snoc]
    by_cases hjk : j = k
    · subst hjk; omega
    · have := ih (by omega) (by omega); omega
theorem wrap_in (x : Int) (h0 : 0 ≤ x) (h1 : x < 9223372036854775808) : wrap64 x = x := by unfold wrap64; omega
theorem wrap_addn (p i : Nat) (h : p + i < 1000000) : wrap64 ((p : Int) + (i : Int)) = ((p + i : Nat) : Int) := by unfold wrap64; omega
theorem wrap_step (x c : Nat) (hx : x < 36028797018963968) (hc : c < 256) : wrap64 (wrap64 ((x : Int) * 256) + wrap64 (c : Int)) = ((x * 256 + c : Nat) : Int) := by
  rw [wrap_in ((x : Int) * 256) (by omega) (by omega), wrap_in (c : Int) (by omega) (by omega), wrap_in _ (by omega) (by omega)]
  omega

/-! ### bytes in pieces: the program's and the document's -/
theorem w64 (n : Int) (h : -9223372036854775808 ≤ n ∧ n ≤ 9223372036854775807) : wrap64 n = n := by unfold wrap64; omega
theorem ex_data (s : ByteArray) (a b : Nat) : (s.extract a b).data.toList = (s.data.toList.take b).drop a := by
  rw [ByteArray.data_extract, Array.toList_extract]
  rw [List.extract_eq_drop_take', ]
theorem ex_size (s : ByteArray) (a b : Nat) (hb : b ≤ s.size) : (s.extract a b).size = b - a := by
  rw [ba_size, ex_data, List.length_drop, List.length_take, ← ba_size]; omega
theorem ex_front (s : ByteArray) (a k : Nat) (h : a + k ≤ s.size) : (s.extract a s.size).extract 0 k = s.extract a (a + k) := by
  apply ba_ext
  rw [ex_data, ex_data, ex_data, List.drop_zero, ba_size, List.take_length, List.take_drop]
theorem ex_back (s : ByteArray) (a k : Nat) : (s.extract a s.size).extract k (s.extract a s.size).size = s.extract (a + k) s.size := by
  apply ba_ext
  rw [ex_data, ba_size, ← ba_size, List.take_of_length_le (by rw [ba_size]; exact Nat.le_refl _), ex_data, ex_data, List.drop_drop]

end Oc

/-! ### numbers' bytes, and texts one behind the other -/
def catL (l : List ByteArray) : List UInt8 := (l.map (·.data.toList)).flatten
theorem catL_cons (x : ByteArray) (l : List ByteArray) : catL (x :: l) = x.data.toList ++ catL l := by simp [catL]
theorem catL_le (l : List ByteArray) (m : Nat) (h : ∀ x ∈ l, x.size ≤ m) : (catL l).length ≤ l.length * m := by
  induction l with
  | nil => simp [catL]
  | cons x l ih =>
    have h1 := h x (by simp)
    have h2 := ih (fun y hy => h y (by simp [hy]))
    rw [catL_cons, List.length_append, List.length_cons, Nat.add_mul, ← Cr.ba_size]; omega
theorem catL_len (l : List ByteArray) (m : Nat) (h : ∀ x ∈ l, x.size = m) : (catL l).length = l.length * m := by
  induction l with
  | nil => simp [catL]
  | cons x l ih =>
    have h1 := h x (by simp)
    have h2 := ih (fun y hy => h y (by simp [hy]))
    rw [catL_cons, List.length_append, List.length_cons, Nat.add_mul, ← Cr.ba_size]; omega
theorem join_all (l : List ByteArray) : strings_Join.all l ⟨#[]⟩ = catL l := by
  unfold strings_Join.all catL
  cases l with
  | nil => rfl
  | cons x l =>
    rw [List.map_cons, Lib.join_cons, List.flatten_cons]
    congr 1
    unfold Lib.joinTail
    congr 1
    exact (List.map_congr_left (fun y _ => List.nil_append y)).trans (List.map_id _)
theorem wsucc (i : Nat) (h : i < 1000000) : wrap64 ((i : Int) + 1) = ((i + 1 : Nat) : Int) := by unfold wrap64; omega
theorem numN_inj (l : List UInt8) : ∀ m : List UInt8, l.length = m.length → Oc.numN l = Oc.numN m → l = m := by
  refine Oc.snoc_ind (fun l => ∀ m : List UInt8, l.length = m.length → Oc.numN l = Oc.numN m → l = m) ?_ ?_ l
  · intro m h _; exact (List.eq_nil_of_length_eq_zero h.symm).symm
  · intro l c ih m hl hn
    rcases List.eq_nil_or_concat m with rfl | ⟨m', d, rfl⟩
    · simp at hl
    · rw [List.concat_eq_append] at hl hn ⊢
      rw [Oc.numN_snoc, Oc.numN_snoc] at hn
      have hc := c.toNat_lt; have hd := d.toNat_lt
      have e1 := ih m' (by simpa using hl) (by omega)
      have e2 : c = d := UInt8.toNat.inj (by omega)
      rw [e1, e2]
def beU (n k : Nat) : List UInt8 := (Oc.beN n k).map fun x => UInt8.ofNat x.toNat
theorem beU_data (n k : Nat) : (strOfNums (Oc.beN n k)).data.toList = beU n k := strOfNums_data _
theorem beU_len (n k : Nat) : (beU n k).length = k := by unfold beU; rw [List.length_map, Oc.beN_len]
theorem beU_succ (n k : Nat) : beU n (k + 1) = UInt8.ofNat (n / 256 ^ k % 256) :: beU n k := by
  unfold beU; rw [Oc.beN_succ, List.map_cons, Int.toNat_natCast]
/-- what comes back: the number's last k bytes -/
theorem numN_from (l : List UInt8) : ∀ a : Nat, l.foldl (fun n c => n * 256 + c.toNat) a = a * 256 ^ l.length + Oc.numN l := by
  induction l with
  | nil => intro a; simp [Oc.numN]
  | cons c l ih =>
    intro a
    have h1 : (c :: l).foldl (fun n c => n * 256 + c.toNat) a = l.foldl (fun n c => n * 256 + c.toNat) (a * 256 + c.toNat) := rfl
    have h2 : Oc.numN (c :: l) = l.foldl (fun n c => n * 256 + c.toNat) (0 * 256 + c.toNat) := rfl
    rw [h1, ih, h2, ih, List.length_cons, Nat.pow_succ, Nat.add_mul, Nat.zero_mul, Nat.zero_add, Nat.mul_assoc, Nat.mul_comm 256, Nat.add_assoc]
theorem numN_cons (c : UInt8) (l : List UInt8) : Oc.numN (c :: l) = c.toNat * 256 ^ l.length + Oc.numN l := by
  have h := numN_from l (0 * 256 + c.toNat)
  rw [Nat.zero_mul, Nat.zero_add] at h
  have h2 : Oc.numN (c :: l) = l.foldl (fun n c => n * 256 + c.toNat) (0 * 256 + c.toNat) := rfl
  rw [h2, Nat.zero_mul, Nat.zero_add]
  exact h
theorem numN_beU (n : Nat) : ∀ k, Oc.numN (beU n k) = n % 256 ^ k := by
  intro k
  induction k with
  | zero => show 0 = n % 1; rw [Nat.mod_one]
  | succ k ih =>
    have hb : (UInt8.ofNat (n / 256 ^ k % 256)).toNat = n / 256 ^ k % 256 := by
      rw [UInt8.toNat_ofNat']
      exact Nat.mod_mod_of_dvd _ (by decide)
    rw [beU_succ, numN_cons, ih, beU_len, hb, Nat.pow_succ, Nat.mod_mul, Nat.mul_comm (256 ^ k)]
    exact Nat.add_comm _ _

/-! ### ends -/
theorem putB_ok (n k : Nat) (hk : 1 ≤ k) (hk8 : k ≤ 8) (hn : n < 256 ^ k) : Oc.putB (n : Int) (k : Int) = (strOfNums (Oc.beN n k), true) := by
  unfold Oc.putB; rw [if_neg (by omega), Int.toNat_natCast, Int.toNat_natCast, if_pos hn]
theorem be_size (n k : Nat) : (strOfNums (Oc.beN n k)).size = k := (strOfNums_size _).trans (Oc.beN_len _ _)
theorem beU_num (l : List UInt8) : beU (Oc.numN l) l.length = l := by
  refine numN_inj _ _ (beU_len _ _) ?_
  rw [numN_beU, Nat.mod_eq_of_lt (Oc.numN_lt l)]
theorem bt_head (s : ByteArray) (c : UInt8) (L : List UInt8) (h : s.data.toList = c :: L) : bt s 0 = (c.toNat : Int) := by
  have := Oc.bt_nat s 0 (by rw [h]; simp)
  rw [show ((0 : Nat) : Int) = 0 from rfl] at this
  rw [this]; congr 2; simp [h]
theorem num4 (L : List UInt8) (k : Nat) (h : L.length ≤ k) : Oc.numN L < 256 ^ k := Nat.lt_of_lt_of_le (Oc.numN_lt L) (Nat.pow_le_pow_right (by decide) h)
theorem take_len (L : List UInt8) (p k : Nat) (h : p + k ≤ L.length) : ((L.drop p).take k).length = k := by rw [List.length_take, List.length_drop]; omega

/-! ### one item behind the other -/
def goG {α β : Type} (F : α → Option (β × Bool)) : List β → List α → Option (List β × Bool)
  | acc, [] => some (acc, true)
  | acc, x :: l => (F x).bind fun r => if r.2 = true then goG F (acc ++ [r.1]) l else some ([], false)
theorem go1 (F : Int → Option (ByteArray × Bool)) : ∀ (l : List Int) acc, dataset_each_int_string_158.go F acc l = goG F acc l := by
  intro l; induction l with
  | nil => intro acc; rfl
  | cons x l ih => intro acc; rw [dataset_each_int_string_158.go, goG]; simp only [ih]
theorem go2 (F : List Int → Option (ByteArray × Bool)) : ∀ (l : List (List Int)) acc, dataset_each_int_string_111.go F acc l = goG F acc l := by
  intro l; induction l with
  | nil => intro acc; rfl
  | cons x l ih => intro acc; rw [dataset_each_int_string_111.go, goG]; simp only [ih]
theorem go3 (F : ByteArray → Option (Int × Bool)) : ∀ (l : List ByteArray) acc, dataset_each_string_int_115.go F acc l = goG F acc l := by
  intro l; induction l with
  | nil => intro acc; rfl
  | cons x l ih => intro acc; rw [dataset_each_string_int_115.go, goG]; simp only [ih]
theorem go4 (F : ByteArray → Option (List Int × Bool)) : ∀ (l : List ByteArray) acc, dataset_each_string_int_113.go F acc l = goG F acc l := by
  intro l; induction l with
  | nil => intro acc; rfl
  | cons x l ih => intro acc; rw [dataset_each_string_int_113.go, goG]; simp only [ih]
theorem goG_all {α β : Type} (F : α → Option (β × Bool)) (g : α → β) (p : α → Bool) : ∀ (l : List α) (acc : List β), (∀ x ∈ l, F x = some (g x, p x)) → goG F acc l = some (if l.all p = true then (acc ++ l.map g, true) else ([], false)) := by
  intro l
  induction l with
  | nil => intro acc _; simp [goG]
  | cons x l ih =>
    intro acc h
    rw [goG, h x (by simp), Option.bind_some]
    by_cases hp : p x = true
    · rw [if_pos hp, ih _ (fun y hy => h y (by simp [hy]))]
      simp [hp]
    · rw [if_neg hp, if_neg (by simp [hp])]
theorem goG_ev {α β : Type} (F : Nat → α → Option (β × Bool)) (G : α → β × Bool) : ∀ (l : List α) (acc : List β), (∀ x ∈ l, Ev (fun k => F k x) (G x)) → Ev (fun k => goG (F k) acc l) (if l.all (fun x => (G x).2) = true then (acc ++ l.map (fun x => (G x).1), true) else ([], false)) := by
  intro l
  induction l with
  | nil => intro acc _; exact Ev.congr (f := fun _ => some _) (fun k => by simp [goG]) (Ev.now _)
  | cons x l ih =>
    intro acc h
    refine Ev.congr (fun k => goG.eq_2 _ _ _ _) ?_
    refine Ev.bind (h x (by simp)) ?_
    by_cases hp : (G x).2 = true
    · refine Ev.congr (fun k => if_pos hp) ?_
      have := ih (acc ++ [(G x).1]) (fun y hy => h y (by simp [hy]))
      rw [show (x :: l).all (fun x => (G x).2) = l.all (fun x => (G x).2) by simp [hp], List.map_cons]
      rw [List.append_assoc] at this
      exact this
    · rw [show (x :: l).all (fun x => (G x).2) = false by simp [hp]]
      exact Ev.congr (f := fun _ => some _) (fun k => if_neg hp) (Ev.now _)
/-! ### coordinates -/
def fits (x : Int) : Bool := decide (-16777215 ≤ x) && decide (x ≤ 16777215)
theorem fits_iff (x : Int) : fits x = true ↔ -16777215 ≤ x ∧ x ≤ 16777215 := by unfold fits; simp
def in32 (x : Int) : Prop := -2147483648 ≤ x ∧ x < 2147483648
instance (x : Int) : Decidable (in32 x) := by unfold in32; infer_instance
def cw (x : Int) : ByteArray := strOfNums (Oc.beN (x + 2147483648).toNat 4)
def cwF (x : Int) : ByteArray × Bool := if in32 x then (cw x, true) else (⟨#[]⟩, false)
theorem put4 (x : Int) (h : in32 x) : Oc.putB (wrap64 (x + 2147483648)) 4 = (cw x, true) := by
  unfold in32 at h
  have e : wrap64 (x + 2147483648) = x + 2147483648 := by unfold wrap64; omega
  obtain ⟨m, hm⟩ := Int.eq_ofNat_of_zero_le (show 0 ≤ x + 2147483648 by omega)
  unfold cw
  rw [e, hm, Int.toNat_natCast]
  exact putB_ok m 4 (by decide) (by decide) (by omega)
theorem putc (x : Int) : octet_PutCoord.f x = some (cwF x) := by
  unfold octet_PutCoord.f cwF
  by_cases h : in32 x
  · have h' := h
    unfold in32 at h'
    have e : wrap64 (x + 2147483648) = x + 2147483648 := by unfold wrap64; omega
    rw [if_neg (by omega), if_neg (by omega), if_pos h, Oc.put_bv _ _ (by rw [e]; omega), Option.bind_some, put4 x h]
  · have h' := h
    unfold in32 at h'
    by_cases h1 : x < -2147483648
    · rw [if_pos h1, if_neg h]
    · rw [if_neg h1, if_pos (by omega), if_neg h]
theorem may_b (x : Int) : dataset_may.f x = some (fits x) := by
  unfold dataset_may.f fits
  by_cases h : -16777215 ≤ x
  · rw [if_pos h, decide_eq_true h, Bool.true_and]
  · rw [if_neg h, decide_eq_false h, Bool.false_and]
theorem one_b (x : Int) : dataset_Lay.one x = some ((cwF x).1, fits x) := by
  unfold dataset_Lay.one
  rw [putc, Option.bind_some]
  by_cases h : in32 x
  · have e : cwF x = (cw x, true) := if_pos h
    rw [e, if_pos rfl, may_b, Option.bind_some]
  · have e : cwF x = (⟨#[]⟩, false) := if_neg h
    rw [e, if_neg (by decide)]
    have : fits x = false := by
      rw [Bool.eq_false_iff]; intro hf; rw [fits_iff] at hf; exact h ⟨by omega, by omega⟩
    rw [this]
theorem cwF_fits (x : Int) (h : fits x = true) : cwF x = (cw x, true) := by
  rw [fits_iff] at h
  exact if_pos ⟨by omega, by omega⟩
theorem cw_data (x : Int) : (cw x).data.toList = beU (x + 2147483648).toNat 4 := beU_data _ _
theorem cw_size (x : Int) : (cw x).size = 4 := be_size _ 4
/-- A vector's bytes. -/
def vecL (v : List Int) : List UInt8 := catL (v.map cw)
theorem vecL_len (v : List Int) : (vecL v).length = 4 * v.length := by
  unfold vecL; rw [catL_len _ 4 (fun x hx => by obtain ⟨y, _, rfl⟩ := List.mem_map.mp hx; exact cw_size y), List.length_map]; omega
theorem vecL_cons (x : Int) (v : List Int) : vecL (x :: v) = (cw x).data.toList ++ vecL v := by unfold vecL; rw [List.map_cons, catL_cons]
def vecP (d : Nat) (v : List Int) : Bool := v.all fits && decide (v.length = d)
def vecW (v : List Int) : ByteArray := if v.all fits = true then ⟨(vecL v).toArray⟩ else ⟨#[]⟩
theorem vec_b (d : Nat) (v : List Int) (hv : v.length ≤ 1000000) : dataset_Lay.vec (d : Int) v = some (vecW v, vecP d v) := by
  unfold dataset_Lay.vec
  rw [if_pos (by omega), go1, goG_all dataset_Lay.one (fun x => (cwF x).1) fits v [] (fun x _ => one_b x), Option.bind_some]
  unfold vecW vecP
  have hd : decide ((v.length : Int) = (d : Int)) = decide (v.length = d) := decide_eq_decide.mpr (by omega)
  by_cases h : v.all fits = true
  · have hm : v.map (fun x => (cwF x).1) = v.map cw := List.map_congr_left (fun x hx => by rw [cwF_fits x (List.all_eq_true.mp h x hx)])
    rw [if_pos h, List.nil_append, hm]
    have hj : strings_Join.f (v.map cw) ⟨#[]⟩ = some ⟨(vecL v).toArray⟩ := by
      unfold strings_Join.f; rw [join_all, if_pos ⟨by show (vecL v).length ≤ _; rw [vecL_len]; omega, by rw [List.length_map]; omega⟩]; rfl
    rw [hj, Option.bind_some, hd, h, if_pos rfl]
  · have h' : v.all fits = false := by rw [Bool.eq_false_iff]; exact h
    rw [h', if_neg (by decide)]
    have hj : strings_Join.f [] ⟨#[]⟩ = some ⟨#[]⟩ := by
      unfold strings_Join.f; rw [join_all, if_pos ⟨by simp [catL], by simp⟩]; rfl
    rw [hj, Option.bind_some, if_neg (by decide)]
    rfl
/-! ### the dataset of vectors -/
def rightB (l : List (List Int)) : Bool := decide (1 ≤ (l.headD []).length) && l.all (vecP (l.headD []).length)
def layL (l : List (List Int)) : List UInt8 := [86, 69, 67, 49] ++ beU l.length 4 ++ beU (l.headD []).length 2 ++ (l.map vecL).flatten
def layF (l : List (List Int)) : ByteArray × Bool := if rightB l = true then (⟨(layL l).toArray⟩, true) else (⟨#[]⟩, false)
theorem flat_le (l : List (List Int)) (h : ∀ v ∈ l, v.length ≤ 1000) : ((l.map vecL).flatten).length ≤ l.length * 4000 := by
  induction l with
  | nil => simp
  | cons v l ih =>
    have h1 := h v (by simp)
    have h2 := ih (fun y hy => h y (by simp [hy]))
    rw [List.map_cons, List.flatten_cons, List.length_append, vecL_len, List.length_cons, Nat.add_mul]; omega
theorem cat_flat (l : List (List Int)) : catL (l.map fun v => (⟨(vecL v).toArray⟩ : ByteArray)) = (l.map vecL).flatten := by
  unfold catL; rw [List.map_map]; rfl
theorem lay_b (l : List (List Int)) (hl : l.length ≤ 1000) (hv : ∀ v ∈ l, v.length ≤ 1000) : dataset_Lay.f l = some (layF l) := by
  unfold dataset_Lay.f layF
  rw [if_pos (by omega)]
  cases l with
  | nil => rfl
  | cons v l =>
    have hv0 := hv v (by simp)
    have hfl := flat_le (v :: l) hv
    rw [if_neg (by simp)]
    show (dataset_shaped.f (((v :: l).length : Nat) : Int) (v.length : Int)).bind _ = _
    have hs : dataset_shaped.f (((v :: l).length : Nat) : Int) (v.length : Int) = some (decide (1 ≤ v.length)) := by
      unfold dataset_shaped.f
      rw [if_pos (by simp; omega), if_pos (by omega)]
      by_cases h1 : 1 ≤ v.length
      · rw [if_pos (by omega), decide_eq_true h1, decide_eq_true (by omega)]
      · rw [if_neg (by omega), decide_eq_false h1]
    rw [hs, Option.bind_some]
    have hr : rightB (v :: l) = (decide (1 ≤ v.length) && (v :: l).all (vecP v.length)) := rfl
    by_cases h1 : 1 ≤ v.length
    case neg => rw [hr, decide_eq_false h1]; rfl
    rw [hr, decide_eq_true h1, if_pos rfl, Bool.true_and]
    have p4 : Oc.putB (((v :: l).length : Nat) : Int) 4 = (strOfNums (Oc.beN (v :: l).length 4), true) := putB_ok (v :: l).length 4 (by decide) (by decide) (by omega)
    have p2 : Oc.putB ((v.length : Nat) : Int) 2 = (strOfNums (Oc.beN v.length 2), true) := putB_ok v.length 2 (by decide) (by decide) (by omega)
    rw [Oc.put_bv _ _ (by omega), Oc.put_bv _ _ (by show ((v.length : Nat) : Int) < _; omega), Option.bind_some, p4]
    show (Option.bind (some (Oc.putB (v.length : Int) 2)) _) = _
    rw [p2, Option.bind_some]
    show (Option.bind (dataset_each_int_string_111.go (dataset_Lay.vec (v.length : Int)) [] (v :: l)) _) = _
    rw [go2, goG_all (dataset_Lay.vec (v.length : Int)) vecW (vecP v.length) (v :: l) [] (fun x hx => vec_b v.length x (by have := hv x hx; omega)), Option.bind_some]
    by_cases h2 : (v :: l).all (vecP v.length) = true
    case neg => rw [if_neg h2, if_neg (by decide), if_neg h2]
    rw [if_pos h2, if_pos h2, if_pos rfl, List.nil_append]
    have hm : (v :: l).map vecW = (v :: l).map fun v => (⟨(vecL v).toArray⟩ : ByteArray) := List.map_congr_left (fun x hx => by
      have := List.all_eq_true.mp h2 x hx
      unfold vecP at this
      rw [Bool.and_eq_true] at this
      exact if_pos this.1)
    have hj : strings_Join.f ((v :: l).map vecW) ⟨#[]⟩ = some ⟨(((v :: l).map vecL).flatten).toArray⟩ := by
      unfold strings_Join.f; rw [join_all, hm, cat_flat, if_pos ⟨by omega, by rw [List.length_map]; omega⟩]
    have hs4 := be_size (v :: l).length 4
    have hs2 := be_size v.length 2
    have hjs : (⟨(((v :: l).map vecL).flatten).toArray⟩ : ByteArray).size = (((v :: l).map vecL).flatten).length := by rw [Cr.ba_size]
    rw [hj, Option.bind_some, if_pos ⟨by show 4 + (strOfNums _).size ≤ _; omega, by show 4 + (strOfNums _).size + (strOfNums _).size ≤ _; omega, by show 4 + (strOfNums _).size + (strOfNums _).size + _ ≤ _; omega⟩]
    refine congrArg some (Prod.ext (Cr.ba_ext ?_) rfl)
    rw [Cr.ba_append, Cr.ba_append, Cr.ba_append, beU_data, beU_data]
    rfl

/-! ### whether lists are vectors, and their dataset, by the document -/
theorem rdL (l : List (List Int)) (i : Nat) (h : i < l.length) : rd_L1 l (i : Int) = l[i] := by
  unfold rd_L1
  rw [Int.toNat_natCast, List.getD_eq_getElem?_getD, List.getElem?_eq_getElem h]; rfl
theorem rdL0 (l : List (List Int)) (h : 0 < l.length) : rd_L1 l 0 = l.headD [] := by
  cases l with
  | nil => simp at h
  | cons v l => rfl
theorem rdI (v : List Int) (j : Nat) (h : j < v.length) : rd v (j : Int) = v[j] := by
  unfold rd
  rw [Int.toNat_natCast, List.getD_eq_getElem?_getD, List.getElem?_eq_getElem h]; rfl
theorem all_drop {α : Type} (p : α → Bool) (l : List α) (i : Nat) (h : i < l.length) : (l.drop i).all p = (p l[i] && (l.drop (i + 1)).all p) := by rw [List.drop_eq_getElem_cons h]; rfl
theorem right_in (l : List (List Int)) (i : Nat) (hi : i < l.length) (hl : l[i].length ≤ 100) (r : Bool) (hn : Ev (fun k => chainmanref10_Right.l0 k l ((i + 1 : Nat) : Int)) r) (hi' : i < 1000) : ∀ d j, j + d = l[i].length → Ev (fun k => chainmanref10_Right.l1 k l (i : Int) (j : Int)) ((l[i].drop j).all fits && r) := by
  intro d
  induction d with
  | zero =>
    intro j hj
    rw [List.drop_of_length_le (by omega), List.all_nil, Bool.true_and]
    refine Ev.step (fun k => ?_) hn
    rw [chainmanref10_Right.l1, if_pos (by omega), if_pos (by omega), rdL l i hi, if_neg (by omega), wsucc i (by omega)]
  | succ d ih =>
    intro j hj
    have hlt : j < l[i].length := by omega
    rw [all_drop fits _ j hlt]
    by_cases hf : fits l[i][j] = true
    · rw [hf, Bool.true_and]
      rw [fits_iff] at hf
      refine Ev.step (fun k => ?_) (ih (j + 1) (by omega))
      rw [chainmanref10_Right.l1, if_pos (by omega), if_pos (by omega), rdL l i hi, if_pos (by omega), if_pos (by omega), rdI _ j hlt, if_neg (by omega), if_neg (by omega), wsucc j (by omega)]
    · have hf' : fits l[i][j] = false := by rw [Bool.eq_false_iff]; exact hf
      rw [hf', Bool.false_and, Bool.false_and]
      rw [fits_iff] at hf
      refine Ev.step (f := fun _ => some false) (fun k => ?_) (Ev.now _)
      rw [chainmanref10_Right.l1, if_pos (by omega), if_pos (by omega), rdL l i hi, if_pos (by omega), if_pos (by omega), rdI _ j hlt]
      by_cases h1 : l[i][j] ≤ -16777216
      · rw [if_pos h1]
      · rw [if_neg h1, if_pos (by omega)]
def okV (d : Nat) (v : List Int) : Bool := decide (1 ≤ v.length) && (decide (v.length = d) && v.all fits)
theorem right_out (l : List (List Int)) (hl : l.length ≤ 20) (hv : ∀ v ∈ l, v.length ≤ 20) : ∀ d i, i + d = l.length → Ev (fun k => chainmanref10_Right.l0 k l (i : Int)) ((l.drop i).all (okV (l.headD []).length) && decide (1 ≤ l.length)) := by
  intro d
  induction d with
  | zero =>
    intro i hi
    rw [List.drop_of_length_le (by omega), List.all_nil, Bool.true_and]
    refine Ev.step (f := fun k => chainmanref10_Right.j1 k l (i : Int) false) (fun k => by rw [chainmanref10_Right.l0, if_neg (by omega)]) (Ev.step (f := fun _ => some _) (fun k => ?_) (Ev.now _))
    rw [chainmanref10_Right.j1, if_neg (by decide)]
    by_cases h1 : 1 ≤ l.length
    · rw [if_pos (by omega), decide_eq_true h1, decide_eq_true (by omega)]
    · rw [if_neg (by omega), decide_eq_false h1]
  | succ d ih =>
    intro i hi
    have hlt : i < l.length := by omega
    have hvl : l[i].length ≤ 20 := hv _ (List.getElem_mem hlt)
    rw [all_drop _ _ i hlt]
    refine Ev.step (f := fun k => chainmanref10_Right.j1 k l (i : Int) true) (fun k => by rw [chainmanref10_Right.l0, if_pos (by omega), decide_eq_true (by omega)]) ?_
    have j2n : ∀ b : Bool, b = true → Ev (fun k => chainmanref10_Right.j2 k l (i : Int) b) false := fun b hb => Ev.step (f := fun _ => some false) (fun k => by rw [chainmanref10_Right.j2, if_pos hb]) (Ev.now _)
    have s1 : ∀ k, chainmanref10_Right.j1 (k + 1) l (i : Int) true = (if ((l[i]).length : Int) < 1 then (chainmanref10_Right.j2 k l (i : Int) true) else (if ((l[i]).length : Int) > 4096 then (chainmanref10_Right.j2 k l (i : Int) true) else (chainmanref10_Right.j2 k l (i : Int) (((l[i]).length : Int) != ((l.headD []).length : Int))))) := fun k => by
      rw [chainmanref10_Right.j1, if_pos rfl, if_pos (by omega), if_pos (by omega), rdL l i hlt, rdL0 l (by omega)]
      rw [if_pos (show 0 < (l.length : Int) by omega)]
    by_cases h1 : 1 ≤ l[i].length
    case neg =>
      rw [show okV (l.headD []).length l[i] = false by unfold okV; rw [decide_eq_false h1]; rfl, Bool.false_and, Bool.false_and]
      exact Ev.step (fun k => by rw [s1, if_pos (by omega)]) (j2n true rfl)
    by_cases h2 : l[i].length = (l.headD []).length
    case neg =>
      rw [show okV (l.headD []).length l[i] = false by unfold okV; rw [decide_eq_false h2]; simp, Bool.false_and, Bool.false_and]
      exact Ev.step (fun k => by rw [s1, if_neg (by omega), if_neg (by omega)]) (j2n _ (by rw [bne_iff_ne]; omega))
    have hb : (((l[i]).length : Int) != ((l.headD []).length : Int)) = false := by rw [h2]; simp
    refine Ev.step (f := fun k => chainmanref10_Right.j2 k l (i : Int) false) (fun k => by rw [s1, if_neg (by omega), if_neg (by omega), hb]) ?_
    refine Ev.step (fun k => by rw [chainmanref10_Right.j2, if_neg (by decide)]) ?_
    have := right_in l i hlt (by omega) _ (ih (i + 1) (by omega)) (by omega) l[i].length 0 (by omega)
    rw [show okV (l.headD []).length l[i] = l[i].all fits by unfold okV; rw [decide_eq_true h1, decide_eq_true h2]; simp, Bool.and_assoc]
    rw [List.drop_zero] at this
    exact this
theorem right_eq (l : List (List Int)) : (l.all (okV (l.headD []).length) && decide (1 ≤ l.length)) = rightB l := by
  cases l with
  | nil => rfl
  | cons v l =>
    unfold rightB
    show ((v :: l).all (okV v.length) && true) = (decide (1 ≤ v.length) && (v :: l).all (vecP v.length))
    rw [Bool.and_true, Bool.eq_iff_iff]
    simp only [List.all_eq_true, Bool.and_eq_true, okV, vecP, decide_eq_true_eq]
    constructor
    · intro h; exact ⟨(h v (by simp)).1, fun x hx => ⟨(h x hx).2.2, (h x hx).2.1⟩⟩
    · rintro ⟨h1, h2⟩ x hx; have := h2 x hx; exact ⟨by omega, this.2, this.1⟩
theorem right_ev (l : List (List Int)) (hl : l.length ≤ 20) (hv : ∀ v ∈ l, v.length ≤ 20) : Ev (fun k => chainmanref10_Right.f k l) (rightB l) := by
  have := right_out l hl hv l.length 0 (by omega)
  rw [List.drop_zero, right_eq] at this
  exact this
theorem flat_drop (l : List (List Int)) (i : Nat) (h : i < l.length) : ((l.drop i).map vecL).flatten = vecL l[i] ++ ((l.drop (i + 1)).map vecL).flatten := by rw [List.drop_eq_getElem_cons h]; rfl
theorem vecL_drop (v : List Int) (j : Nat) (h : j < v.length) : vecL (v.drop j) = (cw v[j]).data.toList ++ vecL (v.drop (j + 1)) := by rw [List.drop_eq_getElem_cons h, vecL_cons]

/-! ### a head's numbers -/
def shapeF (h : ByteArray) (size : Int) : Int × Int × Int :=
  if h.size = 10 ∧ h.data.toList.take 4 = [86, 69, 67, 49] ∧ (1 ≤ Oc.numN ((h.data.toList.drop 4).take 4) ∧ Oc.numN ((h.data.toList.drop 4).take 4) ≤ 1048576) ∧ (1 ≤ Oc.numN ((h.data.toList.drop 8).take 2) ∧ Oc.numN ((h.data.toList.drop 8).take 2) ≤ 4096) ∧ size = ((10 + 4 * Oc.numN ((h.data.toList.drop 4).take 4) * Oc.numN ((h.data.toList.drop 8).take 2) : Nat) : Int)
  then ((Oc.numN ((h.data.toList.drop 4).take 4) : Int), (Oc.numN ((h.data.toList.drop 8).take 2) : Int), 0) else (0, 0, 7)
theorem prod_le (n d : Nat) (hn : n ≤ 1048576) (hd : d ≤ 4096) : n * d ≤ 4294967296 := Nat.le_trans (Nat.mul_le_mul hn hd) (by decide)
theorem wrap_p1 (n d : Nat) (hn : n ≤ 1048576) (hd : d ≤ 4096) : wrap64 (10 + (wrap64 ((wrap64 ((n : Int) * (d : Int))) * 4))) = ((10 + 4 * n * d : Nat) : Int) := by
  have hp := prod_le n d hn hd
  rw [← Int.natCast_mul, show 4 * n * d = 4 * (n * d) from Nat.mul_assoc _ _ _]
  generalize n * d = p at hp
  have e : wrap64 (p : Int) = (p : Int) := by unfold wrap64; omega
  rw [e]; clear e
  have e : wrap64 ((p : Int) * 4) = (p : Int) * 4 := by unfold wrap64; omega
  rw [e]; clear e
  have e : wrap64 (10 + (p : Int) * 4) = 10 + (p : Int) * 4 := by unfold wrap64; omega
  rw [e]; clear e
  omega
theorem wrap_p2 (n d : Nat) (hn : n ≤ 1048576) (hd : d ≤ 4096) : wrap64 (10 + (wrap64 ((wrap64 (4 * (n : Int))) * (d : Int)))) = ((10 + 4 * n * d : Nat) : Int) := by
  have hp := prod_le n d hn hd
  have e : wrap64 (4 * (n : Int)) = ((4 * n : Nat) : Int) := by unfold wrap64; omega
  rw [e, ← Int.natCast_mul]; clear e
  have hq : 4 * n * d = 4 * (n * d) := Nat.mul_assoc _ _ _
  generalize n * d = p at hp hq
  generalize 4 * n * d = q at hq
  have e : wrap64 (q : Int) = (q : Int) := by unfold wrap64; omega
  rw [e]; clear e
  have e : wrap64 (10 + (q : Int)) = 10 + (q : Int) := by unfold wrap64; omega
  rw [e]; clear e
  omega
theorem getB_in (s : ByteArray) (p k : Nat) (hk : 1 ≤ k) (hk8 : k ≤ 7) (h : p + k ≤ s.size) : Oc.getB s (p : Int) (k : Int) = ((Oc.numN ((s.data.toList.drop p).take k) : Int), true) := by
  unfold Oc.getB
  have hb : Oc.numN ((s.data.toList.drop p).take k) < 256 ^ 7 := num4 _ 7 (by rw [List.length_take]; omega)
  rw [if_neg (by omega), Int.toNat_natCast, Int.toNat_natCast, if_pos (by omega)]
theorem prefix_b (h : ByteArray) (hs : h.size = 10) : strings_HasPrefix.f h (⟨#[86, 69, 67, 49]⟩ : ByteArray) = some (decide (h.data.toList.take 4 = [86, 69, 67, 49])) := by
  unfold strings_HasPrefix.f stringslite_HasPrefix.f
  have hm : (⟨#[86, 69, 67, 49]⟩ : ByteArray).size = 4 := rfl
  rw [hm, if_pos (by omega), if_pos (by decide), if_pos (by omega), Option.bind_some]
  refine congrArg some ?_
  rw [Bool.eq_iff_iff, beq_iff_eq, decide_eq_true_eq, ByteArray.toList_eq, ByteArray.toList_eq]
  show (h.extract 0 4).data.toList = [86, 69, 67, 49] ↔ _
  rw [Oc.ex_data, List.drop_zero]
theorem shape_ev (h : ByteArray) (size : Int) : Ev (fun k => dataset_Shape.f k h size) (shapeF h size) := by
  have no : ∀ b : Bool, b = true → Ev (fun k => dataset_Shape.j0 k h size b) ((0 : Int), (0 : Int), (7 : Int)) := fun b hb => Ev.step (f := fun _ => some (0, 0, 7)) (fun k => by rw [dataset_Shape.j0, if_pos hb]) (Ev.now _)
  unfold shapeF
  by_cases h1 : (h.size : Int) = 10
  case neg =>
    rw [if_neg (by rintro ⟨h', _⟩; omega)]
    exact Ev.congr (fun k => by unfold dataset_Shape.f; rw [if_neg h1]) (no true rfl)
  have h10 : h.size = 10 := by omega
  refine Ev.congr (fun k => by unfold dataset_Shape.f; rw [if_pos h1, prefix_b h h10, Option.bind_some]) ?_
  by_cases h2 : h.data.toList.take 4 = [86, 69, 67, 49]
  case neg =>
    rw [if_neg (by rintro ⟨_, h', _⟩; exact h2 h')]
    exact no _ (by rw [decide_eq_false h2]; rfl)
  rw [decide_eq_true h2]
  refine Ev.step (f := fun _ => some _) (fun k => ?_) (Ev.now _)
  have g1 := Oc.get_bv h 4 4 (by omega) (by decide)
  have g2 := Oc.get_bv h 8 2 (by omega) (by decide)
  rw [show Oc.getB h 4 4 = _ from getB_in h 4 4 (by decide) (by decide) (by omega)] at g1
  rw [show Oc.getB h 8 2 = _ from getB_in h 8 2 (by decide) (by decide) (by omega)] at g2
  rw [dataset_Shape.j0, if_neg (by decide), g1, g2, Option.bind_some, Option.bind_some]
  generalize Oc.numN ((h.data.toList.drop 4).take 4) = n
  generalize Oc.numN ((h.data.toList.drop 8).take 2) = d
  have hsh : dataset_shaped.f (n : Int) (d : Int) = some (decide ((1 ≤ n ∧ n ≤ 1048576) ∧ (1 ≤ d ∧ d ≤ 4096))) := by
    unfold dataset_shaped.f
    by_cases q1 : 1 ≤ n
    · rw [if_pos (by omega)]
      by_cases q2 : n ≤ 1048576
      · rw [if_pos (by omega)]
        by_cases q3 : 1 ≤ d
        · rw [if_pos (by omega)]; exact congrArg some (decide_eq_decide.mpr (by omega))
        · rw [if_neg (by omega)]; exact congrArg some (Eq.symm (decide_eq_false (by omega)))
      · rw [if_neg (by omega)]; exact congrArg some (Eq.symm (decide_eq_false (by omega)))
    · rw [if_neg (by omega)]; exact congrArg some (Eq.symm (decide_eq_false (by omega)))
  show (dataset_shaped.f (n : Int) (d : Int)).bind _ = _
  rw [hsh, Option.bind_some]
  by_cases h3 : (1 ≤ n ∧ n ≤ 1048576) ∧ (1 ≤ d ∧ d ≤ 4096)
  case neg => rw [if_neg (by simpa using h3), if_neg (by rintro ⟨_, _, h4, h5, _⟩; exact h3 ⟨h4, h5⟩)]
  rw [decide_eq_true h3, if_pos rfl, wrap_p1 n d h3.1.2 h3.2.2]
  by_cases h4 : size = ((10 + 4 * n * d : Nat) : Int)
  · rw [if_pos h4.symm, if_pos ⟨h10, h2, h3.1, h3.2, h4⟩]
  · rw [if_neg (fun e => h4 e.symm), if_neg (by rintro ⟨_, _, _, _, h5⟩; exact h4 h5)]
def piecesF (s : ByteArray) (k : Nat) : Nat → Nat → List ByteArray
  | _, 0 => []
  | at_, d + 1 => s.extract at_ (at_ + k) :: piecesF s k (at_ + k) d
theorem pieces_len (s : ByteArray) (k : Nat) : ∀ d at_, (piecesF s k at_ d).length = d := by
  intro d; induction d with
  | zero => intro a; rfl
  | succ d ih => intro a; rw [piecesF, List.length_cons, ih]
theorem split_loop (s : ByteArray) (k : Nat) (hk : 1 ≤ k) : ∀ (d at_ : Nat) (acc : List ByteArray), at_ + d * k = s.size → acc.length + d ≤ 2000 →
    Ev (fun q => octet_Split.l0 q (s.extract at_ s.size) (k : Int) acc) (acc ++ piecesF s k at_ d, true) := by
  intro d
  induction d with
  | zero =>
    intro at_ acc h ha
    rw [piecesF, List.append_nil]
    refine Ev.step (f := fun _ => some (acc, true)) (fun q => ?_) (Ev.now _)
    have : (s.extract at_ s.size).toList = [] := by
      rw [← List.length_eq_zero_iff, ByteArray.toList_eq, ← Cr.ba_size]
      rw [Oc.ex_size _ _ _ (Nat.le_refl _)]; omega
    rw [octet_Split.l0, if_pos this]
  | succ d ih =>
    intro at_ acc h ha
    rw [Nat.add_mul, Nat.one_mul] at h
    have hd : 0 ≤ d * k := Nat.zero_le _
    have := ih (at_ + k) (acc ++ [s.extract at_ (at_ + k)]) (by omega) (by rw [List.length_append]; simp; omega)
    rw [List.append_assoc] at this
    rw [piecesF]
    refine Ev.step (fun q => ?_) this
    have hne : ¬ (s.extract at_ s.size).toList = [] := by
      rw [← List.length_eq_zero_iff, ByteArray.toList_eq, ← Cr.ba_size]
      rw [Oc.ex_size _ _ _ (Nat.le_refl _)]; omega
    have es := Oc.ex_size s at_ s.size (Nat.le_refl _)
    rw [octet_Split.l0, if_neg hne, if_pos (by omega), if_pos (by omega), if_pos (by omega), Int.toNat_natCast, Oc.ex_front s at_ k (by omega), Oc.ex_back]
theorem split_ev (s : ByteArray) (k d : Nat) (hk : 1 ≤ k) (hs : s.size = d * k) (hd : d ≤ 1000) : Ev (fun q => octet_Split.f q s (k : Int)) (piecesF s k 0 d, true) := by
  have h2 := split_loop s k hk d 0 [] (by omega) (by simp; omega)
  have e0 : s.extract 0 s.size = s := Cr.ba_ext (by rw [Oc.ex_data, List.drop_zero, Cr.ba_size, List.take_length])
  rw [e0, List.nil_append] at h2
  have hz' : ((s.size : Int) % (k : Int)) = 0 := by rw [hs, ← Int.natCast_emod, Nat.mul_mod_left]; rfl
  refine Ev.congr (f := fun q => octet_Split.j0 q s (k : Int) false) (fun q => ?_) (Ev.step (fun q => ?_) h2)
  · unfold octet_Split.f; rw [if_neg (by omega), if_neg (by omega), hz', decide_eq_false (by omega)]
  · rw [octet_Split.j0, if_neg (by decide)]
/-! ### the vector of bytes -/
def co (s : ByteArray) (at_ : Nat) : Int := (Oc.numN ((s.data.toList.drop at_).take 4) : Int) - 2147483648
def coords (s : ByteArray) : Nat → Nat → List Int
  | _, 0 => []
  | at_, d + 1 => co s at_ :: coords s (at_ + 4) d
theorem coords_len (s : ByteArray) : ∀ d at_, (coords s at_ d).length = d := by
  intro d; induction d with
  | zero => intro a; rfl
  | succ d ih => intro a; rw [coords, List.length_cons, ih]
def vecR (s : ByteArray) (d : Nat) : List Int × Bool := if (coords s 0 d).all fits = true then (coords s 0 d, true) else ([], false)
theorem co_wrap (s : ByteArray) (p : Nat) : wrap64 ((Oc.numN ((s.data.toList.drop p).take 4) : Int) - 2147483648) = co s p := by
  have hb : Oc.numN ((s.data.toList.drop p).take 4) < 256 ^ 4 := num4 _ 4 (by rw [List.length_take]; omega)
  unfold co wrap64; omega
theorem getc (s : ByteArray) (p : Nat) (hs : s.size ≤ 100000) (h : p + 4 ≤ s.size) : octet_GetCoord.f s (p : Int) = some (co s p, true) := by
  unfold octet_GetCoord.f
  rw [Oc.get_bv s (p : Int) 4 (by omega) (by simp [Lit.wf, IntKind.min, IntKind.max, IntKind.signed, IntKind.bits]; omega), show Oc.getB s (p : Int) 4 = _ from getB_in s p 4 (by decide) (by decide) h, Option.bind_some, if_pos rfl, co_wrap]
theorem co_ex (s : ByteArray) (a b p : Nat) (h : a + p + 4 ≤ b) : co (s.extract a b) p = co s (a + p) := by
  unfold co
  rw [Oc.ex_data, List.drop_drop, List.drop_take, List.take_take, show min 4 (b - (a + p)) = 4 by omega]
theorem map_co (s : ByteArray) : ∀ d at_, (piecesF s 4 at_ d).map (fun b => co b 0) = coords s at_ d := by
  intro d; induction d with
  | zero => intro a; rfl
  | succ d ih =>
    intro a
    rw [piecesF, List.map_cons, ih, coords, co_ex s a (a + 4) 0 (by omega)]; rfl
theorem pieces_sz (s : ByteArray) (k : Nat) : ∀ d at_, at_ + d * k ≤ s.size → ∀ b ∈ piecesF s k at_ d, b.size = k := by
  intro d; induction d with
  | zero => intro a _ b hb; simp [piecesF] at hb
  | succ d ih =>
    intro a h b hb
    rw [Nat.add_mul, Nat.one_mul] at h
    have h0 : 0 ≤ d * k := Nat.zero_le _
    rw [piecesF, List.mem_cons] at hb
    rcases hb with rfl | hb
    · rw [Oc.ex_size _ _ _ (by omega)]; omega
    · exact ih (a + k) (by omega) b hb
theorem onev (b : ByteArray) (hb : b.size = 4) : dataset_each_vec.one b = some (co b 0, fits (co b 0)) := by
  unfold dataset_each_vec.one
  rw [show octet_GetCoord.f b 0 = some (co b 0, true) from getc b 0 (by omega) (by omega), Option.bind_some, if_pos rfl, may_b, Option.bind_some]
theorem vector_ev (s : ByteArray) (d : Nat) (h1 : 1 ≤ d) (h2 : d ≤ 1000) (hs : s.size = d * 4) : Ev (fun k => dataset_Vector.f k s (d : Int)) (vecR s d) := by
  have hw : wrap64 ((d : Int) * 4) = ((d * 4 : Nat) : Int) := by unfold wrap64; omega
  refine Ev.congr (f := fun k => dataset_Vector.j0 k s false) (fun k => ?_) ?_
  · unfold dataset_Vector.f
    rw [if_neg (by omega), if_neg (by omega), hw, hs]
    congr 1
    simp
  refine Ev.step (fun k => by rw [dataset_Vector.j0, if_neg (by decide)]) ?_
  refine Ev.bind (split_ev s 4 d (by decide) hs h2) ?_
  refine Ev.congr (f := fun _ => some (vecR s d)) (fun k => ?_) (Ev.now _)
  rw [if_pos rfl]
  unfold dataset_each_vec.f
  rw [if_pos (by rw [pieces_len]; omega), go3, goG_all dataset_each_vec.one (fun b => co b 0) (fun b => fits (co b 0)) _ [] (fun b hb => onev b (pieces_sz s 4 d 0 (by omega) b hb)), Option.bind_some, List.nil_append, map_co]
  have ha : (piecesF s 4 0 d).all (fun b => fits (co b 0)) = (coords s 0 d).all fits := by rw [← map_co s d 0, List.all_map]; rfl
  rw [ha]
  unfold vecR
  split <;> rfl

/-! ### places -/
theorem wrap_p3 (n d : Nat) (hn : n ≤ 4096) (hd : d ≤ 1048576) : wrap64 (10 + (wrap64 ((wrap64 (4 * (n : Int))) * (d : Int)))) = ((10 + 4 * n * d : Nat) : Int) := by
  have hp : n * d ≤ 4294967296 := Nat.le_trans (Nat.mul_le_mul hn hd) (by decide)
  have e : wrap64 (4 * (n : Int)) = ((4 * n : Nat) : Int) := by unfold wrap64; omega
  rw [e, ← Int.natCast_mul]; clear e
  have hq : 4 * n * d = 4 * (n * d) := Nat.mul_assoc _ _ _
  generalize n * d = p at hp hq
  generalize 4 * n * d = q at hq
  have e : wrap64 (q : Int) = (q : Int) := by unfold wrap64; omega
  rw [e]; clear e
  have e : wrap64 (10 + (q : Int)) = 10 + (q : Int) := by unfold wrap64; omega
  rw [e]; clear e
  omega
theorem ex_ex (s : ByteArray) (p a k : Nat) (h : p + a + k ≤ s.size) : (s.extract p s.size).extract a (a + k) = s.extract (p + a) (p + a + k) := by
  apply Cr.ba_ext
  rw [Oc.ex_data, Oc.ex_data, Oc.ex_data, Cr.ba_size, List.take_length, List.drop_take, List.drop_take, List.drop_drop]
  congr 1; omega
theorem pieces_ex (s : ByteArray) (p k : Nat) : ∀ d at_, p + at_ + d * k ≤ s.size → piecesF (s.extract p s.size) k at_ d = piecesF s k (p + at_) d := by
  intro d; induction d with
  | zero => intro a _; rfl
  | succ d ih =>
    intro a h
    rw [Nat.add_mul, Nat.one_mul] at h
    have h0 : 0 ≤ d * k := Nat.zero_le _
    rw [piecesF, piecesF, ex_ex s p a k (by omega), ih (a + k) (by omega), Nat.add_assoc p a k]
def rowsV (s : ByteArray) (d at_ n : Nat) : Bool := (piecesF s (d * 4) at_ n).all fun b => (vecR b d).2
def rowsL (s : ByteArray) (d at_ n : Nat) : List (List Int) := (piecesF s (d * 4) at_ n).map fun b => (vecR b d).1
theorem rows_len (s : ByteArray) (d at_ n : Nat) : (rowsL s d at_ n).length = n := by unfold rowsL; rw [List.length_map, pieces_len]
theorem vecR_len (b : ByteArray) (d : Nat) : (vecR b d).1.length ≤ d := by
  unfold vecR; split
  · exact Nat.le_of_eq (coords_len _ _ _)
  · simp
theorem rows_each (s : ByteArray) (d at_ n : Nat) : ∀ v ∈ rowsL s d at_ n, v.length ≤ d := by
  intro v hv
  obtain ⟨b, _, rfl⟩ := List.mem_map.mp hv
  exact vecR_len b d
/-- What is parsed. -/
def parseF (s : ByteArray) : List (List Int) × Int :=
  if (shapeF (s.extract 0 (min s.size 10)) (s.size : Int)).2.2 = 0 ∧ rowsV s (shapeF (s.extract 0 (min s.size 10)) (s.size : Int)).2.1.toNat 10 (shapeF (s.extract 0 (min s.size 10)) (s.size : Int)).1.toNat = true
  then (rowsL s (shapeF (s.extract 0 (min s.size 10)) (s.size : Int)).2.1.toNat 10 (shapeF (s.extract 0 (min s.size 10)) (s.size : Int)).1.toNat, 0) else ([], 7)
/-- A head that says so: the numbers. -/
theorem shape_ok (h : ByteArray) (size : Int) (hz : (shapeF h size).2.2 = 0) : ∃ n d : Nat, shapeF h size = ((n : Int), (d : Int), 0) ∧ h.size = 10 ∧ h.data.toList.take 4 = [86, 69, 67, 49] ∧ (1 ≤ n ∧ n ≤ 1048576) ∧ (1 ≤ d ∧ d ≤ 4096) ∧ size = ((10 + 4 * n * d : Nat) : Int) ∧ n = Oc.numN ((h.data.toList.drop 4).take 4) ∧ d = Oc.numN ((h.data.toList.drop 8).take 2) := by
  unfold shapeF at hz ⊢
  split at hz
  · rename_i c
    exact ⟨_, _, by rw [if_pos c], c.1, c.2.1, c.2.2.1, c.2.2.2.1, c.2.2.2.2, rfl, rfl⟩
  · simp at hz
theorem shape_no (h : ByteArray) (size : Int) (hz : ¬ (shapeF h size).2.2 = 0) : shapeF h size = (0, 0, 7) := by
  unfold shapeF at hz ⊢
  split
  · rename_i c; rw [if_pos c] at hz; simp at hz
  · rfl
theorem small (n d : Nat) (hn : 1 ≤ n) (hd : 1 ≤ d) (h : 10 + 4 * n * d ≤ 2000) : n ≤ 900 ∧ d ≤ 900 ∧ n * (d * 4) = 4 * n * d := by
  have e : n * (d * 4) = 4 * n * d := by rw [Nat.mul_assoc, Nat.mul_comm 4 (n * d), Nat.mul_assoc]
  have h1 : n ≤ n * d := Nat.le_mul_of_pos_right n hd
  have h2 : d ≤ n * d := Nat.le_mul_of_pos_left d hn
  have e2 : 4 * n * d = 4 * (n * d) := Nat.mul_assoc _ _ _
  omega
theorem parse_ev (s : ByteArray) (hs : s.size ≤ 2000) : Ev (fun k => dataset_Parse.f k s) (parseF s) := by
  refine Ev.bind (shape_ev (s.extract 0 (min s.size 10)) (s.size : Int)) ?_
  unfold parseF
  by_cases hz : (shapeF (s.extract 0 (min s.size 10)) (s.size : Int)).2.2 = 0
  case neg =>
    rw [shape_no _ _ hz, if_neg (by simp)]
    exact Ev.congr (f := fun _ => some ([], 7)) (fun k => if_neg (by decide)) (Ev.now _)
  obtain ⟨n, d, e, h10, _, hn, hd, hsz, _, _⟩ := shape_ok _ _ hz
  rw [e]
  have h10' : 10 ≤ s.size := by rw [Oc.ex_size _ _ _ (Nat.min_le_left _ _)] at h10; omega
  obtain ⟨n1, d1, e1⟩ := small n d hn.1 hd.1 (by omega)
  have hex : (s.extract 10 s.size).size = n * (d * 4) := by rw [Oc.ex_size _ _ _ (Nat.le_refl _), e1]; omega
  have hw : wrap64 ((d : Int) * 4) = ((d * 4 : Nat) : Int) := by unfold wrap64; omega
  refine Ev.congr (fun k => (if_pos rfl).trans (if_pos h10')) ?_
  refine Ev.bind (g := fun k => octet_Split.f k (s.extract 10 s.size) (wrap64 ((d : Int) * 4))) (f := fun k l => if l.1.length ≤ 1000000000 then (dataset_each_string_int_113.go (fun b => dataset_Vector.f k b (d : Int)) [] l.1).bind fun q => if q.2 = true then some (q.1, 0) else some ([], 7) else none) (Ev.congr (fun k => by rw [hw]) (split_ev (s.extract 10 s.size) (d * 4) n (by omega) hex (by omega))) ?_
  refine Ev.congr (fun k => by rw [if_pos (by rw [pieces_len]; omega), go4]) ?_
  have hp : piecesF (s.extract 10 s.size) (d * 4) 0 n = piecesF s (d * 4) 10 n := pieces_ex s 10 (d * 4) n 0 (by rw [e1]; omega)
  have hg := goG_ev (fun k b => dataset_Vector.f k b (d : Int)) (fun b => vecR b d) (piecesF s (d * 4) 10 n) [] (fun b hb => vector_ev b d hd.1 (by omega) (pieces_sz s (d * 4) n 10 (by rw [e1]; omega) b hb))
  rw [hp]
  refine Ev.bind hg ?_
  show Ev _ (if 0 = 0 ∧ rowsV s d 10 n = true then (rowsL s d 10 n, 0) else ([], 7))
  by_cases hv : rowsV s d 10 n = true
  · rw [show (if (0 : Int) = 0 ∧ rowsV s d 10 n = true then (rowsL s d 10 n, (0 : Int)) else ([], 7)) = (rowsL s d 10 n, 0) from if_pos ⟨rfl, hv⟩]
    refine Ev.congr (f := fun _ => some _) (fun k => ?_) (Ev.now _)
    rw [show ((piecesF s (d * 4) 10 n).all fun x => (vecR x d).2) = true from hv]
    rfl
  · rw [show (if (0 : Int) = 0 ∧ rowsV s d 10 n = true then (rowsL s d 10 n, (0 : Int)) else ([], 7)) = ([], 7) from if_neg (by rintro ⟨_, h⟩; exact hv h)]
    refine Ev.congr (f := fun _ => some _) (fun k => ?_) (Ev.now _)
    rw [show ((piecesF s (d * 4) 10 n).all fun x => (vecR x d).2) = false by rw [Bool.eq_false_iff]; exact hv]
    rfl
theorem parse_small (s : ByteArray) (hs : s.size ≤ 2000) : (parseF s).1.length ≤ 900 ∧ ∀ v ∈ (parseF s).1, v.length ≤ 900 := by
  unfold parseF
  split
  · rename_i c
    obtain ⟨n, d, e, h10, _, hn, hd, hsz, _, _⟩ := shape_ok _ _ c.1
    obtain ⟨n1, d1, e1⟩ := small n d hn.1 hd.1 (by omega)
    rw [e]
    refine ⟨by show (rowsL s d 10 n).length ≤ _; rw [rows_len]; exact n1, fun v hv => Nat.le_trans (rows_each s d 10 n v hv) d1⟩
  · simp
/-! ### lists held against themselves -/
theorem samel_loop (v : List Int) (hv : v.length ≤ 1000) : ∀ d j, j + d = v.length → Ev (fun k => chainmanref10_SameList.l0 k v v (j : Int)) true := by
  intro d
  induction d with
  | zero =>
    intro j hj
    exact Ev.step (f := fun _ => some true) (fun k => by rw [chainmanref10_SameList.l0, if_neg (by omega)]) (Ev.now _)
  | succ d ih =>
    intro j hj
    exact Ev.step (fun k => by rw [chainmanref10_SameList.l0, if_pos (by omega), if_pos (by omega), if_pos (by omega), if_pos rfl, wsucc j (by omega)]) (ih (j + 1) (by omega))
theorem samel_ev (v : List Int) (hv : v.length ≤ 1000) : Ev (fun k => chainmanref10_SameList.f k v v) true :=
  Ev.congr (fun k => by unfold chainmanref10_SameList.f; rw [if_pos rfl]; rfl) (samel_loop v hv v.length 0 (by omega))
theorem same_loop (l : List (List Int)) (hl : l.length ≤ 1000) (hv : ∀ v ∈ l, v.length ≤ 1000) : ∀ d i, i + d = l.length → Ev (fun k => chainmanref10_Same.l0 k l l (i : Int)) true := by
  intro d
  induction d with
  | zero =>
    intro i hi
    exact Ev.step (f := fun _ => some true) (fun k => by rw [chainmanref10_Same.l0, if_neg (by omega)]) (Ev.now _)
  | succ d ih =>
    intro i hi
    have hlt : i < l.length := by omega
    refine Ev.step (fun k => by rw [chainmanref10_Same.l0, if_pos (by omega), if_pos (by omega), if_pos (by omega), rdL l i hlt]) ?_
    refine Ev.bind (samel_ev l[i] (hv _ (List.getElem_mem hlt))) ?_
    exact Ev.congr (fun k => by rw [if_pos rfl, wsucc i (by omega)]) (ih (i + 1) (by omega))
theorem same_ev (l : List (List Int)) (hl : l.length ≤ 1000) (hv : ∀ v ∈ l, v.length ≤ 1000) : Ev (fun k => chainmanref10_Same.f k l l) true :=
  Ev.congr (fun k => by unfold chainmanref10_Same.f; rw [if_pos rfl]; rfl) (same_loop l hl hv l.length 0 (by omega))
/-! ### few lists -/
theorem few_ev (l : List (List Int)) : ∀ d i : Nat, i + d = 20 → (∀ x ∈ l.take i, x.length ≤ 20) → ∃ b, Ev (fun k => chainmanref10_Few.l0 k l 20 20 (i : Int)) b ∧ (b = true → l.length ≤ 20 ∧ ∀ x ∈ l, x.length ≤ 20) := by
  intro d
  induction d with
  | zero =>
    intro i hi h
    refine ⟨decide ((l.length : Int) ≤ 20), ?_, ?_⟩
    · refine Ev.step (f := fun k => chainmanref10_Few.j1 k l 20 20 (i : Int) false) (fun k => ?_) (Ev.step (f := fun _ => some _) (fun k => by rw [chainmanref10_Few.j1, if_neg (by decide)]) (Ev.now _))
      rw [chainmanref10_Few.l0]
      split
      · rw [decide_eq_false (by omega)]
      · rfl
    · intro hb
      have := of_decide_eq_true hb
      exact ⟨by omega, fun x hx => h x (by rw [List.take_of_length_le (by omega)]; exact hx)⟩
  | succ d ih =>
    intro i hi h
    by_cases hlt : i < l.length
    · by_cases hs : l[i].length ≤ 20
      · obtain ⟨b, hb, hb'⟩ := ih (i + 1) (by omega) (by
          intro x hx
          rw [List.take_add_one, List.getElem?_eq_getElem hlt, Option.toList_some, List.mem_append, List.mem_singleton] at hx
          rcases hx with hx | rfl
          · exact h x hx
          · exact hs)
        refine ⟨b, Ev.step (f := fun k => chainmanref10_Few.j1 k l 20 20 (i : Int) true) (fun k => ?_) (Ev.step (fun k => ?_) hb), hb'⟩
        · rw [chainmanref10_Few.l0, if_pos (by omega), decide_eq_true (by omega)]
        · rw [chainmanref10_Few.j1, if_pos rfl, if_pos (by omega), if_pos (by omega), rdL l i hlt, if_neg (by omega), wsucc i (by omega)]
      · refine ⟨false, Ev.step (f := fun k => chainmanref10_Few.j1 k l 20 20 (i : Int) true) (fun k => ?_) (Ev.step (f := fun _ => some false) (fun k => ?_) (Ev.now _)), by simp⟩
        · rw [chainmanref10_Few.l0, if_pos (by omega), decide_eq_true (by omega)]
        · rw [chainmanref10_Few.j1, if_pos rfl, if_pos (by omega), if_pos (by omega), rdL l i hlt, if_pos (by omega)]
    · refine ⟨decide ((l.length : Int) ≤ 20), Ev.step (f := fun k => chainmanref10_Few.j1 k l 20 20 (i : Int) false) (fun k => ?_) (Ev.step (f := fun _ => some _) (fun k => by rw [chainmanref10_Few.j1, if_neg (by decide)]) (Ev.now _)), ?_⟩
      · rw [chainmanref10_Few.l0, if_neg (by omega)]
      · intro hb
        have := of_decide_eq_true hb
        exact ⟨by omega, fun x hx => h x (by rw [List.take_of_length_le (by omega)]; exact hx)⟩
theorem few_all (l : List (List Int)) : ∃ b, Ev (fun k => chainmanref10_Few.f k l 20 20) b ∧ (b = true → l.length ≤ 20 ∧ ∀ x ∈ l, x.length ≤ 20) := few_ev l 20 0 rfl (by simp)
theorem awake_ev : Ev (fun k => chainmanlaw10_awake.f k) true := Ev.of (fun k => chainmanlaw10_awake.mono k) (k := 30) (by decide +kernel)

/-! ### a place alone -/
theorem place_in' (d i : Nat) (h1 : 1 ≤ d) (h2 : d ≤ 4096) (hi : i ≤ 1048576) : dataset_Place.f (d : Int) (i : Int) = some ((10 + 4 * d * i : Nat) : Int) := by
  unfold dataset_Place.f
  rw [if_neg (by omega), if_neg (by omega), if_neg (by omega), if_neg (by omega), wrap_p1 i d hi h2, Nat.mul_assoc 4 i d, Nat.mul_comm i d, ← Nat.mul_assoc]
/-! ### vectors come back -/
theorem co_cw (s : ByteArray) (at_ : Nat) (x : Int) (R : List UInt8) (hx : in32 x) (h : s.data.toList.drop at_ = (cw x).data.toList ++ R) : co s at_ = x := by
  unfold in32 at hx
  obtain ⟨m, hm⟩ := Int.eq_ofNat_of_zero_le (show 0 ≤ x + 2147483648 by omega)
  unfold co
  rw [h, cw_data, hm, Int.toNat_natCast, List.take_append_of_le_length (by rw [beU_len]; omega), List.take_of_length_le (by rw [beU_len]; omega), numN_beU, Nat.mod_eq_of_lt (by omega)]
  omega
theorem coords_vec (s : ByteArray) : ∀ (v : List Int) (at_ : Nat) (R : List UInt8), v.all fits = true → s.data.toList.drop at_ = vecL v ++ R → coords s at_ v.length = v := by
  intro v; induction v with
  | nil => intro a R _ _; rfl
  | cons x v ih =>
    intro a R hf h
    rw [List.all_cons, Bool.and_eq_true] at hf
    have hx := (fits_iff x).mp hf.1
    rw [vecL_cons, List.append_assoc] at h
    have h4 : (cw x).data.toList.length = 4 := by rw [← Cr.ba_size, cw_size]
    rw [List.length_cons, coords, co_cw s a x _ ⟨by omega, by omega⟩ h, ih (a + 4) R hf.2 (by rw [← List.drop_drop, h, ← h4, List.drop_left])]
theorem vec_at (s : ByteArray) (at_ d : Nat) (v : List Int) (R : List UInt8) (hv : v.length = d) (hf : v.all fits = true) (h : s.data.toList.drop at_ = vecL v ++ R) : vecR (s.extract at_ (at_ + d * 4)) d = (v, true) := by
  have hb : (s.extract at_ (at_ + d * 4)).data.toList.drop 0 = vecL v ++ [] := by
    rw [List.drop_zero, Oc.ex_data, List.drop_take, h, Nat.add_sub_cancel_left, List.append_nil, List.take_append_of_le_length (by rw [vecL_len]; omega), List.take_of_length_le (by rw [vecL_len]; omega)]
  have hc := coords_vec (s.extract at_ (at_ + d * 4)) v 0 [] hf hb
  rw [hv] at hc
  unfold vecR
  rw [hc, if_pos hf]
theorem rows_of (s : ByteArray) (d : Nat) : ∀ (l : List (List Int)) (at_ : Nat), (∀ v ∈ l, v.length = d ∧ v.all fits = true) → s.data.toList.drop at_ = (l.map vecL).flatten → rowsV s d at_ l.length = true ∧ rowsL s d at_ l.length = l := by
  intro l; induction l with
  | nil => intro a _ _; exact ⟨rfl, rfl⟩
  | cons v l ih =>
    intro a hl h
    obtain ⟨h1, h2⟩ := hl v (by simp)
    rw [List.map_cons, List.flatten_cons] at h
    have hp := vec_at s a d v _ h1 h2 h
    have hvl : (vecL v).length = d * 4 := by rw [vecL_len]; omega
    obtain ⟨i1, i2⟩ := ih (a + d * 4) (fun w hw => hl w (by simp [hw])) (by rw [← List.drop_drop, h, ← hvl, List.drop_left])
    constructor
    · show ((vecR (s.extract a (a + d * 4)) d).2 && rowsV s d (a + d * 4) l.length) = true
      rw [hp, i1]; rfl
    · show (vecR (s.extract a (a + d * 4)) d).1 :: rowsL s d (a + d * 4) l.length = v :: l
      rw [hp, i2]
theorem flat_len (l : List (List Int)) (d : Nat) (h : ∀ v ∈ l, v.length = d) : ((l.map vecL).flatten).length = l.length * (4 * d) := by
  induction l with
  | nil => simp
  | cons v l ih =>
    rw [List.map_cons, List.flatten_cons, List.length_append, vecL_len, ih (fun y hy => h y (by simp [hy])), h v (by simp), List.length_cons, Nat.add_mul]; omega
theorem lay_facts (l : List (List Int)) (hr : rightB l = true) : 1 ≤ l.length ∧ 1 ≤ (l.headD []).length ∧ (∀ v ∈ l, v.length = (l.headD []).length ∧ v.all fits = true) ∧ (layL l).length = 10 + l.length * (4 * (l.headD []).length) ∧ (layL l).drop 10 = (l.map vecL).flatten ∧ (layL l).take 4 = [86, 69, 67, 49] ∧ ((layL l).drop 4).take 4 = beU l.length 4 ∧ ((layL l).drop 8).take 2 = beU (l.headD []).length 2 := by
  unfold rightB at hr
  rw [Bool.and_eq_true, decide_eq_true_eq] at hr
  obtain ⟨h1, h2⟩ := hr
  have hpos : 1 ≤ l.length := by
    cases l with
    | nil => simp at h1
    | cons v l => simp
  have h3 : ∀ v ∈ l, v.length = (l.headD []).length ∧ v.all fits = true := fun v hv => by
    have := List.all_eq_true.mp h2 v hv
    unfold vecP at this
    rw [Bool.and_eq_true, decide_eq_true_eq] at this
    exact ⟨this.2, this.1⟩
  have l4 := beU_len l.length 4
  have l2 := beU_len (l.headD []).length 2
  have hlay : layL l = [86, 69, 67, 49] ++ (beU l.length 4 ++ (beU (l.headD []).length 2 ++ (l.map vecL).flatten)) := by unfold layL; simp only [List.append_assoc]
  have hd4 : (layL l).drop 4 = beU l.length 4 ++ (beU (l.headD []).length 2 ++ (l.map vecL).flatten) := by rw [hlay]; rfl
  have hd8 : (layL l).drop 8 = beU (l.headD []).length 2 ++ (l.map vecL).flatten := by
    rw [show (8 : Nat) = 4 + 4 from rfl, ← List.drop_drop, hd4]
    exact (congrArg (fun k => List.drop k _) l4.symm).trans List.drop_left
  have hd10 : (layL l).drop 10 = (l.map vecL).flatten := by
    rw [show (10 : Nat) = 8 + 2 from rfl, ← List.drop_drop, hd8]
    exact (congrArg (fun k => List.drop k _) l2.symm).trans List.drop_left
  refine ⟨hpos, h1, h3, ?_, hd10, by rw [hlay]; rfl, by rw [hd4]; exact (congrArg (fun k => List.take k _) l4.symm).trans List.take_left, by rw [hd8]; exact (congrArg (fun k => List.take k _) l2.symm).trans List.take_left⟩
  rw [hlay, List.length_append, List.length_append, List.length_append, l4, l2, flat_len l _ (fun v hv => (h3 v hv).1)]
  show 4 + _ = _
  omega
theorem parse_lay (l : List (List Int)) (hl : l.length ≤ 20) (hv : ∀ v ∈ l, v.length ≤ 20) (hr : rightB l = true) (t : ByteArray) (ht : t.data.toList = layL l) : parseF t = (l, 0) ∧ t.size = 10 + l.length * (4 * (l.headD []).length) := by
  obtain ⟨h1, h2, h3, h4, h5, h6, h7, h8⟩ := lay_facts l hr
  have hsz : t.size = 10 + l.length * (4 * (l.headD []).length) := by rw [Cr.ba_size, ht, h4]
  refine ⟨?_, hsz⟩
  have hh : (l.headD []).length ≤ 20 := by
    cases l with
    | nil => simp
    | cons v l => exact hv v (by simp)
  have hmin : min t.size 10 = 10 := by omega
  have hx : (t.extract 0 10).data.toList = (layL l).take 10 := by rw [Oc.ex_data, List.drop_zero, ht]
  have hxs : (t.extract 0 10).size = 10 := by rw [Oc.ex_size _ _ _ (by omega)]
  have e1 : (t.extract 0 10).data.toList.take 4 = [86, 69, 67, 49] := by rw [hx, List.take_take]; exact h6
  have e2 : ((t.extract 0 10).data.toList.drop 4).take 4 = beU l.length 4 := by rw [hx, List.drop_take, List.take_take]; exact h7
  have e3 : ((t.extract 0 10).data.toList.drop 8).take 2 = beU (l.headD []).length 2 := by rw [hx, List.drop_take, List.take_take]; exact h8
  have n1 : Oc.numN (beU l.length 4) = l.length := by rw [numN_beU, Nat.mod_eq_of_lt (by omega)]
  have n2 : Oc.numN (beU (l.headD []).length 2) = (l.headD []).length := by rw [numN_beU, Nat.mod_eq_of_lt (by omega)]
  have hmul : l.length * (4 * (l.headD []).length) = 4 * l.length * (l.headD []).length := by rw [← Nat.mul_assoc, Nat.mul_comm l.length 4]
  have hs : shapeF (t.extract 0 10) (t.size : Int) = ((l.length : Int), ((l.headD []).length : Int), 0) := by
    unfold shapeF
    rw [e2, e3, n1, n2]
    exact if_pos ⟨hxs, e1, by omega, by omega, by rw [hsz, hmul]⟩
  obtain ⟨r1, r2⟩ := rows_of t (l.headD []).length l 10 h3 (by rw [ht]; exact h5)
  unfold parseF
  rw [hmin, hs]
  show (if 0 = 0 ∧ rowsV t (l.headD []).length 10 l.length = true then (rowsL t (l.headD []).length 10 l.length, 0) else ([], 7)) = (l, 0)
  rw [if_pos ⟨rfl, r1⟩, r2]
/-! ### and bytes are written as they were -/
theorem cw_co (s : ByteArray) (p : Nat) (h : p + 4 ≤ s.size) : (cw (co s p)).data.toList = (s.data.toList.drop p).take 4 := by
  have hl : ((s.data.toList.drop p).take 4).length = 4 := take_len _ p 4 (by rw [← Cr.ba_size]; exact h)
  have hb := num4 ((s.data.toList.drop p).take 4) 4 (by omega)
  have hu := beU_num ((s.data.toList.drop p).take 4)
  rw [hl] at hu
  rw [cw_data]
  unfold co
  rw [show ((Oc.numN ((s.data.toList.drop p).take 4) : Int) - 2147483648 + 2147483648).toNat = Oc.numN ((s.data.toList.drop p).take 4) by omega, hu]
theorem vecL_coords (s : ByteArray) : ∀ d at_, at_ + d * 4 ≤ s.size → vecL (coords s at_ d) = (s.data.toList.drop at_).take (d * 4) := by
  intro d; induction d with
  | zero => intro a _; simp [coords, vecL, catL]
  | succ d ih =>
    intro a h
    rw [coords, vecL_cons, cw_co s a (by omega), ih (a + 4) (by omega), show (d + 1) * 4 = 4 + d * 4 by omega, List.take_add, List.drop_drop]
theorem vecL_vecR (b : ByteArray) (d : Nat) (hb : b.size = d * 4) (hv : (vecR b d).2 = true) : (vecR b d).1.length = d ∧ (vecR b d).1.all fits = true ∧ vecL (vecR b d).1 = b.data.toList := by
  unfold vecR at hv ⊢
  split at hv
  · rename_i c
    rw [if_pos c]
    exact ⟨coords_len _ _ _, c, by show vecL (coords b 0 d) = _; rw [vecL_coords b d 0 (by omega), List.drop_zero, ← hb, Cr.ba_size, List.take_length]⟩
  · simp at hv
theorem rows_flat (s : ByteArray) (d : Nat) : ∀ n at_, at_ + n * (d * 4) ≤ s.size → rowsV s d at_ n = true → ((rowsL s d at_ n).map vecL).flatten = (s.data.toList.drop at_).take (n * (d * 4)) ∧ ∀ v ∈ rowsL s d at_ n, v.length = d ∧ v.all fits = true := by
  intro n; induction n with
  | zero => intro a _ _; exact ⟨by simp [rowsL, piecesF], fun v hv => by simp [rowsL, piecesF] at hv⟩
  | succ n ih =>
    intro a h hv
    rw [Nat.add_mul, Nat.one_mul] at h
    have hnn : 0 ≤ n * (d * 4) := Nat.zero_le _
    have hv' : ((vecR (s.extract a (a + d * 4)) d).2 && rowsV s d (a + d * 4) n) = true := hv
    rw [Bool.and_eq_true] at hv'
    obtain ⟨i1, i2⟩ := ih (a + d * 4) (by omega) hv'.2
    obtain ⟨w1, w2, w3⟩ := vecL_vecR (s.extract a (a + d * 4)) d (by rw [Oc.ex_size _ _ _ (by omega)]; omega) hv'.1
    have hl : rowsL s d a (n + 1) = (vecR (s.extract a (a + d * 4)) d).1 :: rowsL s d (a + d * 4) n := rfl
    rw [hl]
    constructor
    · rw [List.map_cons, List.flatten_cons, w3, i1, Oc.ex_data, List.drop_take, Nat.add_sub_cancel_left, show (n + 1) * (d * 4) = d * 4 + n * (d * 4) by rw [Nat.add_mul, Nat.one_mul, Nat.add_comm], List.take_add, List.drop_drop]
    · intro v hv
      rw [List.mem_cons] at hv
      rcases hv with rfl | hv
      · exact ⟨w1, w2⟩
      · exact i2 v hv
theorem lay_parse (s : ByteArray) (hs : s.size ≤ 2000) (h0 : (parseF s).2 = 0) : rightB (parseF s).1 = true ∧ layL (parseF s).1 = s.data.toList := by
  unfold parseF at h0 ⊢
  split at h0
  case isFalse => simp at h0
  case isTrue c =>
  rw [if_pos c]
  clear h0
  obtain ⟨n, d, e, h10, hm, hn, hd, hsz, e4, e8⟩ := shape_ok _ _ c.1
  have c2 := c.2
  rw [e] at c2 ⊢
  replace c2 : rowsV s d 10 n = true := c2
  show rightB (rowsL s d 10 n) = true ∧ layL (rowsL s d 10 n) = s.data.toList
  have h10' : 10 ≤ s.size := by rw [Oc.ex_size _ _ _ (Nat.min_le_left _ _)] at h10; omega
  rw [show min s.size 10 = 10 by omega] at hm e4 e8
  obtain ⟨n1, d1, e1⟩ := small n d hn.1 hd.1 (by omega)
  obtain ⟨f1, f2⟩ := rows_flat s d n 10 (by rw [e1]; omega) c2
  have hlen := rows_len s d 10 n
  have hx : (s.extract 0 10).data.toList = s.data.toList.take 10 := by rw [Oc.ex_data, List.drop_zero]
  rw [hx, List.take_take] at hm
  rw [hx, List.drop_take, List.take_take] at e4 e8
  replace hm : s.data.toList.take 4 = [86, 69, 67, 49] := hm
  replace e4 : n = Oc.numN ((s.data.toList.drop 4).take 4) := e4
  replace e8 : d = Oc.numN ((s.data.toList.drop 8).take 2) := e8
  have hL := Cr.ba_size s
  have hhead : ((rowsL s d 10 n).headD []).length = d := by
    cases hr : rowsL s d 10 n with
    | nil => rw [hr] at hlen; simp at hlen; omega
    | cons v l => exact (f2 v (by rw [hr]; simp)).1
  constructor
  · unfold rightB
    rw [hhead, Bool.and_eq_true, decide_eq_true_eq]
    refine ⟨hd.1, List.all_eq_true.mpr (fun v hv => ?_)⟩
    unfold vecP
    rw [(f2 v hv).2, (f2 v hv).1]; simp
  · have b4 : beU n 4 = (s.data.toList.drop 4).take 4 := by
      have := beU_num ((s.data.toList.drop 4).take 4)
      rw [take_len _ 4 4 (by omega), ← e4] at this
      exact this
    have b2 : beU d 2 = (s.data.toList.drop 8).take 2 := by
      have := beU_num ((s.data.toList.drop 8).take 2)
      rw [take_len _ 8 2 (by omega), ← e8] at this
      exact this
    unfold layL
    rw [hhead, hlen, f1, b4, b2, ← hm, List.take_of_length_le (show (s.data.toList.drop 10).length ≤ n * (d * 4) by rw [List.length_drop, e1]; omega)]
    rw [← List.take_add, show 4 + 4 = 8 from rfl, ← List.take_add, show 8 + 2 = 10 from rfl, List.take_append_drop]

theorem back_rest (s : ByteArray) (hs : s.size ≤ 700) : Ev (fun k => chainmanlaw10_DatasetBack.j4 k s) true := by
  refine Ev.step (f := fun k => (dataset_Parse.f k s).bind fun bt179 => (if bt179.2 = 0 then ((dataset_Lay.f bt179.1).bind fun bt183 => (if bt183.2 = true then (if bt183.1.toList = s.toList then ((chainmanlaw10_awake.f k).bind fun t185 => (some t185)) else (none)) else (none))) else (if bt179.2 = 7 then (if (bt179.1.length : Int) = 0 then ((chainmanlaw10_awake.f k).bind fun t186 => (some t186)) else (none)) else (none)))) (fun k => by rw [chainmanlaw10_DatasetBack.j4]) ?_
  refine Ev.bind (parse_ev s (by omega)) ?_
  have aw : Ev (fun k => (chainmanlaw10_awake.f k).bind fun t => (some t)) true := Ev.congr (fun k => by cases chainmanlaw10_awake.f k <;> rfl) awake_ev
  by_cases h0 : (parseF s).2 = 0
  · obtain ⟨h1, h2⟩ := lay_parse s (by omega) h0
    obtain ⟨p1, p2⟩ := parse_small s (by omega)
    have hl := lay_b (parseF s).1 (by omega) (fun v hv => by have := p2 v hv; omega)
    unfold layF at hl
    rw [if_pos h1] at hl
    refine Ev.congr (fun k => ?_) aw
    rw [if_pos h0, hl, Option.bind_some, if_pos rfl, if_pos (by rw [ByteArray.toList_eq, ByteArray.toList_eq]; exact h2)]
  · have h7 : parseF s = ([], 7) := by
      unfold parseF at h0 ⊢
      split
      · rename_i c; rw [if_pos c] at h0; simp at h0
      · rfl
    refine Ev.congr (fun k => ?_) aw
    rw [h7, if_neg (by decide), if_pos rfl]
    exact if_pos rfl
theorem back_loop (l : List (List Int)) (s t : ByteArray) (hs : s.size ≤ 700) (hl : l.length ≤ 20) (hv : ∀ v ∈ l, v.length ≤ 20) (d : Nat) (hd : 1 ≤ d ∧ d ≤ 20) (h3 : ∀ v ∈ l, v.length = d ∧ v.all fits = true) (ht : t.data.toList.drop 10 = (l.map vecL).flatten) (hts : t.size = 10 + l.length * (4 * d)) : ∀ m i, i + m = l.length → Ev (fun k => chainmanlaw10_DatasetBack.l0 k l s t (d : Int) (i : Int)) true := by
  intro m
  induction m with
  | zero =>
    intro i hi
    exact Ev.step (fun k => by rw [chainmanlaw10_DatasetBack.l0, if_neg (by omega)]) (back_rest s hs)
  | succ m ih =>
    intro i hi
    have hlt : i < l.length := by omega
    have hpl := (place_in' d i hd.1 (by omega) (by omega))
    have hmul : (i + (m + 1)) * (4 * d) = l.length * (4 * d) := by rw [hi]
    rw [Nat.add_mul, Nat.add_mul, Nat.one_mul] at hmul
    have hid : i * (4 * d) = 4 * d * i := Nat.mul_comm _ _
    have hnn : 0 ≤ m * (4 * d) := Nat.zero_le _
    have hdrop : t.data.toList.drop (10 + 4 * d * i) = vecL l[i] ++ ((l.drop (i + 1)).map vecL).flatten := by
      rw [← List.drop_drop, ht, ← flat_drop l i hlt]
      have : l = l.take i ++ l.drop i := (List.take_append_drop i l).symm
      have hfl := flat_len (l.take i) d (fun v hv' => (h3 v (List.mem_of_mem_take hv')).1)
      rw [List.length_take, show min i l.length = i by omega] at hfl
      have e : (l.map vecL).flatten = ((l.take i).map vecL).flatten ++ ((l.drop i).map vecL).flatten := by rw [← List.flatten_append, ← List.map_append, List.take_append_drop]
      rw [e, show 4 * d * i = (((l.take i).map vecL).flatten).length by rw [hfl]; omega, List.drop_left]
    have hli := h3 _ (List.getElem_mem hlt)
    have hva := vec_at t (10 + 4 * d * i) d l[i] _ hli.1 hli.2 hdrop
    have hts2 : t.size ≤ 1700 := by
      have : l.length * (4 * d) ≤ 20 * 80 := Nat.mul_le_mul hl (by omega)
      omega
    generalize hat : 10 + 4 * d * i = at_ at hpl hva hdrop
    have hle : at_ + d * 4 ≤ t.size := by omega
    have hes : (t.extract at_ (at_ + d * 4)).size = d * 4 := by rw [Oc.ex_size _ _ _ hle]; omega
    have hve := vector_ev (t.extract at_ (at_ + d * 4)) d hd.1 (by omega) hes
    rw [hva] at hve
    have c1 : (i : Int) < (l.length : Int) := by omega
    have c0 : 0 ≤ (i : Int) := by omega
    have c2 : ¬ (at_ : Int) < 10 := by omega
    have c3 : 0 ≤ (at_ : Int) := by omega
    have c4 : (at_ : Int) ≤ ((at_ + d * 4 : Nat) : Int) := by omega
    have c5 : ((at_ + d * 4 : Nat) : Int) ≤ (t.size : Int) := by omega
    have hd2 := hd.2
    have hw : wrap64 ((i : Int) + 1) = ((i + 1 : Nat) : Int) := wsucc i (by omega)
    have hsl := samel_ev l[i] (by omega)
    have hih := ih (i + 1) (by omega)
    have hrd := rdL l i hlt
    have hm2 : at_ + d * 4 ≤ 1700 := by omega
    clear ih hmul hid hnn hts hva hdrop hat hli h3 hv ht
    have w4 : wrap64 (4 * (d : Int)) = ((4 * d : Nat) : Int) := by unfold wrap64; omega
    have w5 : wrap64 ((at_ : Int) + ((4 * d : Nat) : Int)) = ((at_ + d * 4 : Nat) : Int) := by clear w4; unfold wrap64; omega
    have w6 : wrap64 ((t.size : Int) - ((4 * d : Nat) : Int)) = ((t.size - 4 * d : Nat) : Int) := by clear w4 w5; unfold wrap64; omega
    have c6 : ¬ (at_ : Int) > ((t.size - 4 * d : Nat) : Int) := by clear w4 w5 w6; omega
    refine Ev.step (f := fun k => chainmanlaw10_DatasetBack.j3 k l s t (d : Int) (i : Int) (at_ : Int) false) (fun k => by rw [chainmanlaw10_DatasetBack.l0, if_pos c1, hpl, Option.bind_some, if_neg c2, w4, w6, decide_eq_false c6]) ?_
    refine Ev.step (fun k => by rw [chainmanlaw10_DatasetBack.j3, if_neg (by decide), if_pos c3, w4, w5, if_pos c4, if_pos c5, Int.toNat_natCast, Int.toNat_natCast]) ?_
    refine Ev.bind hve ?_
    refine Ev.congr (fun k => by rw [if_pos rfl, if_pos c0, if_pos c1, hrd]) ?_
    refine Ev.bind hsl ?_
    exact Ev.congr (fun k => by rw [if_pos rfl, hw]) hih
theorem DatasetBack : chainmanlaw10_DatasetBack.Pure := by
  intro l s hl0 hs0
  refine Ev.rounds ?_
  have no : ∀ b : Bool, b = true → Ev (fun k => chainmanlaw10_DatasetBack.j0 k l s b) true := fun b hb =>
    Ev.step (f := fun k => chainmanlaw10_awake.f k) (fun k => by rw [chainmanlaw10_DatasetBack.j0, if_pos hb]; cases chainmanlaw10_awake.f k <;> rfl) awake_ev
  obtain ⟨b, hb, hb'⟩ := few_all l
  refine Ev.bind hb ?_
  cases b with
  | false => exact Ev.congr (fun k => if_neg (by decide)) (no true rfl)
  | true =>
    obtain ⟨h1, h2⟩ := hb' rfl
    refine Ev.congr (fun k => if_pos rfl) ?_
    by_cases h7 : (s.size : Int) > 700
    · exact no _ (decide_eq_true h7)
    rw [decide_eq_false h7]
    refine Ev.step (fun k => by rw [chainmanlaw10_DatasetBack.j0, if_neg (by decide)]) ?_
    refine Ev.congr (fun k => by rw [lay_b l (by omega) (fun v hv => by have := h2 v hv; omega), Option.bind_some]) ?_
    refine Ev.bind (right_ev l h1 h2) ?_
    unfold layF
    cases hr : rightB l with
    | false => exact Ev.congr (fun k => by rw [if_neg (by simp), if_neg (by simp)]) (back_rest s (by omega))
    | true =>
      obtain ⟨t, ht⟩ : ∃ t : ByteArray, t = ⟨(layL l).toArray⟩ := ⟨_, rfl⟩
      have htd : t.data.toList = layL l := by rw [ht]
      rw [if_pos rfl, ← ht]
      obtain ⟨p1, p2⟩ := parse_lay l h1 h2 hr t htd
      obtain ⟨f1, f2, f3, f4, f5, _⟩ := lay_facts l hr
      have hh : (l.headD []).length ≤ 20 := by
        cases l with
        | nil => simp
        | cons v l => exact h2 v (by simp)
      have hts : t.size ≤ 2000 := by
        have : l.length * (4 * (l.headD []).length) ≤ 20 * 80 := Nat.mul_le_mul h1 (by omega)
        omega
      have hp := parse_ev t hts
      rw [p1] at hp
      refine Ev.congr (fun k => by rw [if_neg (by simp), if_pos rfl]) ?_
      refine Ev.bind hp ?_
      refine Ev.congr (fun k => by rw [if_pos rfl]) ?_
      refine Ev.bind (same_ev l (by omega) (fun v hv => by have := h2 v hv; omega)) ?_
      refine Ev.step (fun k => by rw [chainmanlaw10_DatasetBack.j1, if_neg (by decide), if_pos (by omega), rdL0 l (by omega)]) ?_
      exact back_loop l s t (by omega) h1 h2 (l.headD []).length ⟨f2, hh⟩ f3 (by rw [htd]; exact f5) p2 l.length 0 (by omega)

end Go.Proofs.Ytmacpgkcokpgjaa.Pure
