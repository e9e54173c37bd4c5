/- The pairs of any graph's edges are the document's; they are clean, and both ends of each are in one list or the other; for up to 12 lists of up to 12 (the law DiffEdges, over numbers and lists alone). -/
import Derived.Test.YtahkkgnicgbncaaDoorPDiffEdgesx16
import Derived.Lib.Strings
import Derived.Lib.ItoaNum
namespace Go.Proofs.YtahkkgnicgbncaaDoor.Pure
open Go.RowKit Go.Proofs.YtahkkgnicgbncaaDoor.PDiffEdges Go.Proofs.YtahkkgnicgbncaaDoorW.PrintWords Go.Proofs.YtahkkgnicgbncaaDoorW.PrintLast
set_option linter.unusedVariables false
set_option linter.unusedSimpArgs false
namespace Oc
def beN (n k : Nat) : List Int := (List.range k).reverse.map fun i => ((n / 256 ^ i % 256 : Nat) : Int)
theorem beN_len (n k : Nat) : (beN n k).length = k := by simp [beN]
theorem beN_succ (n k : Nat) : beN n (k + 1) = ((n / 256 ^ k % 256 : Nat) : Int) :: beN n k := by
 unfold beN
 rw [List.range_succ, List.reverse_append]; rfl
def putB (n k : Int) : ByteArray × Bool := if n < 0 ∨ k < 1 ∨ 8 < k then (⟨#[]⟩, false) else if n.toNat < 256 ^ k.toNat then (strOfNums (beN n.toNat k.toNat), true) else (⟨#[]⟩, false)
theorem octs_be (n : Nat) : octet_Put.octs (n : Int) = beN n 8 := by
 have e7 : (n : Int) / 72057594037927936 % 256 = ((n / 256 ^ 7 % 256 : Nat) : Int) := by rw [show 256 ^ 7 = 72057594037927936 from rfl]; omega
 have e6 : (n : Int) / 281474976710656 % 256 = ((n / 256 ^ 6 % 256 : Nat) : Int) := by rw [show 256 ^ 6 = 281474976710656 from rfl]; omega
 have e5 : (n : Int) / 1099511627776 % 256 = ((n / 256 ^ 5 % 256 : Nat) : Int) := by rw [show 256 ^ 5 = 1099511627776 from rfl]; omega
 have e4 : (n : Int) / 4294967296 % 256 = ((n / 256 ^ 4 % 256 : Nat) : Int) := by rw [show 256 ^ 4 = 4294967296 from rfl]; omega
 have e3 : (n : Int) / 16777216 % 256 = ((n / 256 ^ 3 % 256 : Nat) : Int) := by rw [show 256 ^ 3 = 16777216 from rfl]; omega
 have e2 : (n : Int) / 65536 % 256 = ((n / 256 ^ 2 % 256 : Nat) : Int) := by rw [show 256 ^ 2 = 65536 from rfl]; omega
 have e1 : (n : Int) / 256 % 256 = ((n / 256 ^ 1 % 256 : Nat) : Int) := by rw [show 256 ^ 1 = 256 from rfl]; omega
 have e0 : (n : Int) % 256 = ((n / 256 ^ 0 % 256 : Nat) : Int) := by rw [show 256 ^ 0 = 1 from rfl]; omega
 unfold octet_Put.octs
 rw [e7, e6, e5, e4, e3, e2, e1, e0]
 rfl
theorem beN_take (m k : Nat) : ∀ j, m < 256 ^ (k + j) → ((((beN m (k + j)).take j).all (· == 0) = true) ↔ m < 256 ^ k) := by
 intro j
 induction j with
 | zero => intro h; simpa using h
 | succ j ih =>
  intro h
  have hp : 256 ^ (k + (j + 1)) = 256 ^ (k + j) * 256 := Nat.pow_succ ..
  have hx : m / 256 ^ (k + j) < 256 := Nat.div_lt_of_lt_mul (by omega)
  rw [show k + (j + 1) = (k + j) + 1 from rfl, beN_succ, List.take_succ_cons, List.all_cons, Bool.and_eq_true]
  have hz : ((((m / 256 ^ (k + j) % 256 : Nat) : Int) == 0) = true) ↔ m < 256 ^ (k + j) := by
   rw [beq_iff_eq, Nat.mod_eq_of_lt hx]
   constructor
   ·intro e
    rcases Nat.lt_or_ge m (256 ^ (k + j)) with h' | h'
    ·exact h'
    ·have := Nat.div_pos h' (Nat.pow_pos (by decide)); omega
   ·intro h'; rw [Nat.div_eq_of_lt h']; rfl
  rw [hz]
  constructor
  ·rintro ⟨h1, h2⟩; exact (ih h1).1 h2
  ·intro h1
   have : 256 ^ k ≤ 256 ^ (k + j) := Nat.pow_le_pow_right (by decide) (by omega)
   exact ⟨by omega, (ih (by omega)).2 h1⟩
theorem beN_drop (m k : Nat) : ∀ j, (beN m (k + j)).drop j = beN m k := by
 intro j
 induction j with
 | zero => rfl
 | succ j ih => rw [show k + (j + 1) = (k + j) + 1 from rfl, beN_succ, List.drop_succ_cons, ih]
theorem put_bv (n k : Int) (hn : n < 9223372036854775808) : octet_Put.f n k = some (putB n k) := by
 unfold octet_Put.f putB
 by_cases hb : n < 0 ∨ k < 1 ∨ 8 < k
 ·rw [if_pos hb, if_pos hb]
 ·rw [if_neg hb, if_neg hb]
  obtain ⟨m, rfl⟩ : ∃ m : Nat, n = (m : Int) := ⟨n.toNat, by omega⟩
  obtain ⟨q, rfl⟩ : ∃ q : Nat, k = (q : Int) := ⟨k.toNat, by omega⟩
  have hq8 : q ≤ 8 := by omega
  have hm : m < 256 ^ 8 := by have : 256 ^ 8 = 18446744073709551616 := (by decide); omega
  have e8 : q + (8 - q) = 8 := by omega
  have h1 := beN_take m q (8 - q) (by rw [e8]; exact hm)
  have h2 := beN_drop m q (8 - q)
  rw [e8] at h1 h2
  rw [octs_be, Int.toNat_natCast, Int.toNat_natCast, show ((8 : Int) - (q : Int)).toNat = 8 - q from by omega, h2]
  by_cases hlt : m < 256 ^ q
  ·rw [if_pos (h1.2 hlt), if_pos hlt]
  ·rw [if_neg (fun h => hlt (h1.1 h)), if_neg hlt]
def numN (l : List UInt8) : Nat := l.foldl (fun n c => n * 256 + c.toNat) 0
theorem numN_snoc (l : List UInt8) (c : UInt8) : numN (l ++ [c]) = numN l * 256 + c.toNat := by
 unfold numN
 rw [List.foldl_append]; rfl
theorem snoc_ind (P : List UInt8 → Prop) (h0 : P []) (h1 : ∀ m c, P m → P (m ++ [c])) (l : List UInt8) : P l := by
 have : ∀ n (l : List UInt8), l.length = n → P l := by
  intro n
  induction n with
  | zero => intro l hl; rw [List.length_eq_zero_iff.1 hl]; exact h0
  | succ n ih =>
   intro l hl
   rcases List.eq_nil_or_concat l with rfl | ⟨m, c, rfl⟩
   ·exact h0
   ·rw [List.concat_eq_append] at hl ⊢
    exact h1 m c (ih m (by simpa using hl))
 exact this _ l rfl
theorem numN_lt (l : List UInt8) : numN l < 256 ^ l.length := by
 refine snoc_ind (fun l => numN l < 256 ^ l.length) (by decide) (fun m c ih => ?_) l
 rw [numN_snoc, List.length_append]
 have := c.toNat_lt
 have : 256 ^ (m.length + [c].length) = 256 ^ m.length * 256 := Nat.pow_succ ..
 omega
theorem ba_ext {s t : ByteArray} (h : s.data.toList = t.data.toList) : s = t := by
 cases s; cases t
 simp only [ByteArray.mk.injEq]
 exact Array.toList_inj.1 h
theorem ba_append (s t : ByteArray) : (s ++ t).data.toList = s.data.toList ++ t.data.toList := by
 rw [ByteArray.data_append, Array.toList_append]
theorem ba_size (s : ByteArray) : s.size = s.data.toList.length := by simp
def getB (s : ByteArray) (p k : Int) : Int × Bool :=
 if k < 1 ∨ 8 < k ∨ p < 0 ∨ (s.size : Int) - k < p then (0, false)
 else if numN ((s.data.toList.drop p.toNat).take k.toNat) < 9223372036854775808 then ((numN ((s.data.toList.drop p.toNat).take k.toNat) : Int), true) else (0, false)
theorem wrap_succ (i : Nat) (h : i < 1000000000) : wrap64 ((i : Int) + 1) = ((i + 1 : Nat) : Int) := by unfold wrap64; omega
theorem stepq (q : Nat) (hq : q < 9223372036854775808) : Int.tmod (q : Int) 256 % 256 = ((q % 256 : Nat) : Int) ∧ wrap64 (Int.tdiv (q : Int) 256) = ((q / 256 : Nat) : Int) := by
 rw [Int.tmod_eq_emod_of_nonneg (Int.natCast_nonneg _), Int.tdiv_eq_ediv_of_nonneg (Int.natCast_nonneg _)]
 unfold wrap64
 omega
theorem beN_fits (x : Int) (n i : Nat) (h : i < 9) : (strOfNums [x]).size + (strOfNums (beN n i)).size ≤ 9223372036854775807 := by
 have h1 : (strOfNums [x]).size = 1 := strOfNums_size _
 have h2 : (strOfNums (beN n i)).size = i := (strOfNums_size _).trans (beN_len _ _)
 omega
theorem refl0 (n k : Nat) (hn : n < 9223372036854775808) : ∀ (r f i : Nat), i + r = k → r < f → k ≤ 8 →
  chainmanref02_Put.l0 f ((n / 256 ^ i : Nat) : Int) (k : Int) (strOfNums (beN n i)) (i : Int) = some (if n < 256 ^ k then (strOfNums (beN n k), true) else (⟨#[]⟩, false)) := by
 intro r
 induction r with
 | zero =>
  intro f i hi hf hk
  obtain ⟨f, rfl⟩ : ∃ m, f = m + 1 := ⟨f - 1, by omega⟩
  obtain rfl : i = k := by omega
  rw [chainmanref02_Put.l0, if_neg (by omega)]
  have hz : (0 < n / 256 ^ i) ↔ ¬ n < 256 ^ i := by
   have h := Nat.div_eq_zero_iff (a := n) (b := 256 ^ i)
   have hp : 256 ^ i ≠ 0 := Nat.ne_of_gt (Nat.pow_pos (by decide))
   constructor
   ·intro h1 h2; have := Nat.div_eq_of_lt h2; omega
   ·intro h1; exact Nat.div_pos (by omega) (Nat.pow_pos (by decide))
  by_cases h : n < 256 ^ i
  ·rw [if_neg (by omega), if_pos h]
  ·rw [if_pos (by omega), if_neg h]
 | succ r ih =>
  intro f i hi hf hk
  obtain ⟨f, rfl⟩ : ∃ m, f = m + 1 := ⟨f - 1, by omega⟩
  rw [chainmanref02_Put.l0, if_pos (by omega), Option.bind_some]
  have hsz : (strOfNums [((n / 256 ^ i % 256 : Nat) : Int)]).size + (strOfNums (beN n i)).size ≤ 9223372036854775807 := by
   exact beN_fits _ n i (by omega)
  have a1 : i + 1 + r = k := by omega
  have a2 : r < f := by omega
  have a3 : i < 1000000000 := by omega
  have hq : n / 256 ^ i ≤ n := Nat.div_le_self _ _
  obtain ⟨e1, e2⟩ := stepq (n / 256 ^ i) (Nat.lt_of_le_of_lt hq hn)
  rw [Nat.div_div_eq_div_mul, ← Nat.pow_succ] at e2
  have e3 : wrap64 ((i : Int) + 1) = ((i + 1 : Nat) : Int) := wrap_succ i a3
  have e4 : strOfNums [((n / 256 ^ i % 256 : Nat) : Int)] ++ strOfNums (beN n i) = strOfNums (beN n (i + 1)) := by
   apply ba_ext
   rw [ba_append, strOfNums_data, strOfNums_data, strOfNums_data, beN_succ]; rfl
  rw [e1, if_pos hsz, e2, e4, e3]
  exact ih f (i + 1) a1 a2 hk
theorem refput_bv (n k : Int) (f : Nat) (hf : 20 ≤ f) (hn : n < 9223372036854775808) : chainmanref02_Put.f f n k = some (putB n k) := by
 obtain ⟨f, rfl⟩ : ∃ m, f = m + 1 := ⟨f - 1, by omega⟩
 unfold chainmanref02_Put.f putB
 by_cases h1 : k < 1
 ·rw [if_pos h1, if_pos (.inr (.inl h1)), chainmanref02_Put.j0, if_pos rfl]
 ·rw [if_neg h1]
  by_cases h2 : k > 8
  ·rw [if_pos h2, if_pos (.inr (.inr h2)), chainmanref02_Put.j0, if_pos rfl]
  ·rw [if_neg h2]
   by_cases h3 : n < 0
   ·rw [if_pos (.inl h3), chainmanref02_Put.j0, if_pos (decide_eq_true h3)]
   ·rw [if_neg (by omega), chainmanref02_Put.j0, if_neg (by simpa using h3)]
    obtain ⟨m, rfl⟩ : ∃ m : Nat, n = (m : Int) := ⟨n.toNat, by omega⟩
    obtain ⟨j, rfl⟩ : ∃ j : Nat, k = (j : Int) := ⟨k.toNat, by omega⟩
    have h := refl0 m j (by omega) j f 0 (by omega) (by omega) (by omega)
    rw [Nat.pow_zero, Nat.div_one] at h
    rw [Int.toNat_natCast, Int.toNat_natCast]
    exact h
theorem bt_nat (s : ByteArray) (i : Nat) (h : i < s.data.toList.length) : bt s (i : Int) = ((s.data.toList[i]).toNat : Int) := by
 have h' : i < s.size := by rw [ba_size]; exact h
 unfold bt
 rw [dif_pos (by simpa using h')]
 rfl
theorem numN_grow (l : List UInt8) (j k : Nat) (h : j < k) (hk : k ≤ l.length) : numN (l.take j) * 256 ≤ numN (l.take k) := by
 induction k with
 | zero => omega
 | succ k ih =>
  rw [List.take_succ_eq_append_getElem (show k < l.length by omega), numN_snoc]
  by_cases hjk : j = k
  ·subst hjk; omega
  ·have := ih (by omega) (by omega); omega
theorem wrap_in (x : Int) (h0 : 0 ≤ x) (h1 : x < 9223372036854775808) : wrap64 x = x := by unfold wrap64; omega
theorem wrap_addn (p i : Nat) (h : p + i < 1000000) : wrap64 ((p : Int) + (i : Int)) = ((p + i : Nat) : Int) := by unfold wrap64; omega
theorem wrap_step (x c : Nat) (hx : x < 36028797018963968) (hc : c < 256) : wrap64 (wrap64 ((x : Int) * 256) + wrap64 (c : Int)) = ((x * 256 + c : Nat) : Int) := by
 rw [wrap_in ((x : Int) * 256) (by omega) (by omega), wrap_in (c : Int) (by omega) (by omega), wrap_in _ (by omega) (by omega)]
 omega
theorem refg0 (s : ByteArray) (hs : s.size ≤ 1000000) (p k : Nat) (hpk : p + k ≤ s.size) (hk8 : k ≤ 8) : ∀ (r f i : Nat), i + r = k → r < f → numN ((s.data.toList.drop p).take i) < 9223372036854775808 →
  chainmanref02_Get.l0 f s (p : Int) (k : Int) (numN ((s.data.toList.drop p).take i) : Int) (i : Int) = some (if numN ((s.data.toList.drop p).take k) < 9223372036854775808 then ((numN ((s.data.toList.drop p).take k) : Int), true) else (0, false)) := by
 have hz := ba_size s
 intro r
 induction r with
 | zero =>
  intro f i hi hf hlt
  obtain ⟨f, rfl⟩ : ∃ m, f = m + 1 := ⟨f - 1, by omega⟩
  obtain rfl : i = k := by omega
  rw [chainmanref02_Get.l0, if_neg (by omega), if_pos hlt]
 | succ r ih =>
  intro f i hi hf hlt
  obtain ⟨f, rfl⟩ : ∃ m, f = m + 1 := ⟨f - 1, by clear ih; omega⟩
  have hln : (s.data.toList.drop p).length = s.size - p := by rw [List.length_drop, hz]
  rw [chainmanref02_Get.l0, if_pos (by clear ih; omega)]
  by_cases hbig : numN ((s.data.toList.drop p).take i) ≥ 36028797018963968
  ·have := numN_grow (s.data.toList.drop p) i k (by clear ih; omega) (by clear ih; omega)
   rw [if_pos (by clear ih; omega), if_neg (by clear ih; omega)]
  ·have hpi : p + i < 1000000 := by clear ih; omega
   have hlt2 : p + i < s.data.toList.length := by clear ih; omega
   have g1 : ¬ ((numN ((s.data.toList.drop p).take i) : Int) ≥ 36028797018963968) := by clear ih; omega
   have g2 : (0 : Int) ≤ ((p + i : Nat) : Int) := Int.natCast_nonneg _
   have g3 : ((p + i : Nat) : Int) < (s.size : Int) := by clear ih; omega
   have g4 : i < (s.data.toList.drop p).length := by clear ih; omega
   have g5 : i + 1 + r = k := by clear ih; omega
   have g6 : r < f := by clear ih; omega
   have g7 : i < 1000000000 := by clear ih; omega
   have hc := (s.data.toList[p + i]).toNat_lt
   have hsn : (s.data.toList.drop p).take (i + 1) = (s.data.toList.drop p).take i ++ [s.data.toList[p + i]] := by
    rw [List.take_succ_eq_append_getElem g4, List.getElem_drop]
   have hN : numN ((s.data.toList.drop p).take (i + 1)) = numN ((s.data.toList.drop p).take i) * 256 + (s.data.toList[p + i]).toNat := by rw [hsn, numN_snoc]
   have g8 : numN ((s.data.toList.drop p).take (i + 1)) < 9223372036854775808 := by clear ih; omega
   rw [if_neg g1, wrap_addn p i hpi, if_pos g2, if_pos g3, bt_nat s (p + i) hlt2, wrap_step _ _ (Nat.lt_of_not_ge hbig) hc, ← hN, wrap_succ i g7]
   exact ih f (i + 1) g5 g6 g8
theorem refget_bv (s : ByteArray) (p k : Int) (hs : s.size ≤ 1000000) (hp : (Lit.int .i64 p).wf = true) (f : Nat) (hf : 20 ≤ f) : chainmanref02_Get.f f s p k = some (getB s p k) := by
 have hp' : -9223372036854775808 ≤ p ∧ p ≤ 9223372036854775807 := by simpa [Lit.wf, IntKind.min, IntKind.max, IntKind.signed, IntKind.bits] using hp
 obtain ⟨f, rfl⟩ : ∃ m, f = m + 1 := ⟨f - 1, by omega⟩
 unfold chainmanref02_Get.f getB
 by_cases h1 : k < 1
 ·rw [if_pos h1, if_pos (.inl h1), chainmanref02_Get.j0, if_pos rfl]
 ·rw [if_neg h1]
  by_cases h2 : k > 8
  ·rw [if_pos h2, if_pos (.inr (.inl h2)), chainmanref02_Get.j0, if_pos rfl]
  ·rw [if_neg h2]
   by_cases h3 : p < 0
   ·rw [if_pos h3, if_pos (.inr (.inr (.inl h3))), chainmanref02_Get.j0, if_pos rfl]
   ·rw [if_neg h3]
    by_cases h4 : p > (s.size : Int)
    ·rw [if_pos h4, if_pos (.inr (.inr (.inr (by omega)))), chainmanref02_Get.j0, if_pos rfl]
    ·rw [if_neg h4]
     have hw : wrap64 ((s.size : Int) - p) = (s.size : Int) - p := by unfold wrap64; omega
     rw [hw]
     by_cases h5 : k > (s.size : Int) - p
     ·rw [if_pos (.inr (.inr (.inr (by omega)))), chainmanref02_Get.j0, if_pos (decide_eq_true h5)]
     ·rw [if_neg (by omega), chainmanref02_Get.j0, if_neg (by simpa using h5)]
      obtain ⟨q, rfl⟩ : ∃ q : Nat, p = (q : Int) := ⟨p.toNat, by omega⟩
      obtain ⟨j, rfl⟩ : ∃ j : Nat, k = (j : Int) := ⟨k.toNat, by omega⟩
      rw [Int.toNat_natCast, Int.toNat_natCast]
      exact refg0 s hs q j (by omega) (by omega) j f 0 (by omega) (by omega) (show (0 : Nat) < 9223372036854775808 by decide)
end Oc
theorem wsucc (i : Nat) (h : i < 1000000) : wrap64 ((i : Int) + 1) = ((i + 1 : Nat) : Int) := by unfold wrap64; omega
def beU (n k : Nat) : List UInt8 := (Oc.beN n k).map fun x => UInt8.ofNat x.toNat
theorem beU_data (n k : Nat) : (strOfNums (Oc.beN n k)).data.toList = beU n k := strOfNums_data _
theorem beU_len (n k : Nat) : (beU n k).length = k := by unfold beU; rw [List.length_map, Oc.beN_len]
theorem beU_succ (n k : Nat) : beU n (k + 1) = UInt8.ofNat (n / 256 ^ k % 256) :: beU n k := by
 unfold beU; rw [Oc.beN_succ, List.map_cons, Int.toNat_natCast]
/-- what comes back: the number's last k bytes -/
theorem numN_from (l : List UInt8) : ∀ a : Nat, l.foldl (fun n c => n * 256 + c.toNat) a = a * 256 ^ l.length + Oc.numN l := by
 induction l with
 | nil => intro a; simp [Oc.numN]
 | cons c l ih =>
  intro a
  have h1 : (c :: l).foldl (fun n c => n * 256 + c.toNat) a = l.foldl (fun n c => n * 256 + c.toNat) (a * 256 + c.toNat) := rfl
  have h2 : Oc.numN (c :: l) = l.foldl (fun n c => n * 256 + c.toNat) (0 * 256 + c.toNat) := rfl
  rw [h1, ih, h2, ih, List.length_cons, Nat.pow_succ, Nat.add_mul, Nat.zero_mul, Nat.zero_add, Nat.mul_assoc, Nat.mul_comm 256, Nat.add_assoc]
theorem numN_cons (c : UInt8) (l : List UInt8) : Oc.numN (c :: l) = c.toNat * 256 ^ l.length + Oc.numN l := by
 have h := numN_from l (0 * 256 + c.toNat)
 rw [Nat.zero_mul, Nat.zero_add] at h
 have h2 : Oc.numN (c :: l) = l.foldl (fun n c => n * 256 + c.toNat) (0 * 256 + c.toNat) := rfl
 rw [h2, Nat.zero_mul, Nat.zero_add]
 exact h
theorem numN_beU (n : Nat) : ∀ k, Oc.numN (beU n k) = n % 256 ^ k := by
 intro k
 induction k with
 | zero => show 0 = n % 1; rw [Nat.mod_one]
 | succ k ih =>
  have hb : (UInt8.ofNat (n / 256 ^ k % 256)).toNat = n / 256 ^ k % 256 := by
   rw [UInt8.toNat_ofNat']
   exact Nat.mod_mod_of_dvd _ (by decide)
  rw [beU_succ, numN_cons, ih, beU_len, hb, Nat.pow_succ, Nat.mod_mul, Nat.mul_comm (256 ^ k)]
  exact Nat.add_comm _ _
theorem putB_ok (n k : Nat) (hk : 1 ≤ k) (hk8 : k ≤ 8) (hn : n < 256 ^ k) : Oc.putB (n : Int) (k : Int) = (strOfNums (Oc.beN n k), true) := by
 unfold Oc.putB; rw [if_neg (by omega), Int.toNat_natCast, Int.toNat_natCast, if_pos hn]
theorem be_size (n k : Nat) : (strOfNums (Oc.beN n k)).size = k := (strOfNums_size _).trans (Oc.beN_len _ _)
structure Lin {α : Type} (lt : α → α → Bool) : Prop where
 irr : ∀ a, lt a a = false
 tr : ∀ a b c, lt a b = true → lt b c = true → lt a c = true
 tri : ∀ a b, lt a b = false → lt b a = false → a = b
def Srt {α : Type} (lt : α → α → Bool) (l : List α) : Prop := l.Pairwise (fun a b => lt a b = true)
/-- Who comes next, and whether it is of the first and of the second. -/
def bs {α : Type} (lt : α → α → Bool) : List α → List α → List (α × Bool × Bool)
 | [], [] => []
 | a :: l, [] => (a, true, false) :: bs lt l []
 | [], b :: m => (b, false, true) :: bs lt [] m
 | a :: l, b :: m => if lt a b then (a, true, false) :: bs lt l (b :: m) else if lt b a then (b, false, true) :: bs lt (a :: l) m else (b, true, true) :: bs lt l m
termination_by l m => l.length + m.length
section
variable {α : Type} {lt : α → α → Bool}
theorem bs_ind (P : List α → List α → Prop) (h0 : P [] []) (h1 : ∀ a l, P l [] → P (a :: l) []) (h2 : ∀ b m, P [] m → P [] (b :: m)) (h3 : ∀ a l b m, P l (b :: m) → P (a :: l) m → P l m → P (a :: l) (b :: m)) : ∀ l m, P l m := by
 intro l
 induction l with
 | nil => intro m; induction m with
  | nil => exact h0
  | cons b m ih => exact h2 b m ih
 | cons a l ih => intro m; induction m with
  | nil => exact h1 a l (ih [])
  | cons b m ihm => exact h3 a l b m (ih (b :: m)) ihm (ih m)
theorem bs_mem (H : Lin lt) (x : α) : ∀ l m, x ∈ (bs lt l m).map (·.1) ↔ (x ∈ l ∨ x ∈ m) := by
 refine bs_ind _ ?_ ?_ ?_ ?_
 ·simp [bs]
 ·intro a l ih; simp only [bs, List.map_cons, List.mem_cons, ih]; simp
 ·intro b m ih; simp only [bs, List.map_cons, List.mem_cons, ih]; simp
 ·intro a l b m ih1 ih2 ih3
  rw [bs]
  cases h1 : lt a b with
  | true => rw [if_pos rfl, List.map_cons, List.mem_cons, ih1, List.mem_cons, List.mem_cons]; simp only [or_assoc]
  | false =>
   rw [if_neg (by decide)]
   cases h2 : lt b a with
   | true =>
    rw [if_pos rfl, List.map_cons, List.mem_cons, ih2, List.mem_cons, List.mem_cons]
    constructor
    ·rintro (h | (h | h) | h)
     ·exact .inr (.inl h)
     ·exact .inl (.inl h)
     ·exact .inl (.inr h)
     ·exact .inr (.inr h)
    ·rintro ((h | h) | (h | h))
     ·exact .inr (.inl (.inl h))
     ·exact .inr (.inl (.inr h))
     ·exact .inl h
     ·exact .inr (.inr h)
   | false =>
    have he := H.tri a b h1 h2
    subst he
    rw [if_neg (by decide), List.map_cons, List.mem_cons, ih3, List.mem_cons, List.mem_cons]
    constructor
    ·rintro (h | h | h)
     ·exact .inl (.inl h)
     ·exact .inl (.inr h)
     ·exact .inr (.inr h)
    ·rintro ((h | h) | (h | h))
     ·exact .inl h
     ·exact .inr (.inl h)
     ·exact .inl h
     ·exact .inr (.inr h)
theorem srt_cons {a : α} {l : List α} : Srt lt (a :: l) ↔ (∀ x ∈ l, lt a x = true) ∧ Srt lt l := List.pairwise_cons
theorem not_mem_of_lt (H : Lin lt) {a : α} {l : List α} (h : ∀ x ∈ l, lt a x = true) : a ∉ l := fun hm => by
 have := h a hm
 rw [H.irr] at this; cases this
theorem bs_flags (H : Lin lt) : ∀ l m, Srt lt l → Srt lt m → ∀ t ∈ bs lt l m, (t.2.1 = true ↔ t.1 ∈ l) ∧ (t.2.2 = true ↔ t.1 ∈ m) := by
 refine bs_ind _ ?_ ?_ ?_ ?_
 ·intro _ _ t ht; simp [bs] at ht
 ·intro a l ih h k t ht
  rw [bs] at ht
  rcases List.mem_cons.1 ht with rfl | ht
  ·simp
  ·have h1 := ih (srt_cons.1 h).2 k t ht
   have hx : t.1 ∈ l := ((bs_mem H t.1 l []).1 (List.mem_map_of_mem ht)).resolve_right (by simp)
   exact ⟨⟨fun _ => List.mem_cons_of_mem _ hx, fun _ => h1.1.2 hx⟩, h1.2⟩
 ·intro b m ih h k t ht
  rw [bs] at ht
  rcases List.mem_cons.1 ht with rfl | ht
  ·simp
  ·have h1 := ih h (srt_cons.1 k).2 t ht
   have hx : t.1 ∈ m := ((bs_mem H t.1 [] m).1 (List.mem_map_of_mem ht)).resolve_left (by simp)
   exact ⟨h1.1, ⟨fun _ => List.mem_cons_of_mem _ hx, fun _ => h1.2.2 hx⟩⟩
 ·intro a l b m ih1 ih2 ih3 h k t ht
  obtain ⟨ha, hl⟩ := srt_cons.1 h
  obtain ⟨hb, hm⟩ := srt_cons.1 k
  rw [bs] at ht
  cases h1 : lt a b with
  | true =>
   rw [h1, if_pos rfl] at ht
   rcases List.mem_cons.1 ht with rfl | ht
   ·refine ⟨by simp, by simp, fun hm' => ?_⟩
    rcases List.mem_cons.1 hm' with e | e
    ·have e : a = b := e; rw [e, H.irr] at h1; cases h1
    ·have := H.tr _ _ _ h1 (hb a e); rw [H.irr] at this; cases this
   ·have h2 := ih1 hl k t ht
    refine ⟨⟨fun q => List.mem_cons_of_mem _ (h2.1.1 q), fun q => ?_⟩, h2.2⟩
    rcases List.mem_cons.1 q with e | e
    ·exfalso
     rcases (bs_mem H t.1 l (b :: m)).1 (List.mem_map_of_mem ht) with h' | h'
     ·have := ha _ h'; rw [e, H.irr] at this; cases this
     ·rcases List.mem_cons.1 h' with h' | h'
      ·rw [← h', e, H.irr] at h1; cases h1
      ·have := H.tr _ _ _ h1 (hb _ h'); rw [e, H.irr] at this; cases this
    ·exact h2.1.2 e
  | false =>
   rw [h1, if_neg (by decide)] at ht
   cases h2 : lt b a with
   | true =>
    rw [h2, if_pos rfl] at ht
    rcases List.mem_cons.1 ht with rfl | ht
    ·refine ⟨⟨by simp, fun hm' => ?_⟩, by simp⟩
     rcases List.mem_cons.1 hm' with e | e
     ·have e : b = a := e; rw [e, H.irr] at h2; cases h2
     ·have := H.tr _ _ _ h2 (ha b e); rw [H.irr] at this; cases this
    ·have h3 := ih2 h hm t ht
     refine ⟨h3.1, ⟨fun q => List.mem_cons_of_mem _ (h3.2.1 q), fun q => ?_⟩⟩
     rcases List.mem_cons.1 q with e | e
     ·exfalso
      rcases (bs_mem H t.1 (a :: l) m).1 (List.mem_map_of_mem ht) with h' | h'
      ·rcases List.mem_cons.1 h' with h' | h'
       ·rw [← h', e, H.irr] at h2; cases h2
       ·have := H.tr _ _ _ h2 (ha _ h'); rw [e, H.irr] at this; cases this
      ·have := hb _ h'; rw [e, H.irr] at this; cases this
     ·exact h3.2.2 e
   | false =>
    have he := H.tri a b h1 h2
    subst he
    rw [h2, if_neg (by decide)] at ht
    rcases List.mem_cons.1 ht with rfl | ht
    ·simp
    ·have h3 := ih3 hl hm t ht
     have hne : t.1 ≠ a := fun e => by
      rcases (bs_mem H t.1 l m).1 (List.mem_map_of_mem ht) with h' | h'
      ·have := ha _ h'; rw [e, H.irr] at this; cases this
      ·have := hb _ h'; rw [e, H.irr] at this; cases this
     exact ⟨⟨fun q => List.mem_cons_of_mem _ (h3.1.1 q), fun q => h3.1.2 ((List.mem_cons.1 q).resolve_left hne)⟩, ⟨fun q => List.mem_cons_of_mem _ (h3.2.1 q), fun q => h3.2.2 ((List.mem_cons.1 q).resolve_left hne)⟩⟩
theorem srt_ext (H : Lin lt) : ∀ l m : List α, Srt lt l → Srt lt m → (∀ x, x ∈ l ↔ x ∈ m) → l = m := by
 intro l
 induction l with
 | nil => intro m _ _ h; cases m with
  | nil => rfl
  | cons b m => have := (h b).2 (by simp); simp at this
 | cons a l ih =>
  intro m hl hm h
  cases m with
  | nil => have := (h a).1 (by simp); simp at this
  | cons b m =>
   obtain ⟨ha, hl'⟩ := srt_cons.1 hl
   obtain ⟨hb, hm'⟩ := srt_cons.1 hm
   have hab : a = b := by
    rcases List.mem_cons.1 ((h a).1 (by simp)) with e | e
    ·exact e
    ·rcases List.mem_cons.1 ((h b).2 (by simp)) with e' | e'
     ·exact e'.symm
     ·have := H.tr _ _ _ (ha b e') (hb a e); rw [H.irr] at this; cases this
   subst hab
   refine congrArg _ (ih m hl' hm' (fun x => ⟨fun hx => ?_, fun hx => ?_⟩))
   ·exact (List.mem_cons.1 ((h x).1 (List.mem_cons_of_mem _ hx))).resolve_left (fun e => not_mem_of_lt H ha (e ▸ hx))
   ·exact (List.mem_cons.1 ((h x).2 (List.mem_cons_of_mem _ hx))).resolve_left (fun e => not_mem_of_lt H hb (e ▸ hx))
/-- Those of whom some of the two tells so. -/
def pick (lt : α → α → Bool) (q : Bool → Bool → Bool) (l m : List α) : List α := ((bs lt l m).filter (fun t => q t.2.1 t.2.2)).map (·.1)
end
section
variable {α : Type} {lt : α → α → Bool}
def goneL (lt : α → α → Bool) (a b : List α) : List α := pick lt (fun _ s => !s) a b
def cameL (lt : α → α → Bool) (a b : List α) : List α := pick lt (fun f s => s && !f) a b
end
section
variable {α : Type} {lt : α → α → Bool} [DecidableEq α]
/-- What an edit must be to fit. -/
def fitsL (lt : α → α → Bool) (g c l : List α) : Bool := (bs lt g l).all (fun t => t.2.2) && (bs lt c l).all (fun t => !(t.2.1 && t.2.2))
theorem fits_mem (H : Lin lt) {g c l : List α} (hg : Srt lt g) (hc : Srt lt c) (hl : Srt lt l) (h1 : ∀ x ∈ g, x ∈ l) (h2 : ∀ x ∈ c, x ∉ l) : fitsL lt g c l = true := by
 unfold fitsL
 rw [Bool.and_eq_true]
 refine ⟨List.all_eq_true.2 (fun t ht => ?_), List.all_eq_true.2 (fun t ht => ?_)⟩
 ·refine (bs_flags H g l hg hl t ht).2.2 ?_
  rcases (bs_mem H t.1 g l).1 (List.mem_map_of_mem ht) with h | h
  ·exact h1 _ h
  ·exact h
 ·have hf := bs_flags H c l hc hl t ht
  rw [Bool.not_eq_true', Bool.and_eq_false_iff]
  by_cases hx : t.1 ∈ c
  ·exact .inr (Bool.eq_false_iff.2 (fun e => h2 _ hx (hf.2.1 e)))
  ·exact .inl (Bool.eq_false_iff.2 (fun e => hx (hf.1.1 e)))
end
def lt : S33 → S33 → Bool := diff_beside.lt
theorem lt_iff (a b : S33) : lt a b = true ↔ (a.f0 < b.f0 ∨ (a.f0 = b.f0 ∧ a.f1 < b.f1)) := by
 unfold lt diff_beside.lt
 exact decide_eq_true_iff
theorem s33_ext {a b : S33} (h0 : a.f0 = b.f0) (h1 : a.f1 = b.f1) : a = b := by
 cases a; cases b; simp only at h0 h1; subst h0 h1; rfl
theorem lin : Lin lt where
 irr := fun a => Bool.eq_false_iff.2 (fun h => by have := (lt_iff a a).1 h; omega)
 tr := fun a b c h k => (lt_iff a c).2 (by have h := (lt_iff a b).1 h; have k := (lt_iff b c).1 k; omega)
 tri := fun a b h k => by
  have h' : ¬ (a.f0 < b.f0 ∨ (a.f0 = b.f0 ∧ a.f1 < b.f1)) := fun e => by rw [(lt_iff a b).2 e] at h; cases h
  have k' : ¬ (b.f0 < a.f0 ∨ (b.f0 = a.f0 ∧ b.f1 < a.f1)) := fun e => by rw [(lt_iff b a).2 e] at k; cases k
  exact s33_ext (by omega) (by omega)
theorem bs_eq (l m : List S33) : diff_beside.bs diff_beside.lt l m = bs lt l m := by
 refine bs_ind (fun l m => diff_beside.bs diff_beside.lt l m = bs lt l m) ?_ ?_ ?_ ?_ l m
 ·rw [diff_beside.bs, bs]
 ·intro a l ih; rw [diff_beside.bs, bs, ih]
 ·intro b m ih; rw [diff_beside.bs, bs, ih]
 ·intro a l b m i1 i2 i3
  rw [diff_beside.bs, bs, i1, i2, i3]
  rfl
instance : DecidableEq S33 := fun a b => if h : a.f0 = b.f0 ∧ a.f1 = b.f1 then isTrue (s33_ext h.1 h.2) else isFalse (fun e => h ⟨by rw [e], by rw [e]⟩)
/-- A pair that may be. -/
def Ok (x : S33) : Prop := 0 ≤ x.f0 ∧ x.f0 < x.f1 ∧ x.f1 < 1048576
def Good (l : List S33) : Prop := Srt lt l ∧ (∀ x ∈ l, Ok x) ∧ l.length ≤ 1000
/-- Its record. -/
def rc (x : S33) : ByteArray := strOfNums (Oc.beN x.f0.toNat 4) ++ strOfNums (Oc.beN x.f1.toNat 4)
theorem numN_app (l m : List UInt8) : Oc.numN (l ++ m) = Oc.numN l * 256 ^ m.length + Oc.numN m := by
 show (l ++ m).foldl (fun n c => n * 256 + c.toNat) 0 = _
 rw [List.foldl_append]
 exact numN_from m _
theorem less_num (l : List UInt8) : ∀ m : List UInt8, l.length = m.length → (Op.bytesLess l m = true ↔ Oc.numN l < Oc.numN m) := by
 induction l with
 | nil =>
  intro m h
  cases m with
  | nil => exact ⟨fun h => (by cases h), fun h => absurd h (Nat.lt_irrefl _)⟩
  | cons _ _ => cases h
 | cons a l ih =>
  intro m h
  cases m with
  | nil => cases h
  | cons b m =>
   have h' : l.length = m.length := by simpa using h
   have hl := Oc.numN_lt l
   have hm := Oc.numN_lt m
   rw [numN_cons, numN_cons, h']
   rw [h'] at hl
   show (decide (a < b) || (a == b && Op.bytesLess l m)) = true ↔ _
   rw [Bool.or_eq_true, Bool.and_eq_true, ih m h', decide_eq_true_iff, beq_iff_eq, UInt8.lt_iff_toNat_lt, ← UInt8.toNat_inj]
   generalize 256 ^ m.length = p at hl hm
   generalize Oc.numN l = x at hl ⊢
   generalize Oc.numN m = y at hm ⊢
   generalize a.toNat = u
   generalize b.toNat = v
   constructor
   ·rintro (h1 | ⟨h1, h2⟩)
    ·have : (u + 1) * p ≤ v * p := Nat.mul_le_mul_right p h1
     rw [Nat.add_mul, Nat.one_mul] at this
     omega
    ·rw [h1]; omega
   ·intro h1
    rcases Nat.lt_trichotomy u v with h2 | h2 | h2
    ·exact .inl h2
    ·rw [h2] at h1; exact .inr ⟨h2, by omega⟩
    ·have : (v + 1) * p ≤ u * p := Nat.mul_le_mul_right p h2
     rw [Nat.add_mul, Nat.one_mul] at this
     omega
theorem rc_data (x : S33) : (rc x).data.toList = beU x.f0.toNat 4 ++ beU x.f1.toNat 4 := by
 unfold rc
 rw [Oc.ba_append, beU_data, beU_data]
theorem rc_num (x : S33) (h : Ok x) : Oc.numN (rc x).data.toList = x.f0.toNat * 4294967296 + x.f1.toNat := by
 obtain ⟨h0, h1, h2⟩ := h
 rw [rc_data, numN_app, beU_len, numN_beU, numN_beU, show 256 ^ 4 = 4294967296 from rfl, Nat.mod_eq_of_lt (by omega), Nat.mod_eq_of_lt (by omega)]
theorem rc_less (x y : S33) (hx : Ok x) (hy : Ok y) : Op.bytesLess (rc x).toList (rc y).toList = lt x y := by
 have h := less_num (rc x).toList (rc y).toList (by rw [ByteArray.toList_eq, ByteArray.toList_eq, rc_data, rc_data, List.length_append, List.length_append, beU_len, beU_len, beU_len, beU_len])
 have e1 := rc_num x hx
 have e2 := rc_num y hy
 rw [ByteArray.toList_eq, ByteArray.toList_eq] at h ⊢
 rw [e1, e2] at h
 clear e1 e2
 obtain ⟨a0, a1, a2⟩ := hx
 obtain ⟨b0, b1, b2⟩ := hy
 refine Bool.eq_iff_iff.mpr (h.trans ?_)
 rw [lt_iff]
 obtain ⟨u, hu⟩ := Int.eq_ofNat_of_zero_le a0
 obtain ⟨v, hv⟩ := Int.eq_ofNat_of_zero_le (show 0 ≤ x.f1 by omega)
 obtain ⟨u', hu'⟩ := Int.eq_ofNat_of_zero_le b0
 obtain ⟨v', hv'⟩ := Int.eq_ofNat_of_zero_le (show 0 ≤ y.f1 by omega)
 rw [hu, hv, hu', hv', Int.toNat_natCast, Int.toNat_natCast, Int.toNat_natCast, Int.toNat_natCast]
 omega
theorem refid (n : Int) : chainmanref14_id.f n = some (decide (0 ≤ n ∧ n < 1048576)) := by
 unfold chainmanref14_id.f
 by_cases h : n ≥ 0
 ·rw [if_pos h]; congr 1; exact decide_eq_decide.2 ⟨fun k => ⟨h, k⟩, fun k => k.2⟩
 ·rw [if_neg h, decide_eq_false (by omega)]
theorem must4 (n : Int) (h0 : 0 ≤ n) (h1 : n < 1048576) : Ev (fun q => chainmanref02_Must.f q n 4) (strOfNums (Oc.beN n.toNat 4)) := by
 obtain ⟨m, rfl⟩ := Int.eq_ofNat_of_zero_le h0
 rw [Int.toNat_natCast]
 refine ⟨20, fun q hq => ?_⟩
 show chainmanref02_Must.f q (m : Int) 4 = _
 unfold chainmanref02_Must.f
 rw [Oc.refput_bv _ _ q hq (by omega), Option.bind_some, show (4 : Int) = ((4 : Nat) : Int) from rfl, putB_ok m 4 (by decide) (by decide) (by rw [show 256 ^ 4 = 4294967296 from rfl]; omega)]
theorem rd_at (l : List S33) (i : Nat) (h : i < l.length) : rd_T33 l (i : Int) = l[i] := by
 unfold rd_T33
 rw [Int.toNat_natCast, List.getD_eq_getElem?_getD, List.getElem?_eq_getElem h]; rfl
theorem rds_at (l : List ByteArray) (i : Nat) (h : i < l.length) : rdOf ByteArray.empty l (i : Int) = l[i] := by
 unfold rdOf
 rw [Int.toNat_natCast, List.getD_eq_getElem?_getD, List.getElem?_eq_getElem h]; rfl
theorem wsub (i : Nat) (h : i < 1000000) : wrap64 (((i + 1 : Nat) : Int) - 1) = (i : Int) := by unfold wrap64; omega
theorem rd2 (a b : Int) : rd [a, b] 0 = a ∧ rd [a, b] 1 = b := ⟨rfl, rfl⟩
theorem w0 : wrap64 (0 + 1) = 1 := by unfold wrap64; omega
theorem w1 : wrap64 (1 + 1) = 2 := by unfold wrap64; omega
theorem may_ev (x : S33) (h : Ok x) : Ev (fun k => rec_may.f k [x.f0, x.f1]) true := by
 obtain ⟨h0, h1, h2⟩ := h
 refine ⟨4, fun k hk => ?_⟩
 obtain ⟨k, rfl⟩ : ∃ m, k = m + 3 := ⟨k - 3, by omega⟩
 show rec_may.f (k + 3) [x.f0, x.f1] = _
 unfold rec_may.f
 rw [rec_may.l0, if_pos (by simp), if_pos (by omega), if_pos (by simp), (rd2 _ _).1, if_neg (by omega), if_neg (by omega), w0, rec_may.l0, if_pos (by simp), if_pos (by omega), if_pos (by simp), (rd2 _ _).2, if_neg (by omega), if_neg (by omega), w1, rec_may.l0, if_neg (by simp)]
theorem put4 (n : Int) (h0 : 0 ≤ n) (h1 : n < 1048576) : octet_Put.f n 4 = some (strOfNums (Oc.beN n.toNat 4), true) := by
 obtain ⟨m, rfl⟩ := Int.eq_ofNat_of_zero_le h0
 rw [Oc.put_bv _ _ (by omega), show (4 : Int) = ((4 : Nat) : Int) from rfl, putB_ok m 4 (by decide) (by decide) (by rw [show 256 ^ 4 = 4294967296 from rfl]; omega), Int.toNat_natCast]
theorem row_ev (x : S33) (h : Ok x) : Ev (fun k => rec_row.f k [x.f0, 4, x.f1, 4]) (rc x, true) := by
 obtain ⟨h0, h1, h2⟩ := h
 refine ⟨4, fun k hk => ?_⟩
 obtain ⟨k, rfl⟩ : ∃ m, k = m + 3 := ⟨k - 3, by omega⟩
 show rec_row.f (k + 3) [x.f0, 4, x.f1, 4] = _
 have e1 : wrap64 (0 + 1) = 1 := w0
 have e2 : wrap64 (0 + 2) = 2 := by unfold wrap64; omega
 have e3 : wrap64 (2 + 1) = 3 := by unfold wrap64; omega
 have e4 : wrap64 (2 + 2) = 4 := by unfold wrap64; omega
 have e5 : wrap64 (4 + 1) = 5 := by unfold wrap64; omega
 have r0 : rd [x.f0, 4, x.f1, 4] 0 = x.f0 := rfl
 have r1 : rd [x.f0, 4, x.f1, 4] 1 = 4 := rfl
 have r2 : rd [x.f0, 4, x.f1, 4] 2 = x.f1 := rfl
 have r3 : rd [x.f0, 4, x.f1, 4] 3 = 4 := rfl
 have s0 : (⟨#[]⟩ : ByteArray).size = 0 := rfl
 unfold rec_row.f
 rw [rec_row.l0, e1, if_pos (by simp), if_pos (by omega), if_pos (by simp), if_pos (by omega), r0, r1, put4 _ h0 (by omega), Option.bind_some, if_pos rfl, if_pos (by rw [be_size, s0]; decide), e2,
  rec_row.l0, e3, if_pos (by simp), if_pos (by omega), if_pos (by simp), if_pos (by omega), r2, r3, put4 _ (by omega) (by omega), Option.bind_some, if_pos rfl, if_pos (by rw [ByteArray.size_append, be_size, be_size, s0]; decide), e4,
  rec_row.l0, e5, if_neg (by simp)]
 have ee : (⟨#[]⟩ : ByteArray) ++ strOfNums (Oc.beN x.f0.toNat 4) = strOfNums (Oc.beN x.f0.toNat 4) := ByteArray.empty_append
 rw [ee]
 rfl
theorem pair_ev (x : S33) (h : Ok x) : Ev (fun k => rec_PutPair.f k x.f0 x.f1) (rc x, true) := by
 refine Ev.bind (may_ev x h) ?_
 refine Ev.congr (fun k => if_pos rfl) ?_
 refine Ev.congr (fun k => if_neg (by have := h.2.1; omega)) ?_
 exact Ev.bind (row_ev x h) (Ev.now _)
theorem cmp_f (x y : Int) : cmp_Compare_int.f x y = some (if x < y then -1 else if y < x then 1 else 0) := by
 simp [cmp_Compare_int.f, cmp_isNaN_int.f]
 by_cases h1 : x < y
 ·rw [if_pos h1, if_pos h1]
 ·rw [if_neg h1, if_neg h1]
  by_cases h2 : y < x
  ·rw [if_pos h2, if_pos h2]
  ·rw [if_neg h2, if_neg h2]
theorem or_ev (x y : Int) : Ev (fun k => cmp_Or_int.f k [x, y]) (if x = 0 then y else x) := by
 refine ⟨4, fun k hk => ?_⟩
 obtain ⟨k, rfl⟩ : ∃ m, k = m + 3 := ⟨k - 3, by omega⟩
 show cmp_Or_int.f (k + 3) [x, y] = _
 unfold cmp_Or_int.f
 rw [cmp_Or_int.l0, if_pos (by simp), if_pos (by omega), if_pos (by simp), (rd2 x y).1]
 by_cases h1 : x = 0
 ·rw [if_pos h1, w0, cmp_Or_int.l0, if_pos (by simp), if_pos (by omega), if_pos (by simp), (rd2 x y).2, if_pos h1]
  by_cases h2 : y = 0
  ·rw [if_pos h2, w1, cmp_Or_int.l0, if_neg (by simp), h2]
  ·rw [if_neg h2]
 ·rw [if_neg h1, if_neg h1]
theorem rises_ev (x y : S33) (h : lt x y = true) : Ev (fun k => pairfile_rises.f k x.f0 x.f1 y.f0 y.f1) true := by
 have hh := (lt_iff x y).1 h
 refine Ev.congr (f := fun k => (cmp_Or_int.f k [(if x.f0 < y.f0 then -1 else if y.f0 < x.f0 then 1 else 0), (if x.f1 < y.f1 then -1 else if y.f1 < x.f1 then 1 else 0)]).bind fun t => some (decide (t < 0))) (fun k => by unfold pairfile_rises.f; rw [cmp_f, Option.bind_some, cmp_f, Option.bind_some]) ?_
 have e : true = decide ((if (if x.f0 < y.f0 then (-1 : Int) else if y.f0 < x.f0 then 1 else 0) = 0 then (if x.f1 < y.f1 then (-1 : Int) else if y.f1 < x.f1 then 1 else 0) else (if x.f0 < y.f0 then (-1 : Int) else if y.f0 < x.f0 then 1 else 0)) < 0) := by
  refine (decide_eq_true ?_).symm
  rcases hh with h1 | ⟨h1, h2⟩
  ·rw [if_pos h1, if_neg (show ¬ (-1 : Int) = 0 by decide)]; decide
  ·rw [if_neg (show ¬ x.f0 < y.f0 by omega), if_neg (show ¬ y.f0 < x.f0 by omega), if_pos rfl, if_pos h2]; decide
 rw [e]
 exact Ev.bind (or_ev _ _) (Ev.now _)
theorem laid_ev (l : List S33) (hg : Good l) : ∀ (d i : Nat) (acc : List ByteArray), i + d = l.length → acc.length = i → ∃ s, Ev (fun k => pairfile_laid.l0 k l acc l (l.length : Int) (i : Int)) (s, true) := by
 obtain ⟨hs, ho, hl⟩ := hg
 intro d
 induction d with
 | zero =>
  intro i acc hi ha
  exact ⟨acc, Ev.step (f := fun _ => some (acc, true)) (fun k => by rw [pairfile_laid.l0, if_neg (by omega)]) (Ev.now _)⟩
 | succ d ih =>
  intro i acc hi ha
  have hlt : i < l.length := by omega
  obtain ⟨s, hs'⟩ := ih (i + 1) (acc ++ [rc l[i]]) (by omega) (by simp [ha])
  refine ⟨s, ?_⟩
  refine Ev.step (fun k => by rw [pairfile_laid.l0, if_pos (by omega), if_pos (by omega), if_pos (by omega), rd_at l i hlt]) ?_
  refine Ev.bind (pair_ev _ (ho _ (List.getElem_mem hlt))) ?_
  refine Ev.congr (fun k => if_pos rfl) ?_
  have e1 : wrap64 ((i : Int) + 1) = ((i + 1 : Nat) : Int) := wsucc i (by omega)
  cases i with
  | zero =>
   refine Ev.congr (fun k => if_neg (by omega)) ?_
   refine Ev.congr (fun k => if_pos (by omega)) ?_
   rw [e1]
   exact hs'
  | succ j =>
   refine Ev.congr (fun k => if_pos (by omega)) ?_
   have e2 : wrap64 (((j + 1 : Nat) : Int) - 1) = (j : Int) := wsub j (by omega)
   refine Ev.congr (fun k => by rw [e2, if_pos (by omega), if_pos (by omega), rd_at l j (by omega)]) ?_
   have hlt' : lt l[j] l[j + 1] = true := List.pairwise_iff_getElem.mp hs j (j + 1) (by omega) hlt (by omega)
   refine Ev.bind (rises_ev _ _ hlt') ?_
   refine Ev.congr (fun k => if_pos rfl) ?_
   refine Ev.congr (fun k => if_pos (by omega)) ?_
   rw [e1]
   exact hs'
theorem clean_ev (l : List S33) (hg : Good l) : Ev (fun k => pairfile_Clean.f k l) true := by
 obtain ⟨s, hs⟩ := laid_ev l hg l.length 0 [] (by omega) rfl
 refine Ev.bind (a := (s, true)) ?_ (Ev.now _)
 refine Ev.congr (fun k => by unfold pairfile_laid.f; rw [if_pos (by omega), if_pos (by have := hg.2.2; omega)]; rfl) hs
theorem cleans_ev (ls : List (List S33)) (hn : ls.length ≤ 1000) (hg : ∀ l ∈ ls, Good l) : Ev (fun k => diff_clean.f k ls) true := by
 have h1 : ∃ K, ∀ k, K ≤ k → ∀ l ∈ ls, pairfile_Clean.f k l = some true := by
  clear hn
  induction ls with
  | nil => exact ⟨0, fun _ _ l hl => by simp at hl⟩
  | cons x ls ih =>
   obtain ⟨K, hK⟩ := ih (fun l hl => hg l (List.mem_cons_of_mem _ hl))
   obtain ⟨K', hK'⟩ := clean_ev x (hg x List.mem_cons_self)
   exact ⟨max K K', fun k hk l hl => by
    rcases List.mem_cons.mp hl with rfl | hl
    ·exact hK' k (by omega)
    ·exact hK k (by omega) l hl⟩
 obtain ⟨K, hK⟩ := h1
 refine ⟨K, fun k hk => ?_⟩
 show diff_clean.f k ls = some true
 unfold diff_clean.f
 have e1 : (ls.all fun l => (pairfile_Clean.f k l).isSome) = true := List.all_eq_true.mpr (fun l hl => by rw [hK k hk l hl]; rfl)
 have e2 : (ls.all fun l => pairfile_Clean.f k l == some true) = true := List.all_eq_true.mpr (fun l hl => by rw [hK k hk l hl]; rfl)
 rw [if_pos ⟨hn, e1⟩, e2]
theorem gone_eq (a b : List S33) : diff_Pairs.goneB (diff_beside.bs diff_beside.lt a b) = goneL lt a b := by rw [bs_eq]; rfl
theorem came_eq (a b : List S33) : diff_Pairs.cameB (diff_beside.bs diff_beside.lt a b) = cameL lt a b := by rw [bs_eq]; rfl
theorem pairs_ev {a b : List S33} (ha : Good a) (hb : Good b) : Ev (fun k => diff_Pairs.f k a b) (goneL lt a b, cameL lt a b, true) := by
 refine Ev.bind (cleans_ev [a, b] (by simp) (by simp only [List.mem_cons, List.not_mem_nil, or_false]; rintro l (rfl | rfl); exact ha; exact hb)) ?_
 refine Ev.congr (fun k => if_pos rfl) ?_
 refine Ev.congr (fun k => if_pos (by have := ha.2.2; have := hb.2.2; omega)) ?_
 rw [← gone_eq, ← came_eq]
 exact Ev.now _
theorem fits_ev {g c l : List S33} (hg : Good g) (hc : Good c) (hl : Good l) : Ev (fun k => diff_Fits.f k g c l) (fitsL lt g c l) := by
 refine Ev.bind (cleans_ev [g, c, l] (by simp) (by simp only [List.mem_cons, List.not_mem_nil, or_false]; rintro x (rfl | rfl | rfl); exact hg; exact hc; exact hl)) ?_
 refine Ev.congr (fun k => if_pos rfl) ?_
 refine Ev.congr (fun k => if_pos (by have := hg.2.2; have := hc.2.2; have := hl.2.2; omega)) ?_
 rw [bs_eq, bs_eq]
 exact Ev.now _
section
variable {α : Type} {lt : α → α → Bool} [Inhabited α] [DecidableEq α]
theorem cmp_mem (zs : List α) : ∀ m, m ≤ zs.length → ∀ x, x ∈ Lib.compactUpTo zs.toArray m ↔ x ∈ zs.take m := by
 intro m
 induction m with
 | zero => intro _ x; simp [Lib.compactUpTo]
 | succ m ih =>
  intro hm x
  have hlt : m < zs.length := by omega
  have e1 : zs.toArray[m]! = zs[m] := by simp [hlt]
  rw [Lib.compactUpTo_succ, List.take_succ_eq_append_getElem hlt, List.mem_append, List.mem_append, ih (by omega) x]
  by_cases hk : Lib.keeps zs.toArray m = true
  ·rw [if_pos hk, e1]
  ·rw [if_neg hk]
   constructor
   ·rintro (h | h)
    ·exact .inl h
    ·simp at h
   ·rintro (h | h)
    ·exact .inl h
    ·have h9 := List.mem_singleton.mp h
     simp only [Lib.keeps, Bool.not_eq_true, decide_eq_false_iff_not, not_or, Decidable.not_not] at hk
     obtain ⟨h0, h1⟩ := hk
     have e2 : zs.toArray[m - 1]! = zs[m - 1]'(by omega) := by simp [show m - 1 < zs.length by omega]
     rw [e1, e2] at h1
     left
     rw [h9, h1]
     have : (zs.take m)[m - 1]'(by rw [List.length_take]; omega) = zs[m - 1]'(by omega) := List.getElem_take
     rw [← this]
     exact List.getElem_mem _
theorem cmp_srt (H : Lin lt) (zs : List α) (hs : zs.Pairwise (fun a b => lt b a = false)) : ∀ m, m ≤ zs.length → Srt lt (Lib.compactUpTo zs.toArray m) := by
 intro m
 induction m with
 | zero => intro _; simp [Lib.compactUpTo, Srt]
 | succ m ih =>
  intro hm
  have hlt : m < zs.length := by omega
  have e1 : zs.toArray[m]! = zs[m] := by simp [hlt]
  rw [Lib.compactUpTo_succ]
  by_cases hk : Lib.keeps zs.toArray m = true
  ·rw [if_pos hk, e1]
   refine List.pairwise_append.mpr ⟨ih (by omega), List.pairwise_singleton _ _, fun a ha b hb => ?_⟩
   rw [List.mem_singleton.mp hb]
   have ha' := (cmp_mem zs m (by omega) a).1 ha
   obtain ⟨j, hj, rfl⟩ := List.mem_iff_getElem.mp ha'
   have hj' : j < m := by rw [List.length_take] at hj; omega
   rw [List.getElem_take]
   have hle := List.pairwise_iff_getElem.mp hs
   have q1 : lt zs[m] (zs[j]'(by omega)) = false := hle j m (by omega) hlt hj'
   cases q2 : lt (zs[j]'(by omega)) zs[m] with
   | true => rfl
   | false =>
    exfalso
    have e3 : zs[j]'(by omega) = zs[m] := H.tri _ _ q2 q1
    simp only [Lib.keeps, decide_eq_true_eq] at hk
    rcases hk with h0 | h0
    ·omega
    ·have e2 : zs.toArray[m - 1]! = zs[m - 1]'(by omega) := by simp [show m - 1 < zs.length by omega]
     rw [e1, e2] at h0
     apply h0
     have p1 : lt zs[m] (zs[m - 1]'(by omega)) = false := hle (m - 1) m (by omega) hlt (by omega)
     refine H.tri _ _ p1 ?_
     rcases Nat.lt_or_ge j (m - 1) with hjm | hjm
     ·have p2 : lt (zs[m - 1]'(by omega)) (zs[j]'(by omega)) = false := hle j (m - 1) (by omega) (by omega) hjm
      rw [e3] at p2
      exact p2
     ·have : j = m - 1 := by omega
      subst this
      rw [e3]; exact H.irr _
  ·rw [if_neg hk, List.append_nil]; exact ih (by omega)
/-- Sorted, and neighbours that are equal left out: in order strictly, and just what was there. -/
theorem once_srt (H : Lin lt) (xs : List α) : Srt lt (Lib.compact (xs.mergeSort fun x y => !lt y x)) ∧ ∀ x, x ∈ Lib.compact (xs.mergeSort fun x y => !lt y x) ↔ x ∈ xs := by
 have hs : (xs.mergeSort fun x y => !lt y x).Pairwise (fun a b => lt b a = false) := by
  have := List.pairwise_mergeSort (le := fun x y => !lt y x) (fun a b c h1 h2 => by
   simp only [Bool.not_eq_true'] at h1 h2 ⊢
   cases q : lt c a with
   | false => rfl
   | true =>
    exfalso
    cases r : lt a b with
    | true => have := H.tr _ _ _ q r; rw [this] at h2; cases h2
    | false =>
     have : a = b := H.tri _ _ r h1
     subst this; rw [q] at h2; cases h2) (fun a b => by
   cases q : lt b a with
   | false => rfl
   | true =>
    cases r : lt a b with
    | false => rfl
    | true => have := H.tr _ _ _ q r; rw [H.irr] at this; cases this) xs
  exact this.imp (fun h => by simpa using h)
 refine ⟨cmp_srt H _ hs _ (Nat.le_refl _), fun x => ?_⟩
 unfold Lib.compact
 rw [cmp_mem _ _ (Nat.le_refl _) x, List.take_length, List.mem_mergeSort]
/-- What an insertion makes of a list in order. -/
def ins (lt : α → α → Bool) (x : α) : List α → List α
 | [] => [x]
 | y :: l => if lt x y then x :: y :: l else y :: ins lt x l
omit [Inhabited α] [DecidableEq α] in
theorem ins_mem (x : α) (l : List α) (z : α) : z ∈ ins lt x l ↔ z = x ∨ z ∈ l := by
 induction l with
 | nil => simp [ins]
 | cons y l ih =>
  rw [ins]
  split
  ·simp
  ·rw [List.mem_cons, ih, List.mem_cons]
   constructor
   ·rintro (h | h | h)
    ·exact .inr (.inl h)
    ·exact .inl h
    ·exact .inr (.inr h)
   ·rintro (h | h | h)
    ·exact .inr (.inl h)
    ·exact .inl h
    ·exact .inr (.inr h)
omit [Inhabited α] [DecidableEq α] in
theorem ins_srt (H : Lin lt) (x : α) (l : List α) (hl : Srt lt l) (hx : x ∉ l) : Srt lt (ins lt x l) := by
 induction l with
 | nil => exact List.pairwise_singleton _ _
 | cons y l ih =>
  rw [ins]
  obtain ⟨h1, h2⟩ := srt_cons.1 hl
  by_cases h : lt x y = true
  ·rw [if_pos h]
   refine srt_cons.2 ⟨fun z hz => ?_, hl⟩
   rcases List.mem_cons.mp hz with rfl | hz
   ·exact h
   ·exact H.tr _ _ _ h (h1 z hz)
  ·rw [if_neg h]
   have hxl : x ∉ l := fun hm => hx (List.mem_cons_of_mem _ hm)
   refine srt_cons.2 ⟨fun z hz => ?_, ih h2 hxl⟩
   rcases (ins_mem x l z).1 hz with rfl | hz
   ·cases q : lt y z with
    | true => rfl
    | false => exact absurd (H.tri _ _ (Bool.eq_false_iff.2 h) q) (fun e => hx (by rw [e]; exact List.mem_cons_self ..))
   ·exact h1 z hz
omit [Inhabited α] [DecidableEq α] in
theorem ins_len (x : α) (l : List α) : (ins lt x l).length = l.length + 1 := by
 induction l with
 | nil => rfl
 | cons y l ih =>
  rw [ins]
  split
  ·rfl
  ·rw [List.length_cons, ih, List.length_cons]
/-- All of a list, one by one put in where they belong, each once. -/
def sortL (lt : α → α → Bool) (acc : List α) : List α → List α
 | [] => acc
 | x :: l => sortL lt (if x ∈ acc then acc else ins lt x acc) l
omit [Inhabited α] in
theorem sortL_srt (H : Lin lt) : ∀ (l acc : List α), Srt lt acc → Srt lt (sortL lt acc l) ∧ ∀ z, z ∈ sortL lt acc l ↔ z ∈ acc ∨ z ∈ l := by
 intro l
 induction l with
 | nil => intro acc h; exact ⟨h, fun z => by simp [sortL]⟩
 | cons x l ih =>
  intro acc h
  rw [sortL]
  by_cases hx : x ∈ acc
  ·rw [if_pos hx]
   obtain ⟨h1, h2⟩ := ih acc h
   refine ⟨h1, fun z => ?_⟩
   rw [h2, List.mem_cons]
   constructor
   ·rintro (q | q)
    ·exact .inl q
    ·exact .inr (.inr q)
   ·rintro (q | rfl | q)
    ·exact .inl q
    ·exact .inl hx
    ·exact .inr q
  ·rw [if_neg hx]
   obtain ⟨h1, h2⟩ := ih _ (ins_srt H x acc h hx)
   refine ⟨h1, fun z => ?_⟩
   rw [h2, ins_mem, List.mem_cons]
   constructor
   ·rintro ((q | q) | q)
    ·exact .inr (.inl q)
    ·exact .inl q
    ·exact .inr (.inr q)
   ·rintro (q | q | q)
    ·exact .inl (.inr q)
    ·exact .inl (.inl q)
    ·exact .inr q
end
theorem pair_ok (x : S33) (h : Ok x) : Ev (fun k => chainmanref14_PutPair.f k x.f0 x.f1) (rc x, true) := by
 obtain ⟨h0, h1, h2⟩ := h
 refine Ev.congr (f := fun k => chainmanref14_PutPair.j0 k false x.f0 x.f1) (fun k => ?_) ?_
 ·unfold chainmanref14_PutPair.f
  rw [refid, Option.bind_some, if_pos (decide_eq_true ⟨h0, by omega⟩), refid, Option.bind_some, if_pos (decide_eq_true ⟨by omega, h2⟩), decide_eq_false (by omega)]
 ·refine Ev.step (fun k => by rw [chainmanref14_PutPair.j0, if_neg (by decide)]) ?_
  refine Ev.bind (must4 _ h0 (by omega)) ?_
  refine Ev.bind (must4 _ (by omega) h2) ?_
  exact Ev.congr (f := fun _ => some (rc x, true)) (fun k => if_pos (by rw [be_size, be_size]; decide)) (Ev.now _)
theorem rc_size (x : S33) : (rc x).size = 8 := by
 rw [Oc.ba_size, rc_data, List.length_append, beU_len, beU_len]
theorem rc_inj (x y : S33) (hx : Ok x) (hy : Ok y) (h : rc x = rc y) : x = y := by
 have e1 := rc_num x hx
 have e2 := rc_num y hy
 rw [h] at e1
 obtain ⟨a0, a1, a2⟩ := hx
 obtain ⟨b0, b1, b2⟩ := hy
 exact s33_ext (by omega) (by omega)
theorem rc_eq (x y : S33) (hx : Ok x) (hy : Ok y) : ((rc x).toList = (rc y).toList) ↔ x = y := by
 refine ⟨fun h => rc_inj x y hx hy ?_, fun h => by rw [h]⟩
 rw [ByteArray.toList_eq, ByteArray.toList_eq] at h
 exact Oc.ba_ext h
theorem get0 (x : S33) (h : Ok x) : Oc.getB (rc x) 0 4 = (x.f0, true) := by
 obtain ⟨h0, h1, h2⟩ := h
 have e : ((rc x).data.toList.drop (0 : Int).toNat).take (4 : Int).toNat = beU x.f0.toNat 4 := by
  rw [rc_data]; show ((beU x.f0.toNat 4 ++ beU x.f1.toNat 4).drop 0).take 4 = _
  rw [List.drop_zero]; exact List.take_left' (beU_len _ _)
 have hs := rc_size x
 unfold Oc.getB
 rw [e, numN_beU, show 256 ^ 4 = 4294967296 from rfl, Nat.mod_eq_of_lt (by omega), if_neg (by omega), if_pos (by omega)]
 exact Prod.ext (by show ((x.f0.toNat : Nat) : Int) = x.f0; omega) rfl
theorem get4 (x : S33) (h : Ok x) : Oc.getB (rc x) 4 4 = (x.f1, true) := by
 obtain ⟨h0, h1, h2⟩ := h
 have e : ((rc x).data.toList.drop (4 : Int).toNat).take (4 : Int).toNat = beU x.f1.toNat 4 := by
  rw [rc_data]; show ((beU x.f0.toNat 4 ++ beU x.f1.toNat 4).drop 4).take 4 = _
  rw [List.drop_left' (beU_len _ _)]; exact List.take_of_length_le (by rw [beU_len]; exact Nat.le_refl _)
 have hs := rc_size x
 unfold Oc.getB
 rw [e, numN_beU, show 256 ^ 4 = 4294967296 from rfl, Nat.mod_eq_of_lt (by omega), if_neg (by omega), if_pos (by omega)]
 exact Prod.ext (by show ((x.f1.toNat : Nat) : Int) = x.f1; omega) rfl
theorem getpair (x : S33) (h : Ok x) : Ev (fun k => chainmanref14_GetPair.f k (rc x)) (x.f0, x.f1, true) := by
 have hs := rc_size x
 have g1 : Ev (fun k => chainmanref02_Get.f k (rc x) 0 4) (x.f0, true) := ⟨20, fun k hk => (Oc.refget_bv (rc x) 0 4 (by omega) (by decide) k hk).trans (congrArg some (get0 x h))⟩
 have g2 : Ev (fun k => chainmanref02_Get.f k (rc x) 4 4) (x.f1, true) := ⟨20, fun k hk => (Oc.refget_bv (rc x) 4 4 (by omega) (by decide) k hk).trans (congrArg some (get4 x h))⟩
 refine Ev.congr (fun k => by unfold chainmanref14_GetPair.f; rw [if_pos (by rw [hs]; rfl)]) ?_
 refine Ev.bind g1 (Ev.bind g2 (Ev.bind (pair_ok x h) ?_))
 exact Ev.congr (f := fun _ => some (x.f0, x.f1, true)) (fun k => by rw [if_pos rfl, if_pos rfl]) (Ev.now _)
theorem has_ev (l : List S33) (x : S33) (hl : l.length ≤ 1000) (ho : ∀ y ∈ l, Ok y) (hx : Ok x) : ∀ (d i : Nat), i + d = l.length → Ev (fun k => chainmanref16_has.l0 k (l.map rc) (rc x) (i : Int)) (decide (x ∈ l.drop i)) := by
 intro d
 induction d with
 | zero =>
  intro i hi
  rw [List.drop_of_length_le (by omega)]
  exact Ev.step (f := fun _ => some false) (fun k => by rw [chainmanref16_has.l0, if_neg (by rw [List.length_map]; omega)]) (Ev.now _)
 | succ d ih =>
  intro i hi
  have hlt : i < l.length := by omega
  have key : ∀ k, chainmanref16_has.l0 (k + 1) (l.map rc) (rc x) (i : Int) = if (rc l[i]).toList = (rc x).toList then some true else chainmanref16_has.l0 k (l.map rc) (rc x) (wrap64 ((i : Int) + 1)) := fun k => by
   rw [chainmanref16_has.l0, if_pos (by rw [List.length_map]; omega), if_pos (by omega), rds_at _ i (by rw [List.length_map]; omega), List.getElem_map]
  rw [List.drop_eq_getElem_cons hlt]
  by_cases e : l[i] = x
  ·rw [show decide (x ∈ l[i] :: l.drop (i + 1)) = true from decide_eq_true (by rw [e]; exact List.mem_cons_self ..)]
   exact Ev.step key (Ev.congr (f := fun _ => some true) (fun k => if_pos ((rc_eq _ _ (ho _ (List.getElem_mem _)) hx).2 e)) (Ev.now _))
  ·rw [show decide (x ∈ l[i] :: l.drop (i + 1)) = decide (x ∈ l.drop (i + 1)) from decide_eq_decide.2 ⟨fun h => by
    rcases List.mem_cons.mp h with h | h
    ·exact absurd h.symm e
    ·exact h, fun h => List.mem_cons_of_mem _ h⟩]
   refine Ev.step key (Ev.congr (fun k => if_neg (fun h => e ((rc_eq _ _ (ho _ (List.getElem_mem _)) hx).1 h))) ?_)
   rw [wsucc i (by omega)]
   exact ih (i + 1) (by omega)
theorem ins_ev (l : List S33) (x : S33) (hl : l.length ≤ 1000) (ho : ∀ y ∈ l, Ok y) (hx : Ok x) : ∀ (d i : Nat), i + d = l.length → Ev (fun k => chainmanref16_insert.l0 k (l.map rc) (rc x) ((l.take i).map rc) (i : Int)) ((l.take i ++ ins lt x (l.drop i)).map rc) := by
 intro d
 induction d with
 | zero =>
  intro i hi
  have hlen : ((l.take i).map rc).length < 8796093022208 := by rw [List.length_map, List.length_take]; omega
  rw [List.drop_of_length_le (by omega)]
  refine Ev.step (f := fun _ => some ((l.take i ++ ins lt x []).map rc)) (fun k => ?_) (Ev.now _)
  rw [chainmanref16_insert.l0, if_neg (by rw [List.length_map]; omega), if_pos hlen, Option.bind_some, if_pos (by omega), if_pos (by rw [List.length_map]; omega)]
  have e : (l.map rc).drop (i : Int).toNat = [] := List.drop_of_length_le (by rw [List.length_map]; omega)
  rw [e, if_pos (by rw [List.length_append, List.length_map, List.length_take]; simp; omega), List.append_nil, ins, List.map_append]
  rfl
 | succ d ih =>
  intro i hi
  have hlt : i < l.length := by omega
  have hlen : ((l.take i).map rc).length < 8796093022208 := by rw [List.length_map, List.length_take]; omega
  have hlt2 : i < (l.map rc).length := by rw [List.length_map]; omega
  rw [List.drop_eq_getElem_cons hlt, ins]
  by_cases e : lt x l[i] = true
  ·rw [if_pos e]
   refine Ev.step (f := fun _ => some ((l.take i ++ x :: l[i] :: l.drop (i + 1)).map rc)) (fun k => ?_) (Ev.now _)
   rw [chainmanref16_insert.l0, if_pos (by omega), if_pos (by omega), rds_at _ i hlt2, List.getElem_map, if_pos (by rw [rc_less _ _ hx (ho _ (List.getElem_mem _))]; exact e), if_pos hlen, Option.bind_some, if_pos (by omega)]
   have e2 : (l.map rc).drop (i : Int).toNat = (l[i] :: l.drop (i + 1)).map rc := by
    rw [← List.drop_eq_getElem_cons hlt, Int.toNat_natCast, List.map_drop]
   rw [e2, if_pos (by simp; omega), List.map_append, List.map_cons, List.append_assoc]
   rfl
  ·rw [if_neg e]
   refine Ev.step (f := fun k => chainmanref16_insert.l0 k (l.map rc) (rc x) ((l.take (i + 1)).map rc) (wrap64 ((i : Int) + 1))) (fun k => ?_) ?_
   ·rw [chainmanref16_insert.l0, if_pos (by omega), if_pos (by omega), rds_at _ i hlt2, List.getElem_map, if_neg (by rw [rc_less _ _ hx (ho _ (List.getElem_mem _))]; exact e), if_pos hlen, List.take_succ_eq_append_getElem hlt, List.map_append]
    rfl
   ·rw [wsucc i (by omega)]
    have := ih (i + 1) (by omega)
    rw [List.take_succ_eq_append_getElem hlt, List.append_assoc] at this
    rw [List.take_succ_eq_append_getElem hlt]
    exact this
theorem sortL_mem_ok (l acc : List S33) (ha : ∀ y ∈ acc, Ok y) (x : S33) (hx : Ok x) : ∀ y ∈ (if x ∈ acc then acc else ins lt x acc), Ok y := by
 intro y hy
 split at hy
 ·exact ha y hy
 ·rcases (ins_mem x acc y).1 hy with rfl | h
  ·exact hx
  ·exact ha y h
theorem sortS_ev (l : List S33) (hl : l.length ≤ 300) (ho : ∀ y ∈ l, Ok y) : ∀ (d i : Nat) (acc : List S33), i + d = l.length → acc.length ≤ i → (∀ y ∈ acc, Ok y) → Ev (fun k => chainmanref16_Sorted.l0 k (l.map rc) true (acc.map rc) (i : Int)) ((sortL lt acc (l.drop i)).map rc) := by
 intro d
 induction d with
 | zero =>
  intro i acc hi hal hac
  rw [List.drop_of_length_le (by omega), sortL]
  exact Ev.step (f := fun _ => some (acc.map rc)) (fun k => by rw [chainmanref16_Sorted.l0, if_neg (by rw [List.length_map]; omega)]) (Ev.now _)
 | succ d ih =>
  intro i acc hi hal hac
  have hlt : i < l.length := by omega
  have hx := ho _ (List.getElem_mem hlt)
  have hlt2 : i < (l.map rc).length := by rw [List.length_map]; omega
  rw [List.drop_eq_getElem_cons hlt, sortL]
  refine Ev.step (f := fun k => (chainmanref16_has.f k (acc.map rc) (rc l[i])).bind fun t => if t = true then (chainmanref16_Sorted.l0 k (l.map rc) true (acc.map rc) (wrap64 ((i : Int) + 1))) else ((chainmanref16_insert.f k (acc.map rc) (rc l[i])).bind fun t2 => (chainmanref16_Sorted.l0 k (l.map rc) true t2 (wrap64 ((i : Int) + 1))))) (fun k => ?_) ?_
  ·rw [chainmanref16_Sorted.l0, if_pos (by omega), if_pos rfl, if_pos (by omega), rds_at _ i hlt2, List.getElem_map]
  ·have h1 := has_ev acc l[i] (by omega) hac hx acc.length 0 (by omega)
   rw [List.drop_zero] at h1
   refine Ev.bind h1 ?_
   rw [wsucc i (by omega)]
   by_cases hm : l[i] ∈ acc
   ·rw [if_pos hm]
    exact Ev.congr (fun k => if_pos (decide_eq_true hm)) (ih (i + 1) acc (by omega) (by omega) hac)
   ·rw [if_neg hm]
    refine Ev.congr (fun k => if_neg (by rw [decide_eq_false hm]; decide)) ?_
    have h2 := ins_ev acc l[i] (by omega) hac hx acc.length 0 (by omega)
    rw [List.take_zero, List.drop_zero, List.nil_append] at h2
    refine Ev.bind h2 ?_
    have := sortL_mem_ok l acc hac l[i] hx
    rw [if_neg hm] at this
    exact ih (i + 1) _ (by omega) (by rw [ins_len]; omega) this
theorem sortL_len : ∀ (l acc : List S33), (sortL lt acc l).length ≤ acc.length + l.length := by
 intro l
 induction l with
 | nil => intro acc; exact Nat.le_refl _
 | cons x l ih =>
  intro acc
  rw [sortL]
  have := ih (if x ∈ acc then acc else ins lt x acc)
  have h2 : (if x ∈ acc then acc else ins lt x acc).length ≤ acc.length + 1 := by
   split
   ·omega
   ·rw [ins_len]; omega
  rw [List.length_cons]; omega
theorem sorted1 (S : List S33) (hl : S.length ≤ 300) (ho : ∀ y ∈ S, Ok y) : ∀ (d i : Nat), i + d = S.length → Ev (fun k => chainmanref50_sorted.l1 k (S.map rc) (S.take i) (i : Int)) S := by
 intro d
 induction d with
 | zero =>
  intro i hi
  refine Ev.step (f := fun _ => some (S.take i)) (fun k => by rw [chainmanref50_sorted.l1, if_neg (by rw [List.length_map]; omega)]) ?_
  rw [List.take_of_length_le (by omega)]
  exact Ev.now _
 | succ d ih =>
  intro i hi
  have hlt : i < S.length := by omega
  have hlt2 : i < (S.map rc).length := by rw [List.length_map]; omega
  refine Ev.step (f := fun k => (chainmanref14_GetPair.f k (rc S[i])).bind fun b => if (S.take i).length < 8796093022208 then chainmanref50_sorted.l1 k (S.map rc) (S.take i ++ [(⟨b.1, b.2.1⟩ : S33)]) (wrap64 ((i : Int) + 1)) else none) (fun k => ?_) ?_
  ·rw [chainmanref50_sorted.l1, if_pos (by omega), if_pos (by omega), rds_at _ i hlt2, List.getElem_map]
  ·refine Ev.bind (getpair _ (ho _ (List.getElem_mem hlt))) ?_
   refine Ev.congr (fun k => if_pos (by rw [List.length_take]; omega)) ?_
   rw [wsucc i (by omega)]
   have := ih (i + 1) (by omega)
   rw [List.take_succ_eq_append_getElem hlt] at this
   exact this
theorem sorted0 (l : List S33) (hl : l.length ≤ 300) (ho : ∀ y ∈ l, Ok y) : ∀ (d i : Nat), i + d = l.length → Ev (fun k => chainmanref50_sorted.l0 k l ((l.take i).map rc) (i : Int)) (sortL lt [] l) := by
 intro d
 induction d with
 | zero =>
  intro i hi
  refine Ev.step (f := fun k => (chainmanref16_Sorted.f k ((l.take i).map rc) true).bind fun t => chainmanref50_sorted.l1 k t ([] : List S33) 0) (fun k => by rw [chainmanref50_sorted.l0, if_neg (by omega)]) ?_
  rw [List.take_of_length_le (by omega)]
  have h1 := sortS_ev l hl ho l.length 0 [] (by omega) (by simp) (by simp)
  rw [List.drop_zero] at h1
  refine Ev.bind h1 ?_
  have hs := (sortL_srt lin l [] List.Pairwise.nil).2
  have := sorted1 (sortL lt [] l) (by have := sortL_len l []; simp at this; omega) (fun y hy => by
   rcases (hs y).1 hy with h | h
   ·simp at h
   ·exact ho y h) (sortL lt [] l).length 0 (by omega)
  rw [List.take_zero] at this
  exact this
 | succ d ih =>
  intro i hi
  have hlt : i < l.length := by omega
  refine Ev.step (f := fun k => (chainmanref14_PutPair.f k l[i].f0 l[i].f1).bind fun b => if ((l.take i).map rc).length < 8796093022208 then chainmanref50_sorted.l0 k l ((l.take i).map rc ++ [b.1]) (wrap64 ((i : Int) + 1)) else none) (fun k => ?_) ?_
  ·rw [chainmanref50_sorted.l0, if_pos (by omega), if_pos (by omega), rd_at l i hlt]
  ·refine Ev.bind (pair_ok _ (ho _ (List.getElem_mem hlt))) ?_
   refine Ev.congr (fun k => if_pos (by rw [List.length_map, List.length_take]; omega)) ?_
   rw [wsucc i (by omega)]
   have := ih (i + 1) (by omega)
   rw [List.take_succ_eq_append_getElem hlt, List.map_append] at this
   exact this
theorem sorted_ev (l : List S33) (hl : l.length ≤ 300) (ho : ∀ y ∈ l, Ok y) : Ev (fun k => chainmanref50_sorted.f k l) (sortL lt [] l) := by
 have := sorted0 l hl ho l.length 0 (by omega)
 rw [List.take_zero] at this
 exact this
def rw_ (g : List (List S41)) (i : Nat) : List S41 := rd_L8 g (i : Int)
def E_ (g : List (List S41)) (i j : Nat) : S41 := rd_T41 (rw_ g i) (j : Int)
theorem rw_at (g : List (List S41)) (i : Nat) (h : i < g.length) : rw_ g i = g[i] := by
 unfold rw_ rd_L8; rw [Int.toNat_natCast, List.getD_eq_getElem?_getD, List.getElem?_eq_getElem h]; rfl
theorem rd41 (l : List S41) (j : Nat) (h : j < l.length) : rd_T41 l (j : Int) = l[j] := by
 unfold rd_T41; rw [Int.toNat_natCast, List.getD_eq_getElem?_getD, List.getElem?_eq_getElem h]; rfl
/-- A near one's numbers may be. -/
def okR (n : Int) (x : S41) : Prop := 0 ≤ x.f1 ∧ x.f1 < n ∧ 0 ≤ x.f0 ∧ x.f0 ≤ 4611686018427387904
def nl (a b : S41) : Prop := a.f0 < b.f0 ∨ (a.f0 = b.f0 ∧ a.f1 < b.f1)
/-- At place j of a list: no new one, and behind the one ahead of it. -/
def okS (l : List S41) (j : Nat) : Prop := (rd_T41 l (j : Int)).f2 = false ∧ (0 < j → nl (rd_T41 l ((j - 1 : Nat) : Int)) (rd_T41 l (j : Int)))
def ClRow (n : Int) (l : List S41) : Prop := ∀ j, j < l.length → okR n (rd_T41 l (j : Int)) ∧ okS l j
def Cl (g : List (List S41)) : Prop := ∀ i, i < g.length → ClRow (g.length : Int) (rw_ g i)
theorem order_ev (a b : S41) : ∃ t, Ev (fun k => graphfile_order.f k a.f0 a.f1 a.f2 b.f0 b.f1 b.f2) t ∧ (t ≥ 0 ↔ ¬ nl a b) := by
 refine ⟨if (if a.f0 < b.f0 then (-1 : Int) else if b.f0 < a.f0 then 1 else 0) = 0 then (if a.f1 < b.f1 then (-1 : Int) else if b.f1 < a.f1 then 1 else 0) else (if a.f0 < b.f0 then (-1 : Int) else if b.f0 < a.f0 then 1 else 0), ⟨4, fun k hk => ?_⟩, ?_⟩
 ·obtain ⟨m, rfl⟩ : ∃ m, k = m + 4 := ⟨k - 4, by omega⟩
  show graphfile_order.f (m + 4) a.f0 a.f1 a.f2 b.f0 b.f1 b.f2 = _
  unfold graphfile_order.f
  rw [diff_Edges.cmp_eq, Option.bind_some, diff_Edges.cmp_eq, Option.bind_some, diff_Edges.or_eq]
  rfl
 ·unfold nl
  by_cases h1 : a.f0 < b.f0
  ·simp [h1]
  ·by_cases h2 : b.f0 < a.f0
   ·simp [h1, h2]; omega
   ·by_cases h3 : a.f1 < b.f1
    ·simp [h1, h2, h3]; omega
    ·by_cases h4 : b.f1 < a.f1
     ·simp [h1, h2, h3, h4]
     ·simp [h1, h2, h3, h4]
theorem wpred (j : Nat) (h0 : 0 < j) (h : j < 1000000) : wrap64 ((j : Int) - 1) = ((j - 1 : Nat) : Int) := by unfold wrap64; omega
theorem prow (l : List S41) (n : Int) (hl : l.length ≤ 1000) : ∀ (d i : Nat), i + d = l.length → ∃ b, Ev (fun k => graphfile_clean.l0 k l n l (l.length : Int) (i : Int)) b ∧ (b = true ↔ ∀ j, i ≤ j → j < l.length → okR n (rd_T41 l (j : Int)) ∧ okS l j) := by
 intro d
 induction d with
 | zero =>
  intro i hi
  exact ⟨true, Ev.step (f := fun _ => some true) (fun k => by rw [graphfile_clean.l0, if_neg (by omega)]) (Ev.now _), ⟨fun _ j h1 h2 => by omega, fun _ => rfl⟩⟩
 | succ d ih =>
  intro i hi
  have hlt : i < l.length := by omega
  have no : ∀ (h : ¬ (okR n (rd_T41 l (i : Int)) ∧ okS l i)), (false = true ↔ ∀ j, i ≤ j → j < l.length → okR n (rd_T41 l (j : Int)) ∧ okS l j) := fun h => ⟨fun e => (by cases e), fun e => absurd (e i (Nat.le_refl _) hlt) h⟩
  have st : ∀ k, graphfile_clean.l0 (k + 1) l n l (l.length : Int) (i : Int) = if (rd_T41 l (i : Int)).f2 = true then (some false) else (if ((rd_T41 l (i : Int)).f1) < 0 then (some false) else (if ((rd_T41 l (i : Int)).f1) ≥ n then (some false) else (if ((rd_T41 l (i : Int)).f0) < 0 then (some false) else (if ((rd_T41 l (i : Int)).f0) > 4611686018427387904 then (some false) else (if (i : Int) > 0 then (if 0 ≤ (wrap64 ((i : Int) - 1)) then (if (wrap64 ((i : Int) - 1)) < (l.length : Int) then ((graphfile_order.f k ((rd_T41 l (wrap64 ((i : Int) - 1))).f0) ((rd_T41 l (wrap64 ((i : Int) - 1))).f1) ((rd_T41 l (wrap64 ((i : Int) - 1))).f2) ((rd_T41 l (i : Int)).f0) ((rd_T41 l (i : Int)).f1) ((rd_T41 l (i : Int)).f2)).bind fun t => (if t ≥ 0 then (some false) else (graphfile_clean.l0 k l n l (l.length : Int) (wrap64 ((i : Int) + 1))))) else (none)) else (none)) else (graphfile_clean.l0 k l n l (l.length : Int) (wrap64 ((i : Int) + 1)))))))) := fun k => by
   rw [graphfile_clean.l0, if_pos (by omega), if_pos (by omega), if_pos (by omega)]
  by_cases a1 : (rd_T41 l (i : Int)).f2 = true
  ·exact ⟨false, Ev.step st (Ev.congr (f := fun _ => some false) (fun k => if_pos a1) (Ev.now _)), no (fun h => by rw [h.2.1] at a1; cases a1)⟩
  by_cases a2 : (rd_T41 l (i : Int)).f1 < 0
  ·exact ⟨false, Ev.step st (Ev.congr (f := fun _ => some false) (fun k => by rw [if_neg a1, if_pos a2]) (Ev.now _)), no (fun h => by have := h.1.1; omega)⟩
  by_cases a3 : (rd_T41 l (i : Int)).f1 ≥ n
  ·exact ⟨false, Ev.step st (Ev.congr (f := fun _ => some false) (fun k => by rw [if_neg a1, if_neg a2, if_pos a3]) (Ev.now _)), no (fun h => by have := h.1.2.1; omega)⟩
  by_cases a4 : (rd_T41 l (i : Int)).f0 < 0
  ·exact ⟨false, Ev.step st (Ev.congr (f := fun _ => some false) (fun k => by rw [if_neg a1, if_neg a2, if_neg a3, if_pos a4]) (Ev.now _)), no (fun h => by have := h.1.2.2.1; omega)⟩
  by_cases a5 : (rd_T41 l (i : Int)).f0 > 4611686018427387904
  ·exact ⟨false, Ev.step st (Ev.congr (f := fun _ => some false) (fun k => by rw [if_neg a1, if_neg a2, if_neg a3, if_neg a4, if_pos a5]) (Ev.now _)), no (fun h => by have := h.1.2.2.2; omega)⟩
  have okr : okR n (rd_T41 l (i : Int)) := ⟨by omega, by omega, by omega, by omega⟩
  have f2 : (rd_T41 l (i : Int)).f2 = false := Bool.eq_false_iff.2 a1
  obtain ⟨b, hb, hh⟩ := ih (i + 1) (by omega)
  have ext : okS l i → (b = true ↔ ∀ j, i ≤ j → j < l.length → okR n (rd_T41 l (j : Int)) ∧ okS l j) := fun hs => hh.trans ⟨fun h j h1 h2 => by
   rcases Nat.lt_or_ge i j with h3 | h3
   ·exact h j h3 h2
   ·obtain rfl : j = i := by omega
    exact ⟨okr, hs⟩, fun h j h1 h2 => h j (by omega) h2⟩
  by_cases h0 : 0 < i
  ·obtain ⟨t, ht, hti⟩ := order_ev (rd_T41 l ((i - 1 : Nat) : Int)) (rd_T41 l (i : Int))
   have st2 : ∀ k, graphfile_clean.l0 (k + 1) l n l (l.length : Int) (i : Int) = (graphfile_order.f k ((rd_T41 l ((i - 1 : Nat) : Int)).f0) ((rd_T41 l ((i - 1 : Nat) : Int)).f1) ((rd_T41 l ((i - 1 : Nat) : Int)).f2) ((rd_T41 l (i : Int)).f0) ((rd_T41 l (i : Int)).f1) ((rd_T41 l (i : Int)).f2)).bind fun t => (if t ≥ 0 then (some false) else (graphfile_clean.l0 k l n l (l.length : Int) (wrap64 ((i : Int) + 1)))) := fun k => by
    rw [st, if_neg a1, if_neg a2, if_neg a3, if_neg a4, if_neg a5, if_pos (by omega), wpred i h0 (by omega), if_pos (by omega), if_pos (by omega)]
   by_cases hge : t ≥ 0
   ·exact ⟨false, Ev.step st2 (Ev.bind ht (Ev.congr (f := fun _ => some false) (fun k => if_pos hge) (Ev.now _))), no (fun h => hti.1 hge (h.2.2 h0))⟩
   ·refine ⟨b, Ev.step st2 (Ev.bind ht (Ev.congr (fun k => if_neg hge) ?_)), ext ⟨f2, fun _ => Classical.byContradiction (fun q => hge (hti.2 q))⟩⟩
    rw [wsucc i (by omega)]; exact hb
  ·refine ⟨b, Ev.step (fun k => by rw [st, if_neg a1, if_neg a2, if_neg a3, if_neg a4, if_neg a5, if_neg (by omega), wsucc i (by omega)]) hb, ext ⟨f2, fun q => absurd q h0⟩⟩
theorem uni (g : List (List S41)) (n : Int) (Q : List S41 → Prop) (h : ∀ l ∈ g, ∃ b, Ev (fun k => graphfile_clean.f k l n) b ∧ (b = true ↔ Q l)) : ∃ K, ∀ k, K ≤ k → ∀ l ∈ g, ∃ b, graphfile_clean.f k l n = some b ∧ (b = true ↔ Q l) := by
 induction g with
 | nil => exact ⟨0, fun _ _ l hl => by simp at hl⟩
 | cons a g ih =>
  obtain ⟨K, hK⟩ := ih (fun l hl => h l (List.mem_cons_of_mem _ hl))
  obtain ⟨b, ⟨K', hb⟩, hq⟩ := h a (List.mem_cons_self ..)
  refine ⟨K + K', fun k hk l hl => ?_⟩
  rcases List.mem_cons.mp hl with rfl | hl
  ·exact ⟨b, hb k (by omega), hq⟩
  ·exact hK k (by omega) l hl
/-- The program's. -/
theorem pclean (g : List (List S41)) (hg : g.length ≤ 1000) (hr : ∀ l ∈ g, l.length ≤ 1000) : ∃ b, Ev (fun k => graphfile_Clean.f k g) b ∧ (b = true ↔ Cl g) := by
 obtain ⟨K, hK⟩ := uni g (g.length : Int) (ClRow (g.length : Int)) (fun l hl => by
  obtain ⟨b, hb, hh⟩ := prow l (g.length : Int) (hr l hl) l.length 0 (by omega)
  exact ⟨b, hb, hh.trans ⟨fun h j hj => h j (Nat.zero_le _) hj, fun h j _ hj => h j hj⟩⟩)
 have cl : Cl g ↔ ∀ l ∈ g, ClRow (g.length : Int) l := ⟨fun h l hl => by
  obtain ⟨i, hi, rfl⟩ := List.mem_iff_getElem.mp hl
  have := h i hi
  rwa [rw_at g i hi] at this, fun h i hi => by rw [rw_at g i hi]; exact h _ (List.getElem_mem _)⟩
 have is : ∀ k, K ≤ k → (g.all fun l => (graphfile_clean.f k l (g.length : Int)).isSome) = true := fun k hk => List.all_eq_true.mpr (fun l hl => by
  obtain ⟨b, hb, _⟩ := hK k hk l hl
  rw [hb]; rfl)
 by_cases hc : ∀ l ∈ g, ClRow (g.length : Int) l
 ·refine ⟨true, ⟨K, fun k hk => ?_⟩, ⟨fun _ => cl.2 hc, fun _ => rfl⟩⟩
  show graphfile_Clean.f k g = _
  unfold graphfile_Clean.f
  rw [if_neg (by omega), if_pos (is k hk)]
  refine congrArg some (List.all_eq_true.mpr (fun l hl => ?_))
  obtain ⟨b, hb, hq⟩ := hK k hk l hl
  rw [hb, hq.2 (hc l hl)]; rfl
 ·refine ⟨false, ⟨K, fun k hk => ?_⟩, ⟨fun e => (by cases e), fun e => absurd (cl.1 e) hc⟩⟩
  show graphfile_Clean.f k g = _
  unfold graphfile_Clean.f
  rw [if_neg (by omega), if_pos (is k hk)]
  refine congrArg some (Bool.eq_false_iff.2 (fun q => hc (fun l hl => ?_)))
  obtain ⟨b, hb, hq⟩ := hK k hk l hl
  have := List.all_eq_true.mp q l hl
  rw [hb] at this
  exact hq.1 (by simpa using this)
/-- What is left to be looked at, from place j of list i on. -/
def Rest (P : Nat → Nat → Prop) (g : List (List S41)) (i j : Nat) : Prop := (∀ j', j ≤ j' → j' < (rw_ g i).length → P i j') ∧ ∀ i', i < i' → i' < g.length → ∀ j', j' < (rw_ g i').length → P i' j'
theorem rest_step {P : Nat → Nat → Prop} {g : List (List S41)} {i j : Nat} (h : P i j) : Rest P g i (j + 1) ↔ Rest P g i j := ⟨fun q => ⟨fun j' h1 h2 => by
  rcases Nat.lt_or_ge j j' with h3 | h3
  ·exact q.1 j' h3 h2
  ·obtain rfl : j' = j := by omega
   exact h, q.2⟩, fun q => ⟨fun j' h1 h2 => q.1 j' (by omega) h2, q.2⟩⟩
theorem rest_no {P : Nat → Nat → Prop} {g : List (List S41)} {i j : Nat} (hj : j < (rw_ g i).length) (h : ¬ P i j) : (false = true ↔ Rest P g i j) := ⟨fun e => (by cases e), fun q => absurd (q.1 j (Nat.le_refl _) hj) h⟩
theorem rest_row {P : Nat → Nat → Prop} {g : List (List S41)} {i : Nat} : (∀ i', i + 1 ≤ i' → i' < g.length → ∀ j', j' < (rw_ g i').length → P i' j') ↔ Rest P g i (rw_ g i).length := ⟨fun q => ⟨fun j' h1 h2 => by omega, fun i' h1 h2 => q i' h1 h2⟩, fun q i' h1 h2 => q.2 i' h1 h2⟩
theorem rest_in {P : Nat → Nat → Prop} {g : List (List S41)} {i : Nat} (hi : i < g.length) : Rest P g i 0 ↔ ∀ i', i ≤ i' → i' < g.length → ∀ j', j' < (rw_ g i').length → P i' j' := ⟨fun q i' h1 h2 j' h3 => by
  rcases Nat.lt_or_ge i i' with h4 | h4
  ·exact q.2 i' h4 h2 j' h3
  ·obtain rfl : i' = i := by omega
   exact q.1 j' (Nat.zero_le _) h3, fun q => ⟨fun j' _ h2 => q i (Nat.le_refl _) hi j' h2, fun i' h1 h2 => q i' (by omega) h2⟩⟩
theorem dright (g : List (List S41)) (hg : g.length ≤ 1000) (hr : ∀ i, (rw_ g i).length ≤ 1000) : ∀ (d i : Nat), i + d = g.length → ∃ b, Ev (fun k => chainmanref34_Right.l0 k g (i : Int)) b ∧ (b = true ↔ ∀ i', i ≤ i' → i' < g.length → ∀ j', j' < (rw_ g i').length → okR (g.length : Int) (E_ g i' j')) := by
 intro d
 induction d with
 | zero =>
  intro i hi
  refine ⟨true, Ev.step (f := fun k => chainmanref34_Right.j1 k g (i : Int) false) (fun k => by rw [chainmanref34_Right.l0, if_neg (by omega)]) (Ev.step (f := fun _ => some true) (fun k => by rw [chainmanref34_Right.j1, if_neg (by decide), decide_eq_true (by omega)]) (Ev.now _)), ⟨fun _ i' h1 h2 => by omega, fun _ => rfl⟩⟩
 | succ d ih =>
  intro i hi
  have hlt : i < g.length := by omega
  have inner : ∀ (d j : Nat), j + d = (rw_ g i).length → ∃ b, Ev (fun k => chainmanref34_Right.l1 k g (i : Int) (j : Int)) b ∧ (b = true ↔ Rest (fun i j => okR (g.length : Int) (E_ g i j)) g i j) := by
   intro d
   induction d with
   | zero =>
    intro j hj
    obtain ⟨b, hb, hh⟩ := ih (i + 1) (by omega)
    refine ⟨b, Ev.step (fun k => by rw [chainmanref34_Right.l1, if_pos (by omega), if_pos (by omega), if_neg (by show ¬ ((j : Int) < ((rw_ g i).length : Int)); omega), wsucc i (by omega)]) hb, ?_⟩
    rw [show j = (rw_ g i).length by omega]
    exact hh.trans rest_row
   | succ d ih2 =>
    intro j hj
    have hj' : j < (rw_ g i).length := by omega
    have := hr i
    have st : ∀ k, chainmanref34_Right.l1 (k + 1) g (i : Int) (j : Int) = (if ((E_ g i j).f1) < 0 then (some false) else (if ((E_ g i j).f1) ≥ (g.length : Int) then (some false) else (if ((E_ g i j).f0) < 0 then (some false) else (if ((E_ g i j).f0) > 4611686018427387904 then (some false) else (chainmanref34_Right.l1 k g (i : Int) (wrap64 ((j : Int) + 1))))))) := fun k => by
     rw [chainmanref34_Right.l1, if_pos (by omega), if_pos (by omega), if_pos (by show (j : Int) < ((rw_ g i).length : Int); omega), if_pos (by omega)]; rfl
    by_cases a2 : (E_ g i j).f1 < 0
    ·exact ⟨false, Ev.step st (Ev.congr (f := fun _ => some false) (fun k => by rw [if_pos a2]) (Ev.now _)), rest_no hj' (fun h => by have := h.1; omega)⟩
    by_cases a3 : (E_ g i j).f1 ≥ (g.length : Int)
    ·exact ⟨false, Ev.step st (Ev.congr (f := fun _ => some false) (fun k => by rw [if_neg a2, if_pos a3]) (Ev.now _)), rest_no hj' (fun h => by have := h.2.1; omega)⟩
    by_cases a4 : (E_ g i j).f0 < 0
    ·exact ⟨false, Ev.step st (Ev.congr (f := fun _ => some false) (fun k => by rw [if_neg a2, if_neg a3, if_pos a4]) (Ev.now _)), rest_no hj' (fun h => by have := h.2.2.1; omega)⟩
    by_cases a5 : (E_ g i j).f0 > 4611686018427387904
    ·exact ⟨false, Ev.step st (Ev.congr (f := fun _ => some false) (fun k => by rw [if_neg a2, if_neg a3, if_neg a4, if_pos a5]) (Ev.now _)), rest_no hj' (fun h => by have := h.2.2.2; omega)⟩
    obtain ⟨b, hb, hh⟩ := ih2 (j + 1) (by omega)
    refine ⟨b, Ev.step (fun k => by rw [st, if_neg a2, if_neg a3, if_neg a4, if_neg a5, wsucc j (by omega)]) hb, hh.trans (rest_step ⟨by omega, by omega, by omega, by omega⟩)⟩
  obtain ⟨b, hb, hh⟩ := inner (rw_ g i).length 0 (by omega)
  refine ⟨b, Ev.step (f := fun k => chainmanref34_Right.j1 k g (i : Int) true) (fun k => by rw [chainmanref34_Right.l0, if_pos (by omega), decide_eq_true (by omega)]) (Ev.step (f := fun k => chainmanref34_Right.l1 k g (i : Int) ((0 : Nat) : Int)) (fun k => by rw [chainmanref34_Right.j1, if_pos rfl]; rfl) hb), hh.trans (rest_in hlt)⟩
theorem less_ev (a b : S41) : ∃ t, (∀ k : Nat, chainmanref12_Less.f a.f0 a.f1 a.f2 b.f0 b.f1 b.f2 = some t) ∧ (t = true ↔ nl a b) := by
 unfold nl chainmanref12_Less.f
 by_cases h1 : a.f0 < b.f0
 ·exact ⟨true, fun _ => if_pos h1, by simp [h1]⟩
 ·by_cases h2 : a.f0 = b.f0
  ·exact ⟨decide (a.f1 < b.f1), fun _ => by rw [if_neg h1, if_pos h2], by simp [h1, h2]⟩
  ·exact ⟨false, fun _ => by rw [if_neg h1, if_neg h2], by simp [h1, h2]⟩
theorem dsort (g : List (List S41)) (hg : g.length ≤ 1000) (hr : ∀ i, (rw_ g i).length ≤ 1000) : ∀ (d i : Nat), i + d = g.length → ∃ b, Ev (fun k => chainmanref36_Clean.l0 k g (i : Int)) b ∧ (b = true ↔ ∀ i', i ≤ i' → i' < g.length → ∀ j', j' < (rw_ g i').length → okS (rw_ g i') j') := by
 intro d
 induction d with
 | zero =>
  intro i hi
  exact ⟨true, Ev.step (f := fun _ => some true) (fun k => by rw [chainmanref36_Clean.l0, if_neg (by omega)]) (Ev.now _), ⟨fun _ i' h1 h2 => by omega, fun _ => rfl⟩⟩
 | succ d ih =>
  intro i hi
  have hlt : i < g.length := by omega
  have inner : ∀ (d j : Nat), j + d = (rw_ g i).length → ∃ b, Ev (fun k => chainmanref36_Clean.l1 k g (i : Int) (j : Int)) b ∧ (b = true ↔ Rest (fun i j => okS (rw_ g i) j) g i j) := by
   intro d
   induction d with
   | zero =>
    intro j hj
    obtain ⟨b, hb, hh⟩ := ih (i + 1) (by omega)
    refine ⟨b, Ev.step (fun k => by rw [chainmanref36_Clean.l1, if_pos (by omega), if_pos (by omega), if_neg (by show ¬ ((j : Int) < ((rw_ g i).length : Int)); omega), wsucc i (by omega)]) hb, ?_⟩
    rw [show j = (rw_ g i).length by omega]
    exact hh.trans rest_row
   | succ d ih2 =>
    intro j hj
    have hj' : j < (rw_ g i).length := by omega
    have := hr i
    have st : ∀ k, chainmanref36_Clean.l1 (k + 1) g (i : Int) (j : Int) = (if (rd_T41 (rw_ g i) (j : Int)).f2 = true then (some false) else (if (j : Int) > 0 then (if 0 ≤ (wrap64 ((j : Int) - 1)) then (if (wrap64 ((j : Int) - 1)) < ((rw_ g i).length : Int) then ((chainmanref12_Less.f ((rd_T41 (rw_ g i) (wrap64 ((j : Int) - 1))).f0) ((rd_T41 (rw_ g i) (wrap64 ((j : Int) - 1))).f1) ((rd_T41 (rw_ g i) (wrap64 ((j : Int) - 1))).f2) ((rd_T41 (rw_ g i) (j : Int)).f0) ((rd_T41 (rw_ g i) (j : Int)).f1) ((rd_T41 (rw_ g i) (j : Int)).f2)).bind fun t => (if t = true then (chainmanref36_Clean.l1 k g (i : Int) (wrap64 ((j : Int) + 1))) else (some false))) else (none)) else (none)) else (chainmanref36_Clean.l1 k g (i : Int) (wrap64 ((j : Int) + 1))))) := fun k => by
     rw [chainmanref36_Clean.l1, if_pos (by omega), if_pos (by omega), if_pos (by show (j : Int) < ((rw_ g i).length : Int); omega), if_pos (by omega)]; rfl
    by_cases a1 : (rd_T41 (rw_ g i) (j : Int)).f2 = true
    ·exact ⟨false, Ev.step st (Ev.congr (f := fun _ => some false) (fun k => if_pos a1) (Ev.now _)), rest_no hj' (fun h => by rw [h.1] at a1; cases a1)⟩
    have f2 := Bool.eq_false_iff.2 a1
    obtain ⟨b, hb, hh⟩ := ih2 (j + 1) (by omega)
    by_cases h0 : 0 < j
    ·obtain ⟨t, ht, hti⟩ := less_ev (rd_T41 (rw_ g i) ((j - 1 : Nat) : Int)) (rd_T41 (rw_ g i) (j : Int))
     have st2 : ∀ k, chainmanref36_Clean.l1 (k + 1) g (i : Int) (j : Int) = (if t = true then (chainmanref36_Clean.l1 k g (i : Int) (wrap64 ((j : Int) + 1))) else (some false)) := fun k => by
      rw [st, if_neg a1, if_pos (by omega), wpred j h0 (by omega), if_pos (by omega), if_pos (by omega), ht k, Option.bind_some]
     by_cases htt : t = true
     ·refine ⟨b, Ev.step (fun k => by rw [st2, if_pos htt, wsucc j (by omega)]) hb, hh.trans (rest_step ⟨f2, fun _ => hti.1 htt⟩)⟩
     ·exact ⟨false, Ev.step st2 (Ev.congr (f := fun _ => some false) (fun k => if_neg htt) (Ev.now _)), rest_no hj' (fun h => htt (hti.2 (h.2 h0)))⟩
    ·refine ⟨b, Ev.step (fun k => by rw [st, if_neg a1, if_neg (by omega), wsucc j (by omega)]) hb, hh.trans (rest_step ⟨f2, fun q => absurd q h0⟩)⟩
  obtain ⟨b, hb, hh⟩ := inner (rw_ g i).length 0 (by omega)
  exact ⟨b, Ev.step (f := fun k => chainmanref36_Clean.l1 k g (i : Int) ((0 : Nat) : Int)) (fun k => by rw [chainmanref36_Clean.l0, if_pos (by omega)]; rfl) hb, hh.trans (rest_in hlt)⟩
/-- The document's. -/
theorem dclean (g : List (List S41)) (hg : g.length ≤ 1000) (hr : ∀ i, (rw_ g i).length ≤ 1000) : ∃ b, Ev (fun k => chainmanref36_Clean.f k g) b ∧ (b = true ↔ Cl g) := by
 obtain ⟨b1, hb1, hh1⟩ := dright g hg hr g.length 0 (by omega)
 obtain ⟨b2, hb2, hh2⟩ := dsort g hg hr g.length 0 (by omega)
 cases b1 with
 | false => exact ⟨false, Ev.bind hb1 (Ev.congr (f := fun _ => some false) (fun k => if_neg (by decide)) (Ev.now _)), ⟨fun e => (by cases e), fun h => hh1.2 (fun i' _ h2 j' h3 => (h i' h2 j' h3).1)⟩⟩
 | true =>
  refine ⟨b2, Ev.bind hb1 (Ev.congr (fun k => if_pos rfl) hb2), hh2.trans ⟨fun h i hi j hj => ⟨hh1.1 rfl i (Nat.zero_le _) hi j hj, h i (Nat.zero_le _) hi j hj⟩, fun h i' _ h2 j' h3 => (h i' h2 j' h3).2⟩⟩
theorem el_mem {i : Int} {x : S41} {y : S33} (h : y ∈ diff_Edges.el i x) : x.f1 ≠ i ∧ y = ⟨mn i x.f1, mx i x.f1⟩ := by
 unfold diff_Edges.el at h
 split at h
 ·simp at h
 ·rename_i hne
  exact ⟨hne, List.mem_singleton.mp h⟩
theorem el_len (i : Int) (x : S41) : (diff_Edges.el i x).length ≤ 1 := by
 unfold diff_Edges.el
 split <;> simp
theorem row_len (i : Int) (l : List S41) : (diff_Edges.row i l).length ≤ l.length := by
 unfold diff_Edges.row
 induction l with
 | nil => simp
 | cons x l ih =>
  rw [List.flatMap_cons, List.length_append, List.length_cons]
  have := el_len i x
  omega
theorem es_len (g : List (List S41)) (hr : ∀ l ∈ g, l.length ≤ 12) : ∀ i, i ≤ g.length → (diff_Edges.es (g.take i)).length ≤ 12 * i := by
 intro i
 induction i with
 | zero => intro _; simp [diff_Edges.es]
 | succ i ih =>
  intro hi
  rw [diff_Edges.es_step g i (by omega), List.length_append]
  have h1 := row_len (i : Int) g[i]
  have h2 := hr g[i] (List.getElem_mem _)
  have := ih (by omega)
  omega
theorem es_mem {g : List (List S41)} {y : S33} (h : y ∈ diff_Edges.es g) : ∃ i, ∃ hi : i < g.length, ∃ x ∈ g[i], y ∈ diff_Edges.el (i : Int) x := by
 unfold diff_Edges.es at h
 obtain ⟨p, hp, hy⟩ := List.mem_flatMap.mp h
 obtain ⟨h1, h2, h3⟩ := List.mem_zipIdx hp
 simp only [Nat.zero_le, Nat.zero_add, Nat.sub_zero] at h2 h3
 unfold diff_Edges.row at hy
 obtain ⟨x, hx, hy2⟩ := List.mem_flatMap.mp hy
 exact ⟨p.2, h2, x, by rw [← h3]; exact hx, hy2⟩
theorem es_ok (g : List (List S41)) (hg : g.length ≤ 1000) (hc : Cl g) : ∀ y ∈ diff_Edges.es g, Ok y := by
 intro y hy
 obtain ⟨i, hi, x, hx, hy⟩ := es_mem hy
 obtain ⟨hne, rfl⟩ := el_mem hy
 obtain ⟨j, hj, rfl⟩ := List.mem_iff_getElem.mp hx
 have h := (hc i hi j (by rw [rw_at g i hi]; exact hj)).1
 rw [rw_at g i hi, rd41 _ j hj] at h
 obtain ⟨h1, h2, _, _⟩ := h
 unfold Ok mn mx
 refine ⟨?_, ?_, ?_⟩
 ·show 0 ≤ (if g[i][j].f1 < (i : Int) then g[i][j].f1 else (i : Int))
  split <;> omega
 ·show (if g[i][j].f1 < (i : Int) then g[i][j].f1 else (i : Int)) < (if (i : Int) < g[i][j].f1 then g[i][j].f1 else (i : Int))
  split <;> split <;> omega
 ·show (if (i : Int) < g[i][j].f1 then g[i][j].f1 else (i : Int)) < 1048576
  split <;> omega
theorem dedges (g : List (List S41)) (hg : g.length ≤ 12) (hr : ∀ l ∈ g, l.length ≤ 12) (ho : ∀ y ∈ diff_Edges.es g, Ok y) : ∀ (d i : Nat), i + d = g.length → Ev (fun k => chainmanref50_Edges.l0 k g (diff_Edges.es (g.take i)) (i : Int)) (sortL lt [] (diff_Edges.es g)) := by
 have hle := fun i (hi : i ≤ g.length) => es_len g hr i hi
 intro d
 induction d with
 | zero =>
  intro i hi
  rw [List.take_of_length_le (by omega)]
  have hl := hle g.length (Nat.le_refl _)
  rw [List.take_length] at hl
  refine Ev.step (f := fun k => (chainmanref50_sorted.f k (diff_Edges.es g)).bind fun t => some t) (fun k => by rw [chainmanref50_Edges.l0, if_neg (by omega)]) ?_
  exact Ev.bind (sorted_ev _ (by omega) ho) (Ev.now _)
 | succ d ih =>
  intro i hi
  have hlt : i < g.length := by omega
  have hri : (rw_ g i).length ≤ 12 := by rw [rw_at g i hlt]; exact hr _ (List.getElem_mem _)
  have hlei := hle i (by omega)
  have inner : ∀ (d j : Nat), j + d = (rw_ g i).length → Ev (fun k => chainmanref50_Edges.l1 k g (diff_Edges.es (g.take i) ++ diff_Edges.row (i : Int) ((rw_ g i).take j)) (i : Int) (j : Int)) (sortL lt [] (diff_Edges.es g)) := by
   intro d
   induction d with
   | zero =>
    intro j hj
    rw [show (rw_ g i).take j = rw_ g i from List.take_of_length_le (by omega)]
    have h1 := ih (i + 1) (by omega)
    rw [diff_Edges.es_step g i hlt, ← rw_at g i hlt] at h1
    exact Ev.step (fun k => by rw [chainmanref50_Edges.l1, if_pos (by omega), if_pos (by omega), if_neg (by show ¬ ((j : Int) < ((rw_ g i).length : Int)); omega), wsucc i (by omega)]) h1
   | succ d ih2 =>
    intro j hj
    have hj' : j < (rw_ g i).length := by omega
    have h1 := ih2 (j + 1) (by omega)
    have hrl := row_len (i : Int) ((rw_ g i).take j)
    have htl : ((rw_ g i).take j).length ≤ 12 := by rw [List.length_take]; omega
    have st : ∀ k, chainmanref50_Edges.l1 (k + 1) g (diff_Edges.es (g.take i) ++ diff_Edges.row (i : Int) ((rw_ g i).take j)) (i : Int) (j : Int) = (if (i : Int) = ((rw_ g i)[j].f1) then (chainmanref50_Edges.l1 k g (diff_Edges.es (g.take i) ++ diff_Edges.row (i : Int) ((rw_ g i).take j)) (i : Int) (wrap64 ((j : Int) + 1))) else (if (diff_Edges.es (g.take i) ++ diff_Edges.row (i : Int) ((rw_ g i).take j)).length < 8796093022208 then (chainmanref50_Edges.l1 k g ((diff_Edges.es (g.take i) ++ diff_Edges.row (i : Int) ((rw_ g i).take j)) ++ [(⟨mn (i : Int) ((rw_ g i)[j].f1), mx (i : Int) ((rw_ g i)[j].f1)⟩ : S33)]) (i : Int) (wrap64 ((j : Int) + 1))) else (none))) := fun k => by
     rw [chainmanref50_Edges.l1, if_pos (by omega), if_pos (by omega), if_pos (by show (j : Int) < ((rw_ g i).length : Int); omega), if_pos (by omega), show rd_T41 (rd_L8 g (i : Int)) (j : Int) = (rw_ g i)[j] from rd41 (rw_ g i) j hj']
    rw [diff_Edges.row_step (i : Int) (rw_ g i) j hj'] at h1
    by_cases e : (i : Int) = (rw_ g i)[j].f1
    ·rw [show diff_Edges.el (i : Int) (rw_ g i)[j] = [] from if_pos e.symm, List.append_nil] at h1
     exact Ev.step (fun k => by rw [st, if_pos e, wsucc j (by omega)]) h1
    ·rw [show diff_Edges.el (i : Int) (rw_ g i)[j] = [⟨mn (i : Int) ((rw_ g i)[j].f1), mx (i : Int) ((rw_ g i)[j].f1)⟩] from if_neg (fun q => e q.symm), ← List.append_assoc] at h1
     exact Ev.step (fun k => by rw [st, if_neg e, if_pos (by rw [List.length_append]; omega), wsucc j (by omega)]) h1
  have h0 := inner (rw_ g i).length 0 (by omega)
  rw [List.take_zero, show diff_Edges.row (i : Int) [] = [] from rfl, List.append_nil] at h0
  exact Ev.step (f := fun k => chainmanref50_Edges.l1 k g (diff_Edges.es (g.take i)) (i : Int) ((0 : Nat) : Int)) (fun k => by rw [chainmanref50_Edges.l0, if_pos (by omega)]; rfl) h0
theorem sameH_ev (l : List S33) (hl : l.length ≤ 1000) : Ev (fun k => chainmanref30_SamePairs.f k l l) true := by
 have h : ∀ (d i : Nat), i + d = l.length → Ev (fun k => chainmanref30_SamePairs.l0 k l l (i : Int)) true := by
  intro d
  induction d with
  | zero =>
   intro i hi
   exact Ev.step (f := fun _ => some true) (fun k => by rw [chainmanref30_SamePairs.l0, if_neg (by omega)]) (Ev.now _)
  | succ d ih =>
   intro i hi
   refine Ev.step (fun k => by rw [chainmanref30_SamePairs.l0, if_pos (by omega), if_pos (by omega), if_pos (by omega), if_neg (by simp), wsucc i (by omega)]) (ih (i + 1) (by omega))
 exact Ev.congr (fun k => by unfold chainmanref30_SamePairs.f; rw [if_pos rfl]; rfl) (h l.length 0 (by omega))
/-- What is in order and may be is clean to the document. -/
theorem recs_ok (l : List S33) (hl : l.length ≤ 1000) (ho : ∀ x ∈ l, Ok x) : ∀ (d i : Nat), i + d = l.length → Ev (fun k => chainmanref37_records.l0 k l ((l.take i).map rc) (i : Int)) (l.map rc, true) := by
 intro d
 induction d with
 | zero =>
  intro i hi
  rw [List.take_of_length_le (by omega)]
  exact Ev.step (f := fun _ => some (l.map rc, true)) (fun k => by rw [chainmanref37_records.l0, if_neg (by omega)]) (Ev.now _)
 | succ d ih =>
  intro i hi
  have hlt : i < l.length := by omega
  have key : ∀ k, chainmanref37_records.l0 (k + 1) l ((l.take i).map rc) (i : Int) = (chainmanref14_PutPair.f k l[i].f0 l[i].f1).bind fun bt => if bt.2 = true then (if ((l.take i).map rc).length < 8796093022208 then chainmanref37_records.l0 k l ((l.take i).map rc ++ [bt.1]) (wrap64 ((i : Int) + 1)) else none) else some ([], false) := fun k => by
   rw [chainmanref37_records.l0, if_pos (by omega), if_pos (by omega), rd_at l i hlt]
  refine Ev.step key (Ev.bind (pair_ok _ (ho _ (List.getElem_mem hlt))) ?_)
  refine Ev.congr (fun k => if_pos rfl) ?_
  refine Ev.congr (fun k => if_pos (by rw [List.length_map, List.length_take]; omega)) ?_
  rw [wsucc i (by omega)]
  have := ih (i + 1) (by omega)
  rw [List.take_succ_eq_append_getElem hlt, List.map_append] at this
  exact this
theorem clean_ok (l : List S33) (h : Good l) : Ev (fun k => chainmanref37_Clean.f k l) true := by
 obtain ⟨hs, ho, hl⟩ := h
 have h1 := recs_ok l hl ho l.length 0 (by omega)
 rw [List.take_zero] at h1
 have h2 : ∀ (d i : Nat), i + 1 + d = l.length ∨ (d = 0 ∧ l.length ≤ i + 1) → Ev (fun k => chainmanref37_Clean.l0 k (l.map rc) true ((i + 1 : Nat) : Int)) true := by
  intro d
  induction d with
  | zero =>
   intro i hi
   exact Ev.step (f := fun _ => some true) (fun k => by rw [chainmanref37_Clean.l0, if_neg (by rw [List.length_map]; omega)]) (Ev.now _)
  | succ d ih =>
   intro i hi
   have hlt : i + 1 < l.length := by omega
   have hlt' : lt l[i] l[i + 1] = true := List.pairwise_iff_getElem.mp hs i (i + 1) (by omega) hlt (by omega)
   refine Ev.step (fun k => by
    rw [chainmanref37_Clean.l0, if_pos (by rw [List.length_map]; omega), if_pos (by omega), wsub i (by omega), if_pos (by omega), if_pos (by rw [List.length_map]; omega), rds_at _ i (by rw [List.length_map]; omega), rds_at _ (i + 1) (by rw [List.length_map]; omega), List.getElem_map, List.getElem_map, rc_less _ _ (ho _ (List.getElem_mem _)) (ho _ (List.getElem_mem _)), if_pos hlt', wsucc (i + 1) (by omega)]) (ih (i + 1) (by omega))
 exact Ev.bind h1 (h2 (l.length - 1) 0 (by omega))
theorem awake_ev : Ev (fun k => chainmanlaw50_awake.f k) true := by
 have g1 : Good [(⟨0, 1⟩ : S33)] := ⟨List.pairwise_singleton _ _, by simp [Ok], by simp⟩
 have g2 : Good [(⟨0, 2⟩ : S33)] := ⟨List.pairwise_singleton _ _, by simp [Ok], by simp⟩
 have g0 : Good ([] : List S33) := ⟨List.Pairwise.nil, by simp, by simp⟩
 have h12 : lt (⟨0, 1⟩ : S33) ⟨0, 2⟩ = true := by decide
 have b12 : bs lt [(⟨0, 1⟩ : S33)] [⟨0, 2⟩] = [(⟨0, 1⟩, true, false), (⟨0, 2⟩, false, true)] := by
  rw [bs, if_pos h12, bs, bs]
 have e1 : goneL lt [(⟨0, 1⟩ : S33)] [⟨0, 2⟩] = [⟨0, 1⟩] := by unfold goneL pick; rw [b12]; rfl
 have e2 : cameL lt [(⟨0, 1⟩ : S33)] [⟨0, 2⟩] = [⟨0, 2⟩] := by unfold cameL pick; rw [b12]; rfl
 refine Ev.bind (pairs_ev g1 g2) ?_
 rw [e1, e2]
 refine Ev.congr (fun k => if_pos rfl) ?_
 have d0 : strconv_Itoa.f 0 = some ⟨#[48]⟩ := by unfold strconv_Itoa.f; rw [if_pos (by omega), show (0 : Int).toNat = 0 from rfl, Lib.decDigits_one (by omega)]; rfl
 have d1 : strconv_Itoa.f 1 = some ⟨#[49]⟩ := by unfold strconv_Itoa.f; rw [if_pos (by omega), show (1 : Int).toNat = 1 from rfl, Lib.decDigits_one (by omega)]; rfl
 have d2 : strconv_Itoa.f 2 = some ⟨#[50]⟩ := by unfold strconv_Itoa.f; rw [if_pos (by omega), show (2 : Int).toNat = 2 from rfl, Lib.decDigits_one (by omega)]; rfl
 obtain ⟨t, ht, htl⟩ : ∃ t, diff_Text.lines [((⟨0, 1⟩ : S33), true, false), (⟨0, 2⟩, false, true)] = some t ∧ t.toList = ([45, 32, 48, 32, 49, 10, 43, 32, 48, 32, 50, 10] : List UInt8) := by
  simp only [diff_Text.lines, diff_Text.one, diff_Text.line, d0, d1, d2, Option.bind_some, if_true, if_false, Bool.false_eq_true]
  exact ⟨_, rfl, by rw [ByteArray.toList_eq]; simp [ByteArray.data_append]⟩
 have hT : Ev (fun k => diff_Text.f k [(⟨0, 1⟩ : S33)] [⟨0, 2⟩]) t := by
  refine Ev.bind (cleans_ev [[(⟨0, 1⟩ : S33)], [⟨0, 2⟩]] (by simp) (by simp only [List.mem_cons, List.not_mem_nil, or_false]; rintro l (rfl | rfl); exact g1; exact g2)) ?_
  refine Ev.congr (fun k => if_pos rfl) ?_
  refine Ev.congr (fun k => if_pos (by decide)) ?_
  rw [bs_eq, b12, ht]
  exact Ev.now _
 refine Ev.bind hT ?_
 refine Ev.congr (fun k => if_pos htl) ?_
 have f1 : fitsL lt [(⟨0, 1⟩ : S33)] [⟨0, 2⟩] [⟨0, 1⟩] = true := fits_mem lin g1.1 g2.1 g1.1 (fun x hx => hx) (fun x hx hx' => by rw [List.mem_singleton.mp hx] at hx'; have := congrArg S33.f1 (List.mem_singleton.mp hx'); simp at this)
 have f2 : fitsL lt [(⟨0, 1⟩ : S33)] [⟨0, 2⟩] [] = false := by unfold fitsL; rw [bs]; rfl
 refine Ev.bind (f1 ▸ fits_ev g1 g2 g1) ?_
 refine Ev.congr (fun k => if_pos rfl) ?_
 exact Ev.bind (f2 ▸ fits_ev g1 g2 g0) (Ev.now _)
theorem end_ev (g : List (List S41)) (L : List S33) (n : Nat) (i : Int) (h1 : L.length ≤ n) (h2 : 0 < L.length ↔ 0 < n) : Ev (fun k => lw.j4 k g L (n : Int) i false) true := by
 have e : ((decide ((L.length : Int) > 0)) == (decide ((n : Int) > 0))) = true := by
  rw [beq_iff_eq]
  exact decide_eq_decide.2 ⟨fun h => by have := h2.1 (by omega); omega, fun h => by have := h2.2 (by omega); omega⟩
 refine Ev.step (fun k => by rw [lw.j4, if_neg (by decide), if_pos (by omega), if_pos e]) ?_
 exact Ev.bind awake_ev (Ev.now _)
theorem count_ev (g : List (List S41)) (L : List S33) (hg : g.length ≤ 12) (hr : ∀ l ∈ g, l.length ≤ 12) (hc : Ev (fun k => chainmanref36_Clean.f k g) true) (h1 : L.length ≤ (diff_Edges.es g).length) (h2 : 0 < L.length ↔ 0 < (diff_Edges.es g).length) :
  ∀ (d i : Nat), i + d = g.length → Ev (fun k => lw.l1 k g L ((diff_Edges.es (g.take i)).length : Int) (i : Int)) true := by
 have hle := fun i (hi : i ≤ g.length) => es_len g hr i hi
 intro d
 induction d with
 | zero =>
  intro i hi
  rw [List.take_of_length_le (by omega)]
  exact Ev.step (fun k => by rw [lw.l1, if_neg (by omega)]) (end_ev g L _ _ h1 h2)
 | succ d ih =>
  intro i hi
  have hlt : i < g.length := by omega
  have hri : (rw_ g i).length ≤ 12 := by rw [rw_at g i hlt]; exact hr _ (List.getElem_mem _)
  have hlei := hle i (by omega)
  have inner : ∀ (d j : Nat), j + d = (rw_ g i).length → Ev (fun k => lw.l2 k g L ((diff_Edges.es (g.take i) ++ diff_Edges.row (i : Int) ((rw_ g i).take j)).length : Int) (i : Int) (j : Int)) true := by
   intro d
   induction d with
   | zero =>
    intro j hj
    rw [show (rw_ g i).take j = rw_ g i from List.take_of_length_le (by omega)]
    have h3 := ih (i + 1) (by omega)
    rw [diff_Edges.es_step g i hlt, ← rw_at g i hlt] at h3
    exact Ev.step (fun k => by rw [lw.l2, if_pos (by omega), if_pos (by omega), if_neg (by show ¬ ((j : Int) < ((rw_ g i).length : Int)); omega), wsucc i (by omega)]) h3
   | succ d ih2 =>
    intro j hj
    have hj' : j < (rw_ g i).length := by omega
    have h3 := ih2 (j + 1) (by omega)
    have hrl := row_len (i : Int) ((rw_ g i).take j)
    have htl : ((rw_ g i).take j).length ≤ 12 := by rw [List.length_take]; omega
    have hsm : (diff_Edges.es (g.take i) ++ diff_Edges.row (i : Int) ((rw_ g i).take j)).length ≤ 1000 := by rw [List.length_append]; omega
    have st : ∀ k n, lw.l2 (k + 1) g L n (i : Int) (j : Int) = (if ((rw_ g i)[j].f1) = (i : Int) then (lw.l2 k g L n (i : Int) (wrap64 ((j : Int) + 1))) else (lw.l2 k g L (wrap64 (n + 1)) (i : Int) (wrap64 ((j : Int) + 1)))) := fun k n => by
     rw [lw.l2, if_pos (by omega), if_pos (by omega), if_pos (by show (j : Int) < ((rw_ g i).length : Int); omega), if_pos (by omega), show rd_T41 (rd_L8 g (i : Int)) (j : Int) = (rw_ g i)[j] from rd41 (rw_ g i) j hj']
    rw [diff_Edges.row_step (i : Int) (rw_ g i) j hj', ← List.append_assoc] at h3
    by_cases e : (rw_ g i)[j].f1 = (i : Int)
    ·rw [show diff_Edges.el (i : Int) (rw_ g i)[j] = [] from if_pos e, List.append_nil] at h3
     exact Ev.step (fun k => by rw [st, if_pos e, wsucc j (by omega)]) h3
    ·rw [show diff_Edges.el (i : Int) (rw_ g i)[j] = [⟨mn (i : Int) ((rw_ g i)[j].f1), mx (i : Int) ((rw_ g i)[j].f1)⟩] from if_neg e, List.length_append, List.length_singleton] at h3
     exact Ev.step (fun k => by rw [st, if_neg e, wsucc j (by omega), wsucc _ (by omega)]) h3
  have h0 := inner (rw_ g i).length 0 (by omega)
  rw [List.take_zero, show diff_Edges.row (i : Int) [] = [] from rfl, List.append_nil] at h0
  refine Ev.step (fun k => by rw [lw.l1, if_pos (by omega)]) ?_
  refine Ev.bind hc ?_
  exact Ev.step (f := fun k => lw.l2 k g L ((diff_Edges.es (g.take i)).length : Int) (i : Int) ((0 : Nat) : Int)) (fun k => by rw [lw.j4, if_pos rfl]; rfl) h0
theorem main_ev (g : List (List S41)) (hg : g.length ≤ 12) (hr : ∀ l ∈ g, l.length ≤ 12) : Ev (fun k => (diff_Edges.f k g).bind fun t => ((chainmanref50_Edges.f k g).bind fun t2 => ((chainmanref30_SamePairs.f k t t2).bind fun t3 => (if t3 = true then ((chainmanref37_Clean.f k t).bind fun t4 => (lw.j2 k g t (!t4))) else (lw.j2 k g t true))))) true := by
 obtain ⟨b1, hb1, hh1⟩ := pclean g (by omega) (fun l hl => by have := hr l hl; omega)
 obtain ⟨b2, hb2, hh2⟩ := dclean g (by omega) (fun i => by
  rcases Nat.lt_or_ge i g.length with h | h
  ·rw [rw_at g i h]; have := hr _ (List.getElem_mem h); omega
  ·unfold rw_ rd_L8
   rw [Int.toNat_natCast, List.getD_eq_getElem?_getD, List.getElem?_eq_none h]
   simp)
 have hl := es_len g hr g.length (Nat.le_refl _)
 rw [List.take_length] at hl
 by_cases hc : Cl g
 ·obtain rfl := hh1.2 hc
  obtain rfl := hh2.2 hc
  have ho := es_ok g (by omega) hc
  have hs := once_srt lin (diff_Edges.es g)
  have ht := sortL_srt lin (diff_Edges.es g) [] List.Pairwise.nil
  have eL : Lib.compact ((diff_Edges.es g).mergeSort fun x y => !lt y x) = sortL lt [] (diff_Edges.es g) := srt_ext lin _ _ hs.1 ht.1 (fun x => by rw [hs.2, ht.2]; simp)
  have el : (ltOf diff_Edges.cf) = lt := by
   funext a b
   rw [diff_Edges.lt_of]
   exact Bool.eq_iff_iff.mpr ((show diff_Edges.lt a b = true ↔ (a.f0 < b.f0 ∨ (a.f0 = b.f0 ∧ a.f1 < b.f1)) by unfold diff_Edges.lt; exact decide_eq_true_iff).trans (lt_iff a b).symm)
  have hp : Ev (fun k => diff_Edges.f k g) (sortL lt [] (diff_Edges.es g)) := by
   refine Ev.bind hb1 ?_
   refine Ev.congr (fun k => if_pos rfl) ⟨4, fun k hk => ?_⟩
   show (if 4 ≤ k ∧ (diff_Edges.es g).length < 8796093022208 then some (Lib.compact ((diff_Edges.es g).mergeSort fun x y => !(ltOf diff_Edges.cf) y x)) else none) = _
   rw [if_pos ⟨hk, by omega⟩, el, eL]
  have hd : Ev (fun k => chainmanref50_Edges.f k g) (sortL lt [] (diff_Edges.es g)) := by
   refine Ev.bind hb2 ?_
   refine Ev.congr (fun k => if_pos rfl) ?_
   have := dedges g hg hr ho g.length 0 (by omega)
   rw [List.take_zero] at this
   exact this
  have hL := sortL_len (diff_Edges.es g) []
  simp at hL
  refine Ev.bind hp (Ev.bind hd (Ev.bind (sameH_ev _ (by omega)) ?_))
  refine Ev.congr (fun k => if_pos rfl) ?_
  have hG : Good (sortL lt [] (diff_Edges.es g)) := ⟨ht.1, fun x hx => by
   rcases (ht.2 x).1 hx with h | h
   ·simp at h
   ·exact ho x h, by omega⟩
  refine Ev.bind (clean_ok _ hG) ?_
  refine Ev.step (f := fun k => lw.l1 k g (sortL lt [] (diff_Edges.es g)) ((0 : Nat) : Int) ((0 : Nat) : Int)) (fun k => by rw [lw.j2, if_neg (by decide)]; rfl) ?_
  have := count_ev g (sortL lt [] (diff_Edges.es g)) hg hr hb2 hL ⟨fun h => by
   obtain ⟨x, hx⟩ := List.exists_mem_of_length_pos h
   rcases (ht.2 x).1 hx with q | q
   ·simp at q
   ·exact List.length_pos_of_mem q, fun h => by
   obtain ⟨x, hx⟩ := List.exists_mem_of_length_pos h
   exact List.length_pos_of_mem ((ht.2 x).2 (.inr hx))⟩ g.length 0 (by omega)
  rw [List.take_zero] at this
  exact this
 ·have f1 : b1 = false := by cases b1 with
   | false => rfl
   | true => exact absurd (hh1.1 rfl) hc
  have f2 : b2 = false := by cases b2 with
   | false => rfl
   | true => exact absurd (hh2.1 rfl) hc
  subst f1
  subst f2
  refine Ev.bind (a := ([] : List S33)) (Ev.bind hb1 (Ev.congr (f := fun _ => some []) (fun k => if_neg (by decide)) (Ev.now _))) ?_
  refine Ev.bind (a := ([] : List S33)) (Ev.bind hb2 (Ev.congr (f := fun _ => some []) (fun k => if_neg (by decide)) (Ev.now _))) ?_
  refine Ev.bind (sameH_ev [] (by simp)) ?_
  refine Ev.congr (fun k => if_pos rfl) ?_
  refine Ev.bind (clean_ok [] ⟨List.Pairwise.nil, by simp, by simp⟩) ?_
  refine Ev.step (f := fun k => lw.l1 k g [] ((0 : Nat) : Int) 0) (fun k => by rw [lw.j2, if_neg (by decide)]; rfl) ?_
  have he := end_ev g [] 0 0 (by simp) (by simp)
  by_cases h0 : (0 : Int) < (g.length : Int)
  ·refine Ev.step (fun k => by rw [lw.l1, if_pos h0]) ?_
   exact Ev.bind hb2 he
  ·exact Ev.step (fun k => by rw [lw.l1, if_neg h0]) he
theorem DiffEdges : lw.Pure := by
 intro g _
 refine Ev.rounds ?_
 have go : ∀ (d i : Nat), i + d = 12 → (∀ i', i' < i → (rw_ g i').length ≤ 12) → i ≤ g.length → Ev (fun k => lw.l0 k g (i : Int)) true := by
  have last : ∀ i : Nat, (∀ i', i' < i → (rw_ g i').length ≤ 12) → (g.length ≤ i ∨ i = 12) → Ev (fun k => lw.j1 k g (i : Int) false) true := by
   intro i hrs hi
   by_cases h1 : (g.length : Int) > 12
   ·exact Ev.step (fun k => by rw [lw.j1, if_neg (by decide), if_pos h1]) (Ev.bind awake_ev (Ev.now _))
   ·refine Ev.step (fun k => by rw [lw.j1, if_neg (by decide), if_neg h1]) ?_
    refine main_ev g (by omega) (fun l hl => ?_)
    obtain ⟨i', hi', rfl⟩ := List.mem_iff_getElem.mp hl
    have := hrs i' (by omega)
    rwa [rw_at g i' hi'] at this
  intro d
  induction d with
  | zero =>
   intro i hi hrs hig
   by_cases h : (i : Int) < (g.length : Int)
   ·exact Ev.step (f := fun k => lw.j1 k g (i : Int) false) (fun k => by rw [lw.l0, if_pos h, decide_eq_false (by omega)]) (last i hrs (.inr (by omega)))
   ·exact Ev.step (fun k => by rw [lw.l0, if_neg h]) (last i hrs (.inr (by omega)))
  | succ d ih =>
   intro i hi hrs hig
   by_cases h : (i : Int) < (g.length : Int)
   ·refine Ev.step (f := fun k => lw.j1 k g (i : Int) true) (fun k => by rw [lw.l0, if_pos h, decide_eq_true (by omega)]) ?_
    by_cases h2 : ((rw_ g i).length : Int) > 12
    ·exact Ev.step (fun k => by rw [lw.j1, if_pos rfl, if_pos (by omega), if_pos h, if_pos (by show ((rw_ g i).length : Int) > 12; exact h2)]) (Ev.bind awake_ev (Ev.now _))
    ·refine Ev.step (fun k => by rw [lw.j1, if_pos rfl, if_pos (by omega), if_pos h, if_neg (by show ¬ (((rw_ g i).length : Int) > 12); exact h2), wsucc i (by omega)]) ?_
     refine ih (i + 1) (by omega) (fun i' hi' => ?_) (by omega)
     rcases Nat.lt_or_ge i' i with h3 | h3
     ·exact hrs i' h3
     ·obtain rfl : i' = i := by omega
      omega
   ·exact Ev.step (fun k => by rw [lw.l0, if_neg h]) (last i hrs (.inl (by omega)))
 exact go 12 0 (by omega) (fun i' h => by omega) (Nat.zero_le _)
end Go.Proofs.YtahkkgnicgbncaaDoor.Pure

