/- Degrees, cores, groups and their sizes of any pairs are the document's (the law DenseTells). -/
import Derived.Test.YtjjjafhchombcaaPDenseTellsx12
import Derived.Lib.Strings
import Derived.Lib.ItoaNum
namespace Go.Proofs.Ytjjjafhchombcaa.Pure
open Go.RowKit Go.Proofs.Ytjjjafhchombcaa.PDenseTells Go.Proofs.YtjjjafhchombcaaW.PrintWords Go.Proofs.YtjjjafhchombcaaW.PrintLast
set_option linter.unusedVariables false
set_option linter.unusedSimpArgs false
namespace Oc
def beN (n k : Nat) : List Int := (List.range k).reverse.map fun i => ((n / 256 ^ i % 256 : Nat) : Int)
theorem beN_len (n k : Nat) : (beN n k).length = k := by simp [beN]
theorem beN_succ (n k : Nat) : beN n (k + 1) = ((n / 256 ^ k % 256 : Nat) : Int) :: beN n k := by
 unfold beN
 rw [List.range_succ, List.reverse_append]; rfl
def putB (n k : Int) : ByteArray × Bool := if n < 0 ∨ k < 1 ∨ 8 < k then (⟨#[]⟩, false) else if n.toNat < 256 ^ k.toNat then (strOfNums (beN n.toNat k.toNat), true) else (⟨#[]⟩, false)
theorem octs_be (n : Nat) : octet_Put.octs (n : Int) = beN n 8 := by
 have e7 : (n : Int) / 72057594037927936 % 256 = ((n / 256 ^ 7 % 256 : Nat) : Int) := by rw [show 256 ^ 7 = 72057594037927936 from rfl]; omega
 have e6 : (n : Int) / 281474976710656 % 256 = ((n / 256 ^ 6 % 256 : Nat) : Int) := by rw [show 256 ^ 6 = 281474976710656 from rfl]; omega
 have e5 : (n : Int) / 1099511627776 % 256 = ((n / 256 ^ 5 % 256 : Nat) : Int) := by rw [show 256 ^ 5 = 1099511627776 from rfl]; omega
 have e4 : (n : Int) / 4294967296 % 256 = ((n / 256 ^ 4 % 256 : Nat) : Int) := by rw [show 256 ^ 4 = 4294967296 from rfl]; omega
 have e3 : (n : Int) / 16777216 % 256 = ((n / 256 ^ 3 % 256 : Nat) : Int) := by rw [show 256 ^ 3 = 16777216 from rfl]; omega
 have e2 : (n : Int) / 65536 % 256 = ((n / 256 ^ 2 % 256 : Nat) : Int) := by rw [show 256 ^ 2 = 65536 from rfl]; omega
 have e1 : (n : Int) / 256 % 256 = ((n / 256 ^ 1 % 256 : Nat) : Int) := by rw [show 256 ^ 1 = 256 from rfl]; omega
 have e0 : (n : Int) % 256 = ((n / 256 ^ 0 % 256 : Nat) : Int) := by rw [show 256 ^ 0 = 1 from rfl]; omega
 unfold octet_Put.octs
 rw [e7, e6, e5, e4, e3, e2, e1, e0]
 rfl
theorem beN_take (m k : Nat) : ∀ j, m < 256 ^ (k + j) → ((((beN m (k + j)).take j).all (· == 0) = true) ↔ m < 256 ^ k) := by
 intro j
 induction j with
 | zero => intro h; simpa using h
 | succ j ih =>
  intro h
  have hp : 256 ^ (k + (j + 1)) = 256 ^ (k + j) * 256 := Nat.pow_succ ..
  have hx : m / 256 ^ (k + j) < 256 := Nat.div_lt_of_lt_mul (by omega)
  rw [show k + (j + 1) = (k + j) + 1 from rfl, beN_succ, List.take_succ_cons, List.all_cons, Bool.and_eq_true]
  have hz : ((((m / 256 ^ (k + j) % 256 : Nat) : Int) == 0) = true) ↔ m < 256 ^ (k + j) := by
   rw [beq_iff_eq, Nat.mod_eq_of_lt hx]
   constructor
   ·intro e
    rcases Nat.lt_or_ge m (256 ^ (k + j)) with h' | h'
    ·exact h'
    ·have := Nat.div_pos h' (Nat.pow_pos (by decide)); omega
   ·intro h'; rw [Nat.div_eq_of_lt h']; rfl
  rw [hz]
  constructor
  ·rintro ⟨h1, h2⟩; exact (ih h1).1 h2
  ·intro h1
   have : 256 ^ k ≤ 256 ^ (k + j) := Nat.pow_le_pow_right (by decide) (by omega)
   exact ⟨by omega, (ih (by omega)).2 h1⟩
theorem beN_drop (m k : Nat) : ∀ j, (beN m (k + j)).drop j = beN m k := by
 intro j
 induction j with
 | zero => rfl
 | succ j ih => rw [show k + (j + 1) = (k + j) + 1 from rfl, beN_succ, List.drop_succ_cons, ih]
theorem put_bv (n k : Int) (hn : n < 9223372036854775808) : octet_Put.f n k = some (putB n k) := by
 unfold octet_Put.f putB
 by_cases hb : n < 0 ∨ k < 1 ∨ 8 < k
 ·rw [if_pos hb, if_pos hb]
 ·rw [if_neg hb, if_neg hb]
  obtain ⟨m, rfl⟩ : ∃ m : Nat, n = (m : Int) := ⟨n.toNat, by omega⟩
  obtain ⟨q, rfl⟩ : ∃ q : Nat, k = (q : Int) := ⟨k.toNat, by omega⟩
  have hq8 : q ≤ 8 := by omega
  have hm : m < 256 ^ 8 := by have : 256 ^ 8 = 18446744073709551616 := (by decide); omega
  have e8 : q + (8 - q) = 8 := by omega
  have h1 := beN_take m q (8 - q) (by rw [e8]; exact hm)
  have h2 := beN_drop m q (8 - q)
  rw [e8] at h1 h2
  rw [octs_be, Int.toNat_natCast, Int.toNat_natCast, show ((8 : Int) - (q : Int)).toNat = 8 - q from by omega, h2]
  by_cases hlt : m < 256 ^ q
  ·rw [if_pos (h1.2 hlt), if_pos hlt]
  ·rw [if_neg (fun h => hlt (h1.1 h)), if_neg hlt]
def numN (l : List UInt8) : Nat := l.foldl (fun n c => n * 256 + c.toNat) 0
theorem numN_snoc (l : List UInt8) (c : UInt8) : numN (l ++ [c]) = numN l * 256 + c.toNat := by
 unfold numN
 rw [List.foldl_append]; rfl
theorem snoc_ind (P : List UInt8 → Prop) (h0 : P []) (h1 : ∀ m c, P m → P (m ++ [c])) (l : List UInt8) : P l := by
 have : ∀ n (l : List UInt8), l.length = n → P l := by
  intro n
  induction n with
  | zero => intro l hl; rw [List.length_eq_zero_iff.1 hl]; exact h0
  | succ n ih =>
   intro l hl
   rcases List.eq_nil_or_concat l with rfl | ⟨m, c, rfl⟩
   ·exact h0
   ·rw [List.concat_eq_append] at hl ⊢
    exact h1 m c (ih m (by simpa using hl))
 exact this _ l rfl
theorem numN_lt (l : List UInt8) : numN l < 256 ^ l.length := by
 refine snoc_ind (fun l => numN l < 256 ^ l.length) (by decide) (fun m c ih => ?_) l
 rw [numN_snoc, List.length_append]
 have := c.toNat_lt
 have : 256 ^ (m.length + [c].length) = 256 ^ m.length * 256 := Nat.pow_succ ..
 omega
theorem ba_ext {s t : ByteArray} (h : s.data.toList = t.data.toList) : s = t := by
 cases s; cases t
 simp only [ByteArray.mk.injEq]
 exact Array.toList_inj.1 h
theorem ba_append (s t : ByteArray) : (s ++ t).data.toList = s.data.toList ++ t.data.toList := by
 rw [ByteArray.data_append, Array.toList_append]
theorem wrap_succ (i : Nat) (h : i < 1000000000) : wrap64 ((i : Int) + 1) = ((i + 1 : Nat) : Int) := by unfold wrap64; omega
theorem stepq (q : Nat) (hq : q < 9223372036854775808) : Int.tmod (q : Int) 256 % 256 = ((q % 256 : Nat) : Int) ∧ wrap64 (Int.tdiv (q : Int) 256) = ((q / 256 : Nat) : Int) := by
 rw [Int.tmod_eq_emod_of_nonneg (Int.natCast_nonneg _), Int.tdiv_eq_ediv_of_nonneg (Int.natCast_nonneg _)]
 unfold wrap64
 omega
theorem beN_fits (x : Int) (n i : Nat) (h : i < 9) : (strOfNums [x]).size + (strOfNums (beN n i)).size ≤ 9223372036854775807 := by
 have h1 : (strOfNums [x]).size = 1 := strOfNums_size _
 have h2 : (strOfNums (beN n i)).size = i := (strOfNums_size _).trans (beN_len _ _)
 omega
theorem refl0 (n k : Nat) (hn : n < 9223372036854775808) : ∀ (r f i : Nat), i + r = k → r < f → k ≤ 8 →
  chainmanref02_Put.l0 f ((n / 256 ^ i : Nat) : Int) (k : Int) (strOfNums (beN n i)) (i : Int) = some (if n < 256 ^ k then (strOfNums (beN n k), true) else (⟨#[]⟩, false)) := by
 intro r
 induction r with
 | zero =>
  intro f i hi hf hk
  obtain ⟨f, rfl⟩ : ∃ m, f = m + 1 := ⟨f - 1, by omega⟩
  obtain rfl : i = k := by omega
  rw [chainmanref02_Put.l0, if_neg (by omega)]
  have hz : (0 < n / 256 ^ i) ↔ ¬ n < 256 ^ i := by
   have h := Nat.div_eq_zero_iff (a := n) (b := 256 ^ i)
   have hp : 256 ^ i ≠ 0 := Nat.ne_of_gt (Nat.pow_pos (by decide))
   constructor
   ·intro h1 h2; have := Nat.div_eq_of_lt h2; omega
   ·intro h1; exact Nat.div_pos (by omega) (Nat.pow_pos (by decide))
  by_cases h : n < 256 ^ i
  ·rw [if_neg (by omega), if_pos h]
  ·rw [if_pos (by omega), if_neg h]
 | succ r ih =>
  intro f i hi hf hk
  obtain ⟨f, rfl⟩ : ∃ m, f = m + 1 := ⟨f - 1, by omega⟩
  rw [chainmanref02_Put.l0, if_pos (by omega), Option.bind_some]
  have hsz : (strOfNums [((n / 256 ^ i % 256 : Nat) : Int)]).size + (strOfNums (beN n i)).size ≤ 9223372036854775807 := by
   exact beN_fits _ n i (by omega)
  have a1 : i + 1 + r = k := by omega
  have a2 : r < f := by omega
  have a3 : i < 1000000000 := by omega
  have hq : n / 256 ^ i ≤ n := Nat.div_le_self _ _
  obtain ⟨e1, e2⟩ := stepq (n / 256 ^ i) (Nat.lt_of_le_of_lt hq hn)
  rw [Nat.div_div_eq_div_mul, ← Nat.pow_succ] at e2
  have e3 : wrap64 ((i : Int) + 1) = ((i + 1 : Nat) : Int) := wrap_succ i a3
  have e4 : strOfNums [((n / 256 ^ i % 256 : Nat) : Int)] ++ strOfNums (beN n i) = strOfNums (beN n (i + 1)) := by
   apply ba_ext
   rw [ba_append, strOfNums_data, strOfNums_data, strOfNums_data, beN_succ]; rfl
  rw [e1, if_pos hsz, e2, e4, e3]
  exact ih f (i + 1) a1 a2 hk
theorem refput_bv (n k : Int) (f : Nat) (hf : 20 ≤ f) (hn : n < 9223372036854775808) : chainmanref02_Put.f f n k = some (putB n k) := by
 obtain ⟨f, rfl⟩ : ∃ m, f = m + 1 := ⟨f - 1, by omega⟩
 unfold chainmanref02_Put.f putB
 by_cases h1 : k < 1
 ·rw [if_pos h1, if_pos (.inr (.inl h1)), chainmanref02_Put.j0, if_pos rfl]
 ·rw [if_neg h1]
  by_cases h2 : k > 8
  ·rw [if_pos h2, if_pos (.inr (.inr h2)), chainmanref02_Put.j0, if_pos rfl]
  ·rw [if_neg h2]
   by_cases h3 : n < 0
   ·rw [if_pos (.inl h3), chainmanref02_Put.j0, if_pos (decide_eq_true h3)]
   ·rw [if_neg (by omega), chainmanref02_Put.j0, if_neg (by simpa using h3)]
    obtain ⟨m, rfl⟩ : ∃ m : Nat, n = (m : Int) := ⟨n.toNat, by omega⟩
    obtain ⟨j, rfl⟩ : ∃ j : Nat, k = (j : Int) := ⟨k.toNat, by omega⟩
    have h := refl0 m j (by omega) j f 0 (by omega) (by omega) (by omega)
    rw [Nat.pow_zero, Nat.div_one] at h
    rw [Int.toNat_natCast, Int.toNat_natCast]
    exact h
end Oc
theorem wsucc (i : Nat) (h : i < 1000000) : wrap64 ((i : Int) + 1) = ((i + 1 : Nat) : Int) := by unfold wrap64; omega
def beU (n k : Nat) : List UInt8 := (Oc.beN n k).map fun x => UInt8.ofNat x.toNat
theorem beU_data (n k : Nat) : (strOfNums (Oc.beN n k)).data.toList = beU n k := strOfNums_data _
theorem beU_len (n k : Nat) : (beU n k).length = k := by unfold beU; rw [List.length_map, Oc.beN_len]
theorem beU_succ (n k : Nat) : beU n (k + 1) = UInt8.ofNat (n / 256 ^ k % 256) :: beU n k := by
 unfold beU; rw [Oc.beN_succ, List.map_cons, Int.toNat_natCast]
/-- what comes back: the number's last k bytes -/
theorem numN_from (l : List UInt8) : ∀ a : Nat, l.foldl (fun n c => n * 256 + c.toNat) a = a * 256 ^ l.length + Oc.numN l := by
 induction l with
 | nil => intro a; simp [Oc.numN]
 | cons c l ih =>
  intro a
  have h1 : (c :: l).foldl (fun n c => n * 256 + c.toNat) a = l.foldl (fun n c => n * 256 + c.toNat) (a * 256 + c.toNat) := rfl
  have h2 : Oc.numN (c :: l) = l.foldl (fun n c => n * 256 + c.toNat) (0 * 256 + c.toNat) := rfl
  rw [h1, ih, h2, ih, List.length_cons, Nat.pow_succ, Nat.add_mul, Nat.zero_mul, Nat.zero_add, Nat.mul_assoc, Nat.mul_comm 256, Nat.add_assoc]
theorem numN_cons (c : UInt8) (l : List UInt8) : Oc.numN (c :: l) = c.toNat * 256 ^ l.length + Oc.numN l := by
 have h := numN_from l (0 * 256 + c.toNat)
 rw [Nat.zero_mul, Nat.zero_add] at h
 have h2 : Oc.numN (c :: l) = l.foldl (fun n c => n * 256 + c.toNat) (0 * 256 + c.toNat) := rfl
 rw [h2, Nat.zero_mul, Nat.zero_add]
 exact h
theorem numN_beU (n : Nat) : ∀ k, Oc.numN (beU n k) = n % 256 ^ k := by
 intro k
 induction k with
 | zero => show 0 = n % 1; rw [Nat.mod_one]
 | succ k ih =>
  have hb : (UInt8.ofNat (n / 256 ^ k % 256)).toNat = n / 256 ^ k % 256 := by
   rw [UInt8.toNat_ofNat']
   exact Nat.mod_mod_of_dvd _ (by decide)
  rw [beU_succ, numN_cons, ih, beU_len, hb, Nat.pow_succ, Nat.mod_mul, Nat.mul_comm (256 ^ k)]
  exact Nat.add_comm _ _
theorem putB_ok (n k : Nat) (hk : 1 ≤ k) (hk8 : k ≤ 8) (hn : n < 256 ^ k) : Oc.putB (n : Int) (k : Int) = (strOfNums (Oc.beN n k), true) := by
 unfold Oc.putB; rw [if_neg (by omega), Int.toNat_natCast, Int.toNat_natCast, if_pos hn]
theorem be_size (n k : Nat) : (strOfNums (Oc.beN n k)).size = k := (strOfNums_size _).trans (Oc.beN_len _ _)
structure Lin {α : Type} (lt : α → α → Bool) : Prop where
 irr : ∀ a, lt a a = false
 tr : ∀ a b c, lt a b = true → lt b c = true → lt a c = true
 tri : ∀ a b, lt a b = false → lt b a = false → a = b
def Srt {α : Type} (lt : α → α → Bool) (l : List α) : Prop := l.Pairwise (fun a b => lt a b = true)
def lt (a b : S47) : Bool := decide (a.f0 < b.f0 ∨ (a.f0 = b.f0 ∧ a.f1 < b.f1))
theorem lt_iff (a b : S47) : lt a b = true ↔ (a.f0 < b.f0 ∨ (a.f0 = b.f0 ∧ a.f1 < b.f1)) := decide_eq_true_iff
theorem s33_ext {a b : S47} (h0 : a.f0 = b.f0) (h1 : a.f1 = b.f1) : a = b := by
 cases a; cases b; simp only at h0 h1; subst h0 h1; rfl
theorem lin : Lin lt where
 irr := fun a => Bool.eq_false_iff.2 (fun h => by have := (lt_iff a a).1 h; omega)
 tr := fun a b c h k => (lt_iff a c).2 (by have h := (lt_iff a b).1 h; have k := (lt_iff b c).1 k; omega)
 tri := fun a b h k => by
  have h' : ¬ (a.f0 < b.f0 ∨ (a.f0 = b.f0 ∧ a.f1 < b.f1)) := fun e => by rw [(lt_iff a b).2 e] at h; cases h
  have k' : ¬ (b.f0 < a.f0 ∨ (b.f0 = a.f0 ∧ b.f1 < a.f1)) := fun e => by rw [(lt_iff b a).2 e] at k; cases k
  exact s33_ext (by omega) (by omega)
def Ok (x : S47) : Prop := 0 ≤ x.f0 ∧ x.f0 < x.f1 ∧ x.f1 < 1048576
def Good (l : List S47) : Prop := Srt lt l ∧ (∀ x ∈ l, Ok x) ∧ l.length ≤ 1000
/-- Its record. -/
def rc (x : S47) : ByteArray := strOfNums (Oc.beN x.f0.toNat 4) ++ strOfNums (Oc.beN x.f1.toNat 4)
theorem numN_app (l m : List UInt8) : Oc.numN (l ++ m) = Oc.numN l * 256 ^ m.length + Oc.numN m := by
 show (l ++ m).foldl (fun n c => n * 256 + c.toNat) 0 = _
 rw [List.foldl_append]
 exact numN_from m _
theorem less_num (l : List UInt8) : ∀ m : List UInt8, l.length = m.length → (Op.bytesLess l m = true ↔ Oc.numN l < Oc.numN m) := by
 induction l with
 | nil =>
  intro m h
  cases m with
  | nil => exact ⟨fun h => (by cases h), fun h => absurd h (Nat.lt_irrefl _)⟩
  | cons _ _ => cases h
 | cons a l ih =>
  intro m h
  cases m with
  | nil => cases h
  | cons b m =>
   have h' : l.length = m.length := by simpa using h
   have hl := Oc.numN_lt l
   have hm := Oc.numN_lt m
   rw [numN_cons, numN_cons, h']
   rw [h'] at hl
   show (decide (a < b) || (a == b && Op.bytesLess l m)) = true ↔ _
   rw [Bool.or_eq_true, Bool.and_eq_true, ih m h', decide_eq_true_iff, beq_iff_eq, UInt8.lt_iff_toNat_lt, ← UInt8.toNat_inj]
   generalize 256 ^ m.length = p at hl hm
   generalize Oc.numN l = x at hl ⊢
   generalize Oc.numN m = y at hm ⊢
   generalize a.toNat = u
   generalize b.toNat = v
   constructor
   ·rintro (h1 | ⟨h1, h2⟩)
    ·have : (u + 1) * p ≤ v * p := Nat.mul_le_mul_right p h1
     rw [Nat.add_mul, Nat.one_mul] at this
     omega
    ·rw [h1]; omega
   ·intro h1
    rcases Nat.lt_trichotomy u v with h2 | h2 | h2
    ·exact .inl h2
    ·rw [h2] at h1; exact .inr ⟨h2, by omega⟩
    ·have : (v + 1) * p ≤ u * p := Nat.mul_le_mul_right p h2
     rw [Nat.add_mul, Nat.one_mul] at this
     omega
theorem rc_data (x : S47) : (rc x).data.toList = beU x.f0.toNat 4 ++ beU x.f1.toNat 4 := by
 unfold rc
 rw [Oc.ba_append, beU_data, beU_data]
theorem rc_num (x : S47) (h : Ok x) : Oc.numN (rc x).data.toList = x.f0.toNat * 4294967296 + x.f1.toNat := by
 obtain ⟨h0, h1, h2⟩ := h
 rw [rc_data, numN_app, beU_len, numN_beU, numN_beU, show 256 ^ 4 = 4294967296 from rfl, Nat.mod_eq_of_lt (by omega), Nat.mod_eq_of_lt (by omega)]
theorem rc_less (x y : S47) (hx : Ok x) (hy : Ok y) : Op.bytesLess (rc x).toList (rc y).toList = lt x y := by
 have h := less_num (rc x).toList (rc y).toList (by rw [ByteArray.toList_eq, ByteArray.toList_eq, rc_data, rc_data, List.length_append, List.length_append, beU_len, beU_len, beU_len, beU_len])
 have e1 := rc_num x hx
 have e2 := rc_num y hy
 rw [ByteArray.toList_eq, ByteArray.toList_eq] at h ⊢
 rw [e1, e2] at h
 clear e1 e2
 obtain ⟨a0, a1, a2⟩ := hx
 obtain ⟨b0, b1, b2⟩ := hy
 refine Bool.eq_iff_iff.mpr (h.trans ?_)
 rw [lt_iff]
 obtain ⟨u, hu⟩ := Int.eq_ofNat_of_zero_le a0
 obtain ⟨v, hv⟩ := Int.eq_ofNat_of_zero_le (show 0 ≤ x.f1 by omega)
 obtain ⟨u', hu'⟩ := Int.eq_ofNat_of_zero_le b0
 obtain ⟨v', hv'⟩ := Int.eq_ofNat_of_zero_le (show 0 ≤ y.f1 by omega)
 rw [hu, hv, hu', hv', Int.toNat_natCast, Int.toNat_natCast, Int.toNat_natCast, Int.toNat_natCast]
 omega
theorem refid (n : Int) : chainmanref14_id.f n = some (decide (0 ≤ n ∧ n < 1048576)) := by
 unfold chainmanref14_id.f
 by_cases h : n ≥ 0
 ·rw [if_pos h]; congr 1; exact decide_eq_decide.2 ⟨fun k => ⟨h, k⟩, fun k => k.2⟩
 ·rw [if_neg h, decide_eq_false (by omega)]
theorem must4 (n : Int) (h0 : 0 ≤ n) (h1 : n < 1048576) : Ev (fun q => chainmanref02_Must.f q n 4) (strOfNums (Oc.beN n.toNat 4)) := by
 obtain ⟨m, rfl⟩ := Int.eq_ofNat_of_zero_le h0
 rw [Int.toNat_natCast]
 refine ⟨20, fun q hq => ?_⟩
 show chainmanref02_Must.f q (m : Int) 4 = _
 unfold chainmanref02_Must.f
 rw [Oc.refput_bv _ _ q hq (by omega), Option.bind_some, show (4 : Int) = ((4 : Nat) : Int) from rfl, putB_ok m 4 (by decide) (by decide) (by rw [show 256 ^ 4 = 4294967296 from rfl]; omega)]
theorem refpair (x : S47) : ∃ s ok, Ev (fun k => chainmanref14_PutPair.f k x.f0 x.f1) (s, ok) ∧ (ok = true → Ok x ∧ s = rc x) := by
 have no : Ev (fun k => chainmanref14_PutPair.j0 k true x.f0 x.f1) ((⟨#[]⟩ : ByteArray), false) := Ev.step (f := fun _ => some ((⟨#[]⟩ : ByteArray), false)) (fun k => by rw [chainmanref14_PutPair.j0, if_pos rfl]) (Ev.now _)
 by_cases h0 : 0 ≤ x.f0 ∧ x.f0 < 1048576
 ·by_cases h1 : 0 ≤ x.f1 ∧ x.f1 < 1048576
  ·by_cases h2 : x.f0 ≥ x.f1
   ·refine ⟨⟨#[]⟩, false, ?_, fun h => by cases h⟩
    refine Ev.congr (fun k => ?_) no
    unfold chainmanref14_PutPair.f
    rw [refid, Option.bind_some, if_pos (decide_eq_true h0), refid, Option.bind_some, if_pos (decide_eq_true h1), decide_eq_true h2]
   ·refine ⟨rc x, true, ?_, fun _ => ⟨⟨h0.1, by omega, h1.2⟩, rfl⟩⟩
    refine Ev.congr (f := fun k => chainmanref14_PutPair.j0 k false x.f0 x.f1) (fun k => ?_) ?_
    ·unfold chainmanref14_PutPair.f
     rw [refid, Option.bind_some, if_pos (decide_eq_true h0), refid, Option.bind_some, if_pos (decide_eq_true h1), decide_eq_false h2]
    ·refine Ev.step (fun k => by rw [chainmanref14_PutPair.j0, if_neg (by decide)]) ?_
     refine Ev.bind (must4 _ h0.1 h0.2) ?_
     refine Ev.bind (must4 _ h1.1 h1.2) ?_
     refine Ev.congr (f := fun _ => some (rc x, true)) (fun k => if_pos (by rw [be_size, be_size]; decide)) (Ev.now _)
  ·refine ⟨⟨#[]⟩, false, ?_, fun h => by cases h⟩
   refine Ev.congr (fun k => ?_) no
   unfold chainmanref14_PutPair.f
   rw [refid, Option.bind_some, if_pos (decide_eq_true h0), refid, Option.bind_some, if_neg (by rw [decide_eq_false h1]; decide)]
 ·refine ⟨⟨#[]⟩, false, ?_, fun h => by cases h⟩
  refine Ev.congr (fun k => ?_) no
  unfold chainmanref14_PutPair.f
  rw [refid, Option.bind_some, if_neg (by rw [decide_eq_false h0]; decide)]
theorem rd_at (l : List S47) (i : Nat) (h : i < l.length) : rd_T47 l (i : Int) = l[i] := by
 unfold rd_T47
 rw [Int.toNat_natCast, List.getD_eq_getElem?_getD, List.getElem?_eq_getElem h]; rfl
theorem rds_at (l : List ByteArray) (i : Nat) (h : i < l.length) : rdOf ByteArray.empty l (i : Int) = l[i] := by
 unfold rdOf
 rw [Int.toNat_natCast, List.getD_eq_getElem?_getD, List.getElem?_eq_getElem h]; rfl
theorem wsub (i : Nat) (h : i < 1000000) : wrap64 (((i + 1 : Nat) : Int) - 1) = (i : Int) := by unfold wrap64; omega
theorem refrecs (l : List S47) (hl : l.length ≤ 1000) : ∀ (d i : Nat) (acc : List ByteArray), i + d = l.length → acc = (l.take i).map rc → (∀ x ∈ l.take i, Ok x) →
  ∃ s ok, Ev (fun k => chainmanref37_records.l0 k l acc (i : Int)) (s, ok) ∧ ((ok = true ∧ (∀ x ∈ l, Ok x) ∧ s = l.map rc) ∨ (ok = false ∧ s = [])) := by
 intro d
 induction d with
 | zero =>
  intro i acc hi ha ho
  rw [List.take_of_length_le (by omega)] at ha ho
  refine ⟨acc, true, Ev.step (f := fun _ => some (acc, true)) (fun k => by rw [chainmanref37_records.l0, if_neg (by omega)]) (Ev.now _), .inl ⟨rfl, ho, ha⟩⟩
 | succ d ih =>
  intro i acc hi ha ho
  have hlt : i < l.length := by omega
  obtain ⟨s, ok, hs, hok⟩ := refpair l[i]
  have key : ∀ k, chainmanref37_records.l0 (k + 1) l acc (i : Int) = (chainmanref14_PutPair.f k l[i].f0 l[i].f1).bind fun bt => if bt.2 = true then (if acc.length < 8796093022208 then chainmanref37_records.l0 k l (acc ++ [bt.1]) (wrap64 ((i : Int) + 1)) else none) else some ([], false) := fun k => by
   rw [chainmanref37_records.l0, if_pos (by omega), if_pos (by omega), rd_at l i hlt]
  cases ok with
  | false =>
   refine ⟨[], false, Ev.step key (Ev.bind hs (Ev.congr (f := fun _ => some ([], false)) (fun k => if_neg (fun h => by cases h)) (Ev.now _))), .inr ⟨rfl, rfl⟩⟩
  | true =>
   obtain ⟨h1, h2⟩ := hok rfl
   have hal : acc.length = i := by rw [ha, List.length_map, List.length_take]; omega
   obtain ⟨s', ok', hs', hh⟩ := ih (i + 1) (acc ++ [s]) (by omega) (by rw [List.take_succ_eq_append_getElem hlt, List.map_append, ← ha, h2]; rfl) (by
    rw [List.take_succ_eq_append_getElem hlt]
    intro x hx
    rcases List.mem_append.mp hx with hx | hx
    ·exact ho x hx
    ·rw [List.mem_singleton.mp hx]; exact h1)
   refine ⟨s', ok', Ev.step key (Ev.bind hs ?_), hh⟩
   refine Ev.congr (fun k => if_pos rfl) ?_
   refine Ev.congr (fun k => if_pos (by omega)) ?_
   rw [wsucc i (by omega)]
   exact hs'
theorem srt_step (l : List S47) (i : Nat) (hi : i + 1 < l.length) (h : Srt lt (l.take (i + 1))) (hl : lt l[i] l[i + 1] = true) : Srt lt (l.take (i + 1 + 1)) := by
 rw [List.take_succ_eq_append_getElem hi]
 refine List.pairwise_append.mpr ⟨h, List.pairwise_singleton _ _, fun a ha b hb => ?_⟩
 rw [List.mem_singleton.mp hb]
 rw [List.take_succ_eq_append_getElem (by omega)] at ha h
 rcases List.mem_append.mp ha with ha | ha
 ·exact lin.tr _ _ _ ((List.pairwise_append.mp h).2.2 a ha _ (List.mem_singleton.mpr rfl)) hl
 ·rw [List.mem_singleton.mp ha]; exact hl
theorem refloop (l : List S47) (hl : l.length ≤ 1000) (ho : ∀ x ∈ l, Ok x) : ∀ (d i : Nat), i + 1 + d = l.length → Srt lt (l.take (i + 1)) → ∃ b, Ev (fun k => chainmanref37_Clean.l0 k (l.map rc) true ((i + 1 : Nat) : Int)) b ∧ (b = true → Srt lt l) := by
 intro d
 induction d with
 | zero =>
  intro i hi hs
  rw [List.take_of_length_le (by omega)] at hs
  exact ⟨true, Ev.step (f := fun _ => some true) (fun k => by rw [chainmanref37_Clean.l0, if_neg (by rw [List.length_map]; omega)]) (Ev.now _), fun _ => hs⟩
 | succ d ih =>
  intro i hi hs
  have hlt : i + 1 < l.length := by omega
  have key : ∀ k, chainmanref37_Clean.l0 (k + 1) (l.map rc) true ((i + 1 : Nat) : Int) = if lt l[i] l[i + 1] = true then chainmanref37_Clean.l0 k (l.map rc) true (wrap64 (((i + 1 : Nat) : Int) + 1)) else some false := fun k => by
   rw [chainmanref37_Clean.l0, if_pos (by rw [List.length_map]; omega), if_pos (by omega), wsub i (by omega), if_pos (by omega), if_pos (by rw [List.length_map]; omega), rds_at _ i (by rw [List.length_map]; omega), rds_at _ (i + 1) (by rw [List.length_map]; omega), List.getElem_map, List.getElem_map, rc_less _ _ (ho _ (List.getElem_mem _)) (ho _ (List.getElem_mem _))]
  by_cases h : lt l[i] l[i + 1] = true
  ·obtain ⟨b, hb, hh⟩ := ih (i + 1) (by omega) (srt_step l i hlt hs h)
   refine ⟨b, Ev.step key (Ev.congr (fun k => if_pos h) ?_), hh⟩
   rw [wsucc (i + 1) (by omega)]
   exact hb
  ·exact ⟨false, Ev.step key (Ev.congr (f := fun _ => some false) (fun k => if_neg h) (Ev.now _)), fun e => by cases e⟩
theorem refclean (l : List S47) (hl : l.length ≤ 1000) : ∃ b, Ev (fun k => chainmanref37_Clean.f k l) b ∧ (b = true → Good l) := by
 obtain ⟨s, ok, hs, hh⟩ := refrecs l hl l.length 0 [] (by omega) (by simp) (by simp)
 rcases hh with ⟨rfl, ho, rfl⟩ | ⟨rfl, rfl⟩
 ·by_cases h0 : l.length = 0
  ·refine ⟨true, Ev.bind hs ?_, fun _ => ?_⟩
   ·refine Ev.step (f := fun _ => some true) (fun k => by show chainmanref37_Clean.l0 (k + 1) (l.map rc) true 1 = _; rw [chainmanref37_Clean.l0, if_neg (by rw [List.length_map]; omega)]) (Ev.now _)
   ·obtain rfl := List.eq_nil_of_length_eq_zero h0
    exact ⟨List.Pairwise.nil, by simp, by simp⟩
  ·obtain ⟨b, hb, hh⟩ := refloop l hl ho (l.length - 1) 0 (by omega) (by
    obtain ⟨x, l', rfl⟩ := List.exists_cons_of_length_pos (show 0 < l.length by omega)
    exact List.pairwise_singleton _ _)
   exact ⟨b, Ev.bind hs hb, fun h => ⟨hh h, ho, hl⟩⟩
 ·refine ⟨false, Ev.bind hs ?_, fun h => by cases h⟩
  exact Ev.step (f := fun _ => some false) (fun k => by show chainmanref37_Clean.l0 (k + 1) [] false 1 = _; rw [chainmanref37_Clean.l0, if_neg (by simp)]) (Ev.now _)
theorem rd2 (a b : Int) : rd [a, b] 0 = a ∧ rd [a, b] 1 = b := ⟨rfl, rfl⟩
theorem w0 : wrap64 (0 + 1) = 1 := by unfold wrap64; omega
theorem w1 : wrap64 (1 + 1) = 2 := by unfold wrap64; omega
theorem may_ev (x : S47) (h : Ok x) : Ev (fun k => rec_may.f k [x.f0, x.f1]) true := by
 obtain ⟨h0, h1, h2⟩ := h
 refine ⟨4, fun k hk => ?_⟩
 obtain ⟨k, rfl⟩ : ∃ m, k = m + 3 := ⟨k - 3, by omega⟩
 show rec_may.f (k + 3) [x.f0, x.f1] = _
 unfold rec_may.f
 rw [rec_may.l0, if_pos (by simp), if_pos (by omega), if_pos (by simp), (rd2 _ _).1, if_neg (by omega), if_neg (by omega), w0, rec_may.l0, if_pos (by simp), if_pos (by omega), if_pos (by simp), (rd2 _ _).2, if_neg (by omega), if_neg (by omega), w1, rec_may.l0, if_neg (by simp)]
theorem put4 (n : Int) (h0 : 0 ≤ n) (h1 : n < 1048576) : octet_Put.f n 4 = some (strOfNums (Oc.beN n.toNat 4), true) := by
 obtain ⟨m, rfl⟩ := Int.eq_ofNat_of_zero_le h0
 rw [Oc.put_bv _ _ (by omega), show (4 : Int) = ((4 : Nat) : Int) from rfl, putB_ok m 4 (by decide) (by decide) (by rw [show 256 ^ 4 = 4294967296 from rfl]; omega), Int.toNat_natCast]
theorem row_ev (x : S47) (h : Ok x) : Ev (fun k => rec_row.f k [x.f0, 4, x.f1, 4]) (rc x, true) := by
 obtain ⟨h0, h1, h2⟩ := h
 refine ⟨4, fun k hk => ?_⟩
 obtain ⟨k, rfl⟩ : ∃ m, k = m + 3 := ⟨k - 3, by omega⟩
 show rec_row.f (k + 3) [x.f0, 4, x.f1, 4] = _
 have e1 : wrap64 (0 + 1) = 1 := w0
 have e2 : wrap64 (0 + 2) = 2 := by unfold wrap64; omega
 have e3 : wrap64 (2 + 1) = 3 := by unfold wrap64; omega
 have e4 : wrap64 (2 + 2) = 4 := by unfold wrap64; omega
 have e5 : wrap64 (4 + 1) = 5 := by unfold wrap64; omega
 have r0 : rd [x.f0, 4, x.f1, 4] 0 = x.f0 := rfl
 have r1 : rd [x.f0, 4, x.f1, 4] 1 = 4 := rfl
 have r2 : rd [x.f0, 4, x.f1, 4] 2 = x.f1 := rfl
 have r3 : rd [x.f0, 4, x.f1, 4] 3 = 4 := rfl
 have s0 : (⟨#[]⟩ : ByteArray).size = 0 := rfl
 unfold rec_row.f
 rw [rec_row.l0, e1, if_pos (by simp), if_pos (by omega), if_pos (by simp), if_pos (by omega), r0, r1, put4 _ h0 (by omega), Option.bind_some, if_pos rfl, if_pos (by rw [be_size, s0]; decide), e2,
  rec_row.l0, e3, if_pos (by simp), if_pos (by omega), if_pos (by simp), if_pos (by omega), r2, r3, put4 _ (by omega) (by omega), Option.bind_some, if_pos rfl, if_pos (by rw [ByteArray.size_append, be_size, be_size, s0]; decide), e4,
  rec_row.l0, e5, if_neg (by simp)]
 have ee : (⟨#[]⟩ : ByteArray) ++ strOfNums (Oc.beN x.f0.toNat 4) = strOfNums (Oc.beN x.f0.toNat 4) := ByteArray.empty_append
 rw [ee]
 rfl
theorem pair_ev (x : S47) (h : Ok x) : Ev (fun k => rec_PutPair.f k x.f0 x.f1) (rc x, true) := by
 refine Ev.bind (may_ev x h) ?_
 refine Ev.congr (fun k => if_pos rfl) ?_
 refine Ev.congr (fun k => if_neg (by have := h.2.1; omega)) ?_
 exact Ev.bind (row_ev x h) (Ev.now _)
theorem cmp_f (x y : Int) : cmp_Compare_int.f x y = some (if x < y then -1 else if y < x then 1 else 0) := by
 simp [cmp_Compare_int.f, cmp_isNaN_int.f]
 by_cases h1 : x < y
 ·rw [if_pos h1, if_pos h1]
 ·rw [if_neg h1, if_neg h1]
  by_cases h2 : y < x
  ·rw [if_pos h2, if_pos h2]
  ·rw [if_neg h2, if_neg h2]
theorem or_ev (x y : Int) : Ev (fun k => cmp_Or_int.f k [x, y]) (if x = 0 then y else x) := by
 refine ⟨4, fun k hk => ?_⟩
 obtain ⟨k, rfl⟩ : ∃ m, k = m + 3 := ⟨k - 3, by omega⟩
 show cmp_Or_int.f (k + 3) [x, y] = _
 unfold cmp_Or_int.f
 rw [cmp_Or_int.l0, if_pos (by simp), if_pos (by omega), if_pos (by simp), (rd2 x y).1]
 by_cases h1 : x = 0
 ·rw [if_pos h1, w0, cmp_Or_int.l0, if_pos (by simp), if_pos (by omega), if_pos (by simp), (rd2 x y).2, if_pos h1]
  by_cases h2 : y = 0
  ·rw [if_pos h2, w1, cmp_Or_int.l0, if_neg (by simp), h2]
  ·rw [if_neg h2]
 ·rw [if_neg h1, if_neg h1]
theorem rises_ev (x y : S47) (h : lt x y = true) : Ev (fun k => pairfile_rises.f k x.f0 x.f1 y.f0 y.f1) true := by
 have hh := (lt_iff x y).1 h
 refine Ev.congr (f := fun k => (cmp_Or_int.f k [(if x.f0 < y.f0 then -1 else if y.f0 < x.f0 then 1 else 0), (if x.f1 < y.f1 then -1 else if y.f1 < x.f1 then 1 else 0)]).bind fun t => some (decide (t < 0))) (fun k => by unfold pairfile_rises.f; rw [cmp_f, Option.bind_some, cmp_f, Option.bind_some]) ?_
 have e : true = decide ((if (if x.f0 < y.f0 then (-1 : Int) else if y.f0 < x.f0 then 1 else 0) = 0 then (if x.f1 < y.f1 then (-1 : Int) else if y.f1 < x.f1 then 1 else 0) else (if x.f0 < y.f0 then (-1 : Int) else if y.f0 < x.f0 then 1 else 0)) < 0) := by
  refine (decide_eq_true ?_).symm
  rcases hh with h1 | ⟨h1, h2⟩
  ·rw [if_pos h1, if_neg (show ¬ (-1 : Int) = 0 by decide)]; decide
  ·rw [if_neg (show ¬ x.f0 < y.f0 by omega), if_neg (show ¬ y.f0 < x.f0 by omega), if_pos rfl, if_pos h2]; decide
 rw [e]
 exact Ev.bind (or_ev _ _) (Ev.now _)
theorem laid_ev (l : List S47) (hg : Good l) : ∀ (d i : Nat) (acc : List ByteArray), i + d = l.length → acc.length = i → ∃ s, Ev (fun k => pairfile_laid.l0 k l acc l (l.length : Int) (i : Int)) (s, true) := by
 obtain ⟨hs, ho, hl⟩ := hg
 intro d
 induction d with
 | zero =>
  intro i acc hi ha
  exact ⟨acc, Ev.step (f := fun _ => some (acc, true)) (fun k => by rw [pairfile_laid.l0, if_neg (by omega)]) (Ev.now _)⟩
 | succ d ih =>
  intro i acc hi ha
  have hlt : i < l.length := by omega
  obtain ⟨s, hs'⟩ := ih (i + 1) (acc ++ [rc l[i]]) (by omega) (by simp [ha])
  refine ⟨s, ?_⟩
  refine Ev.step (fun k => by rw [pairfile_laid.l0, if_pos (by omega), if_pos (by omega), if_pos (by omega), rd_at l i hlt]) ?_
  refine Ev.bind (pair_ev _ (ho _ (List.getElem_mem hlt))) ?_
  refine Ev.congr (fun k => if_pos rfl) ?_
  have e1 : wrap64 ((i : Int) + 1) = ((i + 1 : Nat) : Int) := wsucc i (by omega)
  cases i with
  | zero =>
   refine Ev.congr (fun k => if_neg (by omega)) ?_
   refine Ev.congr (fun k => if_pos (by omega)) ?_
   rw [e1]
   exact hs'
  | succ j =>
   refine Ev.congr (fun k => if_pos (by omega)) ?_
   have e2 : wrap64 (((j + 1 : Nat) : Int) - 1) = (j : Int) := wsub j (by omega)
   refine Ev.congr (fun k => by rw [e2, if_pos (by omega), if_pos (by omega), rd_at l j (by omega)]) ?_
   have hlt' : lt l[j] l[j + 1] = true := List.pairwise_iff_getElem.mp hs j (j + 1) (by omega) hlt (by omega)
   refine Ev.bind (rises_ev _ _ hlt') ?_
   refine Ev.congr (fun k => if_pos rfl) ?_
   refine Ev.congr (fun k => if_pos (by omega)) ?_
   rw [e1]
   exact hs'
theorem clean_ev (l : List S47) (hg : Good l) : Ev (fun k => pairfile_Clean.f k l) true := by
 obtain ⟨s, hs⟩ := laid_ev l hg l.length 0 [] (by omega) rfl
 refine Ev.bind (a := (s, true)) ?_ (Ev.now _)
 refine Ev.congr (fun k => by unfold pairfile_laid.f; rw [if_pos (by omega), if_pos (by have := hg.2.2; omega)]; rfl) hs
abbrev Pr := S47
def ends (t : Int) (p : Pr) : List Int := if p.f0 = t then [p.f1] else if p.f1 = t then [p.f0] else []
def adj (l : List Pr) (t : Int) : List Int := l.flatMap (ends t)
def netF (n : Nat) (l : List Pr) : List (List Int) := (List.range n).map fun (t : Nat) => adj l (t : Int)
theorem netF_len (n : Nat) (l : List Pr) : (netF n l).length = n := by simp [netF]
theorem netF_at (n : Nat) (l : List Pr) (t : Nat) (h : t < n) : (netF n l).getD t [] = adj l (t : Int) := by
 unfold netF
 rw [List.getD_eq_getElem?_getD, List.getElem?_eq_getElem (by simp; exact h)]
 simp
theorem adj_snoc (l : List Pr) (p : Pr) (t : Int) : adj (l ++ [p]) t = adj l t ++ ends t p := by
 unfold adj; rw [List.flatMap_append]; simp
theorem adj_len (l : List Pr) (t : Int) : (adj l t).length ≤ l.length := by
 unfold adj
 induction l with
 | nil => exact Nat.le_refl _
 | cons p l ih =>
  rw [List.flatMap_cons, List.length_append, List.length_cons]
  have : (ends t p).length ≤ 1 := by unfold ends; split <;> (try split) <;> simp
  omega
theorem rdP (l : List Pr) (i : Nat) (h : i < l.length) : rd_T47 l (i : Int) = l[i] := by
 unfold rd_T47
 rw [Int.toNat_natCast, List.getD_eq_getElem?_getD, List.getElem?_eq_getElem h]; rfl
theorem rdR (l : List (List Int)) (i : Nat) : rd_L4 l (i : Int) = l.getD i [] := by unfold rd_L4; rw [Int.toNat_natCast]
theorem nsucc (i : Nat) (h : i < 1000000) : wrap64 ((i : Int) + 1) = ((i + 1 : Nat) : Int) := by unfold wrap64; omega
theorem net_step (n : Nat) (l : List Pr) (p : Pr) (h : Ok p) (h1 : p.f1 < n) : ((netF n l).set p.f0.toNat ((netF n l).getD p.f0.toNat [] ++ [p.f1])).set p.f1.toNat ((((netF n l).set p.f0.toNat ((netF n l).getD p.f0.toNat [] ++ [p.f1])).getD p.f1.toNat []) ++ [p.f0]) = netF n (l ++ [p]) := by
 obtain ⟨ha, hab, _⟩ := h
 obtain ⟨a, ea⟩ := Int.eq_ofNat_of_zero_le ha
 obtain ⟨b, eb⟩ := Int.eq_ofNat_of_zero_le (show 0 ≤ p.f1 by omega)
 have hlt : a < b := by omega
 have hb : b < n := by omega
 rw [ea, eb, Int.toNat_natCast, Int.toNat_natCast, netF_at n l a (by omega)]
 have e1 : ((netF n l).set a (adj l (a : Int) ++ [(b : Int)])).getD b [] = adj l (b : Int) := by
  rw [List.getD_eq_getElem?_getD, List.getElem?_set_ne (by omega), ← List.getD_eq_getElem?_getD, netF_at n l b hb]
 rw [e1]
 refine List.ext_getElem (by simp [netF_len]) (fun i h1 h2 => ?_)
 have hi : i < n := by simpa [netF_len] using h2
 have e2 : (netF n (l ++ [p]))[i]'h2 = adj l (i : Int) ++ ends (i : Int) p := by
  rw [← adj_snoc, ← netF_at n (l ++ [p]) i hi, List.getD_eq_getElem?_getD, List.getElem?_eq_getElem h2]; rfl
 have e3 : ∀ h, (netF n l)[i]'h = adj l (i : Int) := fun h => by
  rw [← netF_at n l i hi, List.getD_eq_getElem?_getD, List.getElem?_eq_getElem h]; rfl
 rw [e2, List.getElem_set]
 by_cases c1 : b = i
 ·subst c1
  rw [if_pos rfl]
  unfold ends
  rw [if_neg (by omega), if_pos eb, ea]
 ·rw [if_neg c1, List.getElem_set]
  by_cases c2 : a = i
  ·subst c2
   rw [if_pos rfl]
   unfold ends
   rw [if_pos ea, eb]
  ·rw [if_neg c2, e3]
   unfold ends
   rw [if_neg (by omega), if_neg (by omega), List.append_nil]
theorem of_loop (n : Nat) (hn : n ≤ 1000) (l : List Pr) (hl : l.length ≤ 1000) (ho : ∀ p ∈ l, Ok p) : ∀ d i : Nat, i + d = l.length → (∀ p ∈ l.take i, p.f1 < (n : Int)) →
  Ev (fun k => dense_of.l0 k (n : Int) (netF n (l.take i)) l (l.length : Int) (i : Int)) (if (∀ p ∈ l, p.f1 < (n : Int)) then (netF n l, true) else ([], false)) := by
 intro d
 induction d with
 | zero =>
  intro i hi hp
  obtain rfl : i = l.length := by omega
  rw [List.take_length] at hp ⊢
  rw [if_pos hp]
  exact Ev.step (f := fun _ => some _) (fun k => by rw [dense_of.l0, if_neg (by omega)]) (Ev.now _)
 | succ d ih =>
  intro i hi hp
  have hlt : i < l.length := by omega
  have hok := ho l[i] (List.getElem_mem hlt)
  by_cases hb : l[i].f1 < (n : Int)
  ·have hp' : ∀ p ∈ l.take (i + 1), p.f1 < (n : Int) := fun p hpm => by
    rw [List.take_succ_eq_append_getElem hlt, List.mem_append, List.mem_singleton] at hpm
    rcases hpm with h | rfl
    ·exact hp p h
    ·exact hb
   have h := ih (i + 1) (by omega) hp'
   have hst := net_step n (l.take i) l[i] hok hb
   rw [List.take_succ_eq_append_getElem hlt, ← hst] at h
   refine Ev.step (fun k => ?_) h
   obtain ⟨ha, hab, _⟩ := hok
   have hal := fun t => adj_len (l.take i) t
   have hal' : (l.take i).length ≤ 1000 := by rw [List.length_take]; omega
   have g0 : ((netF n (l.take i)).getD l[i].f0.toNat []).length < 17592186044416 := by
    rw [netF_at n _ _ (by omega)]; have := hal (l[i].f0.toNat : Int); omega
   have g1 : ((((netF n (l.take i)).set l[i].f0.toNat ((netF n (l.take i)).getD l[i].f0.toNat [] ++ [l[i].f1])).getD l[i].f1.toNat [])).length < 17592186044416 := by
    rw [List.getD_eq_getElem?_getD, List.getElem?_set_ne (by omega), ← List.getD_eq_getElem?_getD, netF_at n _ _ (by omega)]; have := hal (l[i].f1.toNat : Int); omega
   have r0 : ∀ x : List (List Int), rd_L4 x l[i].f0 = x.getD l[i].f0.toNat [] := fun x => by
    obtain ⟨a, ea⟩ := Int.eq_ofNat_of_zero_le ha
    rw [ea, rdR, Int.toNat_natCast]
   have r1 : ∀ x : List (List Int), rd_L4 x l[i].f1 = x.getD l[i].f1.toNat [] := fun x => by
    obtain ⟨a, ea⟩ := Int.eq_ofNat_of_zero_le (show 0 ≤ l[i].f1 by omega)
    rw [ea, rdR, Int.toNat_natCast]
   rw [dense_of.l0, if_pos (by omega), if_pos (by omega), if_pos (by omega), rdP l i hlt, if_neg (by omega), if_pos ha, if_pos (by rw [netF_len]; omega), r0, if_pos g0, Option.bind_some, if_pos (by omega), if_pos (by rw [netF_len]; omega), r1, if_pos g1, nsucc i (by omega)]
  ·rw [if_neg (fun h => hb (h _ (List.getElem_mem hlt)))]
   exact Ev.step (f := fun _ => some _) (fun k => by rw [dense_of.l0, if_pos (by omega), if_pos (by omega), if_pos (by omega), rdP l i hlt, if_pos (by omega)]) (Ev.now _)
theorem of_ev (n : Nat) (hn : n ≤ 1000) (l : List Pr) (hg : Good l) (m : Int) (hm : 0 ≤ m) : Ev (fun k => dense_of.f k l (n : Int) m) (if (∀ p ∈ l, p.f1 < (n : Int)) then (netF n l, true) else ([], false)) := by
 refine Ev.congr (fun k => by unfold dense_of.f; rw [if_neg (by omega), if_neg (by omega), if_neg (by omega)]) (Ev.bind (clean_ev l hg) ?_)
 have h := of_loop n hn l hg.2.2 hg.2.1 l.length 0 (by omega) (fun p hp => by simp at hp)
 refine Ev.step (fun k => ?_) h
 rw [dense_of.j0, if_neg (by simp), if_pos (by omega), if_pos (by omega), Int.toNat_natCast]
 have e : (List.replicate n [] : List (List Int)) = netF n (l.take 0) := by
  refine List.ext_getElem (by simp [netF_len]) (fun i h1 h2 => ?_)
  simp [netF, adj]
 rw [e]; rfl
def coresF (net : List (List Int)) (m : Int) : List Bool := net.map fun r => decide ((r.length : Int) ≥ m)
theorem cores_ev (net : List (List Int)) (hn : net.length ≤ 1000) (m : Int) : Ev (fun k => dense_net_cores.f k net m) (coresF net m) := by
 have loop : ∀ d i : Nat, i + d = net.length → Ev (fun k => dense_net_cores.l0 k m (coresF (net.take i) m ++ List.replicate d false) net (net.length : Int) (i : Int)) (coresF net m) := by
  intro d
  induction d with
  | zero =>
   intro i hi
   obtain rfl : i = net.length := by omega
   rw [List.take_length, List.replicate_zero, List.append_nil]
   exact Ev.step (f := fun _ => some _) (fun k => by rw [dense_net_cores.l0, if_neg (by omega)]) (Ev.now _)
  | succ d ih =>
   intro i hi
   have hlt : i < net.length := by omega
   have hcl : (coresF (net.take i) m).length = i := by unfold coresF; rw [List.length_map, List.length_take]; omega
   refine Ev.step (fun k => ?_) (ih (i + 1) (by omega))
   rw [dense_net_cores.l0, if_pos (by omega), if_pos (by omega), if_pos (by omega), if_pos (by rw [List.length_append, hcl, List.length_replicate]; omega), rdR, Int.toNat_natCast, nsucc i (by omega)]
   congr 1
   rw [List.set_append_right _ _ (by omega), hcl, Nat.sub_self, List.replicate_succ, List.set_cons_zero, List.take_succ_eq_append_getElem hlt]
   unfold coresF
   rw [List.map_append, List.append_assoc]
   congr 1
   rw [List.getD_eq_getElem?_getD, List.getElem?_eq_getElem hlt]; rfl
 refine Ev.congr (fun k => ?_) (loop net.length 0 (by omega))
 unfold dense_net_cores.f
 rw [if_pos (by omega), Int.toNat_natCast, if_pos (by omega)]; rfl
theorem ev_one {α : Type} {f : Nat → Option α} {a b : α} (h : Ev f a) (h' : Ev f b) : a = b := by
 obtain ⟨k, hk⟩ := h
 obtain ⟨k', hk'⟩ := h'
 have e1 := hk (max k k') (Nat.le_max_left _ _)
 have e2 := hk' (max k k') (Nat.le_max_right _ _)
 rw [e1] at e2
 exact Option.some.inj e2
theorem refpair_t (x : Pr) (h : Ok x) : Ev (fun k => chainmanref14_PutPair.f k x.f0 x.f1) (rc x, true) := by
 obtain ⟨h0, h1, h2⟩ := h
 refine Ev.congr (f := fun k => chainmanref14_PutPair.j0 k false x.f0 x.f1) (fun k => ?_) ?_
 ·unfold chainmanref14_PutPair.f
  rw [refid, Option.bind_some, if_pos (decide_eq_true (by omega)), refid, Option.bind_some, if_pos (decide_eq_true (by omega)), decide_eq_false (by omega)]
 ·refine Ev.step (fun k => by rw [chainmanref14_PutPair.j0, if_neg (by decide)]) ?_
  refine Ev.bind (must4 _ (by omega) (by omega)) ?_
  refine Ev.bind (must4 _ (by omega) (by omega)) ?_
  refine Ev.congr (f := fun _ => some (rc x, true)) (fun k => if_pos (by rw [be_size, be_size]; decide)) (Ev.now _)
theorem refrecs_t (l : List Pr) (hl : l.length ≤ 1000) (ho : ∀ x ∈ l, Ok x) : ∀ (d i : Nat), i + d = l.length → Ev (fun k => chainmanref37_records.l0 k l ((l.take i).map rc) (i : Int)) (l.map rc, true) := by
 intro d
 induction d with
 | zero =>
  intro i hi
  rw [List.take_of_length_le (by omega)]
  exact Ev.step (f := fun _ => some (l.map rc, true)) (fun k => by rw [chainmanref37_records.l0, if_neg (by omega)]) (Ev.now _)
 | succ d ih =>
  intro i hi
  have hlt : i < l.length := by omega
  refine Ev.step (fun k => by rw [chainmanref37_records.l0, if_pos (by omega), if_pos (by omega), rd_at l i hlt]) ?_
  refine Ev.bind (refpair_t l[i] (ho _ (List.getElem_mem hlt))) ?_
  refine Ev.congr (fun k => if_pos rfl) ?_
  refine Ev.congr (fun k => if_pos (by rw [List.length_map, List.length_take]; omega)) ?_
  have := ih (i + 1) (by omega)
  rw [List.take_succ_eq_append_getElem hlt, List.map_append] at this
  rw [wsucc i (by omega)]
  exact this
theorem refloop_t (l : List Pr) (hl : l.length ≤ 1000) (ho : ∀ x ∈ l, Ok x) (hs : Srt lt l) : ∀ (d i : Nat), i + 1 + d = l.length → Ev (fun k => chainmanref37_Clean.l0 k (l.map rc) true ((i + 1 : Nat) : Int)) true := by
 intro d
 induction d with
 | zero =>
  intro i hi
  exact Ev.step (f := fun _ => some true) (fun k => by rw [chainmanref37_Clean.l0, if_neg (by rw [List.length_map]; omega)]) (Ev.now _)
 | succ d ih =>
  intro i hi
  have hlt : i + 1 < l.length := by omega
  have hl' : lt l[i] l[i + 1] = true := List.pairwise_iff_getElem.mp hs i (i + 1) (by omega) hlt (by omega)
  refine Ev.step (fun k => ?_) (ih (i + 1) (by omega))
  rw [chainmanref37_Clean.l0, if_pos (by rw [List.length_map]; omega), if_pos (by omega), wsub i (by omega), if_pos (by omega), if_pos (by rw [List.length_map]; omega), rds_at _ i (by rw [List.length_map]; omega), rds_at _ (i + 1) (by rw [List.length_map]; omega), List.getElem_map, List.getElem_map, rc_less _ _ (ho _ (List.getElem_mem _)) (ho _ (List.getElem_mem _)), if_pos hl', wsucc (i + 1) (by omega)]
theorem refclean_t (l : List Pr) (hg : Good l) : Ev (fun k => chainmanref37_Clean.f k l) true := by
 obtain ⟨hs, ho, hl⟩ := hg
 refine Ev.bind (refrecs_t l hl ho l.length 0 (by omega)) ?_
 by_cases h0 : l.length = 0
 ·exact Ev.step (f := fun _ => some true) (fun k => by show chainmanref37_Clean.l0 (k + 1) (l.map rc) true 1 = _; rw [chainmanref37_Clean.l0, if_neg (by rw [List.length_map]; omega)]) (Ev.now _)
 ·exact refloop_t l hl ho hs (l.length - 1) 0 (by omega)
theorem ref_iff (l : List Pr) (hl : l.length ≤ 1000) : ∃ b, Ev (fun k => chainmanref37_Clean.f k l) b ∧ (b = true ↔ Good l) := by
 obtain ⟨b, h1, h2⟩ := refclean l hl
 exact ⟨b, h1, h2, fun h => ev_one h1 (refclean_t l h)⟩
theorem may_no (x : Pr) : ∃ b, Ev (fun k => rec_may.f k [x.f0, x.f1]) b ∧ (b = true → (0 ≤ x.f0 ∧ x.f0 < 1048576) ∧ 0 ≤ x.f1 ∧ x.f1 < 1048576) := by
 have fin : ∀ b, (∀ k, rec_may.f (k + 3) [x.f0, x.f1] = some b) → Ev (fun k => rec_may.f k [x.f0, x.f1]) b := fun b hb => ⟨3, fun k hk => by
  obtain ⟨m, rfl⟩ : ∃ m, k = m + 3 := ⟨k - 3, by omega⟩
  exact hb m⟩
 by_cases a1 : x.f0 < 0
 ·exact ⟨false, fin _ (fun k => by unfold rec_may.f; rw [rec_may.l0, if_pos (by simp), if_pos (by omega), if_pos (by simp), (rd2 _ _).1, if_pos a1]), fun h => by cases h⟩
 by_cases a2 : x.f0 ≥ 1048576
 ·exact ⟨false, fin _ (fun k => by unfold rec_may.f; rw [rec_may.l0, if_pos (by simp), if_pos (by omega), if_pos (by simp), (rd2 _ _).1, if_neg a1, if_pos a2]), fun h => by cases h⟩
 by_cases a3 : x.f1 < 0
 ·exact ⟨false, fin _ (fun k => by unfold rec_may.f; rw [rec_may.l0, if_pos (by simp), if_pos (by omega), if_pos (by simp), (rd2 _ _).1, if_neg a1, if_neg a2, w0, rec_may.l0, if_pos (by simp), if_pos (by omega), if_pos (by simp), (rd2 _ _).2, if_pos a3]), fun h => by cases h⟩
 by_cases a4 : x.f1 ≥ 1048576
 ·exact ⟨false, fin _ (fun k => by unfold rec_may.f; rw [rec_may.l0, if_pos (by simp), if_pos (by omega), if_pos (by simp), (rd2 _ _).1, if_neg a1, if_neg a2, w0, rec_may.l0, if_pos (by simp), if_pos (by omega), if_pos (by simp), (rd2 _ _).2, if_neg a3, if_pos a4]), fun h => by cases h⟩
 exact ⟨true, fin _ (fun k => by unfold rec_may.f; rw [rec_may.l0, if_pos (by simp), if_pos (by omega), if_pos (by simp), (rd2 _ _).1, if_neg a1, if_neg a2, w0, rec_may.l0, if_pos (by simp), if_pos (by omega), if_pos (by simp), (rd2 _ _).2, if_neg a3, if_neg a4, w1, rec_may.l0, if_neg (by simp)]), fun _ => by omega⟩
theorem pair_no (x : Pr) : ∃ s b, Ev (fun k => rec_PutPair.f k x.f0 x.f1) (s, b) ∧ (b = true → Ok x) := by
 by_cases h : Ok x
 ·exact ⟨_, _, pair_ev x h, fun _ => h⟩
 obtain ⟨b, h1, h2⟩ := may_no x
 refine ⟨⟨#[]⟩, false, Ev.bind h1 ?_, fun h => by cases h⟩
 cases b with
 | false => exact Ev.congr (f := fun _ => some ((⟨#[]⟩ : ByteArray), false)) (fun k => if_neg (by decide)) (Ev.now _)
 | true =>
  have := h2 rfl
  refine Ev.congr (fun k => if_pos rfl) ?_
  refine Ev.congr (f := fun _ => some ((⟨#[]⟩ : ByteArray), false)) (fun k => if_pos (Decidable.byContradiction fun hn => h ⟨by omega, by omega, by omega⟩)) (Ev.now _)
theorem rises_no (x y : Pr) : ∃ b, Ev (fun k => pairfile_rises.f k x.f0 x.f1 y.f0 y.f1) b ∧ (b = true → lt x y = true) := by
 refine ⟨_, Ev.congr (f := fun k => (cmp_Or_int.f k [(if x.f0 < y.f0 then -1 else if y.f0 < x.f0 then 1 else 0), (if x.f1 < y.f1 then -1 else if y.f1 < x.f1 then 1 else 0)]).bind fun t => some (decide (t < 0))) (fun k => by unfold pairfile_rises.f; rw [cmp_f, Option.bind_some, cmp_f, Option.bind_some]) (Ev.bind (or_ev _ _) (Ev.now _)), fun h => ?_⟩
 rw [lt_iff]
 have h := of_decide_eq_true h
 by_cases c1 : x.f0 < y.f0
 ·exact .inl c1
 ·by_cases c2 : y.f0 < x.f0
  ·rw [if_neg c1, if_pos c2, if_neg (by decide)] at h
   omega
  ·rw [if_neg c1, if_neg c2, if_pos rfl] at h
   by_cases c3 : x.f1 < y.f1
   ·exact .inr ⟨by omega, c3⟩
   ·rw [if_neg c3] at h
    split at h <;> omega
theorem laid_no (l : List Pr) (hl : l.length ≤ 1000) : ∀ (d i : Nat) (acc : List ByteArray), i + d = l.length → acc.length = i → (∀ x ∈ l.take i, Ok x) → Srt lt (l.take i) → ∃ s b, Ev (fun k => pairfile_laid.l0 k l acc l (l.length : Int) (i : Int)) (s, b) ∧ (b = true → Good l) := by
 intro d
 induction d with
 | zero =>
  intro i acc hi ha ho hs
  rw [List.take_of_length_le (by omega)] at ho hs
  exact ⟨acc, true, Ev.step (f := fun _ => some (acc, true)) (fun k => by rw [pairfile_laid.l0, if_neg (by omega)]) (Ev.now _), fun _ => ⟨hs, ho, hl⟩⟩
 | succ d ih =>
  intro i acc hi ha ho hs
  have hlt : i < l.length := by omega
  obtain ⟨s, b, h1, h2⟩ := pair_no l[i]
  have st : ∀ k, pairfile_laid.l0 (k + 1) l acc l (l.length : Int) (i : Int) = _ := fun k => by rw [pairfile_laid.l0, if_pos (by omega), if_pos (by omega), if_pos (by omega), rd_at l i hlt]
  cases b with
  | false => exact ⟨_, false, Ev.step st (Ev.bind h1 (Ev.congr (f := fun _ => some (([] : List ByteArray), false)) (fun k => if_neg (fun h => by cases h)) (Ev.now _))), fun h => by cases h⟩
  | true =>
   have hok : ∀ x ∈ l.take (i + 1), Ok x := by
    rw [List.take_succ_eq_append_getElem hlt]
    intro x hx
    rcases List.mem_append.mp hx with hx | hx
    ·exact ho x hx
    ·rw [List.mem_singleton.mp hx]; exact h2 rfl
   have e1 : wrap64 ((i : Int) + 1) = ((i + 1 : Nat) : Int) := wsucc i (by omega)
   cases i with
   | zero =>
    obtain ⟨s', b', q1, q2⟩ := ih 1 (acc ++ [s]) (by omega) (by simp [ha]) hok (by
     rw [List.take_succ_eq_append_getElem hlt]; exact List.pairwise_singleton _ _)
    refine ⟨s', b', Ev.step st (Ev.bind h1 ?_), q2⟩
    refine Ev.congr (fun k => if_pos rfl) ?_
    refine Ev.congr (fun k => if_neg (by omega)) ?_
    refine Ev.congr (fun k => if_pos (by omega)) ?_
    rw [e1]
    exact q1
   | succ j =>
    have e2 : wrap64 (((j + 1 : Nat) : Int) - 1) = (j : Int) := wsub j (by omega)
    obtain ⟨b, r1, r2⟩ := rises_no l[j] l[j + 1]
    have go : ∀ {s' : List ByteArray} {b' : Bool} {X : Nat → Option (List ByteArray × Bool)}, Ev X (s', b') → (∀ k, X k = if b = true then (if acc.length < 8796093022208 then (pairfile_laid.l0 k l (acc ++ [s]) l (l.length : Int) (wrap64 (((j + 1 : Nat) : Int) + 1))) else none) else some ([], false)) → Ev (fun k => pairfile_laid.l0 k l acc l (l.length : Int) ((j + 1 : Nat) : Int)) (s', b') := fun h hX => by
     refine Ev.step st (Ev.bind h1 ?_)
     refine Ev.congr (fun k => if_pos rfl) ?_
     refine Ev.congr (fun k => if_pos (by omega)) ?_
     refine Ev.congr (fun k => by rw [e2, if_pos (by omega), if_pos (by omega), rd_at l j (by omega)]) ?_
     refine Ev.bind r1 ?_
     exact Ev.congr (fun k => (hX k).symm) h
    cases b with
    | false => exact ⟨_, false, go (Ev.now (([] : List ByteArray), false)) (fun k => (if_neg (by decide)).symm), fun h => by cases h⟩
    | true =>
     obtain ⟨s', b', q1, q2⟩ := ih (j + 1 + 1) (acc ++ [s]) (by omega) (by simp [ha]) hok (srt_step l j hlt hs (r2 rfl))
     refine ⟨s', b', go q1 (fun k => ?_), q2⟩
     rw [if_pos rfl, if_pos (by omega), e1]
theorem prog_iff (l : List Pr) (hl : l.length ≤ 1000) : ∃ b, Ev (fun k => pairfile_Clean.f k l) b ∧ (b = true ↔ Good l) := by
 obtain ⟨s, b, h1, h2⟩ := laid_no l hl l.length 0 [] (by omega) rfl (by simp) (by rw [List.take_zero]; exact List.Pairwise.nil)
 have h3 : Ev (fun k => pairfile_Clean.f k l) b := by
  refine Ev.bind (a := (s, b)) ?_ (Ev.now _)
  refine Ev.congr (fun k => by unfold pairfile_laid.f; rw [if_pos (by omega), if_pos (by omega)]; rfl) h1
 exact ⟨b, h3, h2, fun h => ev_one h3 (clean_ev l h)⟩
section
variable {core : List Bool} {net : List (List Int)}
structure Inv (core : List Bool) (net : List (List Int)) (roots out : List Int) : Prop where
 len : out.length = net.length
 nd : roots.Nodup
 rt : ∀ r ∈ roots, 0 ≤ r ∧ r < (net.length : Int) ∧ rdOf false core r = true ∧ rd out r = r
 vals : ∀ x ∈ out, x = -1 ∨ x ∈ roots
def negs (out : List Int) : Nat := out.countP (fun x => decide (x < 0))
def Phi (s : List Int × List Int) : Nat := 2 * negs s.1 + s.2.length
theorem rdI (l : List Int) (i : Nat) (h : i < l.length) : rd l (i : Int) = l[i] := by
 unfold rd
 rw [Int.toNat_natCast, List.getD_eq_getElem?_getD, List.getElem?_eq_getElem h]; rfl
theorem rd_set_ne (l : List Int) (i j : Nat) (x : Int) (h : i ≠ j) : rd (l.set i x) (j : Int) = rd l (j : Int) := by
 unfold rd
 rw [Int.toNat_natCast, List.getD_eq_getElem?_getD, List.getElem?_set_ne h, List.getD_eq_getElem?_getD]
theorem rd_set_eq (l : List Int) (i : Nat) (x : Int) (h : i < l.length) : rd (l.set i x) (i : Int) = x := by
 rw [rdI _ i (by simpa using h), List.getElem_set_self]
theorem negs_set (out : List Int) (o : Nat) (g : Int) (h : o < out.length) (h1 : out[o] < 0) (h2 : 0 ≤ g) : negs (out.set o g) + 1 = negs out := by
 unfold negs
 rw [List.countP_set h]
 have hp : 0 < out.countP (fun x => decide (x < 0)) := List.countP_pos_iff.mpr ⟨out[o], List.getElem_mem h, by simpa using h1⟩
 rw [if_pos (by simpa using h1), if_neg (by simp; omega)]
 omega
theorem inv_put {roots out : List Int} (h : Inv core net roots out) (o g : Int) (h0 : 0 ≤ o) (h1 : o < (net.length : Int)) (hg : g ∈ roots) (hlt : rd out o < 0) : Inv core net roots (out.set o.toNat g) := by
 obtain ⟨m, rfl⟩ := Int.eq_ofNat_of_zero_le h0
 rw [Int.toNat_natCast]
 have hm : m < out.length := by rw [h.len]; omega
 refine ⟨by rw [List.length_set]; exact h.len, h.nd, fun r hr => ?_, fun x hx => ?_⟩
 ·obtain ⟨r0, r1, r2, r3⟩ := h.rt r hr
  obtain ⟨q, rfl⟩ := Int.eq_ofNat_of_zero_le r0
  refine ⟨r0, r1, r2, ?_⟩
  rw [rd_set_ne _ _ _ _ (fun e => by rw [e] at hlt; omega)]; exact r3
 ·rcases List.mem_or_eq_of_mem_set hx with h' | rfl
  ·exact h.vals x h'
  ·exact .inr hg
theorem rch_inv {roots : List Int} {s : List Int × List Int} (h : Inv core net roots s.1) (hs : ∀ o ∈ s.2, 0 ≤ o ∧ o < (net.length : Int)) (o g : Int) (h0 : 0 ≤ o) (h1 : o < (net.length : Int)) (hg : g ∈ roots) :
  Inv core net roots (dense_Groups.rch core g o s).1 ∧ (∀ o' ∈ (dense_Groups.rch core g o s).2, 0 ≤ o' ∧ o' < (net.length : Int)) ∧ Phi (dense_Groups.rch core g o s) ≤ Phi s := by
 unfold dense_Groups.rch
 by_cases hc : rdOf false core o = true ∧ rd s.1 o < 0
 ·rw [if_pos hc]
  refine ⟨inv_put h o g h0 h1 hg hc.2, fun o' ho' => ?_, ?_⟩
  ·rcases List.mem_append.mp ho' with h' | h'
   ·exact hs o' h'
   ·rw [List.mem_singleton.mp h']; exact ⟨h0, h1⟩
  ·obtain ⟨m, rfl⟩ := Int.eq_ofNat_of_zero_le h0
   have hm : m < s.1.length := by rw [h.len]; omega
   have h2 := hc.2
   rw [rdI _ m hm] at h2
   have := negs_set s.1 m g hm h2 (h.rt g hg).1
   unfold Phi
   rw [Int.toNat_natCast]
   show 2 * negs (s.1.set m g) + (s.2 ++ [(m : Int)]).length ≤ _
   rw [List.length_append, List.length_singleton]
   omega
 ·rw [if_neg hc]; exact ⟨h, hs, Nat.le_refl _⟩
theorem phi_le {roots : List Int} {s : List Int × List Int} (h : Inv core net roots s.1) : negs s.1 ≤ net.length := by
 rw [← h.len]; exact List.countP_le_length
theorem inv_start (core : List Bool) (net : List (List Int)) : Inv core net [] (List.replicate net.length (-1)) :=
 ⟨by simp, List.nodup_nil, fun r hr => by simp at hr, fun x hx => .inl (List.eq_of_mem_replicate hx)⟩
end
structure Lab (l : List Pr) (D : Int → Prop) (n : Nat) (g : Int → Int) : Prop where
 le : ∀ u : Int, 0 ≤ u → u < (n : Int) → D u → 0 ≤ g u ∧ g u ≤ u ∧ D (g u)
 ed : ∀ p ∈ l, D p.f0 → D p.f1 → g p.f0 = g p.f1
 cn : ∀ f : Int → Int, (∀ p ∈ l, D p.f0 → D p.f1 → f p.f0 = f p.f1) → ∀ u : Int, 0 ≤ u → u < (n : Int) → D u → f (g u) = f u
theorem lab_uniq {l : List Pr} {D : Int → Prop} {n : Nat} {g g' : Int → Int} (h : Lab l D n g) (h' : Lab l D n g') (u : Int) (h0 : 0 ≤ u) (h1 : u < (n : Int)) (hd : D u) : g u = g' u := by
 obtain ⟨a0, a1, a2⟩ := h.le u h0 h1 hd
 obtain ⟨b0, b1, b2⟩ := h'.le u h0 h1 hd
 have e1 := h.cn g' h'.ed u h0 h1 hd
 have e2 := h'.cn g h.ed u h0 h1 hd
 have c1 := (h'.le (g u) a0 (by omega) a2).2.1
 have c2 := (h.le (g' u) b0 (by omega) b2).2.1
 omega
theorem mem_adj {l : List Pr} (ho : ∀ p ∈ l, Ok p) (u v : Int) : v ∈ adj l u ↔ ∃ p ∈ l, (p.f0 = u ∧ p.f1 = v) ∨ (p.f1 = u ∧ p.f0 = v) := by
 unfold adj
 rw [List.mem_flatMap]
 constructor
 ·rintro ⟨p, hp, h⟩
  refine ⟨p, hp, ?_⟩
  unfold ends at h
  split at h
  ·next e => exact .inl ⟨e, (List.mem_singleton.mp h).symm⟩
  ·split at h
   ·next e => exact .inr ⟨e, (List.mem_singleton.mp h).symm⟩
   ·cases h
 ·rintro ⟨p, hp, h⟩
  refine ⟨p, hp, ?_⟩
  have := (ho p hp).2.1
  unfold ends
  rcases h with ⟨h1, h2⟩ | ⟨h1, h2⟩
  ·rw [if_pos h1, h2]; exact List.mem_singleton.mpr rfl
  ·rw [if_neg (by omega), if_pos h1, h2]; exact List.mem_singleton.mpr rfl
theorem adj_symm {l : List Pr} (ho : ∀ p ∈ l, Ok p) {u v : Int} (h : v ∈ adj l u) : u ∈ adj l v := by
 obtain ⟨p, hp, h⟩ := (mem_adj ho u v).mp h
 exact (mem_adj ho v u).mpr ⟨p, hp, h.symm.imp (fun h => ⟨h.2, h.1⟩) (fun h => ⟨h.2, h.1⟩)⟩
theorem adj_const {l : List Pr} (ho : ∀ p ∈ l, Ok p) {D : Int → Prop} {f : Int → Int} (hf : ∀ p ∈ l, D p.f0 → D p.f1 → f p.f0 = f p.f1) {u v : Int} (h : v ∈ adj l u) (hu : D u) (hv : D v) : f v = f u := by
 obtain ⟨p, hp, h⟩ := (mem_adj ho u v).mp h
 rcases h with ⟨rfl, rfl⟩ | ⟨rfl, rfl⟩
 ·exact (hf p hp hu hv).symm
 ·exact hf p hp hv hu
theorem adj_range {l : List Pr} (ho : ∀ p ∈ l, Ok p) {n : Nat} (hb : ∀ p ∈ l, p.f1 < (n : Int)) {u v : Int} (h : v ∈ adj l u) : 0 ≤ v ∧ v < (n : Int) := by
 obtain ⟨p, hp, h⟩ := (mem_adj ho u v).mp h
 obtain ⟨a, b, _⟩ := ho p hp
 have := hb p hp
 rcases h with ⟨rfl, rfl⟩ | ⟨rfl, rfl⟩ <;> omega
/-- The least of an id's cores' labels, in order. -/
def lstep (core : List Bool) (g : Int → Int) (x o : Int) : Int := if rdOf false core o = true ∧ (x < 0 ∨ g o < x) then g o else x
def lst (core : List Bool) (g : Int → Int) (row : List Int) : Int := row.foldl (lstep core g) (-1)
theorem lst_congr (core : List Bool) (g g' : Int → Int) : ∀ (row : List Int) (x : Int), (∀ o ∈ row, rdOf false core o = true → g o = g' o) → row.foldl (lstep core g) x = row.foldl (lstep core g') x
 | [], _, _ => rfl
 | o :: row, x, h => by
  rw [List.foldl_cons, List.foldl_cons]
  have e : lstep core g x o = lstep core g' x o := by
   unfold lstep
   by_cases c : rdOf false core o = true
   ·rw [h o (List.mem_cons_self ..) c]
   ·rw [if_neg (fun h => c h.1), if_neg (fun h => c h.1)]
  rw [e]
  exact lst_congr core g g' row _ (fun o ho => h o (List.mem_cons_of_mem _ ho))
theorem lst_mem (core : List Bool) (g : Int → Int) : ∀ (row : List Int) (x : Int), row.foldl (lstep core g) x = x ∨ ∃ o ∈ row, rdOf false core o = true ∧ row.foldl (lstep core g) x = g o
 | [], x => .inl rfl
 | o :: row, x => by
  rw [List.foldl_cons]
  rcases lst_mem core g row (lstep core g x o) with h | ⟨o', h1, h2, h3⟩
  ·rw [h]
   unfold lstep
   by_cases c : rdOf false core o = true ∧ (x < 0 ∨ g o < x)
   ·rw [if_pos c]; exact .inr ⟨o, List.mem_cons_self .., c.1, rfl⟩
   ·rw [if_neg c]; exact .inl rfl
  ·exact .inr ⟨o', List.mem_cons_of_mem _ h1, h2, h3⟩
theorem least_eq (core : List Bool) (out row : List Int) (hl : row.length ≤ 1000) (hr : ∀ o ∈ row, 0 ≤ o ∧ o < (core.length : Int)) (ho : out.length = core.length) : Ev (fun k => dense_least.f k row core out) (lst core (rd out) row) := by
 have loop : ∀ d j (x : Int), j + d = row.length → Ev (fun k => dense_least.l0 k core out x row (row.length : Int) (j : Int)) ((row.drop j).foldl (lstep core (rd out)) x) := by
  intro d
  induction d with
  | zero =>
   intro j x hj
   rw [List.drop_of_length_le (by omega)]
   exact Ev.step (f := fun _ => some x) (fun k => by rw [dense_least.l0, if_neg (by omega)]) (Ev.now _)
  | succ d ih =>
   intro j x hj
   have hjl : j < row.length := by omega
   obtain ⟨o0, o1⟩ := hr row[j] (List.getElem_mem hjl)
   have e := rdI row j hjl
   rw [List.drop_eq_getElem_cons hjl, List.foldl_cons, ← e]
   rw [← e] at o0 o1
   have h := ih (j + 1) (lstep core (rd out) x (rd row (j : Int))) (by omega)
   refine Ev.step (fun k => ?_) h
   unfold lstep
   by_cases c1 : rdOf false core (rd row (j : Int)) = true
   ·by_cases c2 : x < 0
    ·rw [dense_least.l0, if_pos (by omega), if_pos (by omega), if_pos (by omega), if_pos o0, if_pos (by omega), if_pos c1, if_pos c2, if_pos (by omega), nsucc j (by omega), if_pos ⟨c1, .inl c2⟩]
    ·by_cases c3 : rd out (rd row (j : Int)) < x
     ·rw [dense_least.l0, if_pos (by omega), if_pos (by omega), if_pos (by omega), if_pos o0, if_pos (by omega), if_pos c1, if_neg c2, if_pos (by omega), if_pos c3, nsucc j (by omega), if_pos ⟨c1, .inr c3⟩]
     ·rw [dense_least.l0, if_pos (by omega), if_pos (by omega), if_pos (by omega), if_pos o0, if_pos (by omega), if_pos c1, if_neg c2, if_pos (by omega), if_neg c3, nsucc j (by omega), if_neg (fun h => h.2.elim c2 c3)]
   ·rw [dense_least.l0, if_pos (by omega), if_pos (by omega), if_pos (by omega), if_pos o0, if_pos (by omega), if_neg c1, nsucc j (by omega), if_neg (fun h => c1 h.1)]
 exact loop row.length 0 (-1) (by omega)
structure Mid (l : List Pr) (core : List Bool) (n : Nat) (i : Nat) (X : Int → Int → Prop) (roots out st : List Int) : Prop where
 base : Inv core (netF n l) roots out
 low : ∀ u : Int, 0 ≤ u → u < (i : Int) → rdOf false core u = true → 0 ≤ rd out u
 le : ∀ u : Int, 0 ≤ u → u < (n : Int) → rdOf false core u = true → 0 ≤ rd out u → rd out u ≤ u
 cn : ∀ u : Int, 0 ≤ u → u < (n : Int) → rdOf false core u = true → 0 ≤ rd out u → ∀ f : Int → Int, (∀ p ∈ l, rdOf false core p.f0 = true → rdOf false core p.f1 = true → f p.f0 = f p.f1) → f (rd out u) = f u
 done : ∀ u v : Int, 0 ≤ u → u < (n : Int) → v ∈ adj l u → rdOf false core u = true → rdOf false core v = true → 0 ≤ rd out u → u ∈ st ∨ X u v ∨ rd out v = rd out u
 stl : ∀ u ∈ st, 0 ≤ u ∧ u < (n : Int) ∧ rdOf false core u = true ∧ rd out u = (i : Int)
theorem rd_set (out : List Int) (o g u : Int) (h0 : 0 ≤ o) (h1 : o < (out.length : Int)) (hu : 0 ≤ u) : rd (out.set o.toNat g) u = if u = o then g else rd out u := by
 obtain ⟨a, rfl⟩ := Int.eq_ofNat_of_zero_le h0
 obtain ⟨b, rfl⟩ := Int.eq_ofNat_of_zero_le hu
 rw [Int.toNat_natCast]
 by_cases c : b = a
 ·subst c
  rw [if_pos rfl]; exact rd_set_eq _ _ _ (by omega)
 ·rw [if_neg (by omega)]; exact rd_set_ne _ _ _ _ (fun e => c e.symm)
section
variable {l : List Pr} {core : List Bool} {n : Nat} (ho : ∀ p ∈ l, Ok p) (hb : ∀ p ∈ l, p.f1 < (n : Int))
include ho hb
theorem mid_reach {i : Nat} {roots out st : List Int} {t : Int} {j : Nat} (hj : j < (adj l t).length) (hi : (i : Int) ∈ roots) (ht : rdOf false core t = true ∧ rd out t = (i : Int) ∧ 0 ≤ t ∧ t < (n : Int))
  (h : Mid l core n i (fun u v => u = t ∧ v ∈ (adj l t).drop j) roots out st) :
  Mid l core n i (fun u v => u = t ∧ v ∈ (adj l t).drop (j + 1)) roots (dense_Groups.rch core (i : Int) (adj l t)[j] (out, st)).1 (dense_Groups.rch core (i : Int) (adj l t)[j] (out, st)).2 ∧ rd (dense_Groups.rch core (i : Int) (adj l t)[j] (out, st)).1 t = (i : Int) := by
 have hom := List.getElem_mem hj
 obtain ⟨o0, o1⟩ := adj_range ho hb hom
 rw [List.drop_eq_getElem_cons hj] at h
 generalize (adj l t)[j] = o at hom o0 o1 h
 have hlen : out.length = n := by rw [h.base.len, netF_len]
 unfold dense_Groups.rch
 by_cases c : rdOf false core o = true ∧ rd (out, st).1 o < 0
 ·rw [if_pos c]
  have c2 : rd out o < 0 := c.2
  have R : ∀ u : Int, 0 ≤ u → rd (out.set o.toNat (i : Int)) u = if u = o then (i : Int) else rd out u := fun u hu => rd_set out o _ u o0 (by omega) hu
  refine ⟨⟨inv_put h.base o _ o0 (by rw [netF_len]; exact o1) hi c2, fun u h0 h1 hc => ?_, fun u h0 h1 hc hp => ?_, fun u h0 h1 hc hp f hf => ?_, fun u v h0 h1 hv hu hcv hp => ?_, fun u hu => ?_⟩, ?_⟩
  ·show 0 ≤ rd (out.set _ _) u
   rw [R u h0]; split
   ·omega
   ·exact h.low u h0 h1 hc
  ·change 0 ≤ rd (out.set _ _) u at hp
   show rd (out.set _ _) u ≤ u
   rw [R u h0] at hp ⊢
   by_cases e : u = o
   ·rw [if_pos e]
    rw [e]
    refine Decidable.byContradiction fun hn => ?_
    have := h.low o o0 (by omega) c.1
    omega
   ·rw [if_neg e] at hp ⊢
    exact h.le u h0 h1 hc hp
  ·change 0 ≤ rd (out.set _ _) u at hp
   show f (rd (out.set _ _) u) = f u
   rw [R u h0] at hp ⊢
   by_cases e : u = o
   ·rw [if_pos e]
    have h1 := h.cn t ht.2.2.1 ht.2.2.2 ht.1 (by rw [ht.2.1]; omega) f hf
    rw [ht.2.1] at h1
    rw [h1, e]
    exact (adj_const (D := fun z => rdOf false core z = true) ho hf hom ht.1 c.1).symm
   ·rw [if_neg e] at hp ⊢
    exact h.cn u h0 h1 hc hp f hf
  ·change 0 ≤ rd (out.set _ _) u at hp
   show u ∈ st ++ [o] ∨ _ ∨ rd (out.set _ _) v = rd (out.set _ _) u
   by_cases e : u = o
   ·exact .inl (List.mem_append_right _ (List.mem_singleton.mpr e))
   rw [R u h0, if_neg e] at hp ⊢
   have hv0 := (adj_range ho hb hv).1
   rw [R v hv0]
   rcases h.done u v h0 h1 hv hu hcv hp with q | ⟨q1, q2⟩ | q
   ·exact .inl (List.mem_append_left _ q)
   ·rcases List.mem_cons.mp q2 with q2 | q2
    ·refine .inr (.inr ?_)
     rw [if_pos q2, q1, ht.2.1]
    ·exact .inr (.inl ⟨q1, q2⟩)
   ·refine .inr (.inr ?_)
    rw [if_neg (fun e2 => by rw [e2] at q; omega)]
    exact q
  ·rcases List.mem_append.mp hu with q | q
   ·obtain ⟨a, b, c', d⟩ := h.stl u q
    refine ⟨a, b, c', ?_⟩
    show rd (out.set _ _) u = _
    rw [R u a]; split
    ·rfl
    ·exact d
   ·rw [List.mem_singleton.mp q]
    refine ⟨o0, o1, c.1, ?_⟩
    show rd (out.set _ _) o = _
    rw [R o o0, if_pos rfl]
  ·show rd (out.set _ _) t = _
   rw [R t ht.2.2.1]; split
   ·rfl
   ·exact ht.2.1
 ·rw [if_neg c]
  refine ⟨⟨h.base, h.low, h.le, h.cn, fun u v h0 h1 hv hu hcv hp => ?_, h.stl⟩, ht.2.1⟩
  rcases h.done u v h0 h1 hv hu hcv hp with q | ⟨q1, q2⟩ | q
  ·exact .inl q
  ·rcases List.mem_cons.mp q2 with q2 | q2
   ·refine .inr (.inr ?_)
    rw [q2] at hcv ⊢
    have hp' : 0 ≤ rd out o := Decidable.byContradiction fun hn => c ⟨hcv, by show rd out o < 0; omega⟩
    rw [q1]
    rcases h.done o t o0 o1 (adj_symm ho hom) hcv ht.1 hp' with r | ⟨r1, r2⟩ | r
    ·rw [(h.stl o r).2.2.2, ht.2.1]
    ·rw [r1]
    ·exact r.symm
   ·exact .inr (.inl ⟨q1, q2⟩)
  ·exact .inr (.inr q)
omit ho hb in
theorem mid_weak {i : Nat} {X Y : Int → Int → Prop} {roots out st st' : List Int} (h : Mid l core n i X roots out st) (hs : ∀ u ∈ st', u ∈ st) (hx : ∀ u v, v ∈ adj l u → (u ∈ st ∨ X u v) → u ∈ st' ∨ Y u v) : Mid l core n i Y roots out st' := by
 refine ⟨h.base, h.low, h.le, h.cn, fun u v h0 h1 hv hu hcv hp => ?_, fun u hu => h.stl u (hs u hu)⟩
 rcases h.done u v h0 h1 hv hu hcv hp with q | q | q
 ·exact (hx u v hv (.inl q)).imp id .inl
 ·exact (hx u v hv (.inr q)).imp id .inl
 ·exact .inr (.inr q)
theorem g2_ev (hn : n ≤ 1000) (hl : l.length ≤ 1000) {roots : List Int} (c : Int) (i : Nat) (hi : (i : Int) ∈ roots) (Q : List Int × Int → Prop) (φ : Nat) (hφ : φ ≤ 3000)
  (H1 : ∀ s : List Int × List Int, Mid l core n i (fun _ _ => False) roots s.1 s.2 → Phi s ≤ φ → ∃ r, Ev (fun k => dense_Groups.l1 k core (netF n l) s c i) r ∧ Q r) (t : Nat) (htn : t < n) (htc : rdOf false core (t : Int) = true) :
  ∀ d j (s : List Int × List Int), j + d = (adj l (t : Int)).length → rd s.1 (t : Int) = (i : Int) → Mid l core n i (fun u v => u = (t : Int) ∧ v ∈ (adj l (t : Int)).drop j) roots s.1 s.2 → Phi s ≤ φ → ∃ r, Ev (fun k => dense_Groups.l2 k core (netF n l) s c i t j) r ∧ Q r := by
 have hrow := netF_at n l t htn
 intro d
 induction d with
 | zero =>
  intro j s hj _ h hp
  obtain ⟨r, h1, h2⟩ := H1 s (mid_weak h (fun u hu => hu) (fun u v _ q => q.imp id (fun q => by rw [List.drop_of_length_le (by omega)] at q; cases q.2))) hp
  exact ⟨r, Ev.step (fun k => by rw [dense_Groups.l2, hrow, if_neg (by omega)]) h1, h2⟩
 | succ d ih =>
  intro j s hj ht h hp
  have hjl : j < (adj l (t : Int)).length := by omega
  obtain ⟨o0, o1⟩ := adj_range ho hb (List.getElem_mem hjl)
  obtain ⟨a1, a2⟩ := mid_reach ho hb hjl hi ⟨htc, ht, by omega, by omega⟩ h
  have a3 := (rch_inv (s := s) h.base (fun o ho' => by rw [netF_len]; exact ⟨(h.stl o ho').1, (h.stl o ho').2.1⟩) (adj l (t : Int))[j] (i : Int) o0 (by rw [netF_len]; exact o1) hi).2.2
  obtain ⟨r, h1, h2⟩ := ih (j + 1) _ (by omega) a2 a1 (Nat.le_trans a3 hp)
  refine ⟨r, Ev.step (fun k => ?_) h1, h2⟩
  rw [dense_Groups.l2, hrow, if_pos hjl, rdI _ j hjl, if_pos ⟨o0, by rw [netF_len]; exact o1, by unfold Phi at hp; omega⟩]
theorem g1_ev (hn : n ≤ 1000) (hl : l.length ≤ 1000) {roots : List Int} (c : Int) (i : Nat) (hi : (i : Int) ∈ roots) (Q : List Int × Int → Prop)
  (H0 : ∀ out : List Int, Mid l core n i (fun _ _ => False) roots out [] → ∃ r, Ev (fun k => dense_Groups.l0 k core (netF n l) out c (i + 1)) r ∧ Q r) :
  ∀ φ, φ ≤ 3000 → ∀ s : List Int × List Int, Mid l core n i (fun _ _ => False) roots s.1 s.2 → Phi s ≤ φ → ∃ r, Ev (fun k => dense_Groups.l1 k core (netF n l) s c i) r ∧ Q r := by
 intro φ
 induction φ with
 | zero =>
  intro _ s h hp
  have h0 : s.2 = [] := List.eq_nil_of_length_eq_zero (by unfold Phi at hp; omega)
  obtain ⟨r, h1, h2⟩ := H0 s.1 (by rw [← h0]; exact h)
  exact ⟨r, Ev.step (fun k => by rw [dense_Groups.l1, if_neg (by rw [h0]; simp)]) h1, h2⟩
 | succ φ ih =>
  intro hφ s h hp
  by_cases h0 : 0 < s.2.length
  ·obtain ⟨m, hm⟩ : ∃ m, s.2.length = m + 1 := ⟨s.2.length - 1, by omega⟩
   have e1 : ((s.2.length : Int) - 1) = (m : Int) := by omega
   have hml : m < s.2.length := by omega
   obtain ⟨o0, o1, oc, oi⟩ := h.stl s.2[m] (List.getElem_mem hml)
   have e2 := rdI s.2 m hml
   obtain ⟨t, et⟩ := Int.eq_ofNat_of_zero_le o0
   rw [et] at o1 oc oi
   have hst : ∀ u ∈ s.2, u ∈ s.2.take m ∨ u = (t : Int) := fun u hu => by
    have : s.2 = s.2.take m ++ [s.2[m]] := by
     rw [← List.take_succ_eq_append_getElem hml, List.take_of_length_le (by omega)]
    rw [this, et] at hu
    rcases List.mem_append.mp hu with q | q
    ·exact .inl q
    ·exact .inr (List.mem_singleton.mp q)
   have hM : Mid l core n i (fun u v => u = (t : Int) ∧ v ∈ (adj l (t : Int)).drop 0) roots s.1 (s.2.take m) := mid_weak h (fun u hu => List.mem_of_mem_take hu) (fun u v hv q => by
    rcases q with q | q
    ·rcases hst u q with q | q
     ·exact .inl q
     ·refine .inr ⟨q, ?_⟩
      rw [List.drop_zero, ← q]; exact hv
    ·cases q)
   obtain ⟨r, h1, h2⟩ := g2_ev ho hb hn hl c i hi Q φ (by omega) (ih (by omega)) t (by omega) oc _ 0 (s.1, s.2.take m) (Nat.zero_add _) oi hM (by
    unfold Phi at hp ⊢
    simp only [List.length_take]
    omega)
   refine ⟨r, Ev.step (fun k => ?_) h1, h2⟩
   rw [dense_Groups.l1, if_pos h0, e1, e2, et, if_pos ⟨by omega, by rw [netF_len]; exact o1⟩, hm]; rfl
  ·have h0' : s.2 = [] := List.eq_nil_of_length_eq_zero (by omega)
   obtain ⟨r, h1, h2⟩ := H0 s.1 (by rw [← h0']; exact h)
   exact ⟨r, Ev.step (fun k => by rw [dense_Groups.l1, if_neg h0]) h1, h2⟩
/-- Between two roots. -/
theorem g0_ev (hn : n ≤ 1000) (hl : l.length ≤ 1000) (Q : List Int × Int → Prop)
  (H3 : ∀ out roots : List Int, Mid l core n n (fun _ _ => False) roots out [] → ∃ r, Ev (fun k => dense_Groups.l3 k core (netF n l) out (roots.length : Int) 0) r ∧ Q r) :
  ∀ d i (out roots : List Int), i + d = n → Mid l core n i (fun _ _ => False) roots out [] → roots.length ≤ i → ∃ r, Ev (fun k => dense_Groups.l0 k core (netF n l) out (roots.length : Int) i) r ∧ Q r := by
 intro d
 induction d with
 | zero =>
  intro i out roots hi h hr
  obtain rfl : i = n := by omega
  obtain ⟨r, h1, h2⟩ := H3 out roots h
  exact ⟨r, Ev.step (fun k => by rw [dense_Groups.l0, if_neg (by rw [netF_len]; omega)]) h1, h2⟩
 | succ d ih =>
  intro i out roots hi h hr
  have hin : i < n := by omega
  have up : ∀ {roots out : List Int}, Mid l core n i (fun _ _ => False) roots out [] → (rdOf false core (i : Int) = true → 0 ≤ rd out (i : Int)) → Mid l core n (i + 1) (fun _ _ => False) roots out [] := fun h hi' => by
   refine ⟨h.base, fun u h0 h1 hc => ?_, h.le, h.cn, h.done, fun u hu => by cases hu⟩
   by_cases e : u = (i : Int)
   ·rw [e] at hc ⊢; exact hi' hc
   ·exact h.low u h0 (by omega) hc
  by_cases c1 : rdOf false core (i : Int) = true ∧ rd out (i : Int) < 0
  ·have hlen : out.length = n := by rw [h.base.len, netF_len]
   have hio : i < out.length := by omega
   have hni : (i : Int) ∉ roots := fun hm => by have := (h.base.rt _ hm).2.2.2; omega
   have R : ∀ u : Int, 0 ≤ u → rd (out.set i (i : Int)) u = if u = (i : Int) then (i : Int) else rd out u := fun u hu => by
    have := rd_set out (i : Int) (i : Int) u (by omega) (by omega) hu
    rwa [Int.toNat_natCast] at this
   have hbase : Inv core (netF n l) (roots ++ [(i : Int)]) (out.set i (i : Int)) := by
    refine ⟨by rw [List.length_set]; exact h.base.len, List.nodup_append.mpr ⟨h.base.nd, by simp, fun a ha b hb e => hni (by rw [List.mem_singleton.mp hb] at e; exact e ▸ ha)⟩, fun r hr => ?_, fun y hy => ?_⟩
    ·rcases List.mem_append.mp hr with hr | hr
     ·obtain ⟨r0, r1, r2, r3⟩ := h.base.rt r hr
      refine ⟨r0, r1, r2, ?_⟩
      rw [R r r0, if_neg (fun e => hni (by rw [← e]; exact hr))]; exact r3
     ·obtain rfl := List.mem_singleton.mp hr
      exact ⟨by omega, by rw [netF_len]; omega, c1.1, by rw [R _ (by omega), if_pos rfl]⟩
    ·rcases List.mem_or_eq_of_mem_set hy with h' | rfl
     ·exact (h.base.vals y h').imp id (fun hv => List.mem_append_left _ hv)
     ·exact .inr (List.mem_append_right _ (List.mem_singleton.mpr rfl))
   have h' : Mid l core n i (fun _ _ => False) (roots ++ [(i : Int)]) (out.set i (i : Int)) [(i : Int)] := by
    refine ⟨hbase, fun u h0 h1 hc => ?_, fun u h0 h1 hc hp => ?_, fun u h0 h1 hc hp f hf => ?_, fun u v h0 h1 hv hu hcv hp => ?_, fun u hu => ?_⟩
    ·rw [R u h0]; split
     ·omega
     ·exact h.low u h0 h1 hc
    ·rw [R u h0] at hp ⊢
     by_cases e : u = (i : Int)
     ·rw [if_pos e, e]; exact Int.le_refl _
     ·rw [if_neg e] at hp ⊢; exact h.le u h0 h1 hc hp
    ·rw [R u h0] at hp ⊢
     by_cases e : u = (i : Int)
     ·rw [if_pos e, e]
     ·rw [if_neg e] at hp ⊢; exact h.cn u h0 h1 hc hp f hf
    ·by_cases e : u = (i : Int)
     ·exact .inl (List.mem_singleton.mpr e)
     ·rw [R u h0, if_neg e] at hp ⊢
      rcases h.done u v h0 h1 hv hu hcv hp with q | q | q
      ·cases q
      ·cases q
      ·refine .inr (.inr ?_)
       rw [R v (adj_range ho hb hv).1, if_neg (fun e2 => by rw [e2] at q; omega)]
       exact q
    ·rw [List.mem_singleton.mp hu]
     exact ⟨by omega, by omega, c1.1, by rw [R _ (by omega), if_pos rfl]⟩
   have hrc : dense_Groups.rch core (i : Int) (i : Int) (out, []) = (out.set i (i : Int), [(i : Int)]) := by
    unfold dense_Groups.rch
    rw [if_pos c1, Int.toNat_natCast]; rfl
   have hw : wrap64 ((roots.length : Int) + 1) = (((roots ++ [(i : Int)]).length : Nat) : Int) := by
    rw [nsucc _ (by omega), List.length_append, List.length_singleton]
   obtain ⟨r, h1, h2⟩ := g1_ev ho hb hn hl (((roots ++ [(i : Int)]).length : Nat) : Int) i (List.mem_append_right _ (List.mem_singleton.mpr rfl)) Q (fun out' h'' => ih (i + 1) out' _ (by omega) (up h'' (fun _ => by
     have := (h''.base.rt (i : Int) (List.mem_append_right _ (List.mem_singleton.mpr rfl))).2.2.2
     omega)) (by rw [List.length_append, List.length_singleton]; omega)) 3000 (Nat.le_refl _) (out.set i (i : Int), [(i : Int)]) h' (by
    unfold Phi
    have := phi_le (s := (out.set i (i : Int), [(i : Int)])) hbase
    rw [netF_len] at this
    simp only [List.length_singleton] at *
    omega)
   refine ⟨r, Ev.step (fun k => ?_) h1, h2⟩
   rw [dense_Groups.l0, if_pos (by rw [netF_len]; exact hin), if_pos c1, hrc, hw]
  ·obtain ⟨r, h1, h2⟩ := ih (i + 1) out roots (by omega) (up h (fun hc => Decidable.byContradiction fun hn => c1 ⟨hc, by omega⟩)) (by omega)
   exact ⟨r, Ev.step (fun k => by rw [dense_Groups.l0, if_pos (by rw [netF_len]; exact hin), if_neg c1]) h1, h2⟩
omit ho hb in
theorem mid_start : Mid l core n 0 (fun _ _ => False) [] (List.replicate n (-1)) [] := by
 have hneg : ∀ u : Int, 0 ≤ u → u < (n : Int) → rd (List.replicate n (-1)) u = -1 := fun u h0 h1 => by
  obtain ⟨a, rfl⟩ := Int.eq_ofNat_of_zero_le h0
  rw [rdI _ a (by rw [List.length_replicate]; omega), List.getElem_replicate]
 have hs := inv_start core (netF n l)
 rw [netF_len] at hs
 exact ⟨hs, fun u h0 h1 => by omega, fun u h0 h1 hc hp => by rw [hneg u h0 h1] at hp; omega, fun u h0 h1 hc hp => by rw [hneg u h0 h1] at hp; omega, fun u v h0 h1 hv hu hcv hp => by rw [hneg u h0 h1] at hp; omega, fun u hu => by cases hu⟩
omit hb in
theorem mid_lab {roots out : List Int} (h : Mid l core n n (fun _ _ => False) roots out []) (hb : ∀ p ∈ l, p.f1 < (n : Int)) : Lab l (fun z => rdOf false core z = true) n (rd out) := by
 have hlen : out.length = n := by rw [h.base.len, netF_len]
 refine ⟨fun u h0 h1 hc => ?_, fun p hp ha hb' => ?_, fun f hf u h0 h1 hc => h.cn u h0 h1 hc (h.low u h0 h1 hc) f hf⟩
 ·have hp := h.low u h0 h1 hc
  refine ⟨hp, h.le u h0 h1 hc hp, ?_⟩
  obtain ⟨a, rfl⟩ := Int.eq_ofNat_of_zero_le h0
  have hm := List.getElem_mem (l := out) (n := a) (by omega)
  rw [rdI out a (by omega)] at hp ⊢
  rcases h.base.vals _ hm with q | q
  ·omega
  ·exact (h.base.rt _ q).2.2.1
 ·obtain ⟨q0, q1, _⟩ := ho p hp
  have hpb := hb p hp
  have hm : p.f1 ∈ adj l p.f0 := (mem_adj ho _ _).mpr ⟨p, hp, .inl ⟨rfl, rfl⟩⟩
  rcases h.done p.f0 p.f1 q0 (by omega) hm ha hb' (h.low _ q0 (by omega) ha) with q | q | q
  ·cases q
  ·cases q
  ·exact q.symm
end
def outOf (l : List Pr) (core : List Bool) (n : Nat) (g : Int → Int) : List Int := (List.range n).map fun (t : Nat) => if rdOf false core (t : Int) = true then g (t : Int) else lst core g (adj l (t : Int))
def cntOf (out : List Int) : Nat := (List.range out.length).countP fun (t : Nat) => decide (rd out (t : Int) = (t : Int))
theorem outOf_len (l : List Pr) (core : List Bool) (n : Nat) (g : Int → Int) : (outOf l core n g).length = n := by simp [outOf]
theorem outOf_at (l : List Pr) (core : List Bool) (n : Nat) (g : Int → Int) (t : Nat) (h : t < n) : rd (outOf l core n g) (t : Int) = if rdOf false core (t : Int) = true then g (t : Int) else lst core g (adj l (t : Int)) := by
 rw [rdI _ t (by rw [outOf_len]; exact h)]
 unfold outOf
 rw [List.getElem_map, List.getElem_range]
theorem outOf_congr {l : List Pr} (ho : ∀ p ∈ l, Ok p) {n : Nat} (hb : ∀ p ∈ l, p.f1 < (n : Int)) (core : List Bool) {g g' : Int → Int} (h : ∀ u : Int, 0 ≤ u → u < (n : Int) → rdOf false core u = true → g u = g' u) : outOf l core n g = outOf l core n g' := by
 refine List.ext_getElem (by simp [outOf_len]) (fun i h1 h2 => ?_)
 have hi : i < n := by simpa [outOf_len] using h1
 rw [← rdI _ i h1, ← rdI _ i h2, outOf_at _ _ _ _ _ hi, outOf_at _ _ _ _ _ hi]
 by_cases c : rdOf false core (i : Int) = true
 ·rw [if_pos c, if_pos c, h _ (by omega) (by omega) c]
 ·rw [if_neg c, if_neg c]
  unfold lst
  refine lst_congr core g g' _ _ (fun o hm hc => ?_)
  obtain ⟨a, b⟩ := adj_range ho hb hm
  exact h o a b hc
/-- One's own label: a core's. -/
theorem outOf_self {l : List Pr} (ho : ∀ p ∈ l, Ok p) {n : Nat} (hb : ∀ p ∈ l, p.f1 < (n : Int)) {core : List Bool} {g : Int → Int} (h : Lab l (fun z => rdOf false core z = true) n g) (t : Nat) (ht : t < n) :
  rd (outOf l core n g) (t : Int) = (t : Int) ↔ rdOf false core (t : Int) = true ∧ g (t : Int) = (t : Int) := by
 rw [outOf_at _ _ _ _ _ ht]
 by_cases c : rdOf false core (t : Int) = true
 ·rw [if_pos c]; exact ⟨fun h => ⟨c, h⟩, fun h => h.2⟩
 ·rw [if_neg c]
  refine ⟨fun e => ?_, fun h => absurd h.1 c⟩
  rcases lst_mem core g (adj l (t : Int)) (-1) with q | ⟨o, h1, h2, h3⟩
  ·have : lst core g (adj l (t : Int)) = -1 := q
   omega
  ·obtain ⟨a, b⟩ := adj_range ho hb h1
   have h4 := (h.le o a b h2).2.2
   have h3 : lst core g (adj l (t : Int)) = g o := h3
   rw [← h3, e] at h4
   exact absurd h4 c
theorem grp_l3 {l : List Pr} {core : List Bool} {n : Nat} (ho : ∀ p ∈ l, Ok p) (hb : ∀ p ∈ l, p.f1 < (n : Int)) (hn : n ≤ 1000) (hl : l.length ≤ 1000) (hc : core.length = n) {roots out : List Int} (h : Mid l core n n (fun _ _ => False) roots out []) :
  Ev (fun k => dense_Groups.l3 k core (netF n l) out (roots.length : Int) 0) (outOf l core n (rd out), (roots.length : Int)) := by
 have hlen : out.length = n := by rw [h.base.len, netF_len]
 have loop : ∀ d i (o' : List Int), i + d = n → o'.length = n → (∀ u : Nat, u < n → rdOf false core (u : Int) = true → rd o' (u : Int) = rd out (u : Int)) → (∀ u : Nat, u < i → rdOf false core (u : Int) ≠ true → rd o' (u : Int) = lst core (rd out) (adj l (u : Int))) → Ev (fun k => dense_Groups.l3 k core (netF n l) o' (roots.length : Int) i) (outOf l core n (rd out), (roots.length : Int)) := by
  intro d
  induction d with
  | zero =>
   intro i o' hi hl' h1 h2
   obtain rfl : i = n := by omega
   have e : o' = outOf l core i (rd out) := by
    refine List.ext_getElem (by rw [outOf_len]; exact hl') (fun j ha hb' => ?_)
    have hj : j < i := by omega
    rw [← rdI _ j ha, ← rdI _ j hb', outOf_at _ _ _ _ _ hj]
    by_cases c : rdOf false core (j : Int) = true
    ·rw [if_pos c]; exact h1 j hj c
    ·rw [if_neg c]; exact h2 j hj c
   rw [← e]
   exact Ev.step (f := fun _ => some _) (fun k => by rw [dense_Groups.l3, if_neg (by rw [netF_len]; omega)]) (Ev.now _)
  | succ d ih =>
   intro i o' hi hl' h1 h2
   have hin : i < n := by omega
   by_cases c : rdOf false core (i : Int) = true
   ·refine Ev.step (fun k => ?_) (ih (i + 1) o' (by omega) hl' h1 (fun u hu hcu => ?_))
    ·rw [dense_Groups.l3, if_pos (by rw [netF_len]; exact hin), if_pos c]
    ·by_cases e : u = i
     ·rw [e] at hcu; exact absurd c hcu
     ·exact h2 u (by omega) hcu
   ·have hrow := netF_at n l i hin
    have hlst := least_eq core o' (adj l (i : Int)) (Nat.le_trans (adj_len l _) hl) (fun o hm => by rw [hc]; exact adj_range ho hb hm) (by rw [hl', hc])
    have e0 : lst core (rd o') (adj l (i : Int)) = lst core (rd out) (adj l (i : Int)) := lst_congr core _ _ _ _ (fun o hm hco => by
     obtain ⟨a, b⟩ := adj_range ho hb hm
     obtain ⟨q, rfl⟩ := Int.eq_ofNat_of_zero_le a
     exact h1 q (by omega) hco)
    rw [e0] at hlst
    have hrec := ih (i + 1) (o'.set i (lst core (rd out) (adj l (i : Int)))) (by omega) (by rw [List.length_set]; exact hl') (fun u hu hcu => ?_) (fun u hu hcu => ?_)
    ·refine Ev.step (f := fun k => (dense_least.f k (adj l (i : Int)) core o').bind fun r => dense_Groups.l3 k core (netF n l) (o'.set i r) (roots.length : Int) (i + 1)) (fun k => ?_) (Ev.bind hlst hrec)
     rw [dense_Groups.l3, if_pos (by rw [netF_len]; exact hin), if_neg c, hrow]
    ·rw [rd_set_ne o' i u _ (fun e => c (by rw [e]; exact hcu))]; exact h1 u hu hcu
    ·by_cases e : u = i
     ·rw [e, rd_set_eq _ _ _ (by omega)]
     ·rw [rd_set_ne _ _ _ _ (fun e2 => e e2.symm)]; exact h2 u (by omega) hcu
 exact loop n 0 out (Nat.zero_add _) hlen (fun u _ _ => rfl) (fun u hu => by omega)
theorem cnt_roots {l : List Pr} {core : List Bool} {n : Nat} (ho : ∀ p ∈ l, Ok p) (hb : ∀ p ∈ l, p.f1 < (n : Int)) {roots out : List Int} (h : Mid l core n n (fun _ _ => False) roots out []) : (roots.length : Int) = (cntOf (outOf l core n (rd out)) : Int) := by
 have hL := mid_lab ho h hb
 have hlen : out.length = n := by rw [h.base.len, netF_len]
 unfold cntOf
 rw [outOf_len, List.countP_eq_length_filter]
 have hp : roots.Perm (((List.range n).filter fun (t : Nat) => decide (rd (outOf l core n (rd out)) (t : Int) = (t : Int))).map (fun (t : Nat) => (t : Int))) := by
  refine (List.perm_ext_iff_of_nodup h.base.nd ?_).mpr (fun x => ?_)
  ·refine List.Pairwise.map _ (fun a b hab e => hab (by exact_mod_cast e)) (List.Pairwise.filter _ List.nodup_range)
  ·rw [List.mem_map]
   constructor
   ·intro hx
    obtain ⟨r0, r1, r2, r3⟩ := h.base.rt x hx
    obtain ⟨t, rfl⟩ := Int.eq_ofNat_of_zero_le r0
    rw [netF_len] at r1
    exact ⟨t, List.mem_filter.mpr ⟨List.mem_range.mpr (by omega), decide_eq_true ((outOf_self ho hb hL t (by omega)).mpr ⟨r2, r3⟩)⟩, rfl⟩
   ·rintro ⟨t, ht, rfl⟩
    obtain ⟨h1, h2⟩ := List.mem_filter.mp ht
    have htn := List.mem_range.mp h1
    obtain ⟨q1, q2⟩ := (outOf_self ho hb hL t htn).mp (of_decide_eq_true h2)
    have hm := List.getElem_mem (l := out) (n := t) (by omega)
    rw [rdI out t (by omega)] at q2
    rcases h.base.vals _ hm with q | q
    ·omega
    ·rw [q2] at q; exact q
 rw [hp.length_eq, List.length_map]
/-- The groups of clean pairs: labels of the cores, and of the others the least of theirs. -/
theorem groups_lab (n : Nat) (hn : n ≤ 1000) (l : List Pr) (hg : Good l) (m : Int) (hm : 0 ≤ m) (hb : ∀ p ∈ l, p.f1 < (n : Int)) :
  ∃ g, Lab l (fun z => rdOf false (coresF (netF n l) m) z = true) n g ∧ Ev (fun k => dense_Groups.f k l (n : Int) m) (outOf l (coresF (netF n l) m) n g, (cntOf (outOf l (coresF (netF n l) m) n g) : Int)) := by
 have h := of_ev n hn l hg m hm
 rw [if_pos hb] at h
 have hcl : (coresF (netF n l) m).length = n := by simp [coresF, netF_len]
 obtain ⟨r, h1, g, h2, h3⟩ := g0_ev (core := coresF (netF n l) m) hg.2.1 hb hn hg.2.2 (fun r => ∃ g, Lab l (fun z => rdOf false (coresF (netF n l) m) z = true) n g ∧ r = (outOf l (coresF (netF n l) m) n g, (cntOf (outOf l (coresF (netF n l) m) n g) : Int)))
  (fun out roots hM => ⟨_, grp_l3 hg.2.1 hb hn hg.2.2 hcl hM, rd out, mid_lab hg.2.1 hM hb, by rw [cnt_roots hg.2.1 hb hM]⟩) n 0 (List.replicate n (-1)) [] (by omega) mid_start (Nat.le_refl _)
 refine ⟨g, h2, ?_⟩
 rw [← h3]
 refine Ev.bind h ?_
 refine Ev.congr (fun k => if_pos rfl) ?_
 refine Ev.bind (cores_ev (netF n l) (by rw [netF_len]; exact hn) m) ?_
 refine Ev.congr (fun k => if_pos ⟨by rw [hcl, netF_len], by rw [netF_len]; omega, by rw [netF_len]⟩) ?_
 show Ev (fun k => dense_Groups.l0 k (coresF (netF n l) m) (netF n l) (List.replicate (netF n l).length (-1)) 0 0) r
 rw [netF_len]
 exact h1
def sm (out : List Int) : Nat := (out.map Int.toNat).sum
theorem sm_set : ∀ (out : List Int) (i : Nat) (x : Int) (h : i < out.length), sm (out.set i x) + (out[i]).toNat = sm out + x.toNat
 | y :: out, 0, x, _ => by
  unfold sm
  rw [List.set_cons_zero, List.map_cons, List.map_cons, List.sum_cons, List.sum_cons, List.getElem_cons_zero]; omega
 | y :: out, i + 1, x, h => by
  have := sm_set out i x (by simpa using h)
  unfold sm at this ⊢
  rw [List.set_cons_succ, List.map_cons, List.map_cons, List.sum_cons, List.sum_cons, List.getElem_cons_succ]; omega
structure Lb (l : List Pr) (n : Nat) (out : List Int) : Prop where
 len : out.length = n
 le : ∀ u : Int, 0 ≤ u → u < (n : Int) → 0 ≤ rd out u ∧ rd out u ≤ u
 cn : ∀ f : Int → Int, (∀ p ∈ l, f p.f0 = f p.f1) → ∀ u : Int, 0 ≤ u → u < (n : Int) → f (rd out u) = f u
theorem lb_step {l : List Pr} {n : Nat} {out : List Int} (h : Lb l n out) (p : Pr) (hp : p ∈ l) (hk : Ok p) (hb : p.f1 < (n : Int)) (hne : rd out p.f0 ≠ rd out p.f1) :
  Lb l n ((out.set p.f0.toNat (mn (rd out p.f0) (rd out p.f1))).set p.f1.toNat (mn (rd out p.f0) (rd out p.f1))) ∧ sm ((out.set p.f0.toNat (mn (rd out p.f0) (rd out p.f1))).set p.f1.toNat (mn (rd out p.f0) (rd out p.f1))) < sm out := by
 obtain ⟨a0, ab, _⟩ := hk
 have hlen := h.len
 obtain ⟨A0, A1⟩ := h.le p.f0 a0 (by omega)
 obtain ⟨B0, B1⟩ := h.le p.f1 (by omega) hb
 obtain ⟨m, hm⟩ : ∃ m, mn (rd out p.f0) (rd out p.f1) = m := ⟨_, rfl⟩
 rw [hm]
 have hmv : (m = rd out p.f0 ∧ m < rd out p.f1) ∨ (m = rd out p.f1 ∧ m < rd out p.f0) := by
  unfold mn at hm
  split at hm <;> omega
 have R : ∀ u : Int, 0 ≤ u → rd ((out.set p.f0.toNat m).set p.f1.toNat m) u = if u = p.f1 then m else if u = p.f0 then m else rd out u := fun u hu => by
  rw [rd_set _ _ _ _ (by omega) (by rw [List.length_set]; omega) hu, rd_set _ _ _ _ a0 (by omega) hu]
 refine ⟨⟨by rw [List.length_set, List.length_set]; exact hlen, fun u h0 h1 => ?_, fun f hf u h0 h1 => ?_⟩, ?_⟩
 ·rw [R u h0]
  split
  ·next e => rw [e]; omega
  ·split
   ·next e => rw [e]; omega
   ·exact h.le u h0 h1
 ·rw [R u h0]
  have e0 := h.cn f hf p.f0 a0 (by omega)
  have e1 := h.cn f hf p.f1 (by omega) hb
  have e2 := hf p hp
  have em : f m = f p.f0 := by
   rcases hmv with ⟨q, _⟩ | ⟨q, _⟩
   ·rw [q, e0]
   ·rw [q, e1, e2]
  split
  ·next e => rw [em, e, e2]
  ·split
   ·next e => rw [em, e]
   ·exact h.cn f hf u h0 h1
 ·obtain ⟨a, ea⟩ := Int.eq_ofNat_of_zero_le a0
  obtain ⟨b, eb⟩ := Int.eq_ofNat_of_zero_le (show 0 ≤ p.f1 by omega)
  rw [ea] at ab hmv A0 A1
  rw [eb] at ab hmv B0 B1 hb
  rw [ea, eb, Int.toNat_natCast, Int.toNat_natCast]
  have s1 := sm_set out a m (by omega)
  have s2 := sm_set (out.set a m) b m (by rw [List.length_set]; omega)
  rw [List.getElem_set_ne (by omega)] at s2
  rw [rdI out a (by omega), rdI out b (by omega)] at hmv
  rw [rdI out a (by omega)] at A0
  rw [rdI out b (by omega)] at B0
  omega
def cntTo (out : List Int) (i : Nat) : Nat := (List.range i).countP fun (t : Nat) => decide (rd out (t : Int) = (t : Int))
theorem cntTo_succ (out : List Int) (i : Nat) : cntTo out (i + 1) = cntTo out i + if rd out (i : Int) = (i : Int) then 1 else 0 := by
 unfold cntTo
 rw [List.range_succ, List.countP_append, List.countP_singleton]
 congr 1
 by_cases c : rd out (i : Int) = (i : Int)
 ·rw [if_pos (decide_eq_true c), if_pos c]
 ·rw [if_neg (by simpa using c), if_neg c]
theorem cntTo_le (out : List Int) (i : Nat) : cntTo out i ≤ i := by
 have := List.countP_le_length (p := fun (t : Nat) => decide (rd out (t : Int) = (t : Int))) (l := List.range i)
 rw [List.length_range] at this
 exact this
theorem ref37_cnt (out : List Int) (n : Nat) (hn : n ≤ 1000) (hl : out.length = n) : Ev (fun k => chainmanref37_Groups.l4 k (n : Int) out 0 0) (out, (cntOf out : Int)) := by
 have loop : ∀ d i : Nat, i + d = n → Ev (fun k => chainmanref37_Groups.l4 k (n : Int) out (cntTo out i : Int) (i : Int)) (out, (cntOf out : Int)) := by
  intro d
  induction d with
  | zero =>
   intro i hi
   obtain rfl : i = n := by omega
   have e : cntTo out i = cntOf out := by unfold cntTo cntOf; rw [hl]
   rw [e]
   exact Ev.step (f := fun _ => some _) (fun k => by rw [chainmanref37_Groups.l4, if_neg (by omega)]) (Ev.now _)
  | succ d ih =>
   intro i hi
   have hc := cntTo_le out i
   refine Ev.step (fun k => ?_) (ih (i + 1) (by omega))
   rw [chainmanref37_Groups.l4, if_pos (by omega), if_pos (by omega), if_pos (by omega), cntTo_succ]
   by_cases c : rd out (i : Int) = (i : Int)
   ·rw [if_pos c, if_pos c, nsucc i (by omega), nsucc _ (by omega)]
   ·rw [if_neg c, if_neg c, nsucc i (by omega)]; rfl
 exact loop n 0 (by omega)
section
variable {l : List Pr} {n : Nat} (ho : ∀ p ∈ l, Ok p) (hb : ∀ p ∈ l, p.f1 < (n : Int)) (hn : n ≤ 1000) (hl : l.length ≤ 1000)
include ho hb hn hl
omit hn in
theorem ref37_pass (Q : List Int × Int → Prop) (φ : Nat) (IH : ∀ out, Lb l n out → sm out ≤ φ → ∃ r, Ev (fun k => chainmanref37_Groups.l2 k l (n : Int) out true) r ∧ Q r)
  (FN : ∀ out, Lb l n out → (∀ p ∈ l, rd out p.f0 = rd out p.f1) → ∃ r, Ev (fun k => chainmanref37_Groups.l2 k l (n : Int) out false) r ∧ Q r) :
  ∀ d i (out : List Int) (b : Bool), i + d = l.length → Lb l n out → (b = true → sm out ≤ φ) → (b = false → sm out ≤ φ + 1 ∧ ∀ p ∈ l.take i, rd out p.f0 = rd out p.f1) → ∃ r, Ev (fun k => chainmanref37_Groups.l3 k l (n : Int) out b (i : Int)) r ∧ Q r := by
 intro d
 induction d with
 | zero =>
  intro i out b hi h h1 h2
  have e : ∀ k, chainmanref37_Groups.l3 (k + 1) l (n : Int) out b (i : Int) = chainmanref37_Groups.l2 k l (n : Int) out b := fun k => by rw [chainmanref37_Groups.l3, if_neg (by omega)]
  cases b with
  | true =>
   obtain ⟨r, q1, q2⟩ := IH out h (h1 rfl)
   exact ⟨r, Ev.step e q1, q2⟩
  | false =>
   have h3 := (h2 rfl).2
   rw [List.take_of_length_le (by omega)] at h3
   obtain ⟨r, q1, q2⟩ := FN out h h3
   exact ⟨r, Ev.step e q1, q2⟩
 | succ d ih =>
  intro i out b hi h h1 h2
  have hlt : i < l.length := by omega
  have hm := List.getElem_mem hlt
  have hk := ho _ hm
  have hbm := hb _ hm
  have hlen := h.len
  obtain ⟨a0, ab, _⟩ := hk
  have st : ∀ k, chainmanref37_Groups.l3 (k + 1) l (n : Int) out b (i : Int) = if rd out l[i].f0 = rd out l[i].f1 then chainmanref37_Groups.l3 k l (n : Int) out b ((i + 1 : Nat) : Int) else chainmanref37_Groups.l3 k l (n : Int) ((out.set l[i].f0.toNat (mn (rd out l[i].f0) (rd out l[i].f1))).set l[i].f1.toNat (mn (rd out l[i].f0) (rd out l[i].f1))) true ((i + 1 : Nat) : Int) := fun k => by
   rw [chainmanref37_Groups.l3, if_pos (by omega), if_pos (by omega), rdP l i hlt, if_pos a0, if_pos (by omega), if_pos (by omega), if_pos (by omega), nsucc i (by omega)]
  by_cases c : rd out l[i].f0 = rd out l[i].f1
  ·obtain ⟨r, q1, q2⟩ := ih (i + 1) out b (by omega) h h1 (fun e => ⟨(h2 e).1, fun p hp => by
    rw [List.take_succ_eq_append_getElem hlt] at hp
    rcases List.mem_append.mp hp with q | q
    ·exact (h2 e).2 p q
    ·rw [List.mem_singleton.mp q]; exact c⟩)
   exact ⟨r, Ev.step (fun k => by rw [st, if_pos c]) q1, q2⟩
  ·obtain ⟨s1, s2⟩ := lb_step h l[i] hm (ho _ hm) hbm c
   obtain ⟨r, q1, q2⟩ := ih (i + 1) _ true (by omega) s1 (fun _ => by
    cases b with
    | true => have := h1 rfl; omega
    | false => have := (h2 rfl).1; omega) (fun e => by cases e)
   exact ⟨r, Ev.step (fun k => by rw [st, if_neg c]) q1, q2⟩
omit hn in
theorem ref37_all (Q : List Int × Int → Prop) (FN : ∀ out, Lb l n out → (∀ p ∈ l, rd out p.f0 = rd out p.f1) → ∃ r, Ev (fun k => chainmanref37_Groups.l2 k l (n : Int) out false) r ∧ Q r) :
  ∀ φ out, Lb l n out → sm out ≤ φ → ∃ r, Ev (fun k => chainmanref37_Groups.l2 k l (n : Int) out true) r ∧ Q r := by
 intro φ
 induction φ with
 | zero =>
  intro out h hs
  have hz : ∀ p ∈ l, rd out p.f0 = rd out p.f1 := fun p hp => Decidable.byContradiction fun hc => by
   have := (lb_step h p hp (ho p hp) (hb p hp) hc).2
   omega
  obtain ⟨r, q1, q2⟩ := FN out h hz
  refine ⟨r, Ev.step (fun k => by rw [chainmanref37_Groups.l2, if_pos rfl]) ?_, q2⟩
  have loop : ∀ d i : Nat, i + d = l.length → Ev (fun k => chainmanref37_Groups.l3 k l (n : Int) out false (i : Int)) r := by
   intro d
   induction d with
   | zero => intro i hi; exact Ev.step (fun k => by rw [chainmanref37_Groups.l3, if_neg (by omega)]) q1
   | succ d ih =>
    intro i hi
    have hlt : i < l.length := by omega
    have hm := List.getElem_mem hlt
    obtain ⟨a0, ab, _⟩ := ho _ hm
    have hbm := hb _ hm
    have hlen := h.len
    refine Ev.step (fun k => ?_) (ih (i + 1) (by omega))
    rw [chainmanref37_Groups.l3, if_pos (by omega), if_pos (by omega), rdP l i hlt, if_pos a0, if_pos (by omega), if_pos (by omega), if_pos (by omega), if_pos (hz _ hm), nsucc i (by omega)]
  exact loop l.length 0 (by omega)
 | succ φ ih =>
  intro out h hs
  obtain ⟨r, q1, q2⟩ := ref37_pass ho hb hl Q φ ih FN l.length 0 out false (by omega) h (fun e => by cases e) (fun _ => ⟨hs, by simp⟩)
  exact ⟨r, Ev.step (fun k => by rw [chainmanref37_Groups.l2, if_pos rfl]; rfl) q1, q2⟩
end
def idN (i : Nat) : List Int := (List.range i).map fun (t : Nat) => (t : Int)
theorem idN_len (i : Nat) : (idN i).length = i := by simp [idN]
theorem idN_succ (i : Nat) : idN (i + 1) = idN i ++ [(i : Int)] := by unfold idN; rw [List.range_succ, List.map_append]; rfl
theorem idN_at (n t : Nat) (h : t < n) : rd (idN n) (t : Int) = (t : Int) := by
 rw [rdI _ t (by rw [idN_len]; exact h)]
 unfold idN
 rw [List.getElem_map, List.getElem_range]
theorem lb_start (l : List Pr) (n : Nat) : Lb l n (idN n) := by
 refine ⟨idN_len n, fun u h0 h1 => ?_, fun f hf u h0 h1 => ?_⟩
 ·obtain ⟨t, rfl⟩ := Int.eq_ofNat_of_zero_le h0
  rw [idN_at n t (by omega)]; omega
 ·obtain ⟨t, rfl⟩ := Int.eq_ofNat_of_zero_le h0
  rw [idN_at n t (by omega)]
theorem ref37_groups (n : Nat) (hn : n ≤ 1000) (l : List Pr) (hg : Good l) (hb : ∀ p ∈ l, p.f1 < (n : Int)) :
  ∃ out, out.length = n ∧ Lab l (fun _ => True) n (rd out) ∧ Ev (fun k => chainmanref37_Groups.f k l (n : Int)) (out, (cntOf out : Int)) := by
 obtain ⟨r, q1, out, w1, w2, rfl⟩ := ref37_all hg.2.1 hb hg.2.2 (fun r => ∃ out, out.length = n ∧ Lab l (fun _ => True) n (rd out) ∧ r = (out, (cntOf out : Int)))
  (fun out h he => ⟨_, Ev.step (fun k => by rw [chainmanref37_Groups.l2, if_neg (by decide)]) (ref37_cnt out n hn h.len), out, h.len, ⟨fun u h0 h1 _ => ⟨(h.le u h0 h1).1, (h.le u h0 h1).2, trivial⟩, fun p hp _ _ => he p hp, fun f hf u h0 h1 _ => h.cn f (fun p hp => hf p hp trivial trivial) u h0 h1⟩, rfl⟩) (sm (idN n)) (idN n) (lb_start l n) (Nat.le_refl _)
 refine ⟨out, w1, w2, ?_⟩
 have h1 : ∀ d i : Nat, i + d = l.length → Ev (fun k => chainmanref37_Groups.l1 k l (n : Int) (idN n) (i : Int)) (out, (cntOf out : Int)) := by
  intro d
  induction d with
  | zero => intro i hi; exact Ev.step (fun k => by rw [chainmanref37_Groups.l1, if_neg (by omega)]) q1
  | succ d ih =>
   intro i hi
   have hlt : i < l.length := by omega
   have hbm := hb _ (List.getElem_mem hlt)
   have hl := hg.2.2
   refine Ev.step (fun k => ?_) (ih (i + 1) (by omega))
   rw [chainmanref37_Groups.l1, if_pos (by omega), if_pos (by omega), rdP l i hlt, if_neg (by omega), nsucc i (by omega)]
 have h0 : ∀ d i : Nat, i + d = n → Ev (fun k => chainmanref37_Groups.l0 k l (n : Int) (idN i) (i : Int)) (out, (cntOf out : Int)) := by
  intro d
  induction d with
  | zero =>
   intro i hi
   obtain rfl : i = n := by omega
   exact Ev.step (fun k => by rw [chainmanref37_Groups.l0, if_neg (by omega)]; rfl) (h1 l.length 0 (by omega))
  | succ d ih =>
   intro i hi
   refine Ev.step (fun k => ?_) (ih (i + 1) (by omega))
   rw [chainmanref37_Groups.l0, if_pos (by omega), if_pos (by rw [idN_len]; omega), nsucc i (by omega), idN_succ]
 refine Ev.congr (fun k => by unfold chainmanref37_Groups.f; rw [if_neg (by omega), if_neg (by omega)]) (Ev.bind (refclean_t l hg) ?_)
 exact Ev.step (fun k => by rw [chainmanref37_Groups.j0, if_neg (by decide)]; rfl) (h0 n 0 (by omega))
/-- They may be. -/
def May (l : List Pr) (n m : Int) : Prop := Good l ∧ (∀ p ∈ l, p.f1 < n) ∧ 0 ≤ n ∧ n ≤ 1048576 ∧ 0 ≤ m
theorem refmay (l : List Pr) (hl : l.length ≤ 1000) (n m : Int) : ∃ b, Ev (fun k => chainmanref48_may.f k l n m) b ∧ (b = true ↔ May l n m) := by
 have loop : ∀ d i : Nat, i + d = l.length → (∀ p ∈ l.take i, p.f1 < n) → ∃ b, Ev (fun k => chainmanref48_may.l0 k l n m (i : Int)) b ∧ (b = true ↔ May l n m) := by
  intro d
  induction d with
  | zero =>
   intro i hi hp
   rw [List.take_of_length_le (by omega)] at hp
   obtain ⟨b, h1, h2⟩ := ref_iff l hl
   have st : ∀ k, chainmanref48_may.l0 (k + 1) l n m (i : Int) = _ := fun k => by rw [chainmanref48_may.l0, if_neg (by omega)]
   cases b with
   | false => exact ⟨false, Ev.step st (Ev.bind h1 (Ev.congr (f := fun _ => some false) (fun k => if_neg (by decide)) (Ev.now _))), fun h => (by cases h), fun h => h2.mpr h.1⟩
   | true =>
    have hg := h2.mp rfl
    by_cases c1 : n ≥ 0
    ·by_cases c2 : n ≤ 1048576
     ·exact ⟨decide (m ≥ 0), Ev.step st (Ev.bind h1 (Ev.congr (f := fun _ => some (decide (m ≥ 0))) (fun k => by rw [if_pos rfl, if_pos c1, if_pos c2]) (Ev.now _))), fun h => ⟨hg, hp, c1, c2, of_decide_eq_true h⟩, fun h => decide_eq_true h.2.2.2.2⟩
     ·exact ⟨false, Ev.step st (Ev.bind h1 (Ev.congr (f := fun _ => some false) (fun k => by rw [if_pos rfl, if_pos c1, if_neg c2]) (Ev.now _))), fun h => (by cases h), fun h => absurd h.2.2.2.1 c2⟩
    ·exact ⟨false, Ev.step st (Ev.bind h1 (Ev.congr (f := fun _ => some false) (fun k => by rw [if_pos rfl, if_neg c1]) (Ev.now _))), fun h => (by cases h), fun h => absurd h.2.2.1 c1⟩
  | succ d ih =>
   intro i hi hp
   have hlt : i < l.length := by omega
   by_cases c : l[i].f1 ≥ n
   ·refine ⟨false, Ev.step (f := fun _ => some false) (fun k => by rw [chainmanref48_may.l0, if_pos (by omega), if_pos (by omega), rdP l i hlt, if_pos c]) (Ev.now _), fun h => (by cases h), fun h => ?_⟩
    have := h.2.1 _ (List.getElem_mem hlt)
    omega
   ·obtain ⟨b, h1, h2⟩ := ih (i + 1) (by omega) (fun p hpm => by
     rw [List.take_succ_eq_append_getElem hlt] at hpm
     rcases List.mem_append.mp hpm with q | q
     ·exact hp p q
     ·rw [List.mem_singleton.mp q]; omega)
    exact ⟨b, Ev.step (fun k => by rw [chainmanref48_may.l0, if_pos (by omega), if_pos (by omega), rdP l i hlt, if_neg c, nsucc i (by omega)]) h1, h2⟩
 exact loop l.length 0 (by omega) (by simp)
theorem refmay_t {l : List Pr} {n m : Int} (h : May l n m) : Ev (fun k => chainmanref48_may.f k l n m) true := by
 obtain ⟨b, h1, h2⟩ := refmay l h.1.2.2 n m
 rw [h2.mpr h] at h1; exact h1
theorem refmay_f {l : List Pr} (hl : l.length ≤ 1000) {n m : Int} (h : ¬ May l n m) : Ev (fun k => chainmanref48_may.f k l n m) false := by
 obtain ⟨b, h1, h2⟩ := refmay l hl n m
 cases b with
 | false => exact h1
 | true => exact absurd (h2.mp rfl) h
def degF (l : List Pr) (n : Nat) : List Int := (List.range n).map fun (t : Nat) => ((adj l (t : Int)).length : Int)
theorem degF_len (l : List Pr) (n : Nat) : (degF l n).length = n := by simp [degF]
theorem degF_at (l : List Pr) (n t : Nat) (h : t < n) : rd (degF l n) (t : Int) = ((adj l (t : Int)).length : Int) := by
 rw [rdI _ t (by rw [degF_len]; exact h)]
 unfold degF
 rw [List.getElem_map, List.getElem_range]
theorem ext_rd {a b : List Int} (h : a.length = b.length) (h2 : ∀ t : Nat, t < a.length → rd a (t : Int) = rd b (t : Int)) : a = b := by
 refine List.ext_getElem h (fun i h1 h3 => ?_)
 rw [← rdI a i h1, ← rdI b i h3]; exact h2 i h1
theorem deg_step (l : List Pr) (n : Nat) (hl : l.length ≤ 1000) (p : Pr) (hk : Ok p) (hb : p.f1 < (n : Int)) :
  ((degF l n).set p.f0.toNat (wrap64 (rd (degF l n) p.f0 + 1))).set p.f1.toNat (wrap64 (rd ((degF l n).set p.f0.toNat (wrap64 (rd (degF l n) p.f0 + 1))) p.f1 + 1)) = degF (l ++ [p]) n := by
 obtain ⟨a0, ab, _⟩ := hk
 obtain ⟨a, ea⟩ := Int.eq_ofNat_of_zero_le a0
 obtain ⟨b, eb⟩ := Int.eq_ofNat_of_zero_le (show 0 ≤ p.f1 by omega)
 have hal := fun t => adj_len l t
 rw [rd_set _ _ _ _ a0 (by rw [degF_len]; omega) (by omega), if_neg (by omega)]
 refine ext_rd (by simp [degF_len]) (fun t ht => ?_)
 have ht' : t < n := by simpa [degF_len] using ht
 rw [rd_set _ _ _ _ (by omega) (by rw [List.length_set, degF_len]; omega) (by omega), rd_set _ _ _ _ a0 (by rw [degF_len]; omega) (by omega), degF_at (l ++ [p]) n t ht', adj_snoc, List.length_append]
 have d0 := degF_at l n a (by omega)
 have d1 := degF_at l n b (by omega)
 rw [← ea] at d0
 rw [← eb] at d1
 rw [d0, d1, nsucc _ (by have := hal p.f0; have := hal p.f1; omega), nsucc _ (by have := hal p.f0; have := hal p.f1; omega)]
 unfold ends
 by_cases c1 : (t : Int) = p.f1
 ·rw [if_pos c1, if_neg (by omega), if_pos (by omega), c1]; rfl
 ·rw [if_neg c1]
  by_cases c0 : (t : Int) = p.f0
  ·rw [if_pos c0, if_pos (by omega), c0]; rfl
  ·rw [if_neg c0, if_neg (by omega), if_neg (by omega)]
   rw [degF_at l n t ht']; rfl
theorem refdeg (n : Nat) (l : List Pr) (h : May l (n : Int) 0) : Ev (fun k => chainmanref48_Degrees.f k l (n : Int)) (degF l n) := by
 obtain ⟨hg, hb, h0, h1, _⟩ := h
 have loop : ∀ d i : Nat, i + d = l.length → Ev (fun k => chainmanref48_Degrees.l0 k l (degF (l.take i) n) (i : Int)) (degF l n) := by
  intro d
  induction d with
  | zero =>
   intro i hi
   obtain rfl : i = l.length := by omega
   rw [List.take_length]
   exact Ev.step (f := fun _ => some _) (fun k => by rw [chainmanref48_Degrees.l0, if_neg (by omega)]) (Ev.now _)
  | succ d ih =>
   intro i hi
   have hlt : i < l.length := by omega
   have hk := hg.2.1 _ (List.getElem_mem hlt)
   have hbm := hb _ (List.getElem_mem hlt)
   have hl := hg.2.2
   have hst := deg_step (l.take i) n (by rw [List.length_take]; omega) l[i] hk hbm
   have hr := ih (i + 1) (by omega)
   rw [List.take_succ_eq_append_getElem hlt, ← hst] at hr
   obtain ⟨a0, ab, _⟩ := hk
   refine Ev.step (fun k => ?_) hr
   rw [chainmanref48_Degrees.l0, if_pos (by omega), if_pos (by omega), rdP l i hlt, if_pos a0, if_pos (by rw [degF_len]; omega), Option.bind_some, if_pos (by omega), if_pos (by rw [degF_len]; omega), nsucc i (by omega)]
 refine Ev.bind (refmay_t ⟨hg, hb, h0, h1, by omega⟩) ?_
 refine Ev.congr (fun k => by rw [if_pos rfl, if_pos h0, if_pos (by omega), Int.toNat_natCast]) ?_
 have e : (List.replicate n (0 : Int)) = degF (l.take 0) n := by
  refine List.ext_getElem (by simp [degF_len]) (fun i h1 h2 => ?_)
  simp [degF, adj]
 rw [e]
 exact loop l.length 0 (by omega)
theorem coresF_at (n : Nat) (l : List Pr) (m : Int) (i : Nat) (h : i < (coresF (netF n l) m).length) : (coresF (netF n l) m)[i] = decide (((adj l (i : Int)).length : Int) ≥ m) := by
 simp [coresF, netF]
theorem refcores (n : Nat) (hn : n ≤ 1000) (l : List Pr) (m : Int) (h : May l (n : Int) m) : Ev (fun k => chainmanref48_Cores.f k l (n : Int) m) (coresF (netF n l) m) := by
 have hmay := h
 obtain ⟨hg, hb, h0, h1, hm⟩ := h
 have loop : ∀ d i : Nat, i + d = n → Ev (fun k => chainmanref48_Cores.l0 k (n : Int) m (degF l n) ((coresF (netF n l) m).take i) (i : Int)) (coresF (netF n l) m) := by
  have hcl : (coresF (netF n l) m).length = n := by simp [coresF, netF_len]
  intro d
  induction d with
  | zero =>
   intro i hi
   rw [List.take_of_length_le (by omega)]
   exact Ev.step (f := fun _ => some _) (fun k => by rw [chainmanref48_Cores.l0, if_neg (by omega)]) (Ev.now _)
  | succ d ih =>
   intro i hi
   have hlt : i < (coresF (netF n l) m).length := by omega
   refine Ev.step (fun k => ?_) (ih (i + 1) (by omega))
   have e := coresF_at n l m i hlt
   rw [chainmanref48_Cores.l0, if_pos (by omega), if_pos (by omega), if_pos (by rw [degF_len]; omega), if_pos (by rw [List.length_take]; omega), degF_at l n i (by omega), nsucc i (by omega), List.take_succ_eq_append_getElem hlt, e]
 refine Ev.bind (refmay_t hmay) ?_
 refine Ev.congr (fun k => if_pos rfl) ?_
 refine Ev.bind (refdeg n l ⟨hg, hb, h0, h1, Int.le_refl _⟩) ?_
 exact loop n 0 (by omega)
/-- Pairs of two cores. -/
def bothF (l : List Pr) (core : List Bool) : List Pr := l.filter fun p => rdOf false core p.f0 && rdOf false core p.f1
theorem mem_both {l : List Pr} {core : List Bool} {p : Pr} : p ∈ bothF l core ↔ p ∈ l ∧ rdOf false core p.f0 = true ∧ rdOf false core p.f1 = true := by
 unfold bothF
 rw [List.mem_filter, Bool.and_eq_true]
theorem good_both {l : List Pr} (hg : Good l) (core : List Bool) : Good (bothF l core) :=
 ⟨hg.1.sublist List.filter_sublist, fun p hp => hg.2.1 p (mem_both.mp hp).1, Nat.le_trans (List.length_filter_le _ _) hg.2.2⟩
theorem lab_both {l : List Pr} {core : List Bool} {n : Nat} {g : Int → Int} (h : Lab (bothF l core) (fun _ => True) n g) : Lab l (fun z => rdOf false core z = true) n g := by
 refine ⟨fun u h0 h1 hc => ?_, fun p hp ha hb => h.ed p (mem_both.mpr ⟨hp, ha, hb⟩) trivial trivial, fun f hf u h0 h1 hc => h.cn f (fun p hp _ _ => hf p (mem_both.mp hp).1 (mem_both.mp hp).2.1 (mem_both.mp hp).2.2) u h0 h1 trivial⟩
 obtain ⟨a, b, _⟩ := h.le u h0 h1 trivial
 refine ⟨a, b, ?_⟩
 have e := h.cn (fun z => if rdOf false core z = true then 1 else 0) (fun p hp _ _ => by
  obtain ⟨_, q1, q2⟩ := mem_both.mp hp
  show (if _ then (1 : Int) else 0) = if _ then 1 else 0
  rw [if_pos q1, if_pos q2]) u h0 h1 trivial
 have e : (if rdOf false core (g u) = true then (1 : Int) else 0) = if rdOf false core u = true then 1 else 0 := e
 rw [if_pos hc] at e
 exact Decidable.byContradiction fun hn => by rw [if_neg hn] at e; omega
section
variable {l : List Pr} {core : List Bool} {n : Nat} (hg : Good l) (hb : ∀ p ∈ l, p.f1 < (n : Int)) (hn : n ≤ 1000) (hc : core.length = n) (gl : List Int) (hgl : gl.length = n)
include hg hb hn hc hgl
set_option linter.unusedSectionVars false in
theorem refg_l3 (out : List Int) (ho : out.length = n) : Ev (fun k => chainmanref48_Groups.l3 k (n : Int) out 0 0) (out, (cntOf out : Int)) := by
 have loop : ∀ d i : Nat, i + d = n → Ev (fun k => chainmanref48_Groups.l3 k (n : Int) out (cntTo out i : Int) (i : Int)) (out, (cntOf out : Int)) := by
  intro d
  induction d with
  | zero =>
   intro i hi
   obtain rfl : i = n := by omega
   have e : cntTo out i = cntOf out := by unfold cntTo cntOf; rw [ho]
   rw [e]
   exact Ev.step (f := fun _ => some _) (fun k => by rw [chainmanref48_Groups.l3, if_neg (by omega)]) (Ev.now _)
  | succ d ih =>
   intro i hi
   have hc := cntTo_le out i
   refine Ev.step (fun k => ?_) (ih (i + 1) (by omega))
   rw [chainmanref48_Groups.l3, if_pos (by omega), if_pos (by omega), if_pos (by omega), cntTo_succ]
   by_cases c : rd out (i : Int) = (i : Int)
   ·rw [if_pos c, if_pos c, nsucc i (by omega), nsucc _ (by omega)]
   ·rw [if_neg c, if_neg c, nsucc i (by omega)]; rfl
 exact loop n 0 (by omega)
theorem refg_l2 (i : Nat) (hi : i < n) (hci : rdOf false core (i : Int) ≠ true) (acc : List Int) (hacc : acc.length ≤ 1000) (r : List Int × Int)
  (H : Ev (fun k => chainmanref48_Groups.l1 k l (n : Int) core gl (acc ++ [lst core (rd gl) (adj l (i : Int))]) ((i + 1 : Nat) : Int)) r) :
  ∀ d j (x : Int), j + d = l.length → (adj (l.drop j) (i : Int)).foldl (lstep core (rd gl)) x = lst core (rd gl) (adj l (i : Int)) → Ev (fun k => chainmanref48_Groups.l2 k l (n : Int) core gl acc (i : Int) x (j : Int)) r := by
 intro d
 induction d with
 | zero =>
  intro j x hj hx
  obtain rfl : j = l.length := by omega
  rw [List.drop_length] at hx
  have hx : x = lst core (rd gl) (adj l (i : Int)) := hx
  rw [hx]
  refine Ev.step (fun k => by rw [chainmanref48_Groups.l2, if_neg (by omega)]) (Ev.step (fun k => ?_) H)
  rw [chainmanref48_Groups.j4, if_neg (by decide), if_pos (by omega), nsucc i (by omega)]
 | succ d ih =>
  intro j x hj hx
  have hlt : j < l.length := by omega
  have hl := hg.2.2
  obtain ⟨a0, ab, _⟩ := hg.2.1 _ (List.getElem_mem hlt)
  have hbm := hb _ (List.getElem_mem hlt)
  rw [List.drop_eq_getElem_cons hlt] at hx
  unfold adj at hx
  rw [List.flatMap_cons, List.foldl_append] at hx
  have h1 := ih (j + 1) _ (by omega) hx
  have cb : (!rdOf false core (i : Int)) = true := by
   cases e : rdOf false core (i : Int) with
   | true => exact absurd e hci
   | false => rfl
  refine Ev.step (fun k => by rw [chainmanref48_Groups.l2, if_pos (by omega), if_pos (by omega), if_pos (by omega), cb]) ?_
  have stepC : ∀ (o : Int) (ho : 0 ≤ o) (ho2 : o < (n : Int)) (k : Nat), (if o ≥ 0 then (if 0 ≤ o then (if o < (core.length : Int) then (if rdOf false core o = true then (if x < 0 then (if o < (gl.length : Int) then chainmanref48_Groups.l2 k l (n : Int) core gl acc (i : Int) (rd gl o) ((j + 1 : Nat) : Int) else none) else (if o < (gl.length : Int) then (if rd gl o < x then chainmanref48_Groups.l2 k l (n : Int) core gl acc (i : Int) (rd gl o) ((j + 1 : Nat) : Int) else chainmanref48_Groups.l2 k l (n : Int) core gl acc (i : Int) x ((j + 1 : Nat) : Int)) else none)) else chainmanref48_Groups.l2 k l (n : Int) core gl acc (i : Int) x ((j + 1 : Nat) : Int)) else none) else none) else chainmanref48_Groups.l2 k l (n : Int) core gl acc (i : Int) x ((j + 1 : Nat) : Int)) = chainmanref48_Groups.l2 k l (n : Int) core gl acc (i : Int) (lstep core (rd gl) x o) ((j + 1 : Nat) : Int) := fun o ho ho2 k => by
   rw [if_pos ho, if_pos ho, if_pos (by omega)]
   unfold lstep
   by_cases c1 : rdOf false core o = true
   ·by_cases c2 : x < 0
    ·rw [if_pos c1, if_pos c2, if_pos (by omega), if_pos ⟨c1, .inl c2⟩]
    ·by_cases c3 : rd gl o < x
     ·rw [if_pos c1, if_neg c2, if_pos (by omega), if_pos c3, if_pos ⟨c1, .inr c3⟩]
     ·rw [if_pos c1, if_neg c2, if_pos (by omega), if_neg c3, if_neg (fun h => h.2.elim c2 c3)]
   ·rw [if_neg c1, if_neg (fun h => c1 h.1)]
  by_cases e0 : l[j].f0 = (i : Int)
  ·have hends : ends (i : Int) l[j] = [l[j].f1] := by unfold ends; rw [if_pos e0]
   rw [hends] at h1
   refine Ev.step (fun k => by rw [chainmanref48_Groups.j4, if_pos rfl, if_pos (by omega), if_pos (by omega), rdP l j hlt, if_pos e0]) (Ev.step (fun k => ?_) h1)
   rw [chainmanref48_Groups.j5, if_pos (by omega), if_pos (by omega), rdP l j hlt, if_neg (by omega), nsucc j (by omega)]
   exact stepC l[j].f1 (by omega) hbm k
  ·refine Ev.step (fun k => by rw [chainmanref48_Groups.j4, if_pos rfl, if_pos (by omega), if_pos (by omega), rdP l j hlt, if_neg e0]) ?_
   by_cases e1 : l[j].f1 = (i : Int)
   ·have hends : ends (i : Int) l[j] = [l[j].f0] := by unfold ends; rw [if_neg e0, if_pos e1]
    rw [hends] at h1
    refine Ev.step (fun k => ?_) h1
    rw [chainmanref48_Groups.j5, if_pos (by omega), if_pos (by omega), rdP l j hlt, if_pos e1, nsucc j (by omega)]
    exact stepC l[j].f0 a0 (by omega) k
   ·have hends : ends (i : Int) l[j] = [] := by unfold ends; rw [if_neg e0, if_neg e1]
    rw [hends] at h1
    refine Ev.step (fun k => ?_) h1
    rw [chainmanref48_Groups.j5, if_pos (by omega), if_pos (by omega), rdP l j hlt, if_neg e1, nsucc j (by omega), if_neg (by omega)]; rfl
theorem refg_l1 : ∀ d i : Nat, i + d = n → Ev (fun k => chainmanref48_Groups.l1 k l (n : Int) core gl ((outOf l core n (rd gl)).take i) (i : Int)) (outOf l core n (rd gl), (cntOf (outOf l core n (rd gl)) : Int)) := by
 have hol := outOf_len l core n (rd gl)
 intro d
 induction d with
 | zero =>
  intro i hi
  rw [List.take_of_length_le (by omega)]
  exact Ev.step (fun k => by rw [chainmanref48_Groups.l1, if_neg (by omega)]) (refg_l3 hg hb hn hc gl hgl _ hol)
 | succ d ih =>
  intro i hi
  have hin : i < n := by omega
  have hr := ih (i + 1) (by omega)
  have hv := outOf_at l core n (rd gl) i hin
  rw [rdI _ i (by omega)] at hv
  rw [List.take_succ_eq_append_getElem (by omega), hv] at hr
  by_cases c : rdOf false core (i : Int) = true
  ·rw [if_pos c] at hr
   refine Ev.step (fun k => by rw [chainmanref48_Groups.l1, if_pos (by omega), if_pos (by omega), if_pos (by omega), if_pos c, if_pos (by omega)]) (Ev.step (fun k => by rw [chainmanref48_Groups.j2]) ?_)
   have j4 : Ev (fun k => chainmanref48_Groups.j4 k l (n : Int) core gl ((outOf l core n (rd gl)).take i) (i : Int) (rd gl (i : Int)) 0 false) (outOf l core n (rd gl), (cntOf (outOf l core n (rd gl)) : Int)) :=
    Ev.step (fun k => by rw [chainmanref48_Groups.j4, if_neg (by decide), if_pos (by rw [List.length_take]; omega), nsucc i (by omega)]) hr
   by_cases hl0 : 0 < l.length
   ·exact Ev.step (fun k => by rw [chainmanref48_Groups.l2, if_pos (by omega), if_pos (by omega), if_pos (by omega), c]; rfl) j4
   ·exact Ev.step (fun k => by rw [chainmanref48_Groups.l2, if_neg (by omega)]) j4
  ·rw [if_neg c] at hr
   refine Ev.step (fun k => by rw [chainmanref48_Groups.l1, if_pos (by omega), if_pos (by omega), if_pos (by omega), if_neg c]) (Ev.step (fun k => by rw [chainmanref48_Groups.j2]) ?_)
   exact refg_l2 hg hb hn hc gl hgl i hin c _ (by rw [List.length_take]; omega) _ hr l.length 0 (-1) (by omega) (by rw [List.drop_zero]; rfl)
end
theorem refg_l0 {l : List Pr} {core : List Bool} {n : Nat} (hg : Good l) (hb : ∀ p ∈ l, p.f1 < (n : Int)) (hn : n ≤ 1000) (hc : core.length = n) (gl : List Int) (hgl : gl.length = n)
  (H : Ev (fun k => chainmanref37_Groups.f k (bothF l core) (n : Int)) (gl, (cntOf gl : Int))) :
  Ev (fun k => chainmanref48_Groups.l0 k l (n : Int) core [] 0) (outOf l core n (rd gl), (cntOf (outOf l core n (rd gl)) : Int)) := by
 have loop : ∀ d i : Nat, i + d = l.length → Ev (fun k => chainmanref48_Groups.l0 k l (n : Int) core (bothF (l.take i) core) (i : Int)) (outOf l core n (rd gl), (cntOf (outOf l core n (rd gl)) : Int)) := by
  intro d
  induction d with
  | zero =>
   intro i hi
   obtain rfl : i = l.length := by omega
   rw [List.take_length]
   refine Ev.step (fun k => by rw [chainmanref48_Groups.l0, if_neg (by omega)]) (Ev.bind H ?_)
   exact refg_l1 hg hb hn hc gl hgl n 0 (by omega)
  | succ d ih =>
   intro i hi
   have hlt : i < l.length := by omega
   have hl := hg.2.2
   obtain ⟨a0, ab, _⟩ := hg.2.1 _ (List.getElem_mem hlt)
   have hbm := hb _ (List.getElem_mem hlt)
   have hr := ih (i + 1) (by omega)
   have hbl : (bothF (l.take i) core).length ≤ 1000 := Nat.le_trans (List.length_filter_le _ _) (by rw [List.length_take]; omega)
   rw [List.take_succ_eq_append_getElem hlt] at hr
   have e : bothF (l.take i ++ [l[i]]) core = bothF (l.take i) core ++ if rdOf false core l[i].f0 && rdOf false core l[i].f1 then [l[i]] else [] := by
    unfold bothF
    rw [List.filter_append]
    congr 1
    rw [List.filter_cons, List.filter_nil]
   rw [e] at hr
   refine Ev.step (fun k => ?_) hr
   rw [chainmanref48_Groups.l0, if_pos (by omega), if_pos (by omega), rdP l i hlt, if_pos a0, if_pos (by omega)]
   by_cases c0 : rdOf false core l[i].f0 = true
   ·rw [if_pos c0, if_pos (by omega), if_pos (by omega)]
    by_cases c1 : rdOf false core l[i].f1 = true
    ·rw [if_pos c1, if_pos (by omega), nsucc i (by omega), if_pos (by rw [c0, c1]; rfl)]
    ·rw [if_neg c1, nsucc i (by omega), if_neg (by rw [Bool.and_eq_true]; exact fun h => c1 h.2), List.append_nil]
   ·rw [if_neg c0, nsucc i (by omega), if_neg (by rw [Bool.and_eq_true]; exact fun h => c0 h.1), List.append_nil]
 exact loop l.length 0 (by omega)
theorem refgroups (n : Nat) (hn : n ≤ 1000) (l : List Pr) (m : Int) (h : May l (n : Int) m) : ∃ g, Lab l (fun z => rdOf false (coresF (netF n l) m) z = true) n g ∧ Ev (fun k => chainmanref48_Groups.f k l (n : Int) m) (outOf l (coresF (netF n l) m) n g, (cntOf (outOf l (coresF (netF n l) m) n g) : Int)) := by
 have hcl : (coresF (netF n l) m).length = n := by simp [coresF, netF_len]
 obtain ⟨gl, h1, h2, h3⟩ := ref37_groups n hn (bothF l (coresF (netF n l) m)) (good_both h.1 _) (fun p hp => h.2.1 p (mem_both.mp hp).1)
 refine ⟨rd gl, lab_both h2, Ev.bind (refmay_t h) (Ev.congr (fun k => if_pos rfl) (Ev.bind (refcores n hn l m h) ?_))⟩
 exact refg_l0 h.1 h.2.1 hn hcl gl h1 h3
theorem of_any (l : List Pr) (hl : l.length ≤ 1000) (n m : Int) (hn : n ≤ 1000) : (∀ N : Nat, n = (N : Int) → May l n m → Ev (fun k => dense_of.f k l n m) (netF N l, true)) ∧ (¬ May l n m → Ev (fun k => dense_of.f k l n m) ([], false)) := by
 have no : Ev (fun k => dense_of.j0 k l n true) (([] : List (List Int)), false) := Ev.step (f := fun _ => some (([] : List (List Int)), false)) (fun k => by rw [dense_of.j0, if_pos rfl]) (Ev.now _)
 refine ⟨fun N e h => ?_, fun h => ?_⟩
 ·subst e
  have := of_ev N (by omega) l h.1 m h.2.2.2.2
  rw [if_pos h.2.1] at this; exact this
 ·by_cases c0 : n < 0
  ·exact Ev.congr (fun k => by unfold dense_of.f; rw [if_pos c0]) no
  by_cases c1 : m < 0
  ·exact Ev.congr (fun k => by unfold dense_of.f; rw [if_neg c0, if_neg (by omega), if_pos c1]) no
  obtain ⟨b, h1, h2⟩ := prog_iff l hl
  cases b with
  | false => exact Ev.congr (fun k => by unfold dense_of.f; rw [if_neg c0, if_neg (by omega), if_neg c1]) (Ev.bind h1 no)
  | true =>
   obtain ⟨N, rfl⟩ := Int.eq_ofNat_of_zero_le (show 0 ≤ n by omega)
   have := of_ev N (by omega) l (h2.mp rfl) m (by omega)
   rw [if_neg (fun hb => h ⟨h2.mp rfl, hb, by omega, by omega, by omega⟩)] at this
   exact this
theorem progdeg (n : Nat) (hn : n ≤ 1000) (l : List Pr) (h : May l (n : Int) 0) : Ev (fun k => dense_Degrees.f k l (n : Int)) (degF l n) := by
 refine Ev.bind ((of_any l h.1.2.2 _ _ (by omega)).1 n rfl h) ?_
 have loop : ∀ d i : Nat, i + d = n → Ev (fun k => dense_Degrees.l0 k ((degF l n).take i ++ List.replicate d 0) (netF n l) ((netF n l).length : Int) (i : Int)) (degF l n) := by
  intro d
  induction d with
  | zero =>
   intro i hi
   rw [List.take_of_length_le (by rw [degF_len]; omega), List.replicate_zero, List.append_nil]
   exact Ev.step (f := fun _ => some _) (fun k => by rw [dense_Degrees.l0, if_neg (by rw [netF_len]; omega)]) (Ev.now _)
  | succ d ih =>
   intro i hi
   have hdl := degF_len l n
   have htl : ((degF l n).take i).length = i := by rw [List.length_take]; omega
   refine Ev.step (fun k => ?_) (ih (i + 1) (by omega))
   rw [dense_Degrees.l0, if_pos (by rw [netF_len]; omega), if_pos (by omega), if_pos (by rw [netF_len]; omega), if_pos (by rw [List.length_append, htl, List.length_replicate]; omega), Int.toNat_natCast, nsucc i (by omega)]
   congr 1
   rw [List.set_append_right _ _ (by omega), htl, Nat.sub_self, List.replicate_succ, List.set_cons_zero, List.take_succ_eq_append_getElem (by omega), List.append_assoc]
   congr 2
   have := degF_at l n i (by omega)
   rw [rdI _ i (by omega)] at this
   rw [this, rdR, netF_at n l i (by omega)]
 refine Ev.congr (fun k => by rw [if_pos rfl, if_pos (by omega), if_pos (by omega), Int.toNat_natCast]) ?_
 have := loop n 0 (by omega)
 exact this
theorem progcores (n : Nat) (hn : n ≤ 1000) (l : List Pr) (m : Int) (h : May l (n : Int) m) : Ev (fun k => dense_Cores.f k l (n : Int) m) (coresF (netF n l) m) := by
 refine Ev.bind ((of_any l h.1.2.2 _ _ (by omega)).1 n rfl h) ?_
 refine Ev.congr (fun k => if_pos rfl) ?_
 exact Ev.bind (cores_ev (netF n l) (by rw [netF_len]; exact hn) m) (Ev.now _)
theorem both_deg (l : List Pr) (hl : l.length ≤ 1000) (n : Int) (hn : n ≤ 1000) : ∃ r : List Int, r.length ≤ 1000 ∧ Ev (fun k => dense_Degrees.f k l n) r ∧ Ev (fun k => chainmanref48_Degrees.f k l n) r := by
 by_cases h : May l n 0
 ·obtain ⟨N, rfl⟩ := Int.eq_ofNat_of_zero_le h.2.2.1
  exact ⟨degF l N, by rw [degF_len]; omega, progdeg N (by omega) l h, refdeg N l h⟩
 ·refine ⟨[], Nat.zero_le _, Ev.bind ((of_any l hl n 0 hn).2 h) (Ev.congr (f := fun _ => some []) (fun k => if_neg (by decide)) (Ev.now _)), Ev.bind (refmay_f hl h) (Ev.congr (f := fun _ => some []) (fun k => if_neg (by decide)) (Ev.now _))⟩
theorem both_cores (l : List Pr) (hl : l.length ≤ 1000) (n m : Int) (hn : n ≤ 1000) : ∃ r : List Bool, r.length ≤ 1000 ∧ Ev (fun k => dense_Cores.f k l n m) r ∧ Ev (fun k => chainmanref48_Cores.f k l n m) r := by
 by_cases h : May l n m
 ·obtain ⟨N, rfl⟩ := Int.eq_ofNat_of_zero_le h.2.2.1
  exact ⟨coresF (netF N l) m, by simp only [coresF, List.length_map, netF_len]; omega, progcores N (by omega) l m h, refcores N (by omega) l m h⟩
 ·refine ⟨[], Nat.zero_le _, Ev.bind ((of_any l hl n m hn).2 h) (Ev.congr (f := fun _ => some []) (fun k => if_neg (by decide)) (Ev.now _)), Ev.bind (refmay_f hl h) (Ev.congr (f := fun _ => some []) (fun k => if_neg (by decide)) (Ev.now _))⟩
theorem both_groups (l : List Pr) (hl : l.length ≤ 1000) (n m : Int) (hn : n ≤ 1000) : ∃ r : List Int × Int, r.1.length ≤ 1000 ∧ Ev (fun k => dense_Groups.f k l n m) r ∧ Ev (fun k => chainmanref48_Groups.f k l n m) r := by
 by_cases h : May l n m
 ·obtain ⟨N, rfl⟩ := Int.eq_ofNat_of_zero_le h.2.2.1
  obtain ⟨g, h1, h2⟩ := groups_lab N (by omega) l h.1 m h.2.2.2.2 h.2.1
  obtain ⟨g', h3, h4⟩ := refgroups N (by omega) l m h
  have e := outOf_congr h.1.2.1 h.2.1 (coresF (netF N l) m) (fun u h0 h1' hc => lab_uniq h3 h1 u h0 h1' hc)
  rw [e] at h4
  exact ⟨_, by rw [outOf_len]; omega, h2, h4⟩
 ·refine ⟨([], 0), Nat.zero_le _, Ev.bind ((of_any l hl n m hn).2 h) (Ev.congr (f := fun _ => some _) (fun k => if_neg (by decide)) (Ev.now _)), Ev.bind (refmay_f hl h) (Ev.congr (f := fun _ => some _) (fun k => if_neg (by decide)) (Ev.now _))⟩
theorem keys_nodup (g : List Int) : (dense_Sizes.keysOf g).Nodup := (List.mergeSort_perm _ _).nodup_iff.mpr (dense_Sizes.who_nodup g)
theorem keys_mem (g : List Int) (x : Int) : x ∈ dense_Sizes.keysOf g ↔ x ∈ g ∧ 0 ≤ x := ((List.mergeSort_perm _ _).mem_iff).trans (dense_Sizes.who_mem g x)
theorem keys_sorted (g : List Int) : (dense_Sizes.keysOf g).Pairwise (fun a b => a < b) := by
 have h1 : (dense_Sizes.keysOf g).Pairwise (fun a b => decide (a ≤ b) = true) := List.pairwise_mergeSort (le := fun x y => decide (x ≤ y)) (fun a b c h1 h2 => by
  have := of_decide_eq_true h1
  have := of_decide_eq_true h2
  exact decide_eq_true (by omega)) (fun a b => by
  by_cases h : a ≤ b
  ·simp [h]
  ·simp [h]; omega) _
 have h2 := keys_nodup g
 exact (h1.and h2).imp (fun h => by have := of_decide_eq_true h.1; have := h.2; omega)
abbrev cn (g : List Int) (x : Int) : Nat := dense_Sizes.cnt g g.length x
/-- The last one told of the keys. -/
def lastK (g : List Int) (j : Nat) : Int := if j = 0 then -1 else rd (dense_Sizes.keysOf g) ((j - 1 : Nat) : Int)
theorem lastK_lt (g : List Int) (j : Nat) (hj : j < (dense_Sizes.keysOf g).length) : ∀ x ∈ g, x > lastK g j ↔ 0 ≤ x ∧ ∃ i, ∃ h : i < (dense_Sizes.keysOf g).length, j ≤ i ∧ (dense_Sizes.keysOf g)[i] = x := by
 intro x hx
 have hs := List.pairwise_iff_getElem.mp (keys_sorted g)
 constructor
 ·intro h
  have hx0 : 0 ≤ x := by
   unfold lastK at h
   split at h
   ·omega
   ·have := (keys_mem g _).mp (List.getElem_mem (l := dense_Sizes.keysOf g) (n := j - 1) (by omega))
    rw [rdI _ _ (by omega)] at h
    omega
  obtain ⟨i, hi, e⟩ := List.mem_iff_getElem.mp ((keys_mem g x).mpr ⟨hx, hx0⟩)
  refine ⟨hx0, i, hi, ?_, e⟩
  refine Decidable.byContradiction fun hn => ?_
  unfold lastK at h
  rw [if_neg (by omega), rdI _ _ (by omega)] at h
  by_cases c : i = j - 1
  ·subst c; omega
  ·have := hs i (j - 1) hi (by omega) (by omega); omega
 ·rintro ⟨h0, i, hi, hji, e⟩
  unfold lastK
  split
  ·omega
  ·rw [rdI _ _ (by omega), ← e]
   exact hs (j - 1) i (by omega) hi (by omega)
theorem lastK_none (g : List Int) (j : Nat) (hj : (dense_Sizes.keysOf g).length ≤ j) (hj2 : j ≤ (dense_Sizes.keysOf g).length) : ∀ x ∈ g, ¬ x > lastK g j := by
 intro x hx h
 have hs := List.pairwise_iff_getElem.mp (keys_sorted g)
 have hx0 : 0 ≤ x := by
  unfold lastK at h
  split at h
  ·omega
  ·have := (keys_mem g _).mp (List.getElem_mem (l := dense_Sizes.keysOf g) (n := j - 1) (by omega))
   rw [rdI _ _ (by omega)] at h
   omega
 obtain ⟨i, hi, e⟩ := List.mem_iff_getElem.mp ((keys_mem g x).mpr ⟨hx, hx0⟩)
 unfold lastK at h
 rw [if_neg (by omega), rdI _ _ (by omega)] at h
 by_cases c : i = j - 1
 ·subst c; omega
 ·have := hs i (j - 1) hi (by omega) (by omega); omega
section
variable (g : List Int) (hg : g.length ≤ 1000)
include hg
theorem szs_best (acc : List Int) (last : Int) (hl : -1 ≤ last) (r : List Int) (P : Int → Prop)
  (H : ∀ b, ((b = -1 ∧ ∀ x ∈ g, ¬ x > last) ∨ (b ∈ g ∧ b > last ∧ ∀ x ∈ g, x > last → b ≤ x)) → Ev (fun k => chainmanref48_Sizes.l1 k g acc last b (g.length : Int)) r) :
  ∀ d i (b : Int), i + d = g.length → ((b = -1 ∧ ∀ x ∈ g.take i, ¬ x > last) ∨ (b ∈ g ∧ b > last ∧ ∀ x ∈ g.take i, x > last → b ≤ x)) → Ev (fun k => chainmanref48_Sizes.l1 k g acc last b (i : Int)) r := by
 intro d
 induction d with
 | zero =>
  intro i b hi hb
  obtain rfl : i = g.length := by omega
  rw [List.take_length] at hb
  exact H b hb
 | succ d ih =>
  intro i b hi hb
  have hlt : i < g.length := by omega
  have hm := List.getElem_mem hlt
  have up : ∀ {Q : Int → Prop}, (∀ x ∈ g.take i, Q x) → Q g[i] → ∀ x ∈ g.take (i + 1), Q x := fun h1 h2 x hx => by
   rw [List.take_succ_eq_append_getElem hlt] at hx
   rcases List.mem_append.mp hx with q | q
   ·exact h1 x q
   ·rw [List.mem_singleton.mp q]; exact h2
  by_cases c1 : g[i] > last
  ·by_cases c2 : b < 0
   ·have hn : ∀ x ∈ g.take i, ¬ x > last := by
     rcases hb with h | h
     ·exact h.2
     ·omega
    refine Ev.step (fun k => by rw [chainmanref48_Sizes.l1, if_pos (by omega), if_pos (by omega), rdI g i hlt, if_pos c1, if_pos c2, nsucc i (by omega)]) (ih (i + 1) g[i] (by omega) (.inr ⟨hm, c1, up (fun x hx h => absurd h (hn x hx)) (fun _ => Int.le_refl _)⟩))
   ·have hn : b ∈ g ∧ b > last ∧ ∀ x ∈ g.take i, x > last → b ≤ x := by
     rcases hb with h | h
     ·omega
     ·exact h
    by_cases c3 : g[i] < b
    ·exact Ev.step (fun k => by rw [chainmanref48_Sizes.l1, if_pos (by omega), if_pos (by omega), rdI g i hlt, if_pos c1, if_neg c2, if_pos c3, nsucc i (by omega)]) (ih (i + 1) g[i] (by omega) (.inr ⟨hm, c1, up (fun x hx h => by have := hn.2.2 x hx h; omega) (fun _ => Int.le_refl _)⟩))
    ·exact Ev.step (fun k => by rw [chainmanref48_Sizes.l1, if_pos (by omega), if_pos (by omega), rdI g i hlt, if_pos c1, if_neg c2, if_neg c3, nsucc i (by omega)]) (ih (i + 1) b (by omega) (.inr ⟨hn.1, hn.2.1, up hn.2.2 (fun _ => by omega)⟩))
  ·exact Ev.step (fun k => by rw [chainmanref48_Sizes.l1, if_pos (by omega), if_pos (by omega), rdI g i hlt, if_neg c1, nsucc i (by omega)]) (ih (i + 1) b (by omega) (hb.imp (fun h => ⟨h.1, up h.2 c1⟩) (fun h => ⟨h.1, h.2.1, up h.2.2 (fun h => absurd h c1)⟩)))
theorem szs_count (acc : List Int) (ha : acc.length ≤ 1000) (b : Int) (hb : 0 ≤ b) (r : List Int) (H : Ev (fun k => chainmanref48_Sizes.l0 k g (acc ++ [(cn g b : Int)]) b) r) :
  ∀ d i, i + d = g.length → Ev (fun k => chainmanref48_Sizes.l2 k g acc b (dense_Sizes.cnt g i b : Int) (i : Int)) r := by
 intro d
 induction d with
 | zero =>
  intro i hi
  obtain rfl : i = g.length := by omega
  exact Ev.step (fun k => by rw [chainmanref48_Sizes.l2, if_neg (by omega), if_pos (by omega)]) H
 | succ d ih =>
  intro i hi
  have hlt : i < g.length := by omega
  have hc := dense_Sizes.cnt_le g i b
  have hs := dense_Sizes.cnt_succ g i hlt b
  refine Ev.step (fun k => ?_) (ih (i + 1) (by omega))
  rw [chainmanref48_Sizes.l2, if_pos (by omega), if_pos (by omega), rdI g i hlt, hs]
  by_cases c : g[i] = b
  ·rw [if_pos c, if_pos (by rw [c]; simp [hb]), nsucc i (by omega), nsucc _ (by omega)]
  ·rw [if_neg c, if_neg (by simp [c]), nsucc i (by omega)]; rfl
set_option linter.unusedSectionVars false in
theorem szs_all : ∀ d j, j + d = (dense_Sizes.keysOf g).length → Ev (fun k => chainmanref48_Sizes.l0 k g (((dense_Sizes.keysOf g).take j).map fun x => (cn g x : Int)) (lastK g j)) ((dense_Sizes.keysOf g).map fun x => (cn g x : Int)) := by
 have hkl := dense_Sizes.keys_le g
 have hl1 : ∀ j, j ≤ (dense_Sizes.keysOf g).length → -1 ≤ lastK g j := fun j hj => by
  unfold lastK
  split
  ·omega
  ·have := (keys_mem g _).mp (List.getElem_mem (l := dense_Sizes.keysOf g) (n := j - 1) (by omega))
   rw [rdI _ _ (by omega)]; omega
 intro d
 induction d with
 | zero =>
  intro j hj
  have hno := lastK_none g j (by omega) (by omega)
  refine Ev.step (fun k => by rw [chainmanref48_Sizes.l0]; rfl) (szs_best g hg (((dense_Sizes.keysOf g).take j).map fun x => (cn g x : Int)) (lastK g j) (hl1 j (by omega)) _ (fun _ => True) (fun b hb => ?_) g.length 0 (-1) (by omega) (.inl ⟨rfl, by simp⟩))
  rcases hb with ⟨h, _⟩ | ⟨h1, h2, _⟩
  ·rw [List.take_of_length_le (by omega)]
   exact Ev.step (f := fun _ => some _) (fun k => by rw [chainmanref48_Sizes.l1, if_neg (by omega), if_pos (by omega)]) (Ev.now _)
  ·exact absurd h2 (hno b h1)
 | succ d ih =>
  intro j hj
  have hlt : j < (dense_Sizes.keysOf g).length := by omega
  have hiff := lastK_lt g j hlt
  have hs := List.pairwise_iff_getElem.mp (keys_sorted g)
  have hkm := (keys_mem g _).mp (List.getElem_mem hlt)
  refine Ev.step (fun k => by rw [chainmanref48_Sizes.l0]; rfl) (szs_best g hg (((dense_Sizes.keysOf g).take j).map fun x => (cn g x : Int)) (lastK g j) (hl1 j (by omega)) _ (fun _ => True) (fun b hb => ?_) g.length 0 (-1) (by omega) (.inl ⟨rfl, by simp⟩))
  have hk : (dense_Sizes.keysOf g)[j] > lastK g j := (hiff _ hkm.1).mpr ⟨hkm.2, j, hlt, Nat.le_refl _, rfl⟩
  rcases hb with ⟨_, h⟩ | ⟨h1, h2, h3⟩
  ·exact absurd hk (h _ hkm.1)
  ·have hb2 : b = (dense_Sizes.keysOf g)[j] := by
    obtain ⟨b0, i, hi, hji, e⟩ := (hiff b h1).mp h2
    have := h3 _ hkm.1 hk
    by_cases c : i = j
    ·subst c; exact e.symm
    ·have := hs j i hlt hi (by omega); omega
   subst hb2
   have hr := ih (j + 1) (by omega)
   rw [List.take_succ_eq_append_getElem hlt, List.map_append] at hr
   have el : lastK g (j + 1) = (dense_Sizes.keysOf g)[j] := by
    unfold lastK
    rw [if_neg (by omega), Nat.add_sub_cancel, rdI _ j hlt]
   rw [el] at hr
   refine Ev.step (fun k => by rw [chainmanref48_Sizes.l1, if_neg (by omega), if_neg (by omega)]) ?_
   have := szs_count g hg (((dense_Sizes.keysOf g).take j).map fun x => (cn g x : Int)) (by rw [List.length_map, List.length_take]; omega) _ hkm.2 _ hr g.length 0 (by omega)
   exact this
theorem refsizes : Ev (fun k => chainmanref48_Sizes.f k g) ((dense_Sizes.keysOf g).map fun x => (cn g x : Int)) :=
 szs_all g hg _ 0 (Nat.zero_add _)
end
theorem progsizes (g : List Int) (hg : g.length ≤ 1000) (hw : ∀ x ∈ g, (Lit.int .i64 x).wf = true) : Ev (fun k => dense_Sizes.f k g) ((dense_Sizes.keysOf g).map fun x => (cn g x : Int)) := by
 refine Ev.of (fun k => dense_Sizes.mono _ k) (k := 8) ?_
 unfold dense_Sizes.f
 rw [if_pos ⟨Nat.le_refl _, by omega, List.all_eq_true.mpr (fun x hx => decide_eq_true (by
  have h := hw x hx
  simp only [Lit.wf] at h
  have e : IntKind.i64.max = 9223372036854775807 := by decide
  rw [Bool.and_eq_true, decide_eq_true_iff, decide_eq_true_iff, e] at h
  exact h.2))⟩]
theorem samel (l : List Int) (hn : l.length ≤ 1000) : Ev (fun k => chainmanref10_SameList.f k l l) true := by
 have loop : ∀ d i : Nat, i + d = l.length → Ev (fun k => chainmanref10_SameList.l0 k l l (i : Int)) true := by
  intro d
  induction d with
  | zero => intro i hi; exact Ev.step (f := fun _ => some true) (fun k => by rw [chainmanref10_SameList.l0, if_neg (by omega)]) (Ev.now _)
  | succ d ih => intro i hi; exact Ev.step (fun k => by rw [chainmanref10_SameList.l0, if_pos (by omega), if_pos (by omega), if_pos (by omega), if_pos rfl, nsucc i (by omega)]) (ih (i + 1) (by omega))
 exact Ev.congr (fun k => by unfold chainmanref10_SameList.f; rw [if_pos rfl]; rfl) (loop l.length 0 (by omega))
theorem sameb (l : List Bool) (hn : l.length ≤ 1000) : Ev (fun k => chainmanref48_SameBools.f k l l) true := by
 have loop : ∀ d i : Nat, i + d = l.length → Ev (fun k => chainmanref48_SameBools.l0 k l l (i : Int)) true := by
  intro d
  induction d with
  | zero => intro i hi; exact Ev.step (f := fun _ => some true) (fun k => by rw [chainmanref48_SameBools.l0, if_neg (by omega)]) (Ev.now _)
  | succ d ih => intro i hi; exact Ev.step (fun k => by rw [chainmanref48_SameBools.l0, if_pos (by omega), if_pos (by omega), if_pos (by omega), if_neg (by simp), nsucc i (by omega)]) (ih (i + 1) (by omega))
 exact Ev.congr (fun k => by unfold chainmanref48_SameBools.f; rw [if_pos rfl]; rfl) (loop l.length 0 (by omega))
theorem awake_ev : Ev (fun k => chainmanlaw48_awake.f k) true := by
 refine Ev.bind (a := ([(⟨0, 1⟩ : Pr), ⟨1, 2⟩] : List Pr)) (Ev.now _) ?_
 refine Ev.bind (a := (([1, 1, 1] : List Int), (1 : Int))) (Ev.of (fun k => dense_Groups.mono _ _ _ k) (k := 30) (by kernel_rfl)) ?_
 refine Ev.bind (a := true) (Ev.of (fun k => chainmanref10_SameList.mono _ _ k) (k := 30) (by kernel_rfl)) ?_
 refine Ev.congr (fun k => by rw [if_pos rfl, if_pos rfl]) ?_
 have hk : dense_Sizes.keysOf [3, (-1), 0, 3] = [0, 3] := by
  have : dense_Sizes.who [3, (-1), 0, 3] = [0, 3] := by decide +kernel
  unfold dense_Sizes.keysOf
  rw [this]
  exact List.mergeSort_of_pairwise (by decide)
 refine Ev.bind (a := ([1, 2] : List Int)) (Ev.of (fun k => dense_Sizes.mono _ k) (k := 30) (by
  unfold dense_Sizes.f
  rw [if_pos (by decide +kernel), hk]
  decide +kernel)) ?_
 refine Ev.bind (a := true) (Ev.of (fun k => chainmanref10_SameList.mono _ _ k) (k := 30) (by kernel_rfl)) ?_
 refine Ev.congr (fun k => by rw [if_pos rfl]) ?_
 refine Ev.bind (a := ([] : List Int)) (Ev.of (fun k => dense_Degrees.mono _ _ k) (k := 30) (by kernel_rfl)) ?_
 exact Ev.now _
theorem DenseTells : chainmanlaw48_DenseTells.Pure := by
 intro l n m g h w1 w2 w3 w4 w5
 refine Ev.rounds ?_
 have aw : Ev (fun k => (chainmanlaw48_awake.f k).bind fun t => some t) true := Ev.bind awake_ev (Ev.now _)
 have jt : Ev (fun k => chainmanlaw48_DenseTells.j0 k l n m g true) true := Ev.step (fun k => by rw [chainmanlaw48_DenseTells.j0, if_pos rfl]) aw
 by_cases h0 : (l.length : Int) > 40
 ·exact Ev.congr (fun k => by unfold chainmanlaw48_DenseTells.f; rw [if_pos h0]) jt
 by_cases h1 : n > 60
 ·exact Ev.congr (fun k => by unfold chainmanlaw48_DenseTells.f; rw [if_neg h0, if_pos h1]) jt
 by_cases h2 : (g.length : Int) > 60
 ·exact Ev.congr (fun k => by unfold chainmanlaw48_DenseTells.f; rw [if_neg h0, if_neg h1, decide_eq_true h2]) jt
 refine Ev.congr (fun k => by unfold chainmanlaw48_DenseTells.f; rw [if_neg h0, if_neg h1, decide_eq_false h2]) ?_
 refine Ev.step (fun k => by rw [chainmanlaw48_DenseTells.j0, if_neg (by decide)]) ?_
 obtain ⟨r, r1, r2, r3⟩ := both_groups l (by omega) n m (by omega)
 refine Ev.bind r2 (Ev.bind r3 ?_)
 obtain ⟨d, d1, d2, d3⟩ := both_deg l (by omega) n (by omega)
 refine Ev.bind d2 (Ev.bind d3 (Ev.bind (samel d d1) (Ev.congr (fun k => if_pos rfl) ?_)))
 obtain ⟨c, c1, c2, c3⟩ := both_cores l (by omega) n m (by omega)
 refine Ev.bind c2 (Ev.bind c3 (Ev.bind (sameb c c1) (Ev.congr (fun k => if_pos rfl) ?_)))
 refine Ev.bind (samel r.1 r1) (Ev.congr (fun k => by rw [if_pos rfl, if_pos rfl]) ?_)
 refine Ev.bind (progsizes g (by omega) w5) (Ev.bind (refsizes g (by omega)) (Ev.bind (samel _ (by rw [List.length_map]; have := dense_Sizes.keys_le g; omega)) (Ev.congr (fun k => if_pos rfl) aw)))
end Go.Proofs.Ytjjjafhchombcaa.Pure

