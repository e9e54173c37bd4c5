/- The sizes of the groups of any pairs add up to those that have a group, and are as many as the groups (the law DenseSizes). -/
import Derived.Test.YtjjjafhchombcaaPDenseSizesx9
import Derived.Lib.Strings
import Derived.Lib.ItoaNum
namespace Go.Proofs.Ytjjjafhchombcaa.Pure
open Go.RowKit Go.Proofs.Ytjjjafhchombcaa.PDenseSizes Go.Proofs.YtjjjafhchombcaaW.PrintWords Go.Proofs.YtjjjafhchombcaaW.PrintLast
set_option linter.unusedVariables false
set_option linter.unusedSimpArgs false
namespace Oc
/-! ### numbers as bytes -/
def beN (n k : Nat) : List Int := (List.range k).reverse.map fun i => ((n / 256 ^ i % 256 : Nat) : Int)
theorem beN_len (n k : Nat) : (beN n k).length = k := by simp [beN]
theorem beN_succ (n k : Nat) : beN n (k + 1) = ((n / 256 ^ k % 256 : Nat) : Int) :: beN n k := by
  unfold beN
  rw [List.range_succ, List.reverse_append]; rfl
theorem beN_range (n k : Nat) : ∀ x ∈ beN n k, 0 ≤ x ∧ x < 256 := by
  intro x hx
  obtain ⟨i, _, rfl⟩ := List.mem_map.1 hx
  have := Nat.mod_lt (n / 256 ^ i) (show 256 > 0 by decide)
  omega
def putB (n k : Int) : ByteArray × Bool := if n < 0 ∨ k < 1 ∨ 8 < k then (⟨#[]⟩, false) else if n.toNat < 256 ^ k.toNat then (strOfNums (beN n.toNat k.toNat), true) else (⟨#[]⟩, false)
theorem octs_be (n : Nat) : octet_Put.octs (n : Int) = beN n 8 := by
  have e7 : (n : Int) / 72057594037927936 % 256 = ((n / 256 ^ 7 % 256 : Nat) : Int) := by rw [show 256 ^ 7 = 72057594037927936 from rfl]; omega
  have e6 : (n : Int) / 281474976710656 % 256 = ((n / 256 ^ 6 % 256 : Nat) : Int) := by rw [show 256 ^ 6 = 281474976710656 from rfl]; omega
  have e5 : (n : Int) / 1099511627776 % 256 = ((n / 256 ^ 5 % 256 : Nat) : Int) := by rw [show 256 ^ 5 = 1099511627776 from rfl]; omega
  have e4 : (n : Int) / 4294967296 % 256 = ((n / 256 ^ 4 % 256 : Nat) : Int) := by rw [show 256 ^ 4 = 4294967296 from rfl]; omega
  have e3 : (n : Int) / 16777216 % 256 = ((n / 256 ^ 3 % 256 : Nat) : Int) := by rw [show 256 ^ 3 = 16777216 from rfl]; omega
  have e2 : (n : Int) / 65536 % 256 = ((n / 256 ^ 2 % 256 : Nat) : Int) := by rw [show 256 ^ 2 = 65536 from rfl]; omega
  have e1 : (n : Int) / 256 % 256 = ((n / 256 ^ 1 % 256 : Nat) : Int) := by rw [show 256 ^ 1 = 256 from rfl]; omega
  have e0 : (n : Int) % 256 = ((n / 256 ^ 0 % 256 : Nat) : Int) := by rw [show 256 ^ 0 = 1 from rfl]; omega
  unfold octet_Put.octs
  rw [e7, e6, e5, e4, e3, e2, e1, e0]
  rfl
theorem beN_take (m k : Nat) : ∀ j, m < 256 ^ (k + j) → ((((beN m (k + j)).take j).all (· == 0) = true) ↔ m < 256 ^ k) := by
  intro j
  induction j with
  | zero => intro h; simpa using h
  | succ j ih =>
    intro h
    have hp : 256 ^ (k + (j + 1)) = 256 ^ (k + j) * 256 := Nat.pow_succ ..
    have hx : m / 256 ^ (k + j) < 256 := Nat.div_lt_of_lt_mul (by omega)
    rw [show k + (j + 1) = (k + j) + 1 from rfl, beN_succ, List.take_succ_cons, List.all_cons, Bool.and_eq_true]
    have hz : ((((m / 256 ^ (k + j) % 256 : Nat) : Int) == 0) = true) ↔ m < 256 ^ (k + j) := by
      rw [beq_iff_eq, Nat.mod_eq_of_lt hx]
      constructor
      · intro e
        rcases Nat.lt_or_ge m (256 ^ (k + j)) with h' | h'
        · exact h'
        · have := Nat.div_pos h' (Nat.pow_pos (by decide)); omega
      · intro h'; rw [Nat.div_eq_of_lt h']; rfl
    rw [hz]
    constructor
    · rintro ⟨h1, h2⟩; exact (ih h1).1 h2
    · intro h1
      have : 256 ^ k ≤ 256 ^ (k + j) := Nat.pow_le_pow_right (by decide) (by omega)
      exact ⟨by omega, (ih (by omega)).2 h1⟩
theorem beN_drop (m k : Nat) : ∀ j, (beN m (k + j)).drop j = beN m k := by
  intro j
  induction j with
  | zero => rfl
  | succ j ih => rw [show k + (j + 1) = (k + j) + 1 from rfl, beN_succ, List.drop_succ_cons, ih]
theorem put_bv (n k : Int) (hn : n < 9223372036854775808) : octet_Put.f n k = some (putB n k) := by
  unfold octet_Put.f putB
  by_cases hb : n < 0 ∨ k < 1 ∨ 8 < k
  · rw [if_pos hb, if_pos hb]
  · rw [if_neg hb, if_neg hb]
    obtain ⟨m, rfl⟩ : ∃ m : Nat, n = (m : Int) := ⟨n.toNat, by omega⟩
    obtain ⟨q, rfl⟩ : ∃ q : Nat, k = (q : Int) := ⟨k.toNat, by omega⟩
    have hq8 : q ≤ 8 := by omega
    have hm : m < 256 ^ 8 := by have : 256 ^ 8 = 18446744073709551616 := by decide
                                omega
    have e8 : q + (8 - q) = 8 := by omega
    have h1 := beN_take m q (8 - q) (by rw [e8]; exact hm)
    have h2 := beN_drop m q (8 - q)
    rw [e8] at h1 h2
    rw [octs_be, Int.toNat_natCast, Int.toNat_natCast, show ((8 : Int) - (q : Int)).toNat = 8 - q from by omega, h2]
    by_cases hlt : m < 256 ^ q
    · rw [if_pos (h1.2 hlt), if_pos hlt]
    · rw [if_neg (fun h => hlt (h1.1 h)), if_neg hlt]
def numN (l : List UInt8) : Nat := l.foldl (fun n c => n * 256 + c.toNat) 0
theorem numN_snoc (l : List UInt8) (c : UInt8) : numN (l ++ [c]) = numN l * 256 + c.toNat := by
  unfold numN
  rw [List.foldl_append]; rfl
theorem snoc_ind (P : List UInt8 → Prop) (h0 : P []) (h1 : ∀ m c, P m → P (m ++ [c])) (l : List UInt8) : P l := by
  have : ∀ n (l : List UInt8), l.length = n → P l := by
    intro n
    induction n with
    | zero => intro l hl; rw [List.length_eq_zero_iff.1 hl]; exact h0
    | succ n ih =>
      intro l hl
      rcases List.eq_nil_or_concat l with rfl | ⟨m, c, rfl⟩
      · exact h0
      · rw [List.concat_eq_append] at hl ⊢
        exact h1 m c (ih m (by simpa using hl))
  exact this _ l rfl
theorem numN_lt (l : List UInt8) : numN l < 256 ^ l.length := by
  refine snoc_ind (fun l => numN l < 256 ^ l.length) (by decide) (fun m c ih => ?_) l
  rw [numN_snoc, List.length_append]
  have := c.toNat_lt
  have : 256 ^ (m.length + [c].length) = 256 ^ m.length * 256 := Nat.pow_succ ..
  omega
theorem ba_ext {s t : ByteArray} (h : s.data.toList = t.data.toList) : s = t := by
  cases s; cases t
  simp only [ByteArray.mk.injEq]
  exact Array.toList_inj.1 h
theorem ba_append (s t : ByteArray) : (s ++ t).data.toList = s.data.toList ++ t.data.toList := by
  rw [ByteArray.data_append, Array.toList_append]
theorem ba_size (s : ByteArray) : s.size = s.data.toList.length := by simp

/-! #### the document's bytes of a number -/
theorem wrap_succ (i : Nat) (h : i < 1000000000) : wrap64 ((i : Int) + 1) = ((i + 1 : Nat) : Int) := by unfold wrap64; omega
theorem stepq (q : Nat) (hq : q < 9223372036854775808) : Int.tmod (q : Int) 256 % 256 = ((q % 256 : Nat) : Int) ∧ wrap64 (Int.tdiv (q : Int) 256) = ((q / 256 : Nat) : Int) := by
  rw [Int.tmod_eq_emod_of_nonneg (Int.natCast_nonneg _), Int.tdiv_eq_ediv_of_nonneg (Int.natCast_nonneg _)]
  unfold wrap64
  omega
theorem beN_fits (x : Int) (n i : Nat) (h : i < 9) : (strOfNums [x]).size + (strOfNums (beN n i)).size ≤ 9223372036854775807 := by
  have h1 : (strOfNums [x]).size = 1 := strOfNums_size _
  have h2 : (strOfNums (beN n i)).size = i := (strOfNums_size _).trans (beN_len _ _)
  omega
theorem refl0 (n k : Nat) (hn : n < 9223372036854775808) : ∀ (r f i : Nat), i + r = k → r < f → k ≤ 8 →
    chainmanref02_Put.l0 f ((n / 256 ^ i : Nat) : Int) (k : Int) (strOfNums (beN n i)) (i : Int) = some (if n < 256 ^ k then (strOfNums (beN n k), true) else (⟨#[]⟩, false)) := by
  intro r
  induction r with
  | zero =>
    intro f i hi hf hk
    obtain ⟨f, rfl⟩ : ∃ m, f = m + 1 := ⟨f - 1, by omega⟩
    obtain rfl : i = k := by omega
    rw [chainmanref02_Put.l0, if_neg (by omega)]
    have hz : (0 < n / 256 ^ i) ↔ ¬ n < 256 ^ i := by
      have h := Nat.div_eq_zero_iff (a := n) (b := 256 ^ i)
      have hp : 256 ^ i ≠ 0 := Nat.ne_of_gt (Nat.pow_pos (by decide))
      constructor
      · intro h1 h2; have := Nat.div_eq_of_lt h2; omega
      · intro h1; exact Nat.div_pos (by omega) (Nat.pow_pos (by decide))
    by_cases h : n < 256 ^ i
    · rw [if_neg (by omega), if_pos h]
    · rw [if_pos (by omega), if_neg h]
  | succ r ih =>
    intro f i hi hf hk
    obtain ⟨f, rfl⟩ : ∃ m, f = m + 1 := ⟨f - 1, by omega⟩
    rw [chainmanref02_Put.l0, if_pos (by omega), Option.bind_some]
    have hsz : (strOfNums [((n / 256 ^ i % 256 : Nat) : Int)]).size + (strOfNums (beN n i)).size ≤ 9223372036854775807 := by
      exact beN_fits _ n i (by omega)
    have a1 : i + 1 + r = k := by omega
    have a2 : r < f := by omega
    have a3 : i < 1000000000 := by omega
    have hq : n / 256 ^ i ≤ n := Nat.div_le_self _ _
    obtain ⟨e1, e2⟩ := stepq (n / 256 ^ i) (Nat.lt_of_le_of_lt hq hn)
    rw [Nat.div_div_eq_div_mul, ← Nat.pow_succ] at e2
    have e3 : wrap64 ((i : Int) + 1) = ((i + 1 : Nat) : Int) := wrap_succ i a3
    have e4 : strOfNums [((n / 256 ^ i % 256 : Nat) : Int)] ++ strOfNums (beN n i) = strOfNums (beN n (i + 1)) := by
      apply ba_ext
      rw [ba_append, strOfNums_data, strOfNums_data, strOfNums_data, beN_succ]; rfl
    rw [e1, if_pos hsz, e2, e4, e3]
    exact ih f (i + 1) a1 a2 hk
theorem refput_bv (n k : Int) (f : Nat) (hf : 20 ≤ f) (hn : n < 9223372036854775808) : chainmanref02_Put.f f n k = some (putB n k) := by
  obtain ⟨f, rfl⟩ : ∃ m, f = m + 1 := ⟨f - 1, by omega⟩
  unfold chainmanref02_Put.f putB
  by_cases h1 : k < 1
  · rw [if_pos h1, if_pos (.inr (.inl h1)), chainmanref02_Put.j0, if_pos rfl]
  · rw [if_neg h1]
    by_cases h2 : k > 8
    · rw [if_pos h2, if_pos (.inr (.inr h2)), chainmanref02_Put.j0, if_pos rfl]
    · rw [if_neg h2]
      by_cases h3 : n < 0
      · rw [if_pos (.inl h3), chainmanref02_Put.j0, if_pos (decide_eq_true h3)]
      · rw [if_neg (by omega), chainmanref02_Put.j0, if_neg (by simpa using h3)]
        obtain ⟨m, rfl⟩ : ∃ m : Nat, n = (m : Int) := ⟨n.toNat, by omega⟩
        obtain ⟨j, rfl⟩ : ∃ j : Nat, k = (j : Int) := ⟨k.toNat, by omega⟩
        have h := refl0 m j (by omega) j f 0 (by omega) (by omega) (by omega)
        rw [Nat.pow_zero, Nat.div_one] at h
        rw [Int.toNat_natCast, Int.toNat_natCast]
        exact h

end Oc

/-! ### numbers' bytes, and texts one behind the other -/
def catL (l : List ByteArray) : List UInt8 := (l.map (·.data.toList)).flatten
theorem catL_cons (x : ByteArray) (l : List ByteArray) : catL (x :: l) = x.data.toList ++ catL l := by simp [catL]
theorem wsucc (i : Nat) (h : i < 1000000) : wrap64 ((i : Int) + 1) = ((i + 1 : Nat) : Int) := by unfold wrap64; omega
theorem numN_inj (l : List UInt8) : ∀ m : List UInt8, l.length = m.length → Oc.numN l = Oc.numN m → l = m := by
  refine Oc.snoc_ind (fun l => ∀ m : List UInt8, l.length = m.length → Oc.numN l = Oc.numN m → l = m) ?_ ?_ l
  · intro m h _; exact (List.eq_nil_of_length_eq_zero h.symm).symm
  · intro l c ih m hl hn
    rcases List.eq_nil_or_concat m with rfl | ⟨m', d, rfl⟩
    · simp at hl
    · rw [List.concat_eq_append] at hl hn ⊢
      rw [Oc.numN_snoc, Oc.numN_snoc] at hn
      have hc := c.toNat_lt; have hd := d.toNat_lt
      have e1 := ih m' (by simpa using hl) (by omega)
      have e2 : c = d := UInt8.toNat.inj (by omega)
      rw [e1, e2]
def beU (n k : Nat) : List UInt8 := (Oc.beN n k).map fun x => UInt8.ofNat x.toNat
theorem beU_data (n k : Nat) : (strOfNums (Oc.beN n k)).data.toList = beU n k := strOfNums_data _
theorem beU_len (n k : Nat) : (beU n k).length = k := by unfold beU; rw [List.length_map, Oc.beN_len]
theorem beU_succ (n k : Nat) : beU n (k + 1) = UInt8.ofNat (n / 256 ^ k % 256) :: beU n k := by
  unfold beU; rw [Oc.beN_succ, List.map_cons, Int.toNat_natCast]
/-- what comes back: the number's last k bytes -/
theorem numN_from (l : List UInt8) : ∀ a : Nat, l.foldl (fun n c => n * 256 + c.toNat) a = a * 256 ^ l.length + Oc.numN l := by
  induction l with
  | nil => intro a; simp [Oc.numN]
  | cons c l ih =>
    intro a
    have h1 : (c :: l).foldl (fun n c => n * 256 + c.toNat) a = l.foldl (fun n c => n * 256 + c.toNat) (a * 256 + c.toNat) := rfl
    have h2 : Oc.numN (c :: l) = l.foldl (fun n c => n * 256 + c.toNat) (0 * 256 + c.toNat) := rfl
    rw [h1, ih, h2, ih, List.length_cons, Nat.pow_succ, Nat.add_mul, Nat.zero_mul, Nat.zero_add, Nat.mul_assoc, Nat.mul_comm 256, Nat.add_assoc]
theorem numN_cons (c : UInt8) (l : List UInt8) : Oc.numN (c :: l) = c.toNat * 256 ^ l.length + Oc.numN l := by
  have h := numN_from l (0 * 256 + c.toNat)
  rw [Nat.zero_mul, Nat.zero_add] at h
  have h2 : Oc.numN (c :: l) = l.foldl (fun n c => n * 256 + c.toNat) (0 * 256 + c.toNat) := rfl
  rw [h2, Nat.zero_mul, Nat.zero_add]
  exact h
theorem numN_beU (n : Nat) : ∀ k, Oc.numN (beU n k) = n % 256 ^ k := by
  intro k
  induction k with
  | zero => show 0 = n % 1; rw [Nat.mod_one]
  | succ k ih =>
    have hb : (UInt8.ofNat (n / 256 ^ k % 256)).toNat = n / 256 ^ k % 256 := by
      rw [UInt8.toNat_ofNat']
      exact Nat.mod_mod_of_dvd _ (by decide)
    rw [beU_succ, numN_cons, ih, beU_len, hb, Nat.pow_succ, Nat.mod_mul, Nat.mul_comm (256 ^ k)]
    exact Nat.add_comm _ _

/-! ### ends -/
theorem putB_ok (n k : Nat) (hk : 1 ≤ k) (hk8 : k ≤ 8) (hn : n < 256 ^ k) : Oc.putB (n : Int) (k : Int) = (strOfNums (Oc.beN n k), true) := by
  unfold Oc.putB; rw [if_neg (by omega), Int.toNat_natCast, Int.toNat_natCast, if_pos hn]
theorem be_size (n k : Nat) : (strOfNums (Oc.beN n k)).size = k := (strOfNums_size _).trans (Oc.beN_len _ _)
theorem beU_num (l : List UInt8) : beU (Oc.numN l) l.length = l := by
  refine numN_inj _ _ (beU_len _ _) ?_
  rw [numN_beU, Nat.mod_eq_of_lt (Oc.numN_lt l)]
theorem num4 (L : List UInt8) (k : Nat) (h : L.length ≤ k) : Oc.numN L < 256 ^ k := Nat.lt_of_lt_of_le (Oc.numN_lt L) (Nat.pow_le_pow_right (by decide) h)
theorem take_len (L : List UInt8) (p k : Nat) (h : p + k ≤ L.length) : ((L.drop p).take k).length = k := by rw [List.length_take, List.length_drop]; omega

/-! ### pairs in order -/
structure Lin {α : Type} (lt : α → α → Bool) : Prop where
  irr : ∀ a, lt a a = false
  tr : ∀ a b c, lt a b = true → lt b c = true → lt a c = true
  tri : ∀ a b, lt a b = false → lt b a = false → a = b
def Srt {α : Type} (lt : α → α → Bool) (l : List α) : Prop := l.Pairwise (fun a b => lt a b = true)
def lt (a b : S47) : Bool := decide (a.f0 < b.f0 ∨ (a.f0 = b.f0 ∧ a.f1 < b.f1))
theorem lt_iff (a b : S47) : lt a b = true ↔ (a.f0 < b.f0 ∨ (a.f0 = b.f0 ∧ a.f1 < b.f1)) := decide_eq_true_iff

/-! ### pairs: which may be, and in which order -/
theorem s33_ext {a b : S47} (h0 : a.f0 = b.f0) (h1 : a.f1 = b.f1) : a = b := by
  cases a; cases b; simp only at h0 h1; subst h0 h1; rfl
theorem lin : Lin lt where
  irr := fun a => Bool.eq_false_iff.2 (fun h => by have := (lt_iff a a).1 h; omega)
  tr := fun a b c h k => (lt_iff a c).2 (by have h := (lt_iff a b).1 h; have k := (lt_iff b c).1 k; omega)
  tri := fun a b h k => by
    have h' : ¬ (a.f0 < b.f0 ∨ (a.f0 = b.f0 ∧ a.f1 < b.f1)) := fun e => by rw [(lt_iff a b).2 e] at h; cases h
    have k' : ¬ (b.f0 < a.f0 ∨ (b.f0 = a.f0 ∧ b.f1 < a.f1)) := fun e => by rw [(lt_iff b a).2 e] at k; cases k
    exact s33_ext (by omega) (by omega)
def Ok (x : S47) : Prop := 0 ≤ x.f0 ∧ x.f0 < x.f1 ∧ x.f1 < 1048576
def Good (l : List S47) : Prop := Srt lt l ∧ (∀ x ∈ l, Ok x) ∧ l.length ≤ 1000
/-- Its record. -/
def rc (x : S47) : ByteArray := strOfNums (Oc.beN x.f0.toNat 4) ++ strOfNums (Oc.beN x.f1.toNat 4)
theorem numN_app (l m : List UInt8) : Oc.numN (l ++ m) = Oc.numN l * 256 ^ m.length + Oc.numN m := by
  show (l ++ m).foldl (fun n c => n * 256 + c.toNat) 0 = _
  rw [List.foldl_append]
  exact numN_from m _
theorem less_num (l : List UInt8) : ∀ m : List UInt8, l.length = m.length → (Op.bytesLess l m = true ↔ Oc.numN l < Oc.numN m) := by
  induction l with
  | nil =>
    intro m h
    cases m with
    | nil => exact ⟨fun h => (by cases h), fun h => absurd h (Nat.lt_irrefl _)⟩
    | cons _ _ => cases h
  | cons a l ih =>
    intro m h
    cases m with
    | nil => cases h
    | cons b m =>
      have h' : l.length = m.length := by simpa using h
      have hl := Oc.numN_lt l
      have hm := Oc.numN_lt m
      rw [numN_cons, numN_cons, h']
      rw [h'] at hl
      show (decide (a < b) || (a == b && Op.bytesLess l m)) = true ↔ _
      rw [Bool.or_eq_true, Bool.and_eq_true, ih m h', decide_eq_true_iff, beq_iff_eq, UInt8.lt_iff_toNat_lt, ← UInt8.toNat_inj]
      generalize 256 ^ m.length = p at hl hm
      generalize Oc.numN l = x at hl ⊢
      generalize Oc.numN m = y at hm ⊢
      generalize a.toNat = u
      generalize b.toNat = v
      constructor
      · rintro (h1 | ⟨h1, h2⟩)
        · have : (u + 1) * p ≤ v * p := Nat.mul_le_mul_right p h1
          rw [Nat.add_mul, Nat.one_mul] at this
          omega
        · rw [h1]; omega
      · intro h1
        rcases Nat.lt_trichotomy u v with h2 | h2 | h2
        · exact .inl h2
        · rw [h2] at h1; exact .inr ⟨h2, by omega⟩
        · have : (v + 1) * p ≤ u * p := Nat.mul_le_mul_right p h2
          rw [Nat.add_mul, Nat.one_mul] at this
          omega
theorem rc_data (x : S47) : (rc x).data.toList = beU x.f0.toNat 4 ++ beU x.f1.toNat 4 := by
  unfold rc
  rw [Oc.ba_append, beU_data, beU_data]
theorem rc_num (x : S47) (h : Ok x) : Oc.numN (rc x).data.toList = x.f0.toNat * 4294967296 + x.f1.toNat := by
  obtain ⟨h0, h1, h2⟩ := h
  rw [rc_data, numN_app, beU_len, numN_beU, numN_beU, show 256 ^ 4 = 4294967296 from rfl, Nat.mod_eq_of_lt (by omega), Nat.mod_eq_of_lt (by omega)]
theorem rc_less (x y : S47) (hx : Ok x) (hy : Ok y) : Op.bytesLess (rc x).toList (rc y).toList = lt x y := by
  have h := less_num (rc x).toList (rc y).toList (by rw [ByteArray.toList_eq, ByteArray.toList_eq, rc_data, rc_data, List.length_append, List.length_append, beU_len, beU_len, beU_len, beU_len])
  have e1 := rc_num x hx
  have e2 := rc_num y hy
  rw [ByteArray.toList_eq, ByteArray.toList_eq] at h ⊢
  rw [e1, e2] at h
  clear e1 e2
  obtain ⟨a0, a1, a2⟩ := hx
  obtain ⟨b0, b1, b2⟩ := hy
  refine Bool.eq_iff_iff.mpr (h.trans ?_)
  rw [lt_iff]
  obtain ⟨u, hu⟩ := Int.eq_ofNat_of_zero_le a0
  obtain ⟨v, hv⟩ := Int.eq_ofNat_of_zero_le (show 0 ≤ x.f1 by omega)
  obtain ⟨u', hu'⟩ := Int.eq_ofNat_of_zero_le b0
  obtain ⟨v', hv'⟩ := Int.eq_ofNat_of_zero_le (show 0 ≤ y.f1 by omega)
  rw [hu, hv, hu', hv', Int.toNat_natCast, Int.toNat_natCast, Int.toNat_natCast, Int.toNat_natCast]
  omega
/-! ### the document's side: whether pairs are clean -/
theorem refid (n : Int) : chainmanref14_id.f n = some (decide (0 ≤ n ∧ n < 1048576)) := by
  unfold chainmanref14_id.f
  by_cases h : n ≥ 0
  · rw [if_pos h]; congr 1; exact decide_eq_decide.2 ⟨fun k => ⟨h, k⟩, fun k => k.2⟩
  · rw [if_neg h, decide_eq_false (by omega)]
theorem must4 (n : Int) (h0 : 0 ≤ n) (h1 : n < 1048576) : Ev (fun q => chainmanref02_Must.f q n 4) (strOfNums (Oc.beN n.toNat 4)) := by
  obtain ⟨m, rfl⟩ := Int.eq_ofNat_of_zero_le h0
  rw [Int.toNat_natCast]
  refine ⟨20, fun q hq => ?_⟩
  show chainmanref02_Must.f q (m : Int) 4 = _
  unfold chainmanref02_Must.f
  rw [Oc.refput_bv _ _ q hq (by omega), Option.bind_some, show (4 : Int) = ((4 : Nat) : Int) from rfl, putB_ok m 4 (by decide) (by decide) (by rw [show 256 ^ 4 = 4294967296 from rfl]; omega)]
theorem refpair (x : S47) : ∃ s ok, Ev (fun k => chainmanref14_PutPair.f k x.f0 x.f1) (s, ok) ∧ (ok = true → Ok x ∧ s = rc x) := by
  have no : Ev (fun k => chainmanref14_PutPair.j0 k true x.f0 x.f1) ((⟨#[]⟩ : ByteArray), false) := Ev.step (f := fun _ => some ((⟨#[]⟩ : ByteArray), false)) (fun k => by rw [chainmanref14_PutPair.j0, if_pos rfl]) (Ev.now _)
  by_cases h0 : 0 ≤ x.f0 ∧ x.f0 < 1048576
  · by_cases h1 : 0 ≤ x.f1 ∧ x.f1 < 1048576
    · by_cases h2 : x.f0 ≥ x.f1
      · refine ⟨⟨#[]⟩, false, ?_, fun h => by cases h⟩
        refine Ev.congr (fun k => ?_) no
        unfold chainmanref14_PutPair.f
        rw [refid, Option.bind_some, if_pos (decide_eq_true h0), refid, Option.bind_some, if_pos (decide_eq_true h1), decide_eq_true h2]
      · refine ⟨rc x, true, ?_, fun _ => ⟨⟨h0.1, by omega, h1.2⟩, rfl⟩⟩
        refine Ev.congr (f := fun k => chainmanref14_PutPair.j0 k false x.f0 x.f1) (fun k => ?_) ?_
        · unfold chainmanref14_PutPair.f
          rw [refid, Option.bind_some, if_pos (decide_eq_true h0), refid, Option.bind_some, if_pos (decide_eq_true h1), decide_eq_false h2]
        · refine Ev.step (fun k => by rw [chainmanref14_PutPair.j0, if_neg (by decide)]) ?_
          refine Ev.bind (must4 _ h0.1 h0.2) ?_
          refine Ev.bind (must4 _ h1.1 h1.2) ?_
          refine Ev.congr (f := fun _ => some (rc x, true)) (fun k => if_pos (by rw [be_size, be_size]; decide)) (Ev.now _)
    · refine ⟨⟨#[]⟩, false, ?_, fun h => by cases h⟩
      refine Ev.congr (fun k => ?_) no
      unfold chainmanref14_PutPair.f
      rw [refid, Option.bind_some, if_pos (decide_eq_true h0), refid, Option.bind_some, if_neg (by rw [decide_eq_false h1]; decide)]
  · refine ⟨⟨#[]⟩, false, ?_, fun h => by cases h⟩
    refine Ev.congr (fun k => ?_) no
    unfold chainmanref14_PutPair.f
    rw [refid, Option.bind_some, if_neg (by rw [decide_eq_false h0]; decide)]
theorem rd_at (l : List S47) (i : Nat) (h : i < l.length) : rd_T47 l (i : Int) = l[i] := by
  unfold rd_T47
  rw [Int.toNat_natCast, List.getD_eq_getElem?_getD, List.getElem?_eq_getElem h]; rfl
theorem rds_at (l : List ByteArray) (i : Nat) (h : i < l.length) : rdOf ByteArray.empty l (i : Int) = l[i] := by
  unfold rdOf
  rw [Int.toNat_natCast, List.getD_eq_getElem?_getD, List.getElem?_eq_getElem h]; rfl
theorem wsub (i : Nat) (h : i < 1000000) : wrap64 (((i + 1 : Nat) : Int) - 1) = (i : Int) := by unfold wrap64; omega
theorem refrecs (l : List S47) (hl : l.length ≤ 1000) : ∀ (d i : Nat) (acc : List ByteArray), i + d = l.length → acc = (l.take i).map rc → (∀ x ∈ l.take i, Ok x) →
    ∃ s ok, Ev (fun k => chainmanref37_records.l0 k l acc (i : Int)) (s, ok) ∧ ((ok = true ∧ (∀ x ∈ l, Ok x) ∧ s = l.map rc) ∨ (ok = false ∧ s = [])) := by
  intro d
  induction d with
  | zero =>
    intro i acc hi ha ho
    rw [List.take_of_length_le (by omega)] at ha ho
    refine ⟨acc, true, Ev.step (f := fun _ => some (acc, true)) (fun k => by rw [chainmanref37_records.l0, if_neg (by omega)]) (Ev.now _), .inl ⟨rfl, ho, ha⟩⟩
  | succ d ih =>
    intro i acc hi ha ho
    have hlt : i < l.length := by omega
    obtain ⟨s, ok, hs, hok⟩ := refpair l[i]
    have key : ∀ k, chainmanref37_records.l0 (k + 1) l acc (i : Int) = (chainmanref14_PutPair.f k l[i].f0 l[i].f1).bind fun bt => if bt.2 = true then (if acc.length < 8796093022208 then chainmanref37_records.l0 k l (acc ++ [bt.1]) (wrap64 ((i : Int) + 1)) else none) else some ([], false) := fun k => by
      rw [chainmanref37_records.l0, if_pos (by omega), if_pos (by omega), rd_at l i hlt]
    cases ok with
    | false =>
      refine ⟨[], false, Ev.step key (Ev.bind hs (Ev.congr (f := fun _ => some ([], false)) (fun k => if_neg (fun h => by cases h)) (Ev.now _))), .inr ⟨rfl, rfl⟩⟩
    | true =>
      obtain ⟨h1, h2⟩ := hok rfl
      have hal : acc.length = i := by rw [ha, List.length_map, List.length_take]; omega
      obtain ⟨s', ok', hs', hh⟩ := ih (i + 1) (acc ++ [s]) (by omega) (by rw [List.take_succ_eq_append_getElem hlt, List.map_append, ← ha, h2]; rfl) (by
        rw [List.take_succ_eq_append_getElem hlt]
        intro x hx
        rcases List.mem_append.mp hx with hx | hx
        · exact ho x hx
        · rw [List.mem_singleton.mp hx]; exact h1)
      refine ⟨s', ok', Ev.step key (Ev.bind hs ?_), hh⟩
      refine Ev.congr (fun k => if_pos rfl) ?_
      refine Ev.congr (fun k => if_pos (by omega)) ?_
      rw [wsucc i (by omega)]
      exact hs'
theorem srt_step (l : List S47) (i : Nat) (hi : i + 1 < l.length) (h : Srt lt (l.take (i + 1))) (hl : lt l[i] l[i + 1] = true) : Srt lt (l.take (i + 1 + 1)) := by
  rw [List.take_succ_eq_append_getElem hi]
  refine List.pairwise_append.mpr ⟨h, List.pairwise_singleton _ _, fun a ha b hb => ?_⟩
  rw [List.mem_singleton.mp hb]
  rw [List.take_succ_eq_append_getElem (by omega)] at ha h
  rcases List.mem_append.mp ha with ha | ha
  · exact lin.tr _ _ _ ((List.pairwise_append.mp h).2.2 a ha _ (List.mem_singleton.mpr rfl)) hl
  · rw [List.mem_singleton.mp ha]; exact hl
theorem refloop (l : List S47) (hl : l.length ≤ 1000) (ho : ∀ x ∈ l, Ok x) : ∀ (d i : Nat), i + 1 + d = l.length → Srt lt (l.take (i + 1)) → ∃ b, Ev (fun k => chainmanref37_Clean.l0 k (l.map rc) true ((i + 1 : Nat) : Int)) b ∧ (b = true → Srt lt l) := by
  intro d
  induction d with
  | zero =>
    intro i hi hs
    rw [List.take_of_length_le (by omega)] at hs
    exact ⟨true, Ev.step (f := fun _ => some true) (fun k => by rw [chainmanref37_Clean.l0, if_neg (by rw [List.length_map]; omega)]) (Ev.now _), fun _ => hs⟩
  | succ d ih =>
    intro i hi hs
    have hlt : i + 1 < l.length := by omega
    have key : ∀ k, chainmanref37_Clean.l0 (k + 1) (l.map rc) true ((i + 1 : Nat) : Int) = if lt l[i] l[i + 1] = true then chainmanref37_Clean.l0 k (l.map rc) true (wrap64 (((i + 1 : Nat) : Int) + 1)) else some false := fun k => by
      rw [chainmanref37_Clean.l0, if_pos (by rw [List.length_map]; omega), if_pos (by omega), wsub i (by omega), if_pos (by omega), if_pos (by rw [List.length_map]; omega), rds_at _ i (by rw [List.length_map]; omega), rds_at _ (i + 1) (by rw [List.length_map]; omega), List.getElem_map, List.getElem_map, rc_less _ _ (ho _ (List.getElem_mem _)) (ho _ (List.getElem_mem _))]
    by_cases h : lt l[i] l[i + 1] = true
    · obtain ⟨b, hb, hh⟩ := ih (i + 1) (by omega) (srt_step l i hlt hs h)
      refine ⟨b, Ev.step key (Ev.congr (fun k => if_pos h) ?_), hh⟩
      rw [wsucc (i + 1) (by omega)]
      exact hb
    · exact ⟨false, Ev.step key (Ev.congr (f := fun _ => some false) (fun k => if_neg h) (Ev.now _)), fun e => by cases e⟩
theorem refclean (l : List S47) (hl : l.length ≤ 1000) : ∃ b, Ev (fun k => chainmanref37_Clean.f k l) b ∧ (b = true → Good l) := by
  obtain ⟨s, ok, hs, hh⟩ := refrecs l hl l.length 0 [] (by omega) (by simp) (by simp)
  rcases hh with ⟨rfl, ho, rfl⟩ | ⟨rfl, rfl⟩
  · by_cases h0 : l.length = 0
    · refine ⟨true, Ev.bind hs ?_, fun _ => ?_⟩
      · refine Ev.step (f := fun _ => some true) (fun k => by show chainmanref37_Clean.l0 (k + 1) (l.map rc) true 1 = _; rw [chainmanref37_Clean.l0, if_neg (by rw [List.length_map]; omega)]) (Ev.now _)
      · obtain rfl := List.eq_nil_of_length_eq_zero h0
        exact ⟨List.Pairwise.nil, by simp, by simp⟩
    · obtain ⟨b, hb, hh⟩ := refloop l hl ho (l.length - 1) 0 (by omega) (by
        obtain ⟨x, l', rfl⟩ := List.exists_cons_of_length_pos (show 0 < l.length by omega)
        exact List.pairwise_singleton _ _)
      exact ⟨b, Ev.bind hs hb, fun h => ⟨hh h, ho, hl⟩⟩
  · refine ⟨false, Ev.bind hs ?_, fun h => by cases h⟩
    exact Ev.step (f := fun _ => some false) (fun k => by show chainmanref37_Clean.l0 (k + 1) [] false 1 = _; rw [chainmanref37_Clean.l0, if_neg (by simp)]) (Ev.now _)

/-! ### the program's side: clean pairs are told so -/
theorem rd2 (a b : Int) : rd [a, b] 0 = a ∧ rd [a, b] 1 = b := ⟨rfl, rfl⟩
theorem w0 : wrap64 (0 + 1) = 1 := by unfold wrap64; omega
theorem w1 : wrap64 (1 + 1) = 2 := by unfold wrap64; omega
theorem may_ev (x : S47) (h : Ok x) : Ev (fun k => rec_may.f k [x.f0, x.f1]) true := by
  obtain ⟨h0, h1, h2⟩ := h
  refine ⟨4, fun k hk => ?_⟩
  obtain ⟨k, rfl⟩ : ∃ m, k = m + 3 := ⟨k - 3, by omega⟩
  show rec_may.f (k + 3) [x.f0, x.f1] = _
  unfold rec_may.f
  rw [rec_may.l0, if_pos (by simp), if_pos (by omega), if_pos (by simp), (rd2 _ _).1, if_neg (by omega), if_neg (by omega), w0, rec_may.l0, if_pos (by simp), if_pos (by omega), if_pos (by simp), (rd2 _ _).2, if_neg (by omega), if_neg (by omega), w1, rec_may.l0, if_neg (by simp)]
theorem put4 (n : Int) (h0 : 0 ≤ n) (h1 : n < 1048576) : octet_Put.f n 4 = some (strOfNums (Oc.beN n.toNat 4), true) := by
  obtain ⟨m, rfl⟩ := Int.eq_ofNat_of_zero_le h0
  rw [Oc.put_bv _ _ (by omega), show (4 : Int) = ((4 : Nat) : Int) from rfl, putB_ok m 4 (by decide) (by decide) (by rw [show 256 ^ 4 = 4294967296 from rfl]; omega), Int.toNat_natCast]
theorem row_ev (x : S47) (h : Ok x) : Ev (fun k => rec_row.f k [x.f0, 4, x.f1, 4]) (rc x, true) := by
  obtain ⟨h0, h1, h2⟩ := h
  refine ⟨4, fun k hk => ?_⟩
  obtain ⟨k, rfl⟩ : ∃ m, k = m + 3 := ⟨k - 3, by omega⟩
  show rec_row.f (k + 3) [x.f0, 4, x.f1, 4] = _
  have e1 : wrap64 (0 + 1) = 1 := w0
  have e2 : wrap64 (0 + 2) = 2 := by unfold wrap64; omega
  have e3 : wrap64 (2 + 1) = 3 := by unfold wrap64; omega
  have e4 : wrap64 (2 + 2) = 4 := by unfold wrap64; omega
  have e5 : wrap64 (4 + 1) = 5 := by unfold wrap64; omega
  have r0 : rd [x.f0, 4, x.f1, 4] 0 = x.f0 := rfl
  have r1 : rd [x.f0, 4, x.f1, 4] 1 = 4 := rfl
  have r2 : rd [x.f0, 4, x.f1, 4] 2 = x.f1 := rfl
  have r3 : rd [x.f0, 4, x.f1, 4] 3 = 4 := rfl
  have s0 : (⟨#[]⟩ : ByteArray).size = 0 := rfl
  unfold rec_row.f
  rw [rec_row.l0, e1, if_pos (by simp), if_pos (by omega), if_pos (by simp), if_pos (by omega), r0, r1, put4 _ h0 (by omega), Option.bind_some, if_pos rfl, if_pos (by rw [be_size, s0]; decide), e2,
    rec_row.l0, e3, if_pos (by simp), if_pos (by omega), if_pos (by simp), if_pos (by omega), r2, r3, put4 _ (by omega) (by omega), Option.bind_some, if_pos rfl, if_pos (by rw [ByteArray.size_append, be_size, be_size, s0]; decide), e4,
    rec_row.l0, e5, if_neg (by simp)]
  have ee : (⟨#[]⟩ : ByteArray) ++ strOfNums (Oc.beN x.f0.toNat 4) = strOfNums (Oc.beN x.f0.toNat 4) := ByteArray.empty_append
  rw [ee]
  rfl
theorem pair_ev (x : S47) (h : Ok x) : Ev (fun k => rec_PutPair.f k x.f0 x.f1) (rc x, true) := by
  refine Ev.bind (may_ev x h) ?_
  refine Ev.congr (fun k => if_pos rfl) ?_
  refine Ev.congr (fun k => if_neg (by have := h.2.1; omega)) ?_
  exact Ev.bind (row_ev x h) (Ev.now _)
theorem cmp_f (x y : Int) : cmp_Compare_int.f x y = some (if x < y then -1 else if y < x then 1 else 0) := by
  simp [cmp_Compare_int.f, cmp_isNaN_int.f]
  by_cases h1 : x < y
  · rw [if_pos h1, if_pos h1]
  · rw [if_neg h1, if_neg h1]
    by_cases h2 : y < x
    · rw [if_pos h2, if_pos h2]
    · rw [if_neg h2, if_neg h2]
theorem or_ev (x y : Int) : Ev (fun k => cmp_Or_int.f k [x, y]) (if x = 0 then y else x) := by
  refine ⟨4, fun k hk => ?_⟩
  obtain ⟨k, rfl⟩ : ∃ m, k = m + 3 := ⟨k - 3, by omega⟩
  show cmp_Or_int.f (k + 3) [x, y] = _
  unfold cmp_Or_int.f
  rw [cmp_Or_int.l0, if_pos (by simp), if_pos (by omega), if_pos (by simp), (rd2 x y).1]
  by_cases h1 : x = 0
  · rw [if_pos h1, w0, cmp_Or_int.l0, if_pos (by simp), if_pos (by omega), if_pos (by simp), (rd2 x y).2, if_pos h1]
    by_cases h2 : y = 0
    · rw [if_pos h2, w1, cmp_Or_int.l0, if_neg (by simp), h2]
    · rw [if_neg h2]
  · rw [if_neg h1, if_neg h1]
theorem rises_ev (x y : S47) (h : lt x y = true) : Ev (fun k => pairfile_rises.f k x.f0 x.f1 y.f0 y.f1) true := by
  have hh := (lt_iff x y).1 h
  refine Ev.congr (f := fun k => (cmp_Or_int.f k [(if x.f0 < y.f0 then -1 else if y.f0 < x.f0 then 1 else 0), (if x.f1 < y.f1 then -1 else if y.f1 < x.f1 then 1 else 0)]).bind fun t => some (decide (t < 0))) (fun k => by unfold pairfile_rises.f; rw [cmp_f, Option.bind_some, cmp_f, Option.bind_some]) ?_
  have e : true = decide ((if (if x.f0 < y.f0 then (-1 : Int) else if y.f0 < x.f0 then 1 else 0) = 0 then (if x.f1 < y.f1 then (-1 : Int) else if y.f1 < x.f1 then 1 else 0) else (if x.f0 < y.f0 then (-1 : Int) else if y.f0 < x.f0 then 1 else 0)) < 0) := by
    refine (decide_eq_true ?_).symm
    rcases hh with h1 | ⟨h1, h2⟩
    · rw [if_pos h1, if_neg (show ¬ (-1 : Int) = 0 by decide)]; decide
    · rw [if_neg (show ¬ x.f0 < y.f0 by omega), if_neg (show ¬ y.f0 < x.f0 by omega), if_pos rfl, if_pos h2]; decide
  rw [e]
  exact Ev.bind (or_ev _ _) (Ev.now _)
theorem laid_ev (l : List S47) (hg : Good l) : ∀ (d i : Nat) (acc : List ByteArray), i + d = l.length → acc.length = i → ∃ s, Ev (fun k => pairfile_laid.l0 k l acc l (l.length : Int) (i : Int)) (s, true) := by
  obtain ⟨hs, ho, hl⟩ := hg
  intro d
  induction d with
  | zero =>
    intro i acc hi ha
    exact ⟨acc, Ev.step (f := fun _ => some (acc, true)) (fun k => by rw [pairfile_laid.l0, if_neg (by omega)]) (Ev.now _)⟩
  | succ d ih =>
    intro i acc hi ha
    have hlt : i < l.length := by omega
    obtain ⟨s, hs'⟩ := ih (i + 1) (acc ++ [rc l[i]]) (by omega) (by simp [ha])
    refine ⟨s, ?_⟩
    refine Ev.step (fun k => by rw [pairfile_laid.l0, if_pos (by omega), if_pos (by omega), if_pos (by omega), rd_at l i hlt]) ?_
    refine Ev.bind (pair_ev _ (ho _ (List.getElem_mem hlt))) ?_
    refine Ev.congr (fun k => if_pos rfl) ?_
    have e1 : wrap64 ((i : Int) + 1) = ((i + 1 : Nat) : Int) := wsucc i (by omega)
    cases i with
    | zero =>
      refine Ev.congr (fun k => if_neg (by omega)) ?_
      refine Ev.congr (fun k => if_pos (by omega)) ?_
      rw [e1]
      exact hs'
    | succ j =>
      refine Ev.congr (fun k => if_pos (by omega)) ?_
      have e2 : wrap64 (((j + 1 : Nat) : Int) - 1) = (j : Int) := wsub j (by omega)
      refine Ev.congr (fun k => by rw [e2, if_pos (by omega), if_pos (by omega), rd_at l j (by omega)]) ?_
      have hlt' : lt l[j] l[j + 1] = true := List.pairwise_iff_getElem.mp hs j (j + 1) (by omega) hlt (by omega)
      refine Ev.bind (rises_ev _ _ hlt') ?_
      refine Ev.congr (fun k => if_pos rfl) ?_
      refine Ev.congr (fun k => if_pos (by omega)) ?_
      rw [e1]
      exact hs'
theorem clean_ev (l : List S47) (hg : Good l) : Ev (fun k => pairfile_Clean.f k l) true := by
  obtain ⟨s, hs⟩ := laid_ev l hg l.length 0 [] (by omega) rfl
  refine Ev.bind (a := (s, true)) ?_ (Ev.now _)
  refine Ev.congr (fun k => by unfold pairfile_laid.f; rw [if_pos (by omega), if_pos (by have := hg.2.2; omega)]; rfl) hs

/-! ### the net of pairs, and its cores -/
abbrev Pr := S47
def ends (t : Int) (p : Pr) : List Int := if p.f0 = t then [p.f1] else if p.f1 = t then [p.f0] else []
def adj (l : List Pr) (t : Int) : List Int := l.flatMap (ends t)
def netF (n : Nat) (l : List Pr) : List (List Int) := (List.range n).map fun (t : Nat) => adj l (t : Int)
theorem netF_len (n : Nat) (l : List Pr) : (netF n l).length = n := by simp [netF]
theorem netF_at (n : Nat) (l : List Pr) (t : Nat) (h : t < n) : (netF n l).getD t [] = adj l (t : Int) := by
  unfold netF
  rw [List.getD_eq_getElem?_getD, List.getElem?_eq_getElem (by simp; exact h)]
  simp
theorem adj_snoc (l : List Pr) (p : Pr) (t : Int) : adj (l ++ [p]) t = adj l t ++ ends t p := by
  unfold adj; rw [List.flatMap_append]; simp
theorem adj_len (l : List Pr) (t : Int) : (adj l t).length ≤ l.length := by
  unfold adj
  induction l with
  | nil => exact Nat.le_refl _
  | cons p l ih =>
    rw [List.flatMap_cons, List.length_append, List.length_cons]
    have : (ends t p).length ≤ 1 := by unfold ends; split <;> (try split) <;> simp
    omega
theorem rdP (l : List Pr) (i : Nat) (h : i < l.length) : rd_T47 l (i : Int) = l[i] := by
  unfold rd_T47
  rw [Int.toNat_natCast, List.getD_eq_getElem?_getD, List.getElem?_eq_getElem h]; rfl
theorem rdR (l : List (List Int)) (i : Nat) : rd_L5 l (i : Int) = l.getD i [] := by unfold rd_L5; rw [Int.toNat_natCast]
theorem nsucc (i : Nat) (h : i < 1000000) : wrap64 ((i : Int) + 1) = ((i + 1 : Nat) : Int) := by unfold wrap64; omega
theorem net_step (n : Nat) (l : List Pr) (p : Pr) (h : Ok p) (h1 : p.f1 < n) : ((netF n l).set p.f0.toNat ((netF n l).getD p.f0.toNat [] ++ [p.f1])).set p.f1.toNat ((((netF n l).set p.f0.toNat ((netF n l).getD p.f0.toNat [] ++ [p.f1])).getD p.f1.toNat []) ++ [p.f0]) = netF n (l ++ [p]) := by
  obtain ⟨ha, hab, _⟩ := h
  obtain ⟨a, ea⟩ := Int.eq_ofNat_of_zero_le ha
  obtain ⟨b, eb⟩ := Int.eq_ofNat_of_zero_le (show 0 ≤ p.f1 by omega)
  have hlt : a < b := by omega
  have hb : b < n := by omega
  rw [ea, eb, Int.toNat_natCast, Int.toNat_natCast, netF_at n l a (by omega)]
  have e1 : ((netF n l).set a (adj l (a : Int) ++ [(b : Int)])).getD b [] = adj l (b : Int) := by
    rw [List.getD_eq_getElem?_getD, List.getElem?_set_ne (by omega), ← List.getD_eq_getElem?_getD, netF_at n l b hb]
  rw [e1]
  refine List.ext_getElem (by simp [netF_len]) (fun i h1 h2 => ?_)
  have hi : i < n := by simpa [netF_len] using h2
  have e2 : (netF n (l ++ [p]))[i]'h2 = adj l (i : Int) ++ ends (i : Int) p := by
    rw [← adj_snoc, ← netF_at n (l ++ [p]) i hi, List.getD_eq_getElem?_getD, List.getElem?_eq_getElem h2]; rfl
  have e3 : ∀ h, (netF n l)[i]'h = adj l (i : Int) := fun h => by
    rw [← netF_at n l i hi, List.getD_eq_getElem?_getD, List.getElem?_eq_getElem h]; rfl
  rw [e2, List.getElem_set]
  by_cases c1 : b = i
  · subst c1
    rw [if_pos rfl]
    unfold ends
    rw [if_neg (by omega), if_pos eb, ea]
  · rw [if_neg c1, List.getElem_set]
    by_cases c2 : a = i
    · subst c2
      rw [if_pos rfl]
      unfold ends
      rw [if_pos ea, eb]
    · rw [if_neg c2, e3]
      unfold ends
      rw [if_neg (by omega), if_neg (by omega), List.append_nil]
theorem of_loop (n : Nat) (hn : n ≤ 1000) (l : List Pr) (hl : l.length ≤ 1000) (ho : ∀ p ∈ l, Ok p) : ∀ d i : Nat, i + d = l.length → (∀ p ∈ l.take i, p.f1 < (n : Int)) →
    Ev (fun k => dense_of.l0 k (n : Int) (netF n (l.take i)) l (l.length : Int) (i : Int)) (if (∀ p ∈ l, p.f1 < (n : Int)) then (netF n l, true) else ([], false)) := by
  intro d
  induction d with
  | zero =>
    intro i hi hp
    obtain rfl : i = l.length := by omega
    rw [List.take_length] at hp ⊢
    rw [if_pos hp]
    exact Ev.step (f := fun _ => some _) (fun k => by rw [dense_of.l0, if_neg (by omega)]) (Ev.now _)
  | succ d ih =>
    intro i hi hp
    have hlt : i < l.length := by omega
    have hok := ho l[i] (List.getElem_mem hlt)
    by_cases hb : l[i].f1 < (n : Int)
    · have hp' : ∀ p ∈ l.take (i + 1), p.f1 < (n : Int) := fun p hpm => by
        rw [List.take_succ_eq_append_getElem hlt, List.mem_append, List.mem_singleton] at hpm
        rcases hpm with h | rfl
        · exact hp p h
        · exact hb
      have h := ih (i + 1) (by omega) hp'
      have hst := net_step n (l.take i) l[i] hok hb
      rw [List.take_succ_eq_append_getElem hlt, ← hst] at h
      refine Ev.step (fun k => ?_) h
      obtain ⟨ha, hab, _⟩ := hok
      have hal := fun t => adj_len (l.take i) t
      have hal' : (l.take i).length ≤ 1000 := by rw [List.length_take]; omega
      have g0 : ((netF n (l.take i)).getD l[i].f0.toNat []).length < 17592186044416 := by
        rw [netF_at n _ _ (by omega)]; have := hal (l[i].f0.toNat : Int); omega
      have g1 : ((((netF n (l.take i)).set l[i].f0.toNat ((netF n (l.take i)).getD l[i].f0.toNat [] ++ [l[i].f1])).getD l[i].f1.toNat [])).length < 17592186044416 := by
        rw [List.getD_eq_getElem?_getD, List.getElem?_set_ne (by omega), ← List.getD_eq_getElem?_getD, netF_at n _ _ (by omega)]; have := hal (l[i].f1.toNat : Int); omega
      have r0 : ∀ x : List (List Int), rd_L5 x l[i].f0 = x.getD l[i].f0.toNat [] := fun x => by
        obtain ⟨a, ea⟩ := Int.eq_ofNat_of_zero_le ha
        rw [ea, rdR, Int.toNat_natCast]
      have r1 : ∀ x : List (List Int), rd_L5 x l[i].f1 = x.getD l[i].f1.toNat [] := fun x => by
        obtain ⟨a, ea⟩ := Int.eq_ofNat_of_zero_le (show 0 ≤ l[i].f1 by omega)
        rw [ea, rdR, Int.toNat_natCast]
      rw [dense_of.l0, if_pos (by omega), if_pos (by omega), if_pos (by omega), rdP l i hlt, if_neg (by omega), if_pos ha, if_pos (by rw [netF_len]; omega), r0, if_pos g0, Option.bind_some, if_pos (by omega), if_pos (by rw [netF_len]; omega), r1, if_pos g1, nsucc i (by omega)]
    · rw [if_neg (fun h => hb (h _ (List.getElem_mem hlt)))]
      exact Ev.step (f := fun _ => some _) (fun k => by rw [dense_of.l0, if_pos (by omega), if_pos (by omega), if_pos (by omega), rdP l i hlt, if_pos (by omega)]) (Ev.now _)
theorem of_ev (n : Nat) (hn : n ≤ 1000) (l : List Pr) (hg : Good l) (m : Int) (hm : 0 ≤ m) : Ev (fun k => dense_of.f k l (n : Int) m) (if (∀ p ∈ l, p.f1 < (n : Int)) then (netF n l, true) else ([], false)) := by
  refine Ev.congr (fun k => by unfold dense_of.f; rw [if_neg (by omega), if_neg (by omega), if_neg (by omega)]) (Ev.bind (clean_ev l hg) ?_)
  have h := of_loop n hn l hg.2.2 hg.2.1 l.length 0 (by omega) (fun p hp => by simp at hp)
  refine Ev.step (fun k => ?_) h
  rw [dense_of.j0, if_neg (by simp), if_pos (by omega), if_pos (by omega), Int.toNat_natCast]
  have e : (List.replicate n [] : List (List Int)) = netF n (l.take 0) := by
    refine List.ext_getElem (by simp [netF_len]) (fun i h1 h2 => ?_)
    simp [netF, adj]
  rw [e]; rfl
def coresF (net : List (List Int)) (m : Int) : List Bool := net.map fun r => decide ((r.length : Int) ≥ m)
theorem cores_ev (net : List (List Int)) (hn : net.length ≤ 1000) (m : Int) : Ev (fun k => dense_net_cores.f k net m) (coresF net m) := by
  have loop : ∀ d i : Nat, i + d = net.length → Ev (fun k => dense_net_cores.l0 k m (coresF (net.take i) m ++ List.replicate d false) net (net.length : Int) (i : Int)) (coresF net m) := by
    intro d
    induction d with
    | zero =>
      intro i hi
      obtain rfl : i = net.length := by omega
      rw [List.take_length, List.replicate_zero, List.append_nil]
      exact Ev.step (f := fun _ => some _) (fun k => by rw [dense_net_cores.l0, if_neg (by omega)]) (Ev.now _)
    | succ d ih =>
      intro i hi
      have hlt : i < net.length := by omega
      have hcl : (coresF (net.take i) m).length = i := by unfold coresF; rw [List.length_map, List.length_take]; omega
      refine Ev.step (fun k => ?_) (ih (i + 1) (by omega))
      rw [dense_net_cores.l0, if_pos (by omega), if_pos (by omega), if_pos (by omega), if_pos (by rw [List.length_append, hcl, List.length_replicate]; omega), rdR, Int.toNat_natCast, nsucc i (by omega)]
      congr 1
      rw [List.set_append_right _ _ (by omega), hcl, Nat.sub_self, List.replicate_succ, List.set_cons_zero, List.take_succ_eq_append_getElem hlt]
      unfold coresF
      rw [List.map_append, List.append_assoc]
      congr 1
      rw [List.getD_eq_getElem?_getD, List.getElem?_eq_getElem hlt]; rfl
  refine Ev.congr (fun k => ?_) (loop net.length 0 (by omega))
  unfold dense_net_cores.f
  rw [if_pos (by omega), Int.toNat_natCast, if_pos (by omega)]; rfl

/-! ### the groups: the loops end, and what they hold -/
section
variable {core : List Bool} {net : List (List Int)}
/-- Each one's others are there. -/
def InR (net : List (List Int)) : Prop := net.length ≤ 1000 ∧ ∀ t, t < net.length → (net.getD t []).length ≤ 1000 ∧ ∀ o ∈ net.getD t [], 0 ≤ o ∧ o < (net.length : Int)
structure Inv (core : List Bool) (net : List (List Int)) (roots out : List Int) : Prop where
  len : out.length = net.length
  nd : roots.Nodup
  rt : ∀ r ∈ roots, 0 ≤ r ∧ r < (net.length : Int) ∧ rdOf false core r = true ∧ rd out r = r
  vals : ∀ x ∈ out, x = -1 ∨ x ∈ roots
def negs (out : List Int) : Nat := out.countP (fun x => decide (x < 0))
def Phi (s : List Int × List Int) : Nat := 2 * negs s.1 + s.2.length
theorem rdI (l : List Int) (i : Nat) (h : i < l.length) : rd l (i : Int) = l[i] := by
  unfold rd
  rw [Int.toNat_natCast, List.getD_eq_getElem?_getD, List.getElem?_eq_getElem h]; rfl
theorem rd_set_ne (l : List Int) (i j : Nat) (x : Int) (h : i ≠ j) : rd (l.set i x) (j : Int) = rd l (j : Int) := by
  unfold rd
  rw [Int.toNat_natCast, List.getD_eq_getElem?_getD, List.getElem?_set_ne h, List.getD_eq_getElem?_getD]
theorem rd_set_eq (l : List Int) (i : Nat) (x : Int) (h : i < l.length) : rd (l.set i x) (i : Int) = x := by
  rw [rdI _ i (by simpa using h), List.getElem_set_self]
theorem negs_set (out : List Int) (o : Nat) (g : Int) (h : o < out.length) (h1 : out[o] < 0) (h2 : 0 ≤ g) : negs (out.set o g) + 1 = negs out := by
  unfold negs
  rw [List.countP_set h]
  have hp : 0 < out.countP (fun x => decide (x < 0)) := List.countP_pos_iff.mpr ⟨out[o], List.getElem_mem h, by simpa using h1⟩
  rw [if_pos (by simpa using h1), if_neg (by simp; omega)]
  omega
theorem inv_put {roots out : List Int} (h : Inv core net roots out) (o g : Int) (h0 : 0 ≤ o) (h1 : o < (net.length : Int)) (hg : g ∈ roots) (hlt : rd out o < 0) : Inv core net roots (out.set o.toNat g) := by
  obtain ⟨m, rfl⟩ := Int.eq_ofNat_of_zero_le h0
  rw [Int.toNat_natCast]
  have hm : m < out.length := by rw [h.len]; omega
  refine ⟨by rw [List.length_set]; exact h.len, h.nd, fun r hr => ?_, fun x hx => ?_⟩
  · obtain ⟨r0, r1, r2, r3⟩ := h.rt r hr
    obtain ⟨q, rfl⟩ := Int.eq_ofNat_of_zero_le r0
    refine ⟨r0, r1, r2, ?_⟩
    rw [rd_set_ne _ _ _ _ (fun e => by rw [e] at hlt; omega)]; exact r3
  · rcases List.mem_or_eq_of_mem_set hx with h' | rfl
    · exact h.vals x h'
    · exact .inr hg
theorem rch_inv {roots : List Int} {s : List Int × List Int} (h : Inv core net roots s.1) (hs : ∀ o ∈ s.2, 0 ≤ o ∧ o < (net.length : Int)) (o g : Int) (h0 : 0 ≤ o) (h1 : o < (net.length : Int)) (hg : g ∈ roots) :
    Inv core net roots (dense_Groups.rch core g o s).1 ∧ (∀ o' ∈ (dense_Groups.rch core g o s).2, 0 ≤ o' ∧ o' < (net.length : Int)) ∧ Phi (dense_Groups.rch core g o s) ≤ Phi s := by
  unfold dense_Groups.rch
  by_cases hc : rdOf false core o = true ∧ rd s.1 o < 0
  · rw [if_pos hc]
    refine ⟨inv_put h o g h0 h1 hg hc.2, fun o' ho' => ?_, ?_⟩
    · rcases List.mem_append.mp ho' with h' | h'
      · exact hs o' h'
      · rw [List.mem_singleton.mp h']; exact ⟨h0, h1⟩
    · obtain ⟨m, rfl⟩ := Int.eq_ofNat_of_zero_le h0
      have hm : m < s.1.length := by rw [h.len]; omega
      have h2 := hc.2
      rw [rdI _ m hm] at h2
      have := negs_set s.1 m g hm h2 (h.rt g hg).1
      unfold Phi
      rw [Int.toNat_natCast]
      show 2 * negs (s.1.set m g) + (s.2 ++ [(m : Int)]).length ≤ _
      rw [List.length_append, List.length_singleton]
      omega
  · rw [if_neg hc]; exact ⟨h, hs, Nat.le_refl _⟩
theorem phi_le {roots : List Int} {s : List Int × List Int} (h : Inv core net roots s.1) : negs s.1 ≤ net.length := by
  rw [← h.len]; exact List.countP_le_length
theorem l2_ev (hR : InR net) {roots : List Int} (c : Int) (i : Nat) (hi : (i : Int) ∈ roots) (Q : List Int × Int → Prop) (φ : Nat) (hφ : φ ≤ 3000)
    (H1 : ∀ s : List Int × List Int, Inv core net roots s.1 → (∀ o ∈ s.2, 0 ≤ o ∧ o < (net.length : Int)) → Phi s ≤ φ → ∃ r, Ev (fun k => dense_Groups.l1 k core net s c i) r ∧ Q r) (t : Nat) (ht : t < net.length) :
    ∀ d j (s : List Int × List Int), j + d = (net.getD t []).length → Inv core net roots s.1 → (∀ o ∈ s.2, 0 ≤ o ∧ o < (net.length : Int)) → Phi s ≤ φ → ∃ r, Ev (fun k => dense_Groups.l2 k core net s c i t j) r ∧ Q r := by
  intro d
  induction d with
  | zero =>
    intro j s hj h hs hp
    obtain ⟨r, h1, h2⟩ := H1 s h hs hp
    exact ⟨r, Ev.step (fun k => by rw [dense_Groups.l2, if_neg (by omega)]) h1, h2⟩
  | succ d ih =>
    intro j s hj h hs hp
    have hjl : j < (net.getD t []).length := by omega
    obtain ⟨o0, o1⟩ := (hR.2 t ht).2 ((net.getD t [])[j]) (List.getElem_mem hjl)
    rw [← rdI _ j hjl] at o0 o1
    obtain ⟨a1, a2, a3⟩ := rch_inv h hs (rd (net.getD t []) (j : Int)) (i : Int) o0 o1 hi
    obtain ⟨r, h1, h2⟩ := ih (j + 1) (dense_Groups.rch core (i : Int) (rd (net.getD t []) (j : Int)) s) (by omega) a1 a2 (by omega)
    refine ⟨r, Ev.step (fun k => ?_) h1, h2⟩
    rw [dense_Groups.l2, if_pos hjl, if_pos ⟨o0, o1, by unfold Phi at hp; omega⟩]
theorem l1_ev (hR : InR net) {roots : List Int} (c : Int) (i : Nat) (hi : (i : Int) ∈ roots) (Q : List Int × Int → Prop)
    (H0 : ∀ out : List Int, Inv core net roots out → ∃ r, Ev (fun k => dense_Groups.l0 k core net out c (i + 1)) r ∧ Q r) :
    ∀ φ, φ ≤ 3000 → ∀ s : List Int × List Int, Inv core net roots s.1 → (∀ o ∈ s.2, 0 ≤ o ∧ o < (net.length : Int)) → Phi s ≤ φ → ∃ r, Ev (fun k => dense_Groups.l1 k core net s c i) r ∧ Q r := by
  intro φ
  induction φ with
  | zero =>
    intro _ s h hs hp
    obtain ⟨r, h1, h2⟩ := H0 s.1 h
    exact ⟨r, Ev.step (fun k => by rw [dense_Groups.l1, if_neg (by unfold Phi at hp; omega)]) h1, h2⟩
  | succ φ ih =>
    intro hφ s h hs hp
    by_cases h0 : 0 < s.2.length
    · obtain ⟨m, hm⟩ : ∃ m, s.2.length = m + 1 := ⟨s.2.length - 1, by omega⟩
      have e1 : ((s.2.length : Int) - 1) = (m : Int) := by omega
      have hml : m < s.2.length := by omega
      obtain ⟨o0, o1⟩ := hs s.2[m] (List.getElem_mem hml)
      rw [← rdI _ m hml] at o0 o1
      have hs' : ∀ o ∈ s.2.take (s.2.length - 1), 0 ≤ o ∧ o < (net.length : Int) := fun o ho => hs o (List.mem_of_mem_take ho)
      obtain ⟨r, h1, h2⟩ := l2_ev hR c i hi Q φ (by omega) (ih (by omega)) (rd s.2 (m : Int)).toNat (by omega) _ 0 (s.1, s.2.take (s.2.length - 1)) (Nat.zero_add _) h hs' (by
        unfold Phi at hp ⊢
        simp only [List.length_take]
        omega)
      refine ⟨r, Ev.step (fun k => ?_) h1, h2⟩
      rw [dense_Groups.l1, if_pos h0, e1, if_pos ⟨o0, o1⟩]
    · obtain ⟨r, h1, h2⟩ := H0 s.1 h
      exact ⟨r, Ev.step (fun k => by rw [dense_Groups.l1, if_neg h0]) h1, h2⟩
theorem least_ev (hc : core.length = net.length) (out : List Int) (ho : out.length = net.length) (row : List Int) (hl : row.length ≤ 1000) (hr : ∀ o ∈ row, 0 ≤ o ∧ o < (net.length : Int)) : ∃ x, Ev (fun k => dense_least.f k row core out) x ∧ (x = -1 ∨ x ∈ out) := by
  have loop : ∀ d j (x : Int), j + d = row.length → (x = -1 ∨ x ∈ out) → ∃ y, Ev (fun k => dense_least.l0 k core out x row (row.length : Int) (j : Int)) y ∧ (y = -1 ∨ y ∈ out) := by
    intro d
    induction d with
    | zero =>
      intro j x hj hx
      exact ⟨x, Ev.step (f := fun _ => some x) (fun k => by rw [dense_least.l0, if_neg (by omega)]) (Ev.now _), hx⟩
    | succ d ih =>
      intro j x hj hx
      have hjl : j < row.length := by omega
      obtain ⟨o0, o1⟩ := hr row[j] (List.getElem_mem hjl)
      rw [← rdI row j hjl] at o0 o1
      have hmem : rd out (rd row (j : Int)) ∈ out := by
        obtain ⟨q, hq⟩ := Int.eq_ofNat_of_zero_le o0
        rw [hq, rdI out q (by omega)]; exact List.getElem_mem _
      obtain ⟨y1, a1, a2⟩ := ih (j + 1) x (by omega) hx
      obtain ⟨y2, b1, b2⟩ := ih (j + 1) _ (by omega) (.inr hmem)
      by_cases c1 : rdOf false core (rd row (j : Int)) = true
      · by_cases c2 : x < 0
        · exact ⟨y2, Ev.step (fun k => by rw [dense_least.l0, if_pos (by omega), if_pos (by omega), if_pos (by omega), if_pos o0, if_pos (by omega), if_pos c1, if_pos c2, if_pos (by omega), nsucc j (by omega)]) b1, b2⟩
        · by_cases c3 : rd out (rd row (j : Int)) < x
          · exact ⟨y2, Ev.step (fun k => by rw [dense_least.l0, if_pos (by omega), if_pos (by omega), if_pos (by omega), if_pos o0, if_pos (by omega), if_pos c1, if_neg c2, if_pos (by omega), if_pos c3, nsucc j (by omega)]) b1, b2⟩
          · exact ⟨y1, Ev.step (fun k => by rw [dense_least.l0, if_pos (by omega), if_pos (by omega), if_pos (by omega), if_pos o0, if_pos (by omega), if_pos c1, if_neg c2, if_pos (by omega), if_neg c3, nsucc j (by omega)]) a1, a2⟩
      · exact ⟨y1, Ev.step (fun k => by rw [dense_least.l0, if_pos (by omega), if_pos (by omega), if_pos (by omega), if_pos o0, if_pos (by omega), if_neg c1, nsucc j (by omega)]) a1, a2⟩
  exact loop row.length 0 (-1) (by omega) (.inl rfl)
/-- What the groups are at the end: none, or one of some roots, each of which is there. -/
def Fin (net : List (List Int)) (r : List Int × Int) : Prop := ∃ roots : List Int, roots.Nodup ∧ r.1.length = net.length ∧ r.2 = (roots.length : Int) ∧ (∀ x ∈ r.1, x = -1 ∨ x ∈ roots) ∧ ∀ x ∈ roots, x ∈ r.1 ∧ 0 ≤ x ∧ x < (net.length : Int)
theorem l3_ev (hR : InR net) (hc : core.length = net.length) {roots : List Int} : ∀ d i (out : List Int), i + d = net.length → Inv core net roots out → ∃ r, Ev (fun k => dense_Groups.l3 k core net out (roots.length : Int) i) r ∧ Fin net r := by
  intro d
  induction d with
  | zero =>
    intro i out hi h
    refine ⟨(out, (roots.length : Int)), Ev.step (f := fun _ => some _) (fun k => by rw [dense_Groups.l3, if_neg (by omega)]) (Ev.now _), roots, h.nd, h.len, rfl, h.vals, fun x hx => ?_⟩
    obtain ⟨r0, r1, r2, r3⟩ := h.rt x hx
    refine ⟨?_, r0, r1⟩
    obtain ⟨q, rfl⟩ := Int.eq_ofNat_of_zero_le r0
    have hq : q < out.length := by rw [h.len]; omega
    rw [rdI out q hq] at r3
    rw [← r3]; exact List.getElem_mem _
  | succ d ih =>
    intro i out hi h
    by_cases c1 : rdOf false core (i : Int) = true
    · obtain ⟨r, h1, h2⟩ := ih (i + 1) out (by omega) h
      exact ⟨r, Ev.step (fun k => by rw [dense_Groups.l3, if_pos (by omega), if_pos c1]) h1, h2⟩
    · have hit : i < net.length := by omega
      obtain ⟨x, hx, hv⟩ := least_ev hc out h.len (net.getD i []) (hR.2 i hit).1 (hR.2 i hit).2
      have h' : Inv core net roots (out.set i x) := by
        refine ⟨by rw [List.length_set]; exact h.len, h.nd, fun r hr => ?_, fun y hy => ?_⟩
        · obtain ⟨r0, r1, r2, r3⟩ := h.rt r hr
          obtain ⟨q, rfl⟩ := Int.eq_ofNat_of_zero_le r0
          refine ⟨r0, r1, r2, ?_⟩
          rw [rd_set_ne _ _ _ _ (fun e => by rw [e] at c1; exact c1 r2)]; exact r3
        · rcases List.mem_or_eq_of_mem_set hy with h' | rfl
          · exact h.vals y h'
          · rcases hv with hv | hv
            · exact .inl hv
            · exact h.vals _ hv
      obtain ⟨r, h1, h2⟩ := ih (i + 1) _ (by omega) h'
      exact ⟨r, Ev.step (fun k => by rw [dense_Groups.l3, if_pos hit, if_neg c1]) (Ev.bind hx h1), h2⟩
theorem l0_ev (hR : InR net) (hc : core.length = net.length) : ∀ d i (out roots : List Int), i + d = net.length → Inv core net roots out → roots.length ≤ i → ∃ r, Ev (fun k => dense_Groups.l0 k core net out (roots.length : Int) i) r ∧ Fin net r := by
  intro d
  induction d with
  | zero =>
    intro i out roots hi h hr
    obtain ⟨r, h1, h2⟩ := l3_ev hR hc net.length 0 out (by omega) h
    exact ⟨r, Ev.step (fun k => by rw [dense_Groups.l0, if_neg (by omega)]) h1, h2⟩
  | succ d ih =>
    intro i out roots hi h hr
    have hit : i < net.length := by omega
    by_cases c1 : rdOf false core (i : Int) = true ∧ rd out (i : Int) < 0
    · have hio : i < out.length := by rw [h.len]; exact hit
      have hni : (i : Int) ∉ roots := fun hm => by have := (h.rt _ hm).2.2.2; omega
      have h' : Inv core net (roots ++ [(i : Int)]) (out.set i (i : Int)) := by
        refine ⟨by rw [List.length_set]; exact h.len, List.nodup_append.mpr ⟨h.nd, by simp, fun a ha b hb e => hni (by rw [List.mem_singleton.mp hb] at e; exact e ▸ ha)⟩, fun r hr => ?_, fun y hy => ?_⟩
        · rcases List.mem_append.mp hr with hr | hr
          · obtain ⟨r0, r1, r2, r3⟩ := h.rt r hr
            obtain ⟨q, rfl⟩ := Int.eq_ofNat_of_zero_le r0
            refine ⟨r0, r1, r2, ?_⟩
            rw [rd_set_ne _ _ _ _ (fun e => hni (by rw [e]; exact hr))]; exact r3
          · obtain rfl := List.mem_singleton.mp hr
            exact ⟨by omega, by omega, c1.1, rd_set_eq _ _ _ hio⟩
        · rcases List.mem_or_eq_of_mem_set hy with h' | rfl
          · rcases h.vals y h' with hv | hv
            · exact .inl hv
            · exact .inr (List.mem_append_left _ hv)
          · exact .inr (List.mem_append_right _ (List.mem_singleton.mpr rfl))
      have hrc : dense_Groups.rch core (i : Int) (i : Int) (out, []) = (out.set i (i : Int), [(i : Int)]) := by
        unfold dense_Groups.rch
        rw [if_pos c1, Int.toNat_natCast]; rfl
      have hw : wrap64 ((roots.length : Int) + 1) = (((roots ++ [(i : Int)]).length : Nat) : Int) := by
        rw [nsucc _ (by have := hR.1; omega), List.length_append, List.length_singleton]
      obtain ⟨r, h1, h2⟩ := l1_ev hR (((roots ++ [(i : Int)]).length : Nat) : Int) i (List.mem_append_right _ (List.mem_singleton.mpr rfl)) (Fin net) (fun out' h'' => ih (i + 1) out' _ (by omega) h'' (by rw [List.length_append, List.length_singleton]; omega)) 3000 (Nat.le_refl _) (out.set i (i : Int), [(i : Int)]) h' (fun o ho => by rw [List.mem_singleton.mp ho]; omega) (by
        unfold Phi
        have := phi_le (s := (out.set i (i : Int), [(i : Int)])) h'
        have := hR.1
        simp only [List.length_singleton] at *
        omega)
      refine ⟨r, Ev.step (fun k => ?_) h1, h2⟩
      rw [dense_Groups.l0, if_pos hit, if_pos c1, hrc, hw]
    · obtain ⟨r, h1, h2⟩ := ih (i + 1) out roots (by omega) h (by omega)
      exact ⟨r, Ev.step (fun k => by rw [dense_Groups.l0, if_pos hit, if_neg c1]) h1, h2⟩
theorem inv_start (core : List Bool) (net : List (List Int)) : Inv core net [] (List.replicate net.length (-1)) :=
  ⟨by simp, List.nodup_nil, fun r hr => by simp at hr, fun x hx => .inl (List.eq_of_mem_replicate hx)⟩
end
theorem net_inR (n : Nat) (hn : n ≤ 1000) (l : List Pr) (hg : Good l) (hb : ∀ p ∈ l, p.f1 < (n : Int)) : InR (netF n l) := by
  refine ⟨by rw [netF_len]; exact hn, fun t ht => ?_⟩
  rw [netF_len] at ht ⊢
  rw [netF_at n l t ht]
  refine ⟨Nat.le_trans (adj_len l _) hg.2.2, fun o ho => ?_⟩
  unfold adj at ho
  obtain ⟨p, hp, ho⟩ := List.mem_flatMap.mp ho
  obtain ⟨p0, p1, _⟩ := hg.2.1 p hp
  have := hb p hp
  unfold ends at ho
  split at ho
  · rw [List.mem_singleton.mp ho]; omega
  · split at ho
    · rw [List.mem_singleton.mp ho]; omega
    · cases ho
theorem groups_ev (n : Nat) (hn : n ≤ 1000) (l : List Pr) (hg : Good l) (m : Int) (hm : 0 ≤ m) : ∃ r net, Ev (fun k => dense_Groups.f k l (n : Int) m) r ∧ Fin net r ∧ net.length ≤ 1000 := by
  have h := of_ev n hn l hg m hm
  by_cases hb : ∀ p ∈ l, p.f1 < (n : Int)
  · rw [if_pos hb] at h
    have hR := net_inR n hn l hg hb
    have hcl : (coresF (netF n l) m).length = (netF n l).length := by simp [coresF]
    obtain ⟨r, h1, h2⟩ := l0_ev (core := coresF (netF n l) m) hR hcl (netF n l).length 0 _ [] (by omega) (inv_start _ _) (Nat.le_refl _)
    refine ⟨r, netF n l, ?_, h2, hR.1⟩
    refine Ev.bind h ?_
    refine Ev.congr (fun k => if_pos rfl) ?_
    refine Ev.bind (cores_ev (netF n l) hR.1 m) ?_
    exact Ev.congr (fun k => if_pos ⟨hcl, by have := hR.1; show (netF n l).length ≤ _; omega, by show ((netF n l).length : Int) = _; rw [netF_len]⟩) h1
  · rw [if_neg hb] at h
    refine ⟨([], 0), [], ?_, ⟨[], List.nodup_nil, rfl, rfl, fun x hx => by simp at hx, fun x hx => by simp at hx⟩, Nat.zero_le _⟩
    refine Ev.bind h ?_
    exact Ev.congr (fun k => if_neg (by simp)) (Ev.now _)

/-! ### the sizes add up -/
theorem cp_split (g : List Int) (x : Int) (K : List Int) (hx : x ∉ K) : g.countP (fun y => decide (0 ≤ y) && y == x) + g.countP (fun y => decide (0 ≤ y) && decide (y ∈ K)) = g.countP (fun y => decide (0 ≤ y) && decide (y ∈ x :: K)) := by
  induction g with
  | nil => rfl
  | cons y g ih =>
    rw [List.countP_cons, List.countP_cons, List.countP_cons, ← ih]
    by_cases h0 : 0 ≤ y
    · by_cases h1 : y = x
      · subst h1
        simp [h0, hx]; omega
      · by_cases h2 : y ∈ K
        · simp [h0, h1, h2]; omega
        · simp [h0, h1, h2]
    · simp [h0]
theorem sum_cnt (g : List Int) : ∀ K : List Int, K.Nodup → (K.map (fun x => g.countP (fun y => decide (0 ≤ y) && y == x))).sum = g.countP (fun y => decide (0 ≤ y) && decide (y ∈ K))
  | [], _ => by simp
  | x :: K, h => by
    obtain ⟨h1, h2⟩ := List.nodup_cons.mp h
    rw [List.map_cons, List.sum_cons, sum_cnt g K h2, cp_split g x K h1]
abbrev cn (g : List Int) (x : Int) : Nat := dense_Sizes.cnt g g.length x
theorem keys_nodup (g : List Int) : (dense_Sizes.keysOf g).Nodup := (List.mergeSort_perm _ _).nodup_iff.mpr (dense_Sizes.who_nodup g)
theorem keys_mem (g : List Int) (x : Int) : x ∈ dense_Sizes.keysOf g ↔ x ∈ g ∧ 0 ≤ x := ((List.mergeSort_perm _ _).mem_iff).trans (dense_Sizes.who_mem g x)
def nn (g : List Int) : Nat := g.countP (fun y => decide (0 ≤ y))
theorem sum_keys (g : List Int) : ((dense_Sizes.keysOf g).map (cn g)).sum = nn g := by
  have h := sum_cnt g (dense_Sizes.keysOf g) (keys_nodup g)
  have e : cn g = fun x => g.countP (fun y => decide (0 ≤ y) && y == x) := funext fun x => by
    show dense_Sizes.cnt g g.length x = _
    unfold dense_Sizes.cnt; rw [List.take_length]
  rw [e, h]
  unfold nn
  refine List.countP_congr (fun y hy => ?_)
  rw [Bool.and_eq_true, decide_eq_true_iff, decide_eq_true_iff, keys_mem]
  exact ⟨fun h => h.1, fun h => ⟨h, hy, h⟩⟩
theorem fin_len {net : List (List Int)} {r : List Int × Int} (h : Fin net r) : ((dense_Sizes.keysOf r.1).length : Int) = r.2 := by
  obtain ⟨roots, h1, h2, h3, h4, h5⟩ := h
  rw [h3]
  have : (dense_Sizes.keysOf r.1).Perm roots := by
    refine (List.perm_ext_iff_of_nodup (keys_nodup r.1) h1).mpr (fun x => ?_)
    rw [keys_mem]
    constructor
    · rintro ⟨a, b⟩
      rcases h4 x a with h | h
      · omega
      · exact h
    · intro a; exact ⟨(h5 x a).1, (h5 x a).2.1⟩
  rw [this.length_eq]
theorem sizes_ev {net : List (List Int)} {r : List Int × Int} (h : Fin net r) (hn : net.length ≤ 1000) : Ev (fun k => dense_Sizes.f k r.1) ((dense_Sizes.keysOf r.1).map fun g => (cn r.1 g : Int)) := by
  obtain ⟨roots, h1, h2, h3, h4, h5⟩ := h
  refine Ev.of (fun k => dense_Sizes.mono _ k) (k := 8) ?_
  unfold dense_Sizes.f
  rw [if_pos ⟨Nat.le_refl _, by omega, List.all_eq_true.mpr (fun x hx => decide_eq_true (by
    rcases h4 x hx with h | h
    · omega
    · have := (h5 x h).2.2; omega))⟩]
theorem awake_ev : Ev (fun k => chainmanlaw48_awake.f k) true := by
  refine Ev.bind (a := ([(⟨0, 1⟩ : Pr), ⟨1, 2⟩] : List Pr)) (Ev.now _) ?_
  refine Ev.bind (a := (([1, 1, 1] : List Int), (1 : Int))) (Ev.of (fun k => dense_Groups.mono _ _ _ k) (k := 30) (by kernel_rfl)) ?_
  refine Ev.bind (a := true) (Ev.of (fun k => chainmanref10_SameList.mono _ _ k) (k := 30) (by kernel_rfl)) ?_
  refine Ev.congr (fun k => by rw [if_pos rfl, if_pos rfl]) ?_
  have hk : dense_Sizes.keysOf [3, (-1), 0, 3] = [0, 3] := by
    have : dense_Sizes.who [3, (-1), 0, 3] = [0, 3] := by decide +kernel
    unfold dense_Sizes.keysOf
    rw [this]
    exact List.mergeSort_of_pairwise (by decide)
  refine Ev.bind (a := ([1, 2] : List Int)) (Ev.of (fun k => dense_Sizes.mono _ k) (k := 30) (by
    unfold dense_Sizes.f
    rw [if_pos (by decide +kernel), hk]
    decide +kernel)) ?_
  refine Ev.bind (a := true) (Ev.of (fun k => chainmanref10_SameList.mono _ _ k) (k := 30) (by kernel_rfl)) ?_
  refine Ev.congr (fun k => by rw [if_pos rfl]) ?_
  refine Ev.bind (a := ([] : List Int)) (Ev.of (fun k => dense_Degrees.mono _ _ k) (k := 30) (by kernel_rfl)) ?_
  exact Ev.now _
theorem u8_of {a : Int} (h : (Lit.int .u8 a).wf = true) : 0 ≤ a ∧ a < 256 := by
  simp only [Lit.wf] at h
  have e : IntKind.u8.min = 0 ∧ IntKind.u8.max = 255 := by decide
  rw [e.1, e.2, Bool.and_eq_true, decide_eq_true_iff, decide_eq_true_iff] at h
  omega
theorem DenseSizes : chainmanlaw48_DenseSizes.Pure := by
  intro l a1 a2 h w1 w2
  refine Ev.rounds ?_
  have aw : Ev (fun k => (chainmanlaw48_awake.f k).bind fun t => some t) true := Ev.bind awake_ev (Ev.now _)
  have jt : Ev (fun k => chainmanlaw48_DenseSizes.j0 k l a1 a2 true) true := Ev.step (fun k => by rw [chainmanlaw48_DenseSizes.j0, if_pos rfl]) aw
  by_cases h40 : (l.length : Int) > 40
  · exact Ev.congr (fun k => by unfold chainmanlaw48_DenseSizes.f; rw [if_pos h40]) jt
  obtain ⟨b, hb, hb'⟩ := refclean l (by omega)
  refine Ev.congr (fun k => by unfold chainmanlaw48_DenseSizes.f; rw [if_neg h40]) (Ev.bind hb ?_)
  cases b with
  | false => exact jt
  | true =>
  refine Ev.step (fun k => by rw [chainmanlaw48_DenseSizes.j0, if_neg (by decide)]) ?_
  have hg := hb' rfl
  have u1 := u8_of w1
  have u2 := u8_of w2
  have e1 : wrap64 a1 = a1 := by unfold wrap64; omega
  have e2 : wrap64 a2 = a2 := by unfold wrap64; omega
  obtain ⟨n, hn⟩ := Int.eq_ofNat_of_zero_le (Int.tmod_nonneg 60 u1.1)
  have hn60 : Int.tmod a1 60 < 60 := Int.tmod_lt_of_pos _ (by decide)
  have hm : 0 ≤ Int.tmod a2 10 := Int.tmod_nonneg 10 u2.1
  rw [e1, e2]
  obtain ⟨r, net, h1, h2, h3⟩ := groups_ev n (by omega) l hg _ hm
  rw [← hn] at h1
  refine Ev.bind h1 ?_
  refine Ev.bind (sizes_ev h2 h3) ?_
  have hlen : r.1.length ≤ 1000 := by obtain ⟨_, _, q, _⟩ := h2; omega
  have hN : nn r.1 ≤ 1000 := Nat.le_trans List.countP_le_length hlen
  have last : ∀ d i (c : Nat), i + d = r.1.length → c + nn (r.1.drop i) = nn r.1 → Ev (fun k => chainmanlaw48_DenseSizes.l1 k r.1 r.2 ((dense_Sizes.keysOf r.1).map fun g => (cn r.1 g : Int)) (nn r.1 : Int) (c : Int) (i : Int)) true := by
    intro d
    induction d with
    | zero =>
      intro i c hi hc
      obtain rfl : i = r.1.length := by omega
      rw [List.drop_length] at hc
      have hc' : c = nn r.1 := by rw [← hc]; rfl
      subst hc'
      exact Ev.step (fun k => by rw [chainmanlaw48_DenseSizes.l1, if_neg (by omega), if_pos rfl, List.length_map, if_pos (fin_len h2)]) aw
    | succ d ih =>
      intro i c hi hc
      have hlt : i < r.1.length := by omega
      rw [List.drop_eq_getElem_cons hlt] at hc
      unfold nn at hc
      rw [List.countP_cons] at hc
      have hc : c + (nn (r.1.drop (i + 1)) + if decide (0 ≤ r.1[i]) = true then 1 else 0) = nn r.1 := hc
      by_cases h0 : r.1[i] ≥ 0
      · rw [if_pos (decide_eq_true h0)] at hc
        refine Ev.step (fun k => ?_) (ih (i + 1) (c + 1) (by omega) (by omega))
        rw [chainmanlaw48_DenseSizes.l1, if_pos (by omega), if_pos (by omega), rdI _ i hlt, if_pos h0, nsucc i (by omega), nsucc c (by omega)]
      · rw [if_neg (by simpa using h0)] at hc
        refine Ev.step (fun k => ?_) (ih (i + 1) c (by omega) (by omega))
        rw [chainmanlaw48_DenseSizes.l1, if_pos (by omega), if_pos (by omega), rdI _ i hlt, if_neg h0, nsucc i (by omega)]
  have loop : ∀ d i (s : Nat), i + d = (dense_Sizes.keysOf r.1).length → s + (((dense_Sizes.keysOf r.1).drop i).map (cn r.1)).sum = nn r.1 → Ev (fun k => chainmanlaw48_DenseSizes.l0 k r.1 r.2 ((dense_Sizes.keysOf r.1).map fun g => (cn r.1 g : Int)) (s : Int) 0 (i : Int)) true := by
    have hkl : (dense_Sizes.keysOf r.1).length ≤ 1000 := Nat.le_trans (dense_Sizes.keys_le _) hlen
    intro d
    induction d with
    | zero =>
      intro i s hi hs
      obtain rfl : i = (dense_Sizes.keysOf r.1).length := by omega
      rw [List.drop_length] at hs
      have hs' : s = nn r.1 := by rw [← hs]; rfl
      subst hs'
      exact Ev.step (fun k => by rw [chainmanlaw48_DenseSizes.l0, if_neg (by rw [List.length_map]; omega)]; rfl) (last r.1.length 0 0 (by omega) (by simp))
    | succ d ih =>
      intro i s hi hs
      have hlt : i < (dense_Sizes.keysOf r.1).length := by omega
      rw [List.drop_eq_getElem_cons hlt, List.map_cons, List.sum_cons] at hs
      have hp : 0 < cn r.1 (dense_Sizes.keysOf r.1)[i] := (dense_Sizes.cnt_pos _ _).mpr ((List.mergeSort_perm _ _).mem_iff.mp (List.getElem_mem hlt))
      refine Ev.step (fun k => ?_) (ih (i + 1) (s + cn r.1 (dense_Sizes.keysOf r.1)[i]) (by omega) (by omega))
      have e : rd ((dense_Sizes.keysOf r.1).map fun g => (cn r.1 g : Int)) (i : Int) = (cn r.1 (dense_Sizes.keysOf r.1)[i] : Int) := by
        rw [rdI _ i (by rw [List.length_map]; exact hlt), List.getElem_map]
      have ew : wrap64 ((s : Int) + (cn r.1 (dense_Sizes.keysOf r.1)[i] : Int)) = ((s + cn r.1 (dense_Sizes.keysOf r.1)[i] : Nat) : Int) := by unfold wrap64; omega
      rw [chainmanlaw48_DenseSizes.l0, if_pos (by rw [List.length_map]; omega), if_pos (by omega), e, if_neg (by omega), ew, nsucc i (by omega)]
  exact loop _ 0 0 (Nat.zero_add _) (by rw [List.drop_zero, Nat.zero_add]; exact sum_keys r.1)

end Go.Proofs.Ytjjjafhchombcaa.Pure
