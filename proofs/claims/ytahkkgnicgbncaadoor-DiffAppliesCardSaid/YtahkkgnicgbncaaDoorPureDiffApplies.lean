/- Applied, an edit makes the one of the other; applied back, too; it has as many as are unlike, and none of what both have; for up to 30 clean pairs, twice (the law DiffApplies, over numbers and lists alone). -/
import Derived.Test.YtahkkgnicgbncaaDoorPDiffAppliesx10
import Derived.Lib.Strings
import Derived.Lib.ItoaNum
namespace Go.Proofs.YtahkkgnicgbncaaDoor.Pure
open Go.RowKit Go.Proofs.YtahkkgnicgbncaaDoor.PDiffApplies Go.Proofs.YtahkkgnicgbncaaDoorW.PrintWords Go.Proofs.YtahkkgnicgbncaaDoorW.PrintLast
set_option linter.unusedVariables false
set_option linter.unusedSimpArgs false
namespace Oc
/-! ### numbers as bytes -/
def beN (n k : Nat) : List Int := (List.range k).reverse.map fun i => ((n / 256 ^ i % 256 : Nat) : Int)
theorem beN_len (n k : Nat) : (beN n k).length = k := by simp [beN]
theorem beN_succ (n k : Nat) : beN n (k + 1) = ((n / 256 ^ k % 256 : Nat) : Int) :: beN n k := by
  unfold beN
  rw [List.range_succ, List.reverse_append]; rfl
theorem beN_range (n k : Nat) : ∀ x ∈ beN n k, 0 ≤ x ∧ x < 256 := by
  intro x hx
  obtain ⟨i, _, rfl⟩ := List.mem_map.1 hx
  have := Nat.mod_lt (n / 256 ^ i) (show 256 > 0 by decide)
  omega
def putB (n k : Int) : ByteArray × Bool := if n < 0 ∨ k < 1 ∨ 8 < k then (⟨#[]⟩, false) else if n.toNat < 256 ^ k.toNat then (strOfNums (beN n.toNat k.toNat), true) else (⟨#[]⟩, false)
theorem octs_be (n : Nat) : octet_Put.octs (n : Int) = beN n 8 := by
  have e7 : (n : Int) / 72057594037927936 % 256 = ((n / 256 ^ 7 % 256 : Nat) : Int) := by rw [show 256 ^ 7 = 72057594037927936 from rfl]; omega
  have e6 : (n : Int) / 281474976710656 % 256 = ((n / 256 ^ 6 % 256 : Nat) : Int) := by rw [show 256 ^ 6 = 281474976710656 from rfl]; omega
  have e5 : (n : Int) / 1099511627776 % 256 = ((n / 256 ^ 5 % 256 : Nat) : Int) := by rw [show 256 ^ 5 = 1099511627776 from rfl]; omega
  have e4 : (n : Int) / 4294967296 % 256 = ((n / 256 ^ 4 % 256 : Nat) : Int) := by rw [show 256 ^ 4 = 4294967296 from rfl]; omega
  have e3 : (n : Int) / 16777216 % 256 = ((n / 256 ^ 3 % 256 : Nat) : Int) := by rw [show 256 ^ 3 = 16777216 from rfl]; omega
  have e2 : (n : Int) / 65536 % 256 = ((n / 256 ^ 2 % 256 : Nat) : Int) := by rw [show 256 ^ 2 = 65536 from rfl]; omega
  have e1 : (n : Int) / 256 % 256 = ((n / 256 ^ 1 % 256 : Nat) : Int) := by rw [show 256 ^ 1 = 256 from rfl]; omega
  have e0 : (n : Int) % 256 = ((n / 256 ^ 0 % 256 : Nat) : Int) := by rw [show 256 ^ 0 = 1 from rfl]; omega
  unfold octet_Put.octs
  rw [e7, e6, e5, e4, e3, e2, e1, e0]
  rfl
theorem beN_take (m k : Nat) : ∀ j, m < 256 ^ (k + j) → ((((beN m (k + j)).take j).all (· == 0) = true) ↔ m < 256 ^ k) := by
  intro j
  induction j with
  | zero => intro h; simpa using h
  | succ j ih =>
    intro h
    have hp : 256 ^ (k + (j + 1)) = 256 ^ (k + j) * 256 := Nat.pow_succ ..
    have hx : m / 256 ^ (k + j) < 256 := Nat.div_lt_of_lt_mul (by omega)
    rw [show k + (j + 1) = (k + j) + 1 from rfl, beN_succ, List.take_succ_cons, List.all_cons, Bool.and_eq_true]
    have hz : ((((m / 256 ^ (k + j) % 256 : Nat) : Int) == 0) = true) ↔ m < 256 ^ (k + j) := by
      rw [beq_iff_eq, Nat.mod_eq_of_lt hx]
      constructor
      · intro e
        rcases Nat.lt_or_ge m (256 ^ (k + j)) with h' | h'
        · exact h'
        · have := Nat.div_pos h' (Nat.pow_pos (by decide)); omega
      · intro h'; rw [Nat.div_eq_of_lt h']; rfl
    rw [hz]
    constructor
    · rintro ⟨h1, h2⟩; exact (ih h1).1 h2
    · intro h1
      have : 256 ^ k ≤ 256 ^ (k + j) := Nat.pow_le_pow_right (by decide) (by omega)
      exact ⟨by omega, (ih (by omega)).2 h1⟩
theorem beN_drop (m k : Nat) : ∀ j, (beN m (k + j)).drop j = beN m k := by
  intro j
  induction j with
  | zero => rfl
  | succ j ih => rw [show k + (j + 1) = (k + j) + 1 from rfl, beN_succ, List.drop_succ_cons, ih]
theorem put_bv (n k : Int) (hn : n < 9223372036854775808) : octet_Put.f n k = some (putB n k) := by
  unfold octet_Put.f putB
  by_cases hb : n < 0 ∨ k < 1 ∨ 8 < k
  · rw [if_pos hb, if_pos hb]
  · rw [if_neg hb, if_neg hb]
    obtain ⟨m, rfl⟩ : ∃ m : Nat, n = (m : Int) := ⟨n.toNat, by omega⟩
    obtain ⟨q, rfl⟩ : ∃ q : Nat, k = (q : Int) := ⟨k.toNat, by omega⟩
    have hq8 : q ≤ 8 := by omega
    have hm : m < 256 ^ 8 := by have : 256 ^ 8 = 18446744073709551616 := by decide
                                omega
    have e8 : q + (8 - q) = 8 := by omega
    have h1 := beN_take m q (8 - q) (by rw [e8]; exact hm)
    have h2 := beN_drop m q (8 - q)
    rw [e8] at h1 h2
    rw [octs_be, Int.toNat_natCast, Int.toNat_natCast, show ((8 : Int) - (q : Int)).toNat = 8 - q from by omega, h2]
    by_cases hlt : m < 256 ^ q
    · rw [if_pos (h1.2 hlt), if_pos hlt]
    · rw [if_neg (fun h => hlt (h1.1 h)), if_neg hlt]
def numN (l : List UInt8) : Nat := l.foldl (fun n c => n * 256 + c.toNat) 0
theorem numN_snoc (l : List UInt8) (c : UInt8) : numN (l ++ [c]) = numN l * 256 + c.toNat := by
  unfold numN
  rw [List.foldl_append]; rfl
theorem snoc_ind (P : List UInt8 → Prop) (h0 : P []) (h1 : ∀ m c, P m → P (m ++ [c])) (l : List UInt8) : P l := by
  have : ∀ n (l : List UInt8), l.length = n → P l := by
    intro n
    induction n with
    | zero => intro l hl; rw [List.length_eq_zero_iff.1 hl]; exact h0
    | succ n ih =>
      intro l hl
      rcases List.eq_nil_or_concat l with rfl | ⟨m, c, rfl⟩
      · exact h0
      · rw [List.concat_eq_append] at hl ⊢
        exact h1 m c (ih m (by simpa using hl))
  exact this _ l rfl
theorem numN_lt (l : List UInt8) : numN l < 256 ^ l.length := by
  refine snoc_ind (fun l => numN l < 256 ^ l.length) (by decide) (fun m c ih => ?_) l
  rw [numN_snoc, List.length_append]
  have := c.toNat_lt
  have : 256 ^ (m.length + [c].length) = 256 ^ m.length * 256 := Nat.pow_succ ..
  omega
theorem ba_ext {s t : ByteArray} (h : s.data.toList = t.data.toList) : s = t := by
  cases s; cases t
  simp only [ByteArray.mk.injEq]
  exact Array.toList_inj.1 h
theorem ba_append (s t : ByteArray) : (s ++ t).data.toList = s.data.toList ++ t.data.toList := by
  rw [ByteArray.data_append, Array.toList_append]
theorem ba_size (s : ByteArray) : s.size = s.data.toList.length := by simp

/-! #### the document's bytes of a number -/
theorem wrap_succ (i : Nat) (h : i < 1000000000) : wrap64 ((i : Int) + 1) = ((i + 1 : Nat) : Int) := by unfold wrap64; omega
theorem stepq (q : Nat) (hq : q < 9223372036854775808) : Int.tmod (q : Int) 256 % 256 = ((q % 256 : Nat) : Int) ∧ wrap64 (Int.tdiv (q : Int) 256) = ((q / 256 : Nat) : Int) := by
  rw [Int.tmod_eq_emod_of_nonneg (Int.natCast_nonneg _), Int.tdiv_eq_ediv_of_nonneg (Int.natCast_nonneg _)]
  unfold wrap64
  omega
theorem beN_fits (x : Int) (n i : Nat) (h : i < 9) : (strOfNums [x]).size + (strOfNums (beN n i)).size ≤ 9223372036854775807 := by
  have h1 : (strOfNums [x]).size = 1 := strOfNums_size _
  have h2 : (strOfNums (beN n i)).size = i := (strOfNums_size _).trans (beN_len _ _)
  omega
theorem refl0 (n k : Nat) (hn : n < 9223372036854775808) : ∀ (r f i : Nat), i + r = k → r < f → k ≤ 8 →
    chainmanref02_Put.l0 f ((n / 256 ^ i : Nat) : Int) (k : Int) (strOfNums (beN n i)) (i : Int) = some (if n < 256 ^ k then (strOfNums (beN n k), true) else (⟨#[]⟩, false)) := by
  intro r
  induction r with
  | zero =>
    intro f i hi hf hk
    obtain ⟨f, rfl⟩ : ∃ m, f = m + 1 := ⟨f - 1, by omega⟩
    obtain rfl : i = k := by omega
    rw [chainmanref02_Put.l0, if_neg (by omega)]
    have hz : (0 < n / 256 ^ i) ↔ ¬ n < 256 ^ i := by
      have h := Nat.div_eq_zero_iff (a := n) (b := 256 ^ i)
      have hp : 256 ^ i ≠ 0 := Nat.ne_of_gt (Nat.pow_pos (by decide))
      constructor
      · intro h1 h2; have := Nat.div_eq_of_lt h2; omega
      · intro h1; exact Nat.div_pos (by omega) (Nat.pow_pos (by decide))
    by_cases h : n < 256 ^ i
    · rw [if_neg (by omega), if_pos h]
    · rw [if_pos (by omega), if_neg h]
  | succ r ih =>
    intro f i hi hf hk
    obtain ⟨f, rfl⟩ : ∃ m, f = m + 1 := ⟨f - 1, by omega⟩
    rw [chainmanref02_Put.l0, if_pos (by omega), Option.bind_some]
    have hsz : (strOfNums [((n / 256 ^ i % 256 : Nat) : Int)]).size + (strOfNums (beN n i)).size ≤ 9223372036854775807 := by
      exact beN_fits _ n i (by omega)
    have a1 : i + 1 + r = k := by omega
    have a2 : r < f := by omega
    have a3 : i < 1000000000 := by omega
    have hq : n / 256 ^ i ≤ n := Nat.div_le_self _ _
    obtain ⟨e1, e2⟩ := stepq (n / 256 ^ i) (Nat.lt_of_le_of_lt hq hn)
    rw [Nat.div_div_eq_div_mul, ← Nat.pow_succ] at e2
    have e3 : wrap64 ((i : Int) + 1) = ((i + 1 : Nat) : Int) := wrap_succ i a3
    have e4 : strOfNums [((n / 256 ^ i % 256 : Nat) : Int)] ++ strOfNums (beN n i) = strOfNums (beN n (i + 1)) := by
      apply ba_ext
      rw [ba_append, strOfNums_data, strOfNums_data, strOfNums_data, beN_succ]; rfl
    rw [e1, if_pos hsz, e2, e4, e3]
    exact ih f (i + 1) a1 a2 hk
theorem refput_bv (n k : Int) (f : Nat) (hf : 20 ≤ f) (hn : n < 9223372036854775808) : chainmanref02_Put.f f n k = some (putB n k) := by
  obtain ⟨f, rfl⟩ : ∃ m, f = m + 1 := ⟨f - 1, by omega⟩
  unfold chainmanref02_Put.f putB
  by_cases h1 : k < 1
  · rw [if_pos h1, if_pos (.inr (.inl h1)), chainmanref02_Put.j0, if_pos rfl]
  · rw [if_neg h1]
    by_cases h2 : k > 8
    · rw [if_pos h2, if_pos (.inr (.inr h2)), chainmanref02_Put.j0, if_pos rfl]
    · rw [if_neg h2]
      by_cases h3 : n < 0
      · rw [if_pos (.inl h3), chainmanref02_Put.j0, if_pos (decide_eq_true h3)]
      · rw [if_neg (by omega), chainmanref02_Put.j0, if_neg (by simpa using h3)]
        obtain ⟨m, rfl⟩ : ∃ m : Nat, n = (m : Int) := ⟨n.toNat, by omega⟩
        obtain ⟨j, rfl⟩ : ∃ j : Nat, k = (j : Int) := ⟨k.toNat, by omega⟩
        have h := refl0 m j (by omega) j f 0 (by omega) (by omega) (by omega)
        rw [Nat.pow_zero, Nat.div_one] at h
        rw [Int.toNat_natCast, Int.toNat_natCast]
        exact h

end Oc

/-! ### numbers' bytes, and texts one behind the other -/
def catL (l : List ByteArray) : List UInt8 := (l.map (·.data.toList)).flatten
theorem catL_cons (x : ByteArray) (l : List ByteArray) : catL (x :: l) = x.data.toList ++ catL l := by simp [catL]
theorem wsucc (i : Nat) (h : i < 1000000) : wrap64 ((i : Int) + 1) = ((i + 1 : Nat) : Int) := by unfold wrap64; omega
theorem numN_inj (l : List UInt8) : ∀ m : List UInt8, l.length = m.length → Oc.numN l = Oc.numN m → l = m := by
  refine Oc.snoc_ind (fun l => ∀ m : List UInt8, l.length = m.length → Oc.numN l = Oc.numN m → l = m) ?_ ?_ l
  · intro m h _; exact (List.eq_nil_of_length_eq_zero h.symm).symm
  · intro l c ih m hl hn
    rcases List.eq_nil_or_concat m with rfl | ⟨m', d, rfl⟩
    · simp at hl
    · rw [List.concat_eq_append] at hl hn ⊢
      rw [Oc.numN_snoc, Oc.numN_snoc] at hn
      have hc := c.toNat_lt; have hd := d.toNat_lt
      have e1 := ih m' (by simpa using hl) (by omega)
      have e2 : c = d := UInt8.toNat.inj (by omega)
      rw [e1, e2]
def beU (n k : Nat) : List UInt8 := (Oc.beN n k).map fun x => UInt8.ofNat x.toNat
theorem beU_data (n k : Nat) : (strOfNums (Oc.beN n k)).data.toList = beU n k := strOfNums_data _
theorem beU_len (n k : Nat) : (beU n k).length = k := by unfold beU; rw [List.length_map, Oc.beN_len]
theorem beU_succ (n k : Nat) : beU n (k + 1) = UInt8.ofNat (n / 256 ^ k % 256) :: beU n k := by
  unfold beU; rw [Oc.beN_succ, List.map_cons, Int.toNat_natCast]
/-- what comes back: the number's last k bytes -/
theorem numN_from (l : List UInt8) : ∀ a : Nat, l.foldl (fun n c => n * 256 + c.toNat) a = a * 256 ^ l.length + Oc.numN l := by
  induction l with
  | nil => intro a; simp [Oc.numN]
  | cons c l ih =>
    intro a
    have h1 : (c :: l).foldl (fun n c => n * 256 + c.toNat) a = l.foldl (fun n c => n * 256 + c.toNat) (a * 256 + c.toNat) := rfl
    have h2 : Oc.numN (c :: l) = l.foldl (fun n c => n * 256 + c.toNat) (0 * 256 + c.toNat) := rfl
    rw [h1, ih, h2, ih, List.length_cons, Nat.pow_succ, Nat.add_mul, Nat.zero_mul, Nat.zero_add, Nat.mul_assoc, Nat.mul_comm 256, Nat.add_assoc]
theorem numN_cons (c : UInt8) (l : List UInt8) : Oc.numN (c :: l) = c.toNat * 256 ^ l.length + Oc.numN l := by
  have h := numN_from l (0 * 256 + c.toNat)
  rw [Nat.zero_mul, Nat.zero_add] at h
  have h2 : Oc.numN (c :: l) = l.foldl (fun n c => n * 256 + c.toNat) (0 * 256 + c.toNat) := rfl
  rw [h2, Nat.zero_mul, Nat.zero_add]
  exact h
theorem numN_beU (n : Nat) : ∀ k, Oc.numN (beU n k) = n % 256 ^ k := by
  intro k
  induction k with
  | zero => show 0 = n % 1; rw [Nat.mod_one]
  | succ k ih =>
    have hb : (UInt8.ofNat (n / 256 ^ k % 256)).toNat = n / 256 ^ k % 256 := by
      rw [UInt8.toNat_ofNat']
      exact Nat.mod_mod_of_dvd _ (by decide)
    rw [beU_succ, numN_cons, ih, beU_len, hb, Nat.pow_succ, Nat.mod_mul, Nat.mul_comm (256 ^ k)]
    exact Nat.add_comm _ _

/-! ### ends -/
theorem putB_ok (n k : Nat) (hk : 1 ≤ k) (hk8 : k ≤ 8) (hn : n < 256 ^ k) : Oc.putB (n : Int) (k : Int) = (strOfNums (Oc.beN n k), true) := by
  unfold Oc.putB; rw [if_neg (by omega), Int.toNat_natCast, Int.toNat_natCast, if_pos hn]
theorem be_size (n k : Nat) : (strOfNums (Oc.beN n k)).size = k := (strOfNums_size _).trans (Oc.beN_len _ _)
theorem beU_num (l : List UInt8) : beU (Oc.numN l) l.length = l := by
  refine numN_inj _ _ (beU_len _ _) ?_
  rw [numN_beU, Nat.mod_eq_of_lt (Oc.numN_lt l)]
theorem num4 (L : List UInt8) (k : Nat) (h : L.length ≤ k) : Oc.numN L < 256 ^ k := Nat.lt_of_lt_of_le (Oc.numN_lt L) (Nat.pow_le_pow_right (by decide) h)
theorem take_len (L : List UInt8) (p k : Nat) (h : p + k ≤ L.length) : ((L.drop p).take k).length = k := by rw [List.length_take, List.length_drop]; omega

/-! ### lists in order, one beside the other -/
structure Lin {α : Type} (lt : α → α → Bool) : Prop where
  irr : ∀ a, lt a a = false
  tr : ∀ a b c, lt a b = true → lt b c = true → lt a c = true
  tri : ∀ a b, lt a b = false → lt b a = false → a = b
def Srt {α : Type} (lt : α → α → Bool) (l : List α) : Prop := l.Pairwise (fun a b => lt a b = true)
/-- Who comes next, and whether it is of the first and of the second. -/
def bs {α : Type} (lt : α → α → Bool) : List α → List α → List (α × Bool × Bool)
  | [], [] => []
  | a :: l, [] => (a, true, false) :: bs lt l []
  | [], b :: m => (b, false, true) :: bs lt [] m
  | a :: l, b :: m => if lt a b then (a, true, false) :: bs lt l (b :: m) else if lt b a then (b, false, true) :: bs lt (a :: l) m else (b, true, true) :: bs lt l m
termination_by l m => l.length + m.length
section
variable {α : Type} {lt : α → α → Bool}
theorem bs_ind (P : List α → List α → Prop) (h0 : P [] []) (h1 : ∀ a l, P l [] → P (a :: l) []) (h2 : ∀ b m, P [] m → P [] (b :: m)) (h3 : ∀ a l b m, P l (b :: m) → P (a :: l) m → P l m → P (a :: l) (b :: m)) : ∀ l m, P l m := by
  intro l
  induction l with
  | nil => intro m; induction m with
    | nil => exact h0
    | cons b m ih => exact h2 b m ih
  | cons a l ih => intro m; induction m with
    | nil => exact h1 a l (ih [])
    | cons b m ihm => exact h3 a l b m (ih (b :: m)) ihm (ih m)
theorem bs_mem (H : Lin lt) (x : α) : ∀ l m, x ∈ (bs lt l m).map (·.1) ↔ (x ∈ l ∨ x ∈ m) := by
  refine bs_ind _ ?_ ?_ ?_ ?_
  · simp [bs]
  · intro a l ih; simp only [bs, List.map_cons, List.mem_cons, ih]; simp
  · intro b m ih; simp only [bs, List.map_cons, List.mem_cons, ih]; simp
  · intro a l b m ih1 ih2 ih3
    rw [bs]
    cases h1 : lt a b with
    | true => rw [if_pos rfl, List.map_cons, List.mem_cons, ih1, List.mem_cons, List.mem_cons]; simp only [or_assoc]
    | false =>
      rw [if_neg (by decide)]
      cases h2 : lt b a with
      | true =>
        rw [if_pos rfl, List.map_cons, List.mem_cons, ih2, List.mem_cons, List.mem_cons]
        constructor
        · rintro (h | (h | h) | h)
          · exact .inr (.inl h)
          · exact .inl (.inl h)
          · exact .inl (.inr h)
          · exact .inr (.inr h)
        · rintro ((h | h) | (h | h))
          · exact .inr (.inl (.inl h))
          · exact .inr (.inl (.inr h))
          · exact .inl h
          · exact .inr (.inr h)
      | false =>
        have he := H.tri a b h1 h2
        subst he
        rw [if_neg (by decide), List.map_cons, List.mem_cons, ih3, List.mem_cons, List.mem_cons]
        constructor
        · rintro (h | h | h)
          · exact .inl (.inl h)
          · exact .inl (.inr h)
          · exact .inr (.inr h)
        · rintro ((h | h) | (h | h))
          · exact .inl h
          · exact .inr (.inl h)
          · exact .inl h
          · exact .inr (.inr h)
theorem srt_cons {a : α} {l : List α} : Srt lt (a :: l) ↔ (∀ x ∈ l, lt a x = true) ∧ Srt lt l := List.pairwise_cons
theorem bs_srt (H : Lin lt) : ∀ l m, Srt lt l → Srt lt m → Srt lt ((bs lt l m).map (·.1)) := by
  refine bs_ind _ ?_ ?_ ?_ ?_
  · intro _ _; simp [bs, Srt]
  · intro a l ih h k
    rw [bs, List.map_cons]
    refine srt_cons.2 ⟨fun x hx => ?_, ih (srt_cons.1 h).2 k⟩
    rcases (bs_mem H x l []).1 hx with h' | h'
    · exact (srt_cons.1 h).1 x h'
    · simp at h'
  · intro b m ih h k
    rw [bs, List.map_cons]
    refine srt_cons.2 ⟨fun x hx => ?_, ih h (srt_cons.1 k).2⟩
    rcases (bs_mem H x [] m).1 hx with h' | h'
    · simp at h'
    · exact (srt_cons.1 k).1 x h'
  · intro a l b m ih1 ih2 ih3 h k
    obtain ⟨ha, hl⟩ := srt_cons.1 h
    obtain ⟨hb, hm⟩ := srt_cons.1 k
    rw [bs]
    cases h1 : lt a b with
    | true =>
      rw [if_pos rfl, List.map_cons]
      refine srt_cons.2 ⟨fun x hx => ?_, ih1 hl k⟩
      rcases (bs_mem H x l (b :: m)).1 hx with h' | h'
      · exact ha x h'
      · rcases List.mem_cons.1 h' with rfl | h'
        · exact h1
        · exact H.tr _ _ _ h1 (hb x h')
    | false =>
      rw [if_neg (by decide)]
      cases h2 : lt b a with
      | true =>
        rw [if_pos rfl, List.map_cons]
        refine srt_cons.2 ⟨fun x hx => ?_, ih2 h hm⟩
        rcases (bs_mem H x (a :: l) m).1 hx with h' | h'
        · rcases List.mem_cons.1 h' with rfl | h'
          · exact h2
          · exact H.tr _ _ _ h2 (ha x h')
        · exact hb x h'
      | false =>
        have he := H.tri a b h1 h2
        subst he
        rw [if_neg (by decide), List.map_cons]
        refine srt_cons.2 ⟨fun x hx => ?_, ih3 hl hm⟩
        rcases (bs_mem H x l m).1 hx with h' | h'
        · exact ha x h'
        · exact hb x h'
theorem not_mem_of_lt (H : Lin lt) {a : α} {l : List α} (h : ∀ x ∈ l, lt a x = true) : a ∉ l := fun hm => by
  have := h a hm
  rw [H.irr] at this; cases this
theorem bs_flags (H : Lin lt) : ∀ l m, Srt lt l → Srt lt m → ∀ t ∈ bs lt l m, (t.2.1 = true ↔ t.1 ∈ l) ∧ (t.2.2 = true ↔ t.1 ∈ m) := by
  refine bs_ind _ ?_ ?_ ?_ ?_
  · intro _ _ t ht; simp [bs] at ht
  · intro a l ih h k t ht
    rw [bs] at ht
    rcases List.mem_cons.1 ht with rfl | ht
    · simp
    · have h1 := ih (srt_cons.1 h).2 k t ht
      have hx : t.1 ∈ l := ((bs_mem H t.1 l []).1 (List.mem_map_of_mem ht)).resolve_right (by simp)
      exact ⟨⟨fun _ => List.mem_cons_of_mem _ hx, fun _ => h1.1.2 hx⟩, h1.2⟩
  · intro b m ih h k t ht
    rw [bs] at ht
    rcases List.mem_cons.1 ht with rfl | ht
    · simp
    · have h1 := ih h (srt_cons.1 k).2 t ht
      have hx : t.1 ∈ m := ((bs_mem H t.1 [] m).1 (List.mem_map_of_mem ht)).resolve_left (by simp)
      exact ⟨h1.1, ⟨fun _ => List.mem_cons_of_mem _ hx, fun _ => h1.2.2 hx⟩⟩
  · intro a l b m ih1 ih2 ih3 h k t ht
    obtain ⟨ha, hl⟩ := srt_cons.1 h
    obtain ⟨hb, hm⟩ := srt_cons.1 k
    rw [bs] at ht
    cases h1 : lt a b with
    | true =>
      rw [h1, if_pos rfl] at ht
      rcases List.mem_cons.1 ht with rfl | ht
      · refine ⟨by simp, by simp, fun hm' => ?_⟩
        rcases List.mem_cons.1 hm' with e | e
        · have e : a = b := e; rw [e, H.irr] at h1; cases h1
        · have := H.tr _ _ _ h1 (hb a e); rw [H.irr] at this; cases this
      · have h2 := ih1 hl k t ht
        refine ⟨⟨fun q => List.mem_cons_of_mem _ (h2.1.1 q), fun q => ?_⟩, h2.2⟩
        rcases List.mem_cons.1 q with e | e
        · exfalso
          rcases (bs_mem H t.1 l (b :: m)).1 (List.mem_map_of_mem ht) with h' | h'
          · have := ha _ h'; rw [e, H.irr] at this; cases this
          · rcases List.mem_cons.1 h' with h' | h'
            · rw [← h', e, H.irr] at h1; cases h1
            · have := H.tr _ _ _ h1 (hb _ h'); rw [e, H.irr] at this; cases this
        · exact h2.1.2 e
    | false =>
      rw [h1, if_neg (by decide)] at ht
      cases h2 : lt b a with
      | true =>
        rw [h2, if_pos rfl] at ht
        rcases List.mem_cons.1 ht with rfl | ht
        · refine ⟨⟨by simp, fun hm' => ?_⟩, by simp⟩
          rcases List.mem_cons.1 hm' with e | e
          · have e : b = a := e; rw [e, H.irr] at h2; cases h2
          · have := H.tr _ _ _ h2 (ha b e); rw [H.irr] at this; cases this
        · have h3 := ih2 h hm t ht
          refine ⟨h3.1, ⟨fun q => List.mem_cons_of_mem _ (h3.2.1 q), fun q => ?_⟩⟩
          rcases List.mem_cons.1 q with e | e
          · exfalso
            rcases (bs_mem H t.1 (a :: l) m).1 (List.mem_map_of_mem ht) with h' | h'
            · rcases List.mem_cons.1 h' with h' | h'
              · rw [← h', e, H.irr] at h2; cases h2
              · have := H.tr _ _ _ h2 (ha _ h'); rw [e, H.irr] at this; cases this
            · have := hb _ h'; rw [e, H.irr] at this; cases this
          · exact h3.2.2 e
      | false =>
        have he := H.tri a b h1 h2
        subst he
        rw [h2, if_neg (by decide)] at ht
        rcases List.mem_cons.1 ht with rfl | ht
        · simp
        · have h3 := ih3 hl hm t ht
          have hne : t.1 ≠ a := fun e => by
            rcases (bs_mem H t.1 l m).1 (List.mem_map_of_mem ht) with h' | h'
            · have := ha _ h'; rw [e, H.irr] at this; cases this
            · have := hb _ h'; rw [e, H.irr] at this; cases this
          exact ⟨⟨fun q => List.mem_cons_of_mem _ (h3.1.1 q), fun q => h3.1.2 ((List.mem_cons.1 q).resolve_left hne)⟩, ⟨fun q => List.mem_cons_of_mem _ (h3.2.1 q), fun q => h3.2.2 ((List.mem_cons.1 q).resolve_left hne)⟩⟩
theorem srt_ext (H : Lin lt) : ∀ l m : List α, Srt lt l → Srt lt m → (∀ x, x ∈ l ↔ x ∈ m) → l = m := by
  intro l
  induction l with
  | nil => intro m _ _ h; cases m with
    | nil => rfl
    | cons b m => have := (h b).2 (by simp); simp at this
  | cons a l ih =>
    intro m hl hm h
    cases m with
    | nil => have := (h a).1 (by simp); simp at this
    | cons b m =>
      obtain ⟨ha, hl'⟩ := srt_cons.1 hl
      obtain ⟨hb, hm'⟩ := srt_cons.1 hm
      have hab : a = b := by
        rcases List.mem_cons.1 ((h a).1 (by simp)) with e | e
        · exact e
        · rcases List.mem_cons.1 ((h b).2 (by simp)) with e' | e'
          · exact e'.symm
          · have := H.tr _ _ _ (ha b e') (hb a e); rw [H.irr] at this; cases this
      subst hab
      refine congrArg _ (ih m hl' hm' (fun x => ⟨fun hx => ?_, fun hx => ?_⟩))
      · exact (List.mem_cons.1 ((h x).1 (List.mem_cons_of_mem _ hx))).resolve_left (fun e => not_mem_of_lt H ha (e ▸ hx))
      · exact (List.mem_cons.1 ((h x).2 (List.mem_cons_of_mem _ hx))).resolve_left (fun e => not_mem_of_lt H hb (e ▸ hx))
/-- Those of whom some of the two tells so. -/
def pick (lt : α → α → Bool) (q : Bool → Bool → Bool) (l m : List α) : List α := ((bs lt l m).filter (fun t => q t.2.1 t.2.2)).map (·.1)
theorem pick_srt (H : Lin lt) (q : Bool → Bool → Bool) (l m : List α) (hl : Srt lt l) (hm : Srt lt m) : Srt lt (pick lt q l m) := by
  have h := bs_srt H l m hl hm
  unfold pick
  exact List.Pairwise.sublist (List.Sublist.map _ List.filter_sublist) h
theorem pick_mem (H : Lin lt) (q : Bool → Bool → Bool) (l m : List α) (hl : Srt lt l) (hm : Srt lt m) (x : α) [DecidableEq α] : x ∈ pick lt q l m ↔ ((x ∈ l ∨ x ∈ m) ∧ q (decide (x ∈ l)) (decide (x ∈ m)) = true) := by
  unfold pick
  rw [List.mem_map]
  have key : ∀ t ∈ bs lt l m, t.2.1 = decide (t.1 ∈ l) ∧ t.2.2 = decide (t.1 ∈ m) := fun t ht => by
    have hf := bs_flags H l m hl hm t ht
    constructor
    · by_cases h : t.1 ∈ l
      · rw [decide_eq_true h]; exact hf.1.2 h
      · rw [decide_eq_false h]; exact Bool.eq_false_iff.2 (fun e => h (hf.1.1 e))
    · by_cases h : t.1 ∈ m
      · rw [decide_eq_true h]; exact hf.2.2 h
      · rw [decide_eq_false h]; exact Bool.eq_false_iff.2 (fun e => h (hf.2.1 e))
  constructor
  · rintro ⟨t, ht, rfl⟩
    obtain ⟨ht1, ht2⟩ := List.mem_filter.1 ht
    obtain ⟨k1, k2⟩ := key t ht1
    exact ⟨(bs_mem H t.1 l m).1 (List.mem_map_of_mem ht1), by rw [← k1, ← k2]; exact ht2⟩
  · rintro ⟨h1, h2⟩
    obtain ⟨t, ht, rfl⟩ := List.mem_map.1 ((bs_mem H x l m).2 h1)
    obtain ⟨k1, k2⟩ := key t ht
    exact ⟨t, List.mem_filter.2 ⟨ht, by rw [k1, k2]; exact h2⟩, rfl⟩
end

/-! ### an edit makes the one of the other -/
section
variable {α : Type} {lt : α → α → Bool}
def goneL (lt : α → α → Bool) (a b : List α) : List α := pick lt (fun _ s => !s) a b
def cameL (lt : α → α → Bool) (a b : List α) : List α := pick lt (fun f s => s && !f) a b
def restL (lt : α → α → Bool) (g l : List α) : List α := pick lt (fun f _ => !f) g l
def outL (lt : α → α → Bool) (g c l : List α) : List α := (bs lt (restL lt g l) c).map (·.1)
theorem gone_srt (H : Lin lt) {a b : List α} (ha : Srt lt a) (hb : Srt lt b) : Srt lt (goneL lt a b) := pick_srt H _ a b ha hb
theorem came_srt (H : Lin lt) {a b : List α} (ha : Srt lt a) (hb : Srt lt b) : Srt lt (cameL lt a b) := pick_srt H _ a b ha hb
theorem out_srt (H : Lin lt) {g c l : List α} (hg : Srt lt g) (hc : Srt lt c) (hl : Srt lt l) : Srt lt (outL lt g c l) := bs_srt H _ _ (pick_srt H _ g l hg hl) hc
theorem filter_len (q : α → Bool) (l : List α) : (l.filter (fun x => !q x)).length + (l.filter q).length = l.length := by
  induction l with
  | nil => rfl
  | cons x l ih =>
    simp only [List.filter_cons, List.length_cons]
    cases q x <;> simp <;> omega
end
section
variable {α : Type} {lt : α → α → Bool} [DecidableEq α]
theorem gone_mem (H : Lin lt) {a b : List α} (ha : Srt lt a) (hb : Srt lt b) (x : α) : x ∈ goneL lt a b ↔ (x ∈ a ∧ x ∉ b) := by
  unfold goneL
  rw [pick_mem H _ a b ha hb x]
  simp only [Bool.not_eq_true', decide_eq_false_iff_not]
  exact ⟨fun h => ⟨h.1.resolve_right h.2, h.2⟩, fun h => ⟨.inl h.1, h.2⟩⟩
theorem came_mem (H : Lin lt) {a b : List α} (ha : Srt lt a) (hb : Srt lt b) (x : α) : x ∈ cameL lt a b ↔ (x ∈ b ∧ x ∉ a) := by
  unfold cameL
  rw [pick_mem H _ a b ha hb x]
  simp only [Bool.and_eq_true, Bool.not_eq_true', decide_eq_false_iff_not, decide_eq_true_eq]
  exact ⟨fun h => h.2, fun h => ⟨.inr h.1, h⟩⟩
theorem rest_mem (H : Lin lt) {g l : List α} (hg : Srt lt g) (hl : Srt lt l) (x : α) : x ∈ restL lt g l ↔ (x ∈ l ∧ x ∉ g) := by
  unfold restL
  rw [pick_mem H _ g l hg hl x]
  simp only [Bool.not_eq_true', decide_eq_false_iff_not]
  exact ⟨fun h => ⟨h.1.resolve_left h.2, h.2⟩, fun h => ⟨.inr h.1, h.2⟩⟩
theorem out_mem (H : Lin lt) {g c l : List α} (hg : Srt lt g) (hl : Srt lt l) (x : α) : x ∈ outL lt g c l ↔ ((x ∈ l ∧ x ∉ g) ∨ x ∈ c) := by
  unfold outL
  rw [bs_mem H, rest_mem H hg hl]
theorem out_there (H : Lin lt) {a b : List α} (ha : Srt lt a) (hb : Srt lt b) : outL lt (goneL lt a b) (cameL lt a b) a = b := by
  refine srt_ext H _ _ (out_srt H (gone_srt H ha hb) (came_srt H ha hb) ha) hb (fun x => ?_)
  rw [out_mem H (gone_srt H ha hb) ha, gone_mem H ha hb, came_mem H ha hb]
  constructor
  · rintro (⟨h1, h2⟩ | h)
    · exact Classical.byContradiction fun h => h2 ⟨h1, h⟩
    · exact h.1
  · intro h
    by_cases hx : x ∈ a
    · exact .inl ⟨hx, fun q => q.2 h⟩
    · exact .inr ⟨h, hx⟩
theorem out_here (H : Lin lt) {a b : List α} (ha : Srt lt a) (hb : Srt lt b) : outL lt (cameL lt a b) (goneL lt a b) b = a := by
  refine srt_ext H _ _ (out_srt H (came_srt H ha hb) (gone_srt H ha hb) hb) ha (fun x => ?_)
  rw [out_mem H (came_srt H ha hb) hb, gone_mem H ha hb, came_mem H ha hb]
  constructor
  · rintro (⟨h1, h2⟩ | h)
    · exact Classical.byContradiction fun h => h2 ⟨h1, h⟩
    · exact h.1
  · intro h
    by_cases hx : x ∈ b
    · exact .inl ⟨hx, fun q => q.2 h⟩
    · exact .inr ⟨h, hx⟩
/-- What an edit must be to fit. -/
def fitsL (lt : α → α → Bool) (g c l : List α) : Bool := (bs lt g l).all (fun t => t.2.2) && (bs lt c l).all (fun t => !(t.2.1 && t.2.2))
theorem fits_mem (H : Lin lt) {g c l : List α} (hg : Srt lt g) (hc : Srt lt c) (hl : Srt lt l) (h1 : ∀ x ∈ g, x ∈ l) (h2 : ∀ x ∈ c, x ∉ l) : fitsL lt g c l = true := by
  unfold fitsL
  rw [Bool.and_eq_true]
  refine ⟨List.all_eq_true.2 (fun t ht => ?_), List.all_eq_true.2 (fun t ht => ?_)⟩
  · refine (bs_flags H g l hg hl t ht).2.2 ?_
    rcases (bs_mem H t.1 g l).1 (List.mem_map_of_mem ht) with h | h
    · exact h1 _ h
    · exact h
  · have hf := bs_flags H c l hc hl t ht
    rw [Bool.not_eq_true', Bool.and_eq_false_iff]
    by_cases hx : t.1 ∈ c
    · exact .inr (Bool.eq_false_iff.2 (fun e => h2 _ hx (hf.2.1 e)))
    · exact .inl (Bool.eq_false_iff.2 (fun e => hx (hf.1.1 e)))
theorem fits_there (H : Lin lt) {a b : List α} (ha : Srt lt a) (hb : Srt lt b) : fitsL lt (goneL lt a b) (cameL lt a b) a = true :=
  fits_mem H (gone_srt H ha hb) (came_srt H ha hb) ha (fun x hx => ((gone_mem H ha hb x).1 hx).1) (fun x hx => ((came_mem H ha hb x).1 hx).2)
theorem fits_here (H : Lin lt) {a b : List α} (ha : Srt lt a) (hb : Srt lt b) : fitsL lt (cameL lt a b) (goneL lt a b) b = true :=
  fits_mem H (came_srt H ha hb) (gone_srt H ha hb) hb (fun x hx => ((came_mem H ha hb x).1 hx).1) (fun x hx => ((gone_mem H ha hb x).1 hx).2)
theorem gone_self (H : Lin lt) {a : List α} (ha : Srt lt a) : goneL lt a a = [] ∧ cameL lt a a = [] := by
  constructor
  · exact List.eq_nil_iff_forall_not_mem.2 (fun x hx => ((gone_mem H ha ha x).1 hx).2 ((gone_mem H ha ha x).1 hx).1)
  · exact List.eq_nil_iff_forall_not_mem.2 (fun x hx => ((came_mem H ha ha x).1 hx).2 ((came_mem H ha ha x).1 hx).1)
theorem gone_filter (H : Lin lt) {a b : List α} (ha : Srt lt a) (hb : Srt lt b) : goneL lt a b = a.filter (fun x => decide (x ∉ b)) := by
  refine srt_ext H _ _ (gone_srt H ha hb) (List.Pairwise.sublist List.filter_sublist ha) (fun x => ?_)
  rw [gone_mem H ha hb, List.mem_filter, decide_eq_true_eq]
theorem came_filter (H : Lin lt) {a b : List α} (ha : Srt lt a) (hb : Srt lt b) : cameL lt a b = b.filter (fun x => decide (x ∉ a)) := by
  refine srt_ext H _ _ (came_srt H ha hb) (List.Pairwise.sublist List.filter_sublist hb) (fun x => ?_)
  rw [came_mem H ha hb, List.mem_filter, decide_eq_true_eq]
def bothL (a b : List α) : Nat := (a.map (fun x => (b.filter (fun y => decide (x = y))).length)).sum
theorem count_one (H : Lin lt) (x : α) : ∀ b : List α, Srt lt b → (b.filter (fun y => decide (x = y))).length = if x ∈ b then 1 else 0 := by
  intro b
  induction b with
  | nil => intro _; rfl
  | cons y b ih =>
    intro hb
    obtain ⟨h1, h2⟩ := srt_cons.1 hb
    rw [List.filter_cons]
    by_cases hxy : x = y
    · subst hxy
      have hn : x ∉ b := not_mem_of_lt H h1
      rw [if_pos (decide_eq_true rfl), List.length_cons, ih h2, if_neg hn, if_pos (by simp)]
    · rw [if_neg (by rw [decide_eq_false hxy]; decide), ih h2]
      by_cases hb' : x ∈ b
      · rw [if_pos hb', if_pos (by simp [hb'])]
      · rw [if_neg hb', if_neg (by simp [hxy, hb'])]
theorem both_len (H : Lin lt) (a b : List α) (hb : Srt lt b) : bothL a b = (a.filter (fun x => decide (x ∈ b))).length := by
  unfold bothL
  induction a with
  | nil => rfl
  | cons x a ih =>
    rw [List.map_cons, List.sum_cons, ih, count_one H x b hb, List.filter_cons]
    by_cases hx : x ∈ b
    · rw [if_pos hx, if_pos (decide_eq_true hx), List.length_cons]; omega
    · rw [if_neg hx, if_neg (by rw [decide_eq_false hx]; decide)]; omega
theorem gone_len (H : Lin lt) {a b : List α} (ha : Srt lt a) (hb : Srt lt b) : (goneL lt a b).length + bothL a b = a.length := by
  rw [gone_filter H ha hb, both_len H a b hb]
  have := filter_len (fun x => decide (x ∈ b)) a
  have e : (fun x => decide (x ∉ b)) = (fun x => !decide (x ∈ b)) := by funext x; simp
  rw [e]; exact this
/-- The order of the two does not matter. -/
theorem common (H : Lin lt) {a b : List α} (ha : Srt lt a) (hb : Srt lt b) : a.filter (fun x => decide (x ∈ b)) = b.filter (fun x => decide (x ∈ a)) := by
  refine srt_ext H _ _ (List.Pairwise.sublist List.filter_sublist ha) (List.Pairwise.sublist List.filter_sublist hb) (fun x => ?_)
  rw [List.mem_filter, List.mem_filter, decide_eq_true_eq, decide_eq_true_eq]
  exact ⟨fun h => ⟨h.2, h.1⟩, fun h => ⟨h.2, h.1⟩⟩
theorem came_len (H : Lin lt) {a b : List α} (ha : Srt lt a) (hb : Srt lt b) : (cameL lt a b).length + bothL a b = b.length := by
  rw [came_filter H ha hb, both_len H a b hb, common H ha hb]
  have := filter_len (fun x => decide (x ∈ a)) b
  have e : (fun x => decide (x ∉ a)) = (fun x => !decide (x ∈ a)) := by funext x; simp
  rw [e]; exact this
end

/-! ### pairs: which may be, and in which order -/
def lt : S33 → S33 → Bool := diff_beside.lt
theorem lt_iff (a b : S33) : lt a b = true ↔ (a.f0 < b.f0 ∨ (a.f0 = b.f0 ∧ a.f1 < b.f1)) := by
  unfold lt diff_beside.lt
  exact decide_eq_true_iff
theorem s33_ext {a b : S33} (h0 : a.f0 = b.f0) (h1 : a.f1 = b.f1) : a = b := by
  cases a; cases b; simp only at h0 h1; subst h0 h1; rfl
theorem lin : Lin lt where
  irr := fun a => Bool.eq_false_iff.2 (fun h => by have := (lt_iff a a).1 h; omega)
  tr := fun a b c h k => (lt_iff a c).2 (by have h := (lt_iff a b).1 h; have k := (lt_iff b c).1 k; omega)
  tri := fun a b h k => by
    have h' : ¬ (a.f0 < b.f0 ∨ (a.f0 = b.f0 ∧ a.f1 < b.f1)) := fun e => by rw [(lt_iff a b).2 e] at h; cases h
    have k' : ¬ (b.f0 < a.f0 ∨ (b.f0 = a.f0 ∧ b.f1 < a.f1)) := fun e => by rw [(lt_iff b a).2 e] at k; cases k
    exact s33_ext (by omega) (by omega)
theorem bs_eq (l m : List S33) : diff_beside.bs diff_beside.lt l m = bs lt l m := by
  refine bs_ind (fun l m => diff_beside.bs diff_beside.lt l m = bs lt l m) ?_ ?_ ?_ ?_ l m
  · rw [diff_beside.bs, bs]
  · intro a l ih; rw [diff_beside.bs, bs, ih]
  · intro b m ih; rw [diff_beside.bs, bs, ih]
  · intro a l b m i1 i2 i3
    rw [diff_beside.bs, bs, i1, i2, i3]
    rfl
instance : DecidableEq S33 := fun a b => if h : a.f0 = b.f0 ∧ a.f1 = b.f1 then isTrue (s33_ext h.1 h.2) else isFalse (fun e => h ⟨by rw [e], by rw [e]⟩)
/-- A pair that may be. -/
def Ok (x : S33) : Prop := 0 ≤ x.f0 ∧ x.f0 < x.f1 ∧ x.f1 < 1048576
def Good (l : List S33) : Prop := Srt lt l ∧ (∀ x ∈ l, Ok x) ∧ l.length ≤ 1000
/-- Its record. -/
def rc (x : S33) : ByteArray := strOfNums (Oc.beN x.f0.toNat 4) ++ strOfNums (Oc.beN x.f1.toNat 4)
theorem numN_app (l m : List UInt8) : Oc.numN (l ++ m) = Oc.numN l * 256 ^ m.length + Oc.numN m := by
  show (l ++ m).foldl (fun n c => n * 256 + c.toNat) 0 = _
  rw [List.foldl_append]
  exact numN_from m _
theorem less_num (l : List UInt8) : ∀ m : List UInt8, l.length = m.length → (Op.bytesLess l m = true ↔ Oc.numN l < Oc.numN m) := by
  induction l with
  | nil =>
    intro m h
    cases m with
    | nil => exact ⟨fun h => (by cases h), fun h => absurd h (Nat.lt_irrefl _)⟩
    | cons _ _ => cases h
  | cons a l ih =>
    intro m h
    cases m with
    | nil => cases h
    | cons b m =>
      have h' : l.length = m.length := by simpa using h
      have hl := Oc.numN_lt l
      have hm := Oc.numN_lt m
      rw [numN_cons, numN_cons, h']
      rw [h'] at hl
      show (decide (a < b) || (a == b && Op.bytesLess l m)) = true ↔ _
      rw [Bool.or_eq_true, Bool.and_eq_true, ih m h', decide_eq_true_iff, beq_iff_eq, UInt8.lt_iff_toNat_lt, ← UInt8.toNat_inj]
      generalize 256 ^ m.length = p at hl hm
      generalize Oc.numN l = x at hl ⊢
      generalize Oc.numN m = y at hm ⊢
      generalize a.toNat = u
      generalize b.toNat = v
      constructor
      · rintro (h1 | ⟨h1, h2⟩)
        · have : (u + 1) * p ≤ v * p := Nat.mul_le_mul_right p h1
          rw [Nat.add_mul, Nat.one_mul] at this
          omega
        · rw [h1]; omega
      · intro h1
        rcases Nat.lt_trichotomy u v with h2 | h2 | h2
        · exact .inl h2
        · rw [h2] at h1; exact .inr ⟨h2, by omega⟩
        · have : (v + 1) * p ≤ u * p := Nat.mul_le_mul_right p h2
          rw [Nat.add_mul, Nat.one_mul] at this
          omega
theorem rc_data (x : S33) : (rc x).data.toList = beU x.f0.toNat 4 ++ beU x.f1.toNat 4 := by
  unfold rc
  rw [Oc.ba_append, beU_data, beU_data]
theorem rc_num (x : S33) (h : Ok x) : Oc.numN (rc x).data.toList = x.f0.toNat * 4294967296 + x.f1.toNat := by
  obtain ⟨h0, h1, h2⟩ := h
  rw [rc_data, numN_app, beU_len, numN_beU, numN_beU, show 256 ^ 4 = 4294967296 from rfl, Nat.mod_eq_of_lt (by omega), Nat.mod_eq_of_lt (by omega)]
theorem rc_less (x y : S33) (hx : Ok x) (hy : Ok y) : Op.bytesLess (rc x).toList (rc y).toList = lt x y := by
  have h := less_num (rc x).toList (rc y).toList (by rw [ByteArray.toList_eq, ByteArray.toList_eq, rc_data, rc_data, List.length_append, List.length_append, beU_len, beU_len, beU_len, beU_len])
  have e1 := rc_num x hx
  have e2 := rc_num y hy
  rw [ByteArray.toList_eq, ByteArray.toList_eq] at h ⊢
  rw [e1, e2] at h
  clear e1 e2
  obtain ⟨a0, a1, a2⟩ := hx
  obtain ⟨b0, b1, b2⟩ := hy
  refine Bool.eq_iff_iff.mpr (h.trans ?_)
  rw [lt_iff]
  obtain ⟨u, hu⟩ := Int.eq_ofNat_of_zero_le a0
  obtain ⟨v, hv⟩ := Int.eq_ofNat_of_zero_le (show 0 ≤ x.f1 by omega)
  obtain ⟨u', hu'⟩ := Int.eq_ofNat_of_zero_le b0
  obtain ⟨v', hv'⟩ := Int.eq_ofNat_of_zero_le (show 0 ≤ y.f1 by omega)
  rw [hu, hv, hu', hv', Int.toNat_natCast, Int.toNat_natCast, Int.toNat_natCast, Int.toNat_natCast]
  omega
/-! ### the document's side: whether pairs are clean -/
theorem refid (n : Int) : chainmanref14_id.f n = some (decide (0 ≤ n ∧ n < 1048576)) := by
  unfold chainmanref14_id.f
  by_cases h : n ≥ 0
  · rw [if_pos h]; congr 1; exact decide_eq_decide.2 ⟨fun k => ⟨h, k⟩, fun k => k.2⟩
  · rw [if_neg h, decide_eq_false (by omega)]
theorem must4 (n : Int) (h0 : 0 ≤ n) (h1 : n < 1048576) : Ev (fun q => chainmanref02_Must.f q n 4) (strOfNums (Oc.beN n.toNat 4)) := by
  obtain ⟨m, rfl⟩ := Int.eq_ofNat_of_zero_le h0
  rw [Int.toNat_natCast]
  refine ⟨20, fun q hq => ?_⟩
  show chainmanref02_Must.f q (m : Int) 4 = _
  unfold chainmanref02_Must.f
  rw [Oc.refput_bv _ _ q hq (by omega), Option.bind_some, show (4 : Int) = ((4 : Nat) : Int) from rfl, putB_ok m 4 (by decide) (by decide) (by rw [show 256 ^ 4 = 4294967296 from rfl]; omega)]
theorem refpair (x : S33) : ∃ s ok, Ev (fun k => chainmanref14_PutPair.f k x.f0 x.f1) (s, ok) ∧ (ok = true → Ok x ∧ s = rc x) := by
  have no : Ev (fun k => chainmanref14_PutPair.j0 k true x.f0 x.f1) ((⟨#[]⟩ : ByteArray), false) := Ev.step (f := fun _ => some ((⟨#[]⟩ : ByteArray), false)) (fun k => by rw [chainmanref14_PutPair.j0, if_pos rfl]) (Ev.now _)
  by_cases h0 : 0 ≤ x.f0 ∧ x.f0 < 1048576
  · by_cases h1 : 0 ≤ x.f1 ∧ x.f1 < 1048576
    · by_cases h2 : x.f0 ≥ x.f1
      · refine ⟨⟨#[]⟩, false, ?_, fun h => by cases h⟩
        refine Ev.congr (fun k => ?_) no
        unfold chainmanref14_PutPair.f
        rw [refid, Option.bind_some, if_pos (decide_eq_true h0), refid, Option.bind_some, if_pos (decide_eq_true h1), decide_eq_true h2]
      · refine ⟨rc x, true, ?_, fun _ => ⟨⟨h0.1, by omega, h1.2⟩, rfl⟩⟩
        refine Ev.congr (f := fun k => chainmanref14_PutPair.j0 k false x.f0 x.f1) (fun k => ?_) ?_
        · unfold chainmanref14_PutPair.f
          rw [refid, Option.bind_some, if_pos (decide_eq_true h0), refid, Option.bind_some, if_pos (decide_eq_true h1), decide_eq_false h2]
        · refine Ev.step (fun k => by rw [chainmanref14_PutPair.j0, if_neg (by decide)]) ?_
          refine Ev.bind (must4 _ h0.1 h0.2) ?_
          refine Ev.bind (must4 _ h1.1 h1.2) ?_
          refine Ev.congr (f := fun _ => some (rc x, true)) (fun k => if_pos (by rw [be_size, be_size]; decide)) (Ev.now _)
    · refine ⟨⟨#[]⟩, false, ?_, fun h => by cases h⟩
      refine Ev.congr (fun k => ?_) no
      unfold chainmanref14_PutPair.f
      rw [refid, Option.bind_some, if_pos (decide_eq_true h0), refid, Option.bind_some, if_neg (by rw [decide_eq_false h1]; decide)]
  · refine ⟨⟨#[]⟩, false, ?_, fun h => by cases h⟩
    refine Ev.congr (fun k => ?_) no
    unfold chainmanref14_PutPair.f
    rw [refid, Option.bind_some, if_neg (by rw [decide_eq_false h0]; decide)]
theorem rd_at (l : List S33) (i : Nat) (h : i < l.length) : rd_T33 l (i : Int) = l[i] := by
  unfold rd_T33
  rw [Int.toNat_natCast, List.getD_eq_getElem?_getD, List.getElem?_eq_getElem h]; rfl
theorem rds_at (l : List ByteArray) (i : Nat) (h : i < l.length) : rdOf ByteArray.empty l (i : Int) = l[i] := by
  unfold rdOf
  rw [Int.toNat_natCast, List.getD_eq_getElem?_getD, List.getElem?_eq_getElem h]; rfl
theorem wsub (i : Nat) (h : i < 1000000) : wrap64 (((i + 1 : Nat) : Int) - 1) = (i : Int) := by unfold wrap64; omega
theorem refrecs (l : List S33) (hl : l.length ≤ 1000) : ∀ (d i : Nat) (acc : List ByteArray), i + d = l.length → acc = (l.take i).map rc → (∀ x ∈ l.take i, Ok x) →
    ∃ s ok, Ev (fun k => chainmanref37_records.l0 k l acc (i : Int)) (s, ok) ∧ ((ok = true ∧ (∀ x ∈ l, Ok x) ∧ s = l.map rc) ∨ (ok = false ∧ s = [])) := by
  intro d
  induction d with
  | zero =>
    intro i acc hi ha ho
    rw [List.take_of_length_le (by omega)] at ha ho
    refine ⟨acc, true, Ev.step (f := fun _ => some (acc, true)) (fun k => by rw [chainmanref37_records.l0, if_neg (by omega)]) (Ev.now _), .inl ⟨rfl, ho, ha⟩⟩
  | succ d ih =>
    intro i acc hi ha ho
    have hlt : i < l.length := by omega
    obtain ⟨s, ok, hs, hok⟩ := refpair l[i]
    have key : ∀ k, chainmanref37_records.l0 (k + 1) l acc (i : Int) = (chainmanref14_PutPair.f k l[i].f0 l[i].f1).bind fun bt => if bt.2 = true then (if acc.length < 8796093022208 then chainmanref37_records.l0 k l (acc ++ [bt.1]) (wrap64 ((i : Int) + 1)) else none) else some ([], false) := fun k => by
      rw [chainmanref37_records.l0, if_pos (by omega), if_pos (by omega), rd_at l i hlt]
    cases ok with
    | false =>
      refine ⟨[], false, Ev.step key (Ev.bind hs (Ev.congr (f := fun _ => some ([], false)) (fun k => if_neg (fun h => by cases h)) (Ev.now _))), .inr ⟨rfl, rfl⟩⟩
    | true =>
      obtain ⟨h1, h2⟩ := hok rfl
      have hal : acc.length = i := by rw [ha, List.length_map, List.length_take]; omega
      obtain ⟨s', ok', hs', hh⟩ := ih (i + 1) (acc ++ [s]) (by omega) (by rw [List.take_succ_eq_append_getElem hlt, List.map_append, ← ha, h2]; rfl) (by
        rw [List.take_succ_eq_append_getElem hlt]
        intro x hx
        rcases List.mem_append.mp hx with hx | hx
        · exact ho x hx
        · rw [List.mem_singleton.mp hx]; exact h1)
      refine ⟨s', ok', Ev.step key (Ev.bind hs ?_), hh⟩
      refine Ev.congr (fun k => if_pos rfl) ?_
      refine Ev.congr (fun k => if_pos (by omega)) ?_
      rw [wsucc i (by omega)]
      exact hs'
theorem srt_step (l : List S33) (i : Nat) (hi : i + 1 < l.length) (h : Srt lt (l.take (i + 1))) (hl : lt l[i] l[i + 1] = true) : Srt lt (l.take (i + 1 + 1)) := by
  rw [List.take_succ_eq_append_getElem hi]
  refine List.pairwise_append.mpr ⟨h, List.pairwise_singleton _ _, fun a ha b hb => ?_⟩
  rw [List.mem_singleton.mp hb]
  rw [List.take_succ_eq_append_getElem (by omega)] at ha h
  rcases List.mem_append.mp ha with ha | ha
  · exact lin.tr _ _ _ ((List.pairwise_append.mp h).2.2 a ha _ (List.mem_singleton.mpr rfl)) hl
  · rw [List.mem_singleton.mp ha]; exact hl
theorem refloop (l : List S33) (hl : l.length ≤ 1000) (ho : ∀ x ∈ l, Ok x) : ∀ (d i : Nat), i + 1 + d = l.length → Srt lt (l.take (i + 1)) → ∃ b, Ev (fun k => chainmanref37_Clean.l0 k (l.map rc) true ((i + 1 : Nat) : Int)) b ∧ (b = true → Srt lt l) := by
  intro d
  induction d with
  | zero =>
    intro i hi hs
    rw [List.take_of_length_le (by omega)] at hs
    exact ⟨true, Ev.step (f := fun _ => some true) (fun k => by rw [chainmanref37_Clean.l0, if_neg (by rw [List.length_map]; omega)]) (Ev.now _), fun _ => hs⟩
  | succ d ih =>
    intro i hi hs
    have hlt : i + 1 < l.length := by omega
    have key : ∀ k, chainmanref37_Clean.l0 (k + 1) (l.map rc) true ((i + 1 : Nat) : Int) = if lt l[i] l[i + 1] = true then chainmanref37_Clean.l0 k (l.map rc) true (wrap64 (((i + 1 : Nat) : Int) + 1)) else some false := fun k => by
      rw [chainmanref37_Clean.l0, if_pos (by rw [List.length_map]; omega), if_pos (by omega), wsub i (by omega), if_pos (by omega), if_pos (by rw [List.length_map]; omega), rds_at _ i (by rw [List.length_map]; omega), rds_at _ (i + 1) (by rw [List.length_map]; omega), List.getElem_map, List.getElem_map, rc_less _ _ (ho _ (List.getElem_mem _)) (ho _ (List.getElem_mem _))]
    by_cases h : lt l[i] l[i + 1] = true
    · obtain ⟨b, hb, hh⟩ := ih (i + 1) (by omega) (srt_step l i hlt hs h)
      refine ⟨b, Ev.step key (Ev.congr (fun k => if_pos h) ?_), hh⟩
      rw [wsucc (i + 1) (by omega)]
      exact hb
    · exact ⟨false, Ev.step key (Ev.congr (f := fun _ => some false) (fun k => if_neg h) (Ev.now _)), fun e => by cases e⟩
theorem refclean (l : List S33) (hl : l.length ≤ 1000) : ∃ b, Ev (fun k => chainmanref37_Clean.f k l) b ∧ (b = true → Good l) := by
  obtain ⟨s, ok, hs, hh⟩ := refrecs l hl l.length 0 [] (by omega) (by simp) (by simp)
  rcases hh with ⟨rfl, ho, rfl⟩ | ⟨rfl, rfl⟩
  · by_cases h0 : l.length = 0
    · refine ⟨true, Ev.bind hs ?_, fun _ => ?_⟩
      · refine Ev.step (f := fun _ => some true) (fun k => by show chainmanref37_Clean.l0 (k + 1) (l.map rc) true 1 = _; rw [chainmanref37_Clean.l0, if_neg (by rw [List.length_map]; omega)]) (Ev.now _)
      · obtain rfl := List.eq_nil_of_length_eq_zero h0
        exact ⟨List.Pairwise.nil, by simp, by simp⟩
    · obtain ⟨b, hb, hh⟩ := refloop l hl ho (l.length - 1) 0 (by omega) (by
        obtain ⟨x, l', rfl⟩ := List.exists_cons_of_length_pos (show 0 < l.length by omega)
        exact List.pairwise_singleton _ _)
      exact ⟨b, Ev.bind hs hb, fun h => ⟨hh h, ho, hl⟩⟩
  · refine ⟨false, Ev.bind hs ?_, fun h => by cases h⟩
    exact Ev.step (f := fun _ => some false) (fun k => by show chainmanref37_Clean.l0 (k + 1) [] false 1 = _; rw [chainmanref37_Clean.l0, if_neg (by simp)]) (Ev.now _)

/-! ### the program's side: clean pairs are told so -/
theorem rd2 (a b : Int) : rd [a, b] 0 = a ∧ rd [a, b] 1 = b := ⟨rfl, rfl⟩
theorem w0 : wrap64 (0 + 1) = 1 := by unfold wrap64; omega
theorem w1 : wrap64 (1 + 1) = 2 := by unfold wrap64; omega
theorem may_ev (x : S33) (h : Ok x) : Ev (fun k => rec_may.f k [x.f0, x.f1]) true := by
  obtain ⟨h0, h1, h2⟩ := h
  refine ⟨4, fun k hk => ?_⟩
  obtain ⟨k, rfl⟩ : ∃ m, k = m + 3 := ⟨k - 3, by omega⟩
  show rec_may.f (k + 3) [x.f0, x.f1] = _
  unfold rec_may.f
  rw [rec_may.l0, if_pos (by simp), if_pos (by omega), if_pos (by simp), (rd2 _ _).1, if_neg (by omega), if_neg (by omega), w0, rec_may.l0, if_pos (by simp), if_pos (by omega), if_pos (by simp), (rd2 _ _).2, if_neg (by omega), if_neg (by omega), w1, rec_may.l0, if_neg (by simp)]
theorem put4 (n : Int) (h0 : 0 ≤ n) (h1 : n < 1048576) : octet_Put.f n 4 = some (strOfNums (Oc.beN n.toNat 4), true) := by
  obtain ⟨m, rfl⟩ := Int.eq_ofNat_of_zero_le h0
  rw [Oc.put_bv _ _ (by omega), show (4 : Int) = ((4 : Nat) : Int) from rfl, putB_ok m 4 (by decide) (by decide) (by rw [show 256 ^ 4 = 4294967296 from rfl]; omega), Int.toNat_natCast]
theorem row_ev (x : S33) (h : Ok x) : Ev (fun k => rec_row.f k [x.f0, 4, x.f1, 4]) (rc x, true) := by
  obtain ⟨h0, h1, h2⟩ := h
  refine ⟨4, fun k hk => ?_⟩
  obtain ⟨k, rfl⟩ : ∃ m, k = m + 3 := ⟨k - 3, by omega⟩
  show rec_row.f (k + 3) [x.f0, 4, x.f1, 4] = _
  have e1 : wrap64 (0 + 1) = 1 := w0
  have e2 : wrap64 (0 + 2) = 2 := by unfold wrap64; omega
  have e3 : wrap64 (2 + 1) = 3 := by unfold wrap64; omega
  have e4 : wrap64 (2 + 2) = 4 := by unfold wrap64; omega
  have e5 : wrap64 (4 + 1) = 5 := by unfold wrap64; omega
  have r0 : rd [x.f0, 4, x.f1, 4] 0 = x.f0 := rfl
  have r1 : rd [x.f0, 4, x.f1, 4] 1 = 4 := rfl
  have r2 : rd [x.f0, 4, x.f1, 4] 2 = x.f1 := rfl
  have r3 : rd [x.f0, 4, x.f1, 4] 3 = 4 := rfl
  have s0 : (⟨#[]⟩ : ByteArray).size = 0 := rfl
  unfold rec_row.f
  rw [rec_row.l0, e1, if_pos (by simp), if_pos (by omega), if_pos (by simp), if_pos (by omega), r0, r1, put4 _ h0 (by omega), Option.bind_some, if_pos rfl, if_pos (by rw [be_size, s0]; decide), e2,
    rec_row.l0, e3, if_pos (by simp), if_pos (by omega), if_pos (by simp), if_pos (by omega), r2, r3, put4 _ (by omega) (by omega), Option.bind_some, if_pos rfl, if_pos (by rw [ByteArray.size_append, be_size, be_size, s0]; decide), e4,
    rec_row.l0, e5, if_neg (by simp)]
  have ee : (⟨#[]⟩ : ByteArray) ++ strOfNums (Oc.beN x.f0.toNat 4) = strOfNums (Oc.beN x.f0.toNat 4) := ByteArray.empty_append
  rw [ee]
  rfl
theorem pair_ev (x : S33) (h : Ok x) : Ev (fun k => rec_PutPair.f k x.f0 x.f1) (rc x, true) := by
  refine Ev.bind (may_ev x h) ?_
  refine Ev.congr (fun k => if_pos rfl) ?_
  refine Ev.congr (fun k => if_neg (by have := h.2.1; omega)) ?_
  exact Ev.bind (row_ev x h) (Ev.now _)
theorem cmp_f (x y : Int) : cmp_Compare_int.f x y = some (if x < y then -1 else if y < x then 1 else 0) := by
  simp [cmp_Compare_int.f, cmp_isNaN_int.f]
  by_cases h1 : x < y
  · rw [if_pos h1, if_pos h1]
  · rw [if_neg h1, if_neg h1]
    by_cases h2 : y < x
    · rw [if_pos h2, if_pos h2]
    · rw [if_neg h2, if_neg h2]
theorem or_ev (x y : Int) : Ev (fun k => cmp_Or_int.f k [x, y]) (if x = 0 then y else x) := by
  refine ⟨4, fun k hk => ?_⟩
  obtain ⟨k, rfl⟩ : ∃ m, k = m + 3 := ⟨k - 3, by omega⟩
  show cmp_Or_int.f (k + 3) [x, y] = _
  unfold cmp_Or_int.f
  rw [cmp_Or_int.l0, if_pos (by simp), if_pos (by omega), if_pos (by simp), (rd2 x y).1]
  by_cases h1 : x = 0
  · rw [if_pos h1, w0, cmp_Or_int.l0, if_pos (by simp), if_pos (by omega), if_pos (by simp), (rd2 x y).2, if_pos h1]
    by_cases h2 : y = 0
    · rw [if_pos h2, w1, cmp_Or_int.l0, if_neg (by simp), h2]
    · rw [if_neg h2]
  · rw [if_neg h1, if_neg h1]
theorem rises_ev (x y : S33) (h : lt x y = true) : Ev (fun k => pairfile_rises.f k x.f0 x.f1 y.f0 y.f1) true := by
  have hh := (lt_iff x y).1 h
  refine Ev.congr (f := fun k => (cmp_Or_int.f k [(if x.f0 < y.f0 then -1 else if y.f0 < x.f0 then 1 else 0), (if x.f1 < y.f1 then -1 else if y.f1 < x.f1 then 1 else 0)]).bind fun t => some (decide (t < 0))) (fun k => by unfold pairfile_rises.f; rw [cmp_f, Option.bind_some, cmp_f, Option.bind_some]) ?_
  have e : true = decide ((if (if x.f0 < y.f0 then (-1 : Int) else if y.f0 < x.f0 then 1 else 0) = 0 then (if x.f1 < y.f1 then (-1 : Int) else if y.f1 < x.f1 then 1 else 0) else (if x.f0 < y.f0 then (-1 : Int) else if y.f0 < x.f0 then 1 else 0)) < 0) := by
    refine (decide_eq_true ?_).symm
    rcases hh with h1 | ⟨h1, h2⟩
    · rw [if_pos h1, if_neg (show ¬ (-1 : Int) = 0 by decide)]; decide
    · rw [if_neg (show ¬ x.f0 < y.f0 by omega), if_neg (show ¬ y.f0 < x.f0 by omega), if_pos rfl, if_pos h2]; decide
  rw [e]
  exact Ev.bind (or_ev _ _) (Ev.now _)
theorem laid_ev (l : List S33) (hg : Good l) : ∀ (d i : Nat) (acc : List ByteArray), i + d = l.length → acc.length = i → ∃ s, Ev (fun k => pairfile_laid.l0 k l acc l (l.length : Int) (i : Int)) (s, true) := by
  obtain ⟨hs, ho, hl⟩ := hg
  intro d
  induction d with
  | zero =>
    intro i acc hi ha
    exact ⟨acc, Ev.step (f := fun _ => some (acc, true)) (fun k => by rw [pairfile_laid.l0, if_neg (by omega)]) (Ev.now _)⟩
  | succ d ih =>
    intro i acc hi ha
    have hlt : i < l.length := by omega
    obtain ⟨s, hs'⟩ := ih (i + 1) (acc ++ [rc l[i]]) (by omega) (by simp [ha])
    refine ⟨s, ?_⟩
    refine Ev.step (fun k => by rw [pairfile_laid.l0, if_pos (by omega), if_pos (by omega), if_pos (by omega), rd_at l i hlt]) ?_
    refine Ev.bind (pair_ev _ (ho _ (List.getElem_mem hlt))) ?_
    refine Ev.congr (fun k => if_pos rfl) ?_
    have e1 : wrap64 ((i : Int) + 1) = ((i + 1 : Nat) : Int) := wsucc i (by omega)
    cases i with
    | zero =>
      refine Ev.congr (fun k => if_neg (by omega)) ?_
      refine Ev.congr (fun k => if_pos (by omega)) ?_
      rw [e1]
      exact hs'
    | succ j =>
      refine Ev.congr (fun k => if_pos (by omega)) ?_
      have e2 : wrap64 (((j + 1 : Nat) : Int) - 1) = (j : Int) := wsub j (by omega)
      refine Ev.congr (fun k => by rw [e2, if_pos (by omega), if_pos (by omega), rd_at l j (by omega)]) ?_
      have hlt' : lt l[j] l[j + 1] = true := List.pairwise_iff_getElem.mp hs j (j + 1) (by omega) hlt (by omega)
      refine Ev.bind (rises_ev _ _ hlt') ?_
      refine Ev.congr (fun k => if_pos rfl) ?_
      refine Ev.congr (fun k => if_pos (by omega)) ?_
      rw [e1]
      exact hs'
theorem clean_ev (l : List S33) (hg : Good l) : Ev (fun k => pairfile_Clean.f k l) true := by
  obtain ⟨s, hs⟩ := laid_ev l hg l.length 0 [] (by omega) rfl
  refine Ev.bind (a := (s, true)) ?_ (Ev.now _)
  refine Ev.congr (fun k => by unfold pairfile_laid.f; rw [if_pos (by omega), if_pos (by have := hg.2.2; omega)]; rfl) hs
theorem cleans_ev (ls : List (List S33)) (hn : ls.length ≤ 1000) (hg : ∀ l ∈ ls, Good l) : Ev (fun k => diff_clean.f k ls) true := by
  have h1 : ∃ K, ∀ k, K ≤ k → ∀ l ∈ ls, pairfile_Clean.f k l = some true := by
    clear hn
    induction ls with
    | nil => exact ⟨0, fun _ _ l hl => by simp at hl⟩
    | cons x ls ih =>
      obtain ⟨K, hK⟩ := ih (fun l hl => hg l (List.mem_cons_of_mem _ hl))
      obtain ⟨K', hK'⟩ := clean_ev x (hg x List.mem_cons_self)
      exact ⟨max K K', fun k hk l hl => by
        rcases List.mem_cons.mp hl with rfl | hl
        · exact hK' k (by omega)
        · exact hK k (by omega) l hl⟩
  obtain ⟨K, hK⟩ := h1
  refine ⟨K, fun k hk => ?_⟩
  show diff_clean.f k ls = some true
  unfold diff_clean.f
  have e1 : (ls.all fun l => (pairfile_Clean.f k l).isSome) = true := List.all_eq_true.mpr (fun l hl => by rw [hK k hk l hl]; rfl)
  have e2 : (ls.all fun l => pairfile_Clean.f k l == some true) = true := List.all_eq_true.mpr (fun l hl => by rw [hK k hk l hl]; rfl)
  rw [if_pos ⟨hn, e1⟩, e2]
/-! ### the edit -/
theorem gone_eq (a b : List S33) : diff_Pairs.goneB (diff_beside.bs diff_beside.lt a b) = goneL lt a b := by rw [bs_eq]; rfl
theorem came_eq (a b : List S33) : diff_Pairs.cameB (diff_beside.bs diff_beside.lt a b) = cameL lt a b := by rw [bs_eq]; rfl
theorem good_sub {a b : List S33} (ha : Good a) (hb : Good b) {l : List S33} (hs : Srt lt l) (hm : ∀ x ∈ l, x ∈ a ∨ x ∈ b) (hn : l.length ≤ 1000) : Good l :=
  ⟨hs, fun x hx => (hm x hx).elim (ha.2.1 x) (hb.2.1 x), hn⟩
theorem good_gone {a b : List S33} (ha : Good a) (hb : Good b) : Good (goneL lt a b) :=
  good_sub ha hb (gone_srt lin ha.1 hb.1) (fun x hx => .inl ((gone_mem lin ha.1 hb.1 x).1 hx).1) (by rw [gone_filter lin ha.1 hb.1]; exact Nat.le_trans (List.length_filter_le _ _) ha.2.2)
theorem good_came {a b : List S33} (ha : Good a) (hb : Good b) : Good (cameL lt a b) :=
  good_sub ha hb (came_srt lin ha.1 hb.1) (fun x hx => .inr ((came_mem lin ha.1 hb.1 x).1 hx).1) (by rw [came_filter lin ha.1 hb.1]; exact Nat.le_trans (List.length_filter_le _ _) hb.2.2)
theorem pairs_ev {a b : List S33} (ha : Good a) (hb : Good b) : Ev (fun k => diff_Pairs.f k a b) (goneL lt a b, cameL lt a b, true) := by
  refine Ev.bind (cleans_ev [a, b] (by simp) (by simp only [List.mem_cons, List.not_mem_nil, or_false]; rintro l (rfl | rfl); exact ha; exact hb)) ?_
  refine Ev.congr (fun k => if_pos rfl) ?_
  refine Ev.congr (fun k => if_pos (by have := ha.2.2; have := hb.2.2; omega)) ?_
  rw [← gone_eq, ← came_eq]
  exact Ev.now _
theorem fits_ev {g c l : List S33} (hg : Good g) (hc : Good c) (hl : Good l) : Ev (fun k => diff_Fits.f k g c l) (fitsL lt g c l) := by
  refine Ev.bind (cleans_ev [g, c, l] (by simp) (by simp only [List.mem_cons, List.not_mem_nil, or_false]; rintro x (rfl | rfl | rfl); exact hg; exact hc; exact hl)) ?_
  refine Ev.congr (fun k => if_pos rfl) ?_
  refine Ev.congr (fun k => if_pos (by have := hg.2.2; have := hc.2.2; have := hl.2.2; omega)) ?_
  rw [bs_eq, bs_eq]
  exact Ev.now _
theorem apply_ev {g c l : List S33} (hg : Good g) (hc : Good c) (hl : Good l) (hf : fitsL lt g c l = true) : Ev (fun k => diff_Apply.f k g c l) (outL lt g c l, true) := by
  refine Ev.bind (hf ▸ fits_ev hg hc hl) ?_
  refine Ev.congr (fun k => if_pos rfl) ?_
  refine Ev.congr (fun k => if_pos (by have := hg.2.2; have := hc.2.2; have := hl.2.2; omega)) ?_
  rw [bs_eq, bs_eq]
  exact Ev.now _
theorem text_nil : Ev (fun k => diff_Text.f k [] []) ⟨#[]⟩ := by
  have hg : Good [] := ⟨List.Pairwise.nil, by simp, by simp⟩
  refine Ev.bind (cleans_ev [[], []] (by simp) (by simp only [List.mem_cons, List.not_mem_nil, or_false, or_self]; rintro x rfl; exact hg)) ?_
  refine Ev.congr (fun k => if_pos rfl) ?_
  refine Ev.congr (fun k => if_pos (by decide)) ?_
  rw [bs_eq, bs]
  exact Ev.now _
theorem same_ev (l : List S33) (hl : l.length ≤ 1000) : Ev (fun k => chainmanref30_SamePairs.f k l l) true := by
  have go : ∀ (d i : Nat), i + d = l.length → Ev (fun k => chainmanref30_SamePairs.l0 k l l (i : Int)) true := by
    intro d
    induction d with
    | zero => intro i hi; exact Ev.step (f := fun _ => some true) (fun k => by rw [chainmanref30_SamePairs.l0, if_neg (by omega)]) (Ev.now _)
    | succ d ih =>
      intro i hi
      refine Ev.step (fun k => by rw [chainmanref30_SamePairs.l0, if_pos (by omega), if_pos (by omega), if_pos (by omega), if_neg (by simp), wsucc i (by omega)]) (ih (i + 1) (by omega))
  refine Ev.congr (fun k => by unfold chainmanref30_SamePairs.f; rw [if_pos rfl]; rfl) (go l.length 0 (by omega))

theorem awake_ev : Ev (fun k => chainmanlaw50_awake.f k) true := by
  have g1 : Good [(⟨0, 1⟩ : S33)] := ⟨List.pairwise_singleton _ _, by simp [Ok], by simp⟩
  have g2 : Good [(⟨0, 2⟩ : S33)] := ⟨List.pairwise_singleton _ _, by simp [Ok], by simp⟩
  have g0 : Good ([] : List S33) := ⟨List.Pairwise.nil, by simp, by simp⟩
  have h12 : lt (⟨0, 1⟩ : S33) ⟨0, 2⟩ = true := by decide
  have b12 : bs lt [(⟨0, 1⟩ : S33)] [⟨0, 2⟩] = [(⟨0, 1⟩, true, false), (⟨0, 2⟩, false, true)] := by
    rw [bs, if_pos h12, bs, bs]
  have e1 : goneL lt [(⟨0, 1⟩ : S33)] [⟨0, 2⟩] = [⟨0, 1⟩] := by unfold goneL pick; rw [b12]; rfl
  have e2 : cameL lt [(⟨0, 1⟩ : S33)] [⟨0, 2⟩] = [⟨0, 2⟩] := by unfold cameL pick; rw [b12]; rfl
  refine Ev.bind (pairs_ev g1 g2) ?_
  rw [e1, e2]
  refine Ev.congr (fun k => if_pos rfl) ?_
  have d0 : strconv_Itoa.f 0 = some ⟨#[48]⟩ := by unfold strconv_Itoa.f; rw [if_pos (by omega), show (0 : Int).toNat = 0 from rfl, Lib.decDigits_one (by omega)]; rfl
  have d1 : strconv_Itoa.f 1 = some ⟨#[49]⟩ := by unfold strconv_Itoa.f; rw [if_pos (by omega), show (1 : Int).toNat = 1 from rfl, Lib.decDigits_one (by omega)]; rfl
  have d2 : strconv_Itoa.f 2 = some ⟨#[50]⟩ := by unfold strconv_Itoa.f; rw [if_pos (by omega), show (2 : Int).toNat = 2 from rfl, Lib.decDigits_one (by omega)]; rfl
  obtain ⟨t, ht, htl⟩ : ∃ t, diff_Text.lines [((⟨0, 1⟩ : S33), true, false), (⟨0, 2⟩, false, true)] = some t ∧ t.toList = ([45, 32, 48, 32, 49, 10, 43, 32, 48, 32, 50, 10] : List UInt8) := by
    simp only [diff_Text.lines, diff_Text.one, diff_Text.line, d0, d1, d2, Option.bind_some, if_true, if_false, Bool.false_eq_true]
    exact ⟨_, rfl, by rw [ByteArray.toList_eq]; simp [ByteArray.data_append]⟩
  have hT : Ev (fun k => diff_Text.f k [(⟨0, 1⟩ : S33)] [⟨0, 2⟩]) t := by
    refine Ev.bind (cleans_ev [[(⟨0, 1⟩ : S33)], [⟨0, 2⟩]] (by simp) (by simp only [List.mem_cons, List.not_mem_nil, or_false]; rintro l (rfl | rfl); exact g1; exact g2)) ?_
    refine Ev.congr (fun k => if_pos rfl) ?_
    refine Ev.congr (fun k => if_pos (by decide)) ?_
    rw [bs_eq, b12, ht]
    exact Ev.now _
  refine Ev.bind hT ?_
  refine Ev.congr (fun k => if_pos htl) ?_
  have f1 : fitsL lt [(⟨0, 1⟩ : S33)] [⟨0, 2⟩] [⟨0, 1⟩] = true := fits_mem lin g1.1 g2.1 g1.1 (fun x hx => hx) (fun x hx hx' => by rw [List.mem_singleton.mp hx] at hx'; have := congrArg S33.f1 (List.mem_singleton.mp hx'); simp at this)
  have f2 : fitsL lt [(⟨0, 1⟩ : S33)] [⟨0, 2⟩] [] = false := by unfold fitsL; rw [bs]; rfl
  refine Ev.bind (f1 ▸ fits_ev g1 g2 g1) ?_
  refine Ev.congr (fun k => if_pos rfl) ?_
  exact Ev.bind (f2 ▸ fits_ev g1 g2 g0) (Ev.now _)
/-- How many of the second list, from j on, are a's. -/
def hits (x : S33) (b : List S33) : Nat := (b.filter (fun y => decide (x = y))).length
theorem inner {a b : List S33} (ha : a.length ≤ 30) (hb : b.length ≤ 30) {p0 : Bool} {p1 : List S33} {p2 : Bool} {p3 : List S33} {p4 p5 : Bool} {q0 q1 q2 q3 : List S33} {v : Bool} (i : Nat) (hi : i < a.length) :
    ∀ (d j c : Nat), j + d = b.length → c ≤ 900 + j → Ev (fun k => chainmanlaw50_DiffApplies.l0 k a b p0 p1 p2 p3 p4 p5 ((c + hits a[i] (b.drop j) : Nat) : Int) ((i + 1 : Nat) : Int) q0 q1 q2 q3) v → Ev (fun k => chainmanlaw50_DiffApplies.l1 k a b p0 p1 p2 p3 p4 p5 (c : Int) (i : Int) (j : Int) q0 q1 q2 q3) v := by
  intro d
  induction d with
  | zero =>
    intro j c hj hc h
    refine Ev.step (fun k => by rw [chainmanlaw50_DiffApplies.l1, if_neg (by omega), wsucc i (by omega)]) ?_
    rw [List.drop_of_length_le (by omega)] at h
    exact h
  | succ d ih =>
    intro j c hj hc h
    have hlt : j < b.length := by omega
    have hd : hits a[i] (b.drop j) = (if a[i] = b[j] then 1 else 0) + hits a[i] (b.drop (j + 1)) := by
      rw [List.drop_eq_getElem_cons hlt]
      unfold hits
      rw [List.filter_cons]
      by_cases e : a[i] = b[j]
      · rw [if_pos (decide_eq_true e), if_pos e, List.length_cons]; omega
      · rw [if_neg (by rw [decide_eq_false e]; decide), if_neg e]; omega
    have hle : hits a[i] (b.drop j) ≤ 30 := by
      have := List.length_filter_le (fun y => decide (a[i] = y)) (b.drop j)
      rw [List.length_drop] at this
      unfold hits
      omega
    by_cases e : a[i] = b[j]
    · refine Ev.step (fun k => by rw [chainmanlaw50_DiffApplies.l1, if_pos (by omega), if_pos (by omega), if_pos (by omega), if_pos (by omega), rd_at a i hi, rd_at b j hlt, if_pos (by rw [e]; simp), wsucc c (by omega), wsucc j (by omega)]) ?_
      refine ih (j + 1) (c + 1) (by omega) (by omega) ?_
      rw [hd, if_pos e] at h
      rw [show c + 1 + hits a[i] (b.drop (j + 1)) = c + (1 + hits a[i] (b.drop (j + 1))) by omega]
      exact h
    · have hne : ((a[i].f0 == b[j].f0) && (a[i].f1 == b[j].f1)) = false := by
        refine Bool.eq_false_iff.2 (fun h => e ?_)
        rw [Bool.and_eq_true, beq_iff_eq, beq_iff_eq] at h
        exact s33_ext h.1 h.2
      refine Ev.step (fun k => by rw [chainmanlaw50_DiffApplies.l1, if_pos (by omega), if_pos (by omega), if_pos (by omega), if_pos (by omega), rd_at a i hi, rd_at b j hlt, if_neg (by rw [hne]; decide), wsucc j (by omega)]) ?_
      refine ih (j + 1) c (by omega) (by omega) ?_
      rw [hd, if_neg e, Nat.zero_add] at h
      exact h
theorem outer {a b : List S33} (ha : a.length ≤ 30) (hb : b.length ≤ 30) {p0 : Bool} {p1 : List S33} {p2 : Bool} {p3 : List S33} {p4 p5 : Bool} {q0 q1 q2 q3 : List S33} {v : Bool} :
    ∀ (d i c : Nat), i + d = a.length → c ≤ 30 * i → Ev (fun k => chainmanlaw50_DiffApplies.l0 k a b p0 p1 p2 p3 p4 p5 ((c + bothL (a.drop i) b : Nat) : Int) (a.length : Int) q0 q1 q2 q3) v → Ev (fun k => chainmanlaw50_DiffApplies.l0 k a b p0 p1 p2 p3 p4 p5 (c : Int) (i : Int) q0 q1 q2 q3) v := by
  intro d
  induction d with
  | zero =>
    intro i c hi hc h
    rw [List.drop_of_length_le (by omega), show bothL ([] : List S33) b = 0 from rfl, Nat.add_zero] at h
    rw [show i = a.length by omega]
    exact h
  | succ d ih =>
    intro i c hi hc h
    have hlt : i < a.length := by omega
    refine Ev.step (fun k => by rw [chainmanlaw50_DiffApplies.l0, if_pos (by omega)]) ?_
    have hh : hits a[i] b ≤ 30 := by
      have := List.length_filter_le (fun y => decide (a[i] = y)) b
      unfold hits
      omega
    have hin := inner (a := a) (b := b) ha hb (p0 := p0) (p1 := p1) (p2 := p2) (p3 := p3) (p4 := p4) (p5 := p5) (q0 := q0) (q1 := q1) (q2 := q2) (q3 := q3) (v := v) i hlt b.length 0 c (by omega) (by omega)
    refine hin ?_
    rw [List.drop_zero]
    refine ih (i + 1) (c + hits a[i] b) (by omega) (by omega) ?_
    rw [List.drop_eq_getElem_cons hlt] at h
    have e : bothL (a[i] :: a.drop (i + 1)) b = hits a[i] b + bothL (a.drop (i + 1)) b := rfl
    rw [e] at h
    rw [Nat.add_assoc]
    exact h
theorem DiffApplies : chainmanlaw50_DiffApplies.Pure := by
  intro a b _ _
  refine Ev.rounds ?_
  have no : Ev (fun k => chainmanlaw50_DiffApplies.j0 k a b true) true := Ev.step (fun k => by rw [chainmanlaw50_DiffApplies.j0, if_pos rfl]) (Ev.bind awake_ev (Ev.now _))
  by_cases h1 : (a.length : Int) > 30
  · exact Ev.congr (fun k => by unfold chainmanlaw50_DiffApplies.f; rw [if_pos h1]) no
  by_cases h2 : (b.length : Int) > 30
  · exact Ev.congr (fun k => by unfold chainmanlaw50_DiffApplies.f; rw [if_neg h1, if_pos h2]) no
  refine Ev.congr (fun k => by unfold chainmanlaw50_DiffApplies.f; rw [if_neg h1, if_neg h2]) ?_
  have hla : a.length ≤ 30 := by omega
  have hlb : b.length ≤ 30 := by omega
  obtain ⟨ba, hba, hga⟩ := refclean a (by omega)
  obtain ⟨bb, hbb, hgb⟩ := refclean b (by omega)
  refine Ev.bind hba ?_
  cases ba with
  | false => exact Ev.congr (fun k => if_neg (by decide)) no
  | true =>
  refine Ev.congr (fun k => if_pos rfl) ?_
  refine Ev.bind hbb ?_
  cases bb with
  | false => exact no
  | true =>
  have ga := hga rfl
  have gb := hgb rfl
  clear hga hgb hba hbb
  refine Ev.step (fun k => by show chainmanlaw50_DiffApplies.j0 (k + 1) a b false = _; rw [chainmanlaw50_DiffApplies.j0, if_neg (by decide)]) ?_
  refine Ev.bind (pairs_ev ga gb) ?_
  refine Ev.bind (apply_ev (good_gone ga gb) (good_came ga gb) ga (fits_there lin ga.1 gb.1)) ?_
  refine Ev.bind (Ev.now (cameL lt a b, goneL lt a b)) ?_
  refine Ev.bind (apply_ev (good_came ga gb) (good_gone ga gb) gb (fits_here lin ga.1 gb.1)) ?_
  refine Ev.bind (pairs_ev ga ga) ?_
  rw [out_there lin ga.1 gb.1, out_here lin ga.1 gb.1, (gone_self lin ga.1).1, (gone_self lin ga.1).2]
  have l1 := gone_len lin ga.1 gb.1
  have l2 := came_len lin ga.1 gb.1
  have ho := outer (a := a) (b := b) hla hlb (p0 := true) (p1 := b) (p2 := true) (p3 := a) (p4 := true) (p5 := true) (q0 := goneL lt a b) (q1 := cameL lt a b) (q2 := []) (q3 := []) (v := true) a.length 0 0 (by omega) (by omega)
  refine ho ?_
  rw [List.drop_zero, Nat.zero_add]
  have wa : wrap64 ((a.length : Int) - ((bothL a b : Nat) : Int)) = ((goneL lt a b).length : Int) := by unfold wrap64; omega
  have wb : wrap64 ((b.length : Int) - ((bothL a b : Nat) : Int)) = ((cameL lt a b).length : Int) := by unfold wrap64; omega
  have wz : wrap64 ((([] : List S33).length : Int) + (([] : List S33).length : Int)) = 0 := by unfold wrap64; simp
  refine Ev.step (fun k => by rw [chainmanlaw50_DiffApplies.l0, if_neg (by omega), if_pos rfl, if_pos rfl, if_pos rfl, if_pos rfl]) ?_
  refine Ev.bind (same_ev b (by omega)) ?_
  refine Ev.congr (fun k => if_pos rfl) ?_
  refine Ev.bind (same_ev a (by omega)) ?_
  refine Ev.congr (fun k => by rw [if_pos rfl, if_pos wz, if_pos wa.symm, if_pos wb.symm]) ?_
  refine Ev.bind text_nil ?_
  refine Ev.congr (fun k => if_pos (by rw [ByteArray.toList_eq])) ?_
  exact Ev.bind awake_ev (Ev.now _)

end Go.Proofs.YtahkkgnicgbncaaDoor.Pure
