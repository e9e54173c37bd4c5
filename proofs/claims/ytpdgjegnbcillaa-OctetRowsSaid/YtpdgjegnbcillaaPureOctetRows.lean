/- The bytes of any numbers, one behind the other, and any bytes in pieces, are the document's (the law OctetRows). -/
import Derived.Test.YtpdgjegnbcillaaPOctetRowsx2
namespace Go.Proofs.Ytpdgjegnbcillaa.Pure
open Go.RowKit Go.Proofs.Ytpdgjegnbcillaa.POctetRows Go.Proofs.YtpdgjegnbcillaaW.PrintWords Go.Proofs.YtpdgjegnbcillaaW.PrintLast
set_option linter.unusedVariables false
set_option linter.unusedSimpArgs false
/-! ### numbers as bytes -/
def beN (n k : Nat) : List Int := (List.range k).reverse.map fun i => ((n / 256 ^ i % 256 : Nat) : Int)
theorem beN_len (n k : Nat) : (beN n k).length = k := by simp [beN]
theorem beN_succ (n k : Nat) : beN n (k + 1) = ((n / 256 ^ k % 256 : Nat) : Int) :: beN n k := by
  unfold beN
  rw [List.range_succ, List.reverse_append]; rfl
theorem beN_range (n k : Nat) : ∀ x ∈ beN n k, 0 ≤ x ∧ x < 256 := by
  intro x hx
  obtain ⟨i, _, rfl⟩ := List.mem_map.1 hx
  have := Nat.mod_lt (n / 256 ^ i) (show 256 > 0 by decide)
  omega
def putB (n k : Int) : ByteArray × Bool := if n < 0 ∨ k < 1 ∨ 8 < k then (⟨#[]⟩, false) else if n.toNat < 256 ^ k.toNat then (strOfNums (beN n.toNat k.toNat), true) else (⟨#[]⟩, false)
theorem octs_be (n : Nat) : octet_Put.octs (n : Int) = beN n 8 := by
  have e7 : (n : Int) / 72057594037927936 % 256 = ((n / 256 ^ 7 % 256 : Nat) : Int) := by rw [show 256 ^ 7 = 72057594037927936 from rfl]; omega
  have e6 : (n : Int) / 281474976710656 % 256 = ((n / 256 ^ 6 % 256 : Nat) : Int) := by rw [show 256 ^ 6 = 281474976710656 from rfl]; omega
  have e5 : (n : Int) / 1099511627776 % 256 = ((n / 256 ^ 5 % 256 : Nat) : Int) := by rw [show 256 ^ 5 = 1099511627776 from rfl]; omega
  have e4 : (n : Int) / 4294967296 % 256 = ((n / 256 ^ 4 % 256 : Nat) : Int) := by rw [show 256 ^ 4 = 4294967296 from rfl]; omega
  have e3 : (n : Int) / 16777216 % 256 = ((n / 256 ^ 3 % 256 : Nat) : Int) := by rw [show 256 ^ 3 = 16777216 from rfl]; omega
  have e2 : (n : Int) / 65536 % 256 = ((n / 256 ^ 2 % 256 : Nat) : Int) := by rw [show 256 ^ 2 = 65536 from rfl]; omega
  have e1 : (n : Int) / 256 % 256 = ((n / 256 ^ 1 % 256 : Nat) : Int) := by rw [show 256 ^ 1 = 256 from rfl]; omega
  have e0 : (n : Int) % 256 = ((n / 256 ^ 0 % 256 : Nat) : Int) := by rw [show 256 ^ 0 = 1 from rfl]; omega
  unfold octet_Put.octs
  rw [e7, e6, e5, e4, e3, e2, e1, e0]
  rfl
theorem beN_take (m k : Nat) : ∀ j, m < 256 ^ (k + j) → ((((beN m (k + j)).take j).all (· == 0) = true) ↔ m < 256 ^ k) := by
  intro j
  induction j with
  | zero => intro h; simpa using h
  | succ j ih =>
    intro h
    have hp : 256 ^ (k + (j + 1)) = 256 ^ (k + j) * 256 := Nat.pow_succ ..
    have hx : m / 256 ^ (k + j) < 256 := Nat.div_lt_of_lt_mul (by omega)
    rw [show k + (j + 1) = (k + j) + 1 from rfl, beN_succ, List.take_succ_cons, List.all_cons, Bool.and_eq_true]
    have hz : ((((m / 256 ^ (k + j) % 256 : Nat) : Int) == 0) = true) ↔ m < 256 ^ (k + j) := by
      rw [beq_iff_eq, Nat.mod_eq_of_lt hx]
      constructor
      · intro e
        rcases Nat.lt_or_ge m (256 ^ (k + j)) with h' | h'
        · exact h'
        · have := Nat.div_pos h' (Nat.pow_pos (by decide)); omega
      · intro h'; rw [Nat.div_eq_of_lt h']; rfl
    rw [hz]
    constructor
    · rintro ⟨h1, h2⟩; exact (ih h1).1 h2
    · intro h1
      have : 256 ^ k ≤ 256 ^ (k + j) := Nat.pow_le_pow_right (by decide) (by omega)
      exact ⟨by omega, (ih (by omega)).2 h1⟩
theorem beN_drop (m k : Nat) : ∀ j, (beN m (k + j)).drop j = beN m k := by
  intro j
  induction j with
  | zero => rfl
  | succ j ih => rw [show k + (j + 1) = (k + j) + 1 from rfl, beN_succ, List.drop_succ_cons, ih]
theorem put_bv (n k : Int) (hn : n < 9223372036854775808) : octet_Put.f n k = some (putB n k) := by
  unfold octet_Put.f putB
  by_cases hb : n < 0 ∨ k < 1 ∨ 8 < k
  · rw [if_pos hb, if_pos hb]
  · rw [if_neg hb, if_neg hb]
    obtain ⟨m, rfl⟩ : ∃ m : Nat, n = (m : Int) := ⟨n.toNat, by omega⟩
    obtain ⟨q, rfl⟩ : ∃ q : Nat, k = (q : Int) := ⟨k.toNat, by omega⟩
    have hq8 : q ≤ 8 := by omega
    have hm : m < 256 ^ 8 := by have : 256 ^ 8 = 18446744073709551616 := by decide
                                omega
    have e8 : q + (8 - q) = 8 := by omega
    have h1 := beN_take m q (8 - q) (by rw [e8]; exact hm)
    have h2 := beN_drop m q (8 - q)
    rw [e8] at h1 h2
    rw [octs_be, Int.toNat_natCast, Int.toNat_natCast, show ((8 : Int) - (q : Int)).toNat = 8 - q from by omega, h2]
    by_cases hlt : m < 256 ^ q
    · rw [if_pos (h1.2 hlt), if_pos hlt]
    · rw [if_neg (fun h => hlt (h1.1 h)), if_neg hlt]
theorem ba_ext {s t : ByteArray} (h : s.data.toList = t.data.toList) : s = t := by
  cases s; cases t
  simp only [ByteArray.mk.injEq]
  exact Array.toList_inj.1 h
theorem ba_append (s t : ByteArray) : (s ++ t).data.toList = s.data.toList ++ t.data.toList := by
  rw [ByteArray.data_append, Array.toList_append]
theorem ba_size (s : ByteArray) : s.size = s.data.toList.length := by simp

/-! #### the document's bytes of a number -/
theorem wrap_succ (i : Nat) (h : i < 1000000000) : wrap64 ((i : Int) + 1) = ((i + 1 : Nat) : Int) := by unfold wrap64; omega
theorem stepq (q : Nat) (hq : q < 9223372036854775808) : Int.tmod (q : Int) 256 % 256 = ((q % 256 : Nat) : Int) ∧ wrap64 (Int.tdiv (q : Int) 256) = ((q / 256 : Nat) : Int) := by
  rw [Int.tmod_eq_emod_of_nonneg (Int.natCast_nonneg _), Int.tdiv_eq_ediv_of_nonneg (Int.natCast_nonneg _)]
  unfold wrap64
  omega
theorem beN_fits (x : Int) (n i : Nat) (h : i < 9) : (strOfNums [x]).size + (strOfNums (beN n i)).size ≤ 9223372036854775807 := by
  have h1 : (strOfNums [x]).size = 1 := strOfNums_size _
  have h2 : (strOfNums (beN n i)).size = i := (strOfNums_size _).trans (beN_len _ _)
  omega
theorem refl0 (n k : Nat) (hn : n < 9223372036854775808) : ∀ (r f i : Nat), i + r = k → r < f → k ≤ 8 →
    chainmanref02_Put.l0 f ((n / 256 ^ i : Nat) : Int) (k : Int) (strOfNums (beN n i)) (i : Int) = some (if n < 256 ^ k then (strOfNums (beN n k), true) else (⟨#[]⟩, false)) := by
  intro r
  induction r with
  | zero =>
    intro f i hi hf hk
    obtain ⟨f, rfl⟩ : ∃ m, f = m + 1 := ⟨f - 1, by omega⟩
    obtain rfl : i = k := by omega
    rw [chainmanref02_Put.l0, if_neg (by omega)]
    have hz : (0 < n / 256 ^ i) ↔ ¬ n < 256 ^ i := by
      have h := Nat.div_eq_zero_iff (a := n) (b := 256 ^ i)
      have hp : 256 ^ i ≠ 0 := Nat.ne_of_gt (Nat.pow_pos (by decide))
      constructor
      · intro h1 h2; have := Nat.div_eq_of_lt h2; omega
      · intro h1; exact Nat.div_pos (by omega) (Nat.pow_pos (by decide))
    by_cases h : n < 256 ^ i
    · rw [if_neg (by omega), if_pos h]
    · rw [if_pos (by omega), if_neg h]
  | succ r ih =>
    intro f i hi hf hk
    obtain ⟨f, rfl⟩ : ∃ m, f = m + 1 := ⟨f - 1, by omega⟩
    rw [chainmanref02_Put.l0, if_pos (by omega), Option.bind_some]
    have hsz : (strOfNums [((n / 256 ^ i % 256 : Nat) : Int)]).size + (strOfNums (beN n i)).size ≤ 9223372036854775807 := by
      exact beN_fits _ n i (by omega)
    have a1 : i + 1 + r = k := by omega
    have a2 : r < f := by omega
    have a3 : i < 1000000000 := by omega
    have hq : n / 256 ^ i ≤ n := Nat.div_le_self _ _
    obtain ⟨e1, e2⟩ := stepq (n / 256 ^ i) (Nat.lt_of_le_of_lt hq hn)
    rw [Nat.div_div_eq_div_mul, ← Nat.pow_succ] at e2
    have e3 : wrap64 ((i : Int) + 1) = ((i + 1 : Nat) : Int) := wrap_succ i a3
    have e4 : strOfNums [((n / 256 ^ i % 256 : Nat) : Int)] ++ strOfNums (beN n i) = strOfNums (beN n (i + 1)) := by
      apply ba_ext
      rw [ba_append, strOfNums_data, strOfNums_data, strOfNums_data, beN_succ]; rfl
    rw [e1, if_pos hsz, e2, e4, e3]
    exact ih f (i + 1) a1 a2 hk
theorem refput_bv (n k : Int) (f : Nat) (hf : 20 ≤ f) (hn : n < 9223372036854775808) : chainmanref02_Put.f f n k = some (putB n k) := by
  obtain ⟨f, rfl⟩ : ∃ m, f = m + 1 := ⟨f - 1, by omega⟩
  unfold chainmanref02_Put.f putB
  by_cases h1 : k < 1
  · rw [if_pos h1, if_pos (.inr (.inl h1)), chainmanref02_Put.j0, if_pos rfl]
  · rw [if_neg h1]
    by_cases h2 : k > 8
    · rw [if_pos h2, if_pos (.inr (.inr h2)), chainmanref02_Put.j0, if_pos rfl]
    · rw [if_neg h2]
      by_cases h3 : n < 0
      · rw [if_pos (.inl h3), chainmanref02_Put.j0, if_pos (decide_eq_true h3)]
      · rw [if_neg (by omega), chainmanref02_Put.j0, if_neg (by simpa using h3)]
        obtain ⟨m, rfl⟩ : ∃ m : Nat, n = (m : Int) := ⟨n.toNat, by omega⟩
        obtain ⟨j, rfl⟩ : ∃ j : Nat, k = (j : Int) := ⟨k.toNat, by omega⟩
        have h := refl0 m j (by omega) j f 0 (by omega) (by omega) (by omega)
        rw [Nat.pow_zero, Nat.div_one] at h
        rw [Int.toNat_natCast, Int.toNat_natCast]
        exact h

/-! ### the law OctetRows -/
theorem awake_k : chainmanlaw02_awake.f = some true := by decide +kernel
theorem w64 (n : Int) (h : -9223372036854775808 ≤ n ∧ n ≤ 9223372036854775807) : wrap64 n = n := by unfold wrap64; omega
theorem putB_size (n k : Int) : (putB n k).1.size ≤ 8 := by
  unfold putB
  split
  · exact Nat.zero_le 8
  · split
    · show (strOfNums (beN n.toNat k.toNat)).size ≤ 8
      have : (strOfNums (beN n.toNat k.toNat)).size = k.toNat := by simp [strOfNums, ByteArray.size, beN_len]
      omega
    · exact Nat.zero_le 8
theorem rows (l : List Int) (k : Int) (hl : l.length ≤ 20) (hw : ∀ x ∈ l, x < 9223372036854775808) : ∀ (d i : Nat), i + d = l.length → ∀ acc : List UInt8, acc.length ≤ 8 * i →
    ∃ r, octet_Row.go k acc (l.drop i) = some r ∧ Ev (fun q => chainmanref02_Row.l0 q l k ⟨acc.toArray⟩ (i : Int)) (⟨r.1.toArray⟩, r.2) := by
  intro d
  induction d with
  | zero =>
    intro i hi acc _
    refine ⟨(acc, true), ?_, Ev.step (f := fun _ => some (⟨acc.toArray⟩, true)) (fun q => ?_) (Ev.now _)⟩
    · rw [List.drop_eq_nil_of_le (by omega), octet_Row.go]
    · rw [chainmanref02_Row.l0, if_neg (by omega)]
  | succ d ih =>
    intro i hi acc ha
    have hlt : i < l.length := by omega
    have hx := hw _ (List.getElem_mem hlt)
    have hr : rd l (i : Int) = l[i] := by
      show l.getD (i : Int).toNat 0 = _
      rw [Int.toNat_natCast, List.getD_eq_getElem?_getD, List.getElem?_eq_getElem hlt]; rfl
    have e1 : wrap64 ((i : Int) + 1) = ((i + 1 : Nat) : Int) := wrap_succ i (by omega)
    have hs := putB_size l[i] k
    have hev : Ev (fun q => chainmanref02_Put.f q l[i] k) (putB l[i] k) := ⟨20, fun q hq => refput_bv l[i] k q hq hx⟩
    have hst : ∀ q, chainmanref02_Row.l0 (q + 1) l k ⟨acc.toArray⟩ (i : Int) = (chainmanref02_Put.f q l[i] k).bind fun bt113 => (if bt113.2 = true then (if (⟨acc.toArray⟩ : ByteArray).size + bt113.1.size ≤ 9223372036854775807 then (chainmanref02_Row.l0 q l k (⟨acc.toArray⟩ ++ bt113.1) (((i + 1 : Nat) : Int))) else (none)) else (some ((⟨#[]⟩ : ByteArray), false))) := fun q => by
      rw [chainmanref02_Row.l0, if_pos (by omega), if_pos (by omega), hr, e1]
    by_cases hq : (putB l[i] k).2 = true
    · obtain ⟨r, h1, h2⟩ := ih (i + 1) (by omega) (acc ++ (putB l[i] k).1.data.toList) (by rw [List.length_append, ← ba_size]; omega)
      refine ⟨r, ?_, Ev.step hst (Ev.bind hev ?_)⟩
      · rw [List.drop_eq_getElem_cons hlt, octet_Row.go, put_bv _ _ hx, Option.bind_some, if_pos hq, if_pos (by omega)]
        exact h1
      · have ea : (⟨acc.toArray⟩ : ByteArray) ++ (putB l[i] k).1 = ⟨(acc ++ (putB l[i] k).1.data.toList).toArray⟩ := ba_ext (by rw [ba_append])
        have es : (⟨acc.toArray⟩ : ByteArray).size = acc.length := by simp [ByteArray.size]
        refine Ev.congr (fun q => ?_) h2
        rw [if_pos hq, if_pos (by omega), ea]
    · refine ⟨([], false), ?_, Ev.step hst (Ev.bind hev (Ev.congr (f := fun _ => some ((⟨#[]⟩ : ByteArray), false)) (fun q => ?_) (Ev.now _)))⟩
      · rw [List.drop_eq_getElem_cons hlt, octet_Row.go, put_bv _ _ hx, Option.bind_some, if_neg hq]
      · rw [if_neg hq]
theorem row_both (l : List Int) (k : Int) (hl : l.length ≤ 20) (hw : ∀ x ∈ l, x < 9223372036854775808) : ∃ r, octet_Row.f l k = some r ∧ Ev (fun q => chainmanref02_Row.f q l k) r := by
  obtain ⟨r, h1, h2⟩ := rows l k hl hw l.length 0 (by omega) [] (by simp)
  refine ⟨(⟨r.1.toArray⟩, r.2), ?_, h2⟩
  unfold octet_Row.f
  rw [List.drop_zero] at h1
  rw [h1, Option.bind_some]
theorem ex_data (s : ByteArray) (a b : Nat) : (s.extract a b).data.toList = (s.data.toList.take b).drop a := by
  rw [ByteArray.data_extract, Array.toList_extract]
  rw [List.extract_eq_drop_take', ]
theorem ex_size (s : ByteArray) (a b : Nat) (hb : b ≤ s.size) : (s.extract a b).size = b - a := by
  rw [ba_size, ex_data, List.length_drop, List.length_take, ← ba_size]; omega
theorem ex_front (s : ByteArray) (a k : Nat) (h : a + k ≤ s.size) : (s.extract a s.size).extract 0 k = s.extract a (a + k) := by
  apply ba_ext
  rw [ex_data, ex_data, ex_data, List.drop_zero, ba_size, List.take_length, List.take_drop]
theorem ex_back (s : ByteArray) (a k : Nat) : (s.extract a s.size).extract k (s.extract a s.size).size = s.extract (a + k) s.size := by
  apply ba_ext
  rw [ex_data, ba_size, ← ba_size, List.take_of_length_le (by rw [ba_size]; exact Nat.le_refl _), ex_data, ex_data, List.drop_drop]
theorem pieces (s : ByteArray) (k : Nat) (hk : 1 ≤ k) (hs : s.size ≤ 100) : ∀ (d at_ : Nat) (acc : List ByteArray), at_ + d * k = s.size → acc.length + d ≤ 200 →
    ∃ r, Ev (fun q => octet_Split.l0 q (s.extract at_ s.size) (k : Int) acc) (r, true) ∧ Ev (fun q => chainmanref02_Split.l0 q s (k : Int) acc (at_ : Int)) (r, true) ∧ r.length ≤ 200 := by
  intro d
  induction d with
  | zero =>
    intro at_ acc h ha
    refine ⟨acc, Ev.step (f := fun _ => some (acc, true)) (fun q => ?_) (Ev.now _), Ev.step (f := fun _ => some (acc, true)) (fun q => ?_) (Ev.now _), by omega⟩
    · have : (s.extract at_ s.size).toList = [] := by
        rw [← List.length_eq_zero_iff, ByteArray.toList_eq, ← ba_size]
        rw [ex_size _ _ _ (Nat.le_refl _)]; omega
      rw [octet_Split.l0, if_pos this]
    · rw [chainmanref02_Split.l0, if_neg (by omega)]
  | succ d ih =>
    intro at_ acc h ha
    rw [Nat.add_mul, Nat.one_mul] at h
    have hd : 0 ≤ d * k := Nat.zero_le _
    obtain ⟨r, h1, h2, h3⟩ := ih (at_ + k) (acc ++ [s.extract at_ (at_ + k)]) (by omega) (by rw [List.length_append]; simp; omega)
    refine ⟨r, Ev.step (fun q => ?_) h1, Ev.step (fun q => ?_) h2, h3⟩
    · have hne : ¬ (s.extract at_ s.size).toList = [] := by
        rw [← List.length_eq_zero_iff, ByteArray.toList_eq, ← ba_size]
        rw [ex_size _ _ _ (Nat.le_refl _)]; omega
      have es := ex_size s at_ s.size (Nat.le_refl _)
      rw [octet_Split.l0, if_neg hne, if_pos (by omega), if_pos (by omega), if_pos (by omega), Int.toNat_natCast, ex_front s at_ k (by omega), ex_back]
    · have e1 : wrap64 ((at_ : Int) + (k : Int)) = ((at_ + k : Nat) : Int) := by rw [w64 _ (by omega)]; omega
      rw [chainmanref02_Split.l0, if_pos (by omega), if_pos (by omega), e1, if_pos (by omega), if_pos (by omega), if_pos (by omega), Int.toNat_natCast, Int.toNat_natCast]
theorem split_both (s : ByteArray) (k : Int) (hs : s.size ≤ 100) : ∃ r, Ev (fun q => octet_Split.f q s k) r ∧ Ev (fun q => chainmanref02_Split.f q s k) r ∧ r.1.length ≤ 200 := by
  by_cases h1 : k < 1
  · refine ⟨([], false), Ev.congr (f := fun q => octet_Split.j0 q s k true) (fun q => by unfold octet_Split.f; rw [if_pos h1]) (Ev.step (f := fun _ => some ([], false)) (fun q => ?_) (Ev.now _)), Ev.congr (f := fun q => chainmanref02_Split.j0 q s k true) (fun q => by unfold chainmanref02_Split.f; rw [if_pos h1]) (Ev.step (f := fun _ => some ([], false)) (fun q => ?_) (Ev.now _)), by simp⟩
    · rw [octet_Split.j0, if_pos rfl]
    · rw [chainmanref02_Split.j0, if_pos rfl]
  obtain ⟨n, rfl⟩ := Int.eq_ofNat_of_zero_le (show 0 ≤ k by omega)
  have hn : 1 ≤ n := by omega
  have hc : ((s.size : Int) % (n : Int)) = ((s.size % n : Nat) : Int) := rfl
  have c1 : ∀ q, octet_Split.f q s (n : Int) = octet_Split.j0 q s (n : Int) (decide ((s.size % n : Nat) > 0)) := fun q => by
    unfold octet_Split.f
    rw [if_neg h1, if_neg (by omega), hc]
    congr 1
    exact decide_eq_decide.mpr (by omega)
  have c2 : ∀ q, chainmanref02_Split.f q s (n : Int) = chainmanref02_Split.j0 q s (n : Int) (decide ((s.size % n : Nat) > 0)) := fun q => by
    unfold chainmanref02_Split.f
    rw [if_neg h1, if_neg (by omega), hc]
    congr 1
    rw [Bool.eq_iff_iff, bne_iff_ne, decide_eq_true_iff]
    omega
  by_cases hm : s.size % n = 0
  · have hd : decide (s.size % n > 0) = false := decide_eq_false (by omega)
    have he : s.size / n * n = s.size := Nat.div_mul_cancel (Nat.dvd_of_mod_eq_zero hm)
    have hle : s.size / n ≤ 100 := Nat.le_trans (Nat.div_le_self _ _) hs
    obtain ⟨r, h2, h3, h4⟩ := pieces s n hn hs (s.size / n) 0 [] (by omega) (by simp; omega)
    have e0 : s.extract 0 s.size = s := ba_ext (by rw [ex_data, List.drop_zero, ba_size, List.take_length])
    rw [e0] at h2
    refine ⟨(r, true), Ev.congr c1 (Ev.step (fun q => ?_) h2), Ev.congr c2 (Ev.step (fun q => ?_) h3), h4⟩
    · rw [hd, octet_Split.j0, if_neg (by decide)]
    · rw [hd, chainmanref02_Split.j0, if_neg (by decide)]; rfl
  · have hd : decide (s.size % n > 0) = true := decide_eq_true (by omega)
    refine ⟨([], false), Ev.congr c1 (Ev.step (f := fun _ => some ([], false)) (fun q => ?_) (Ev.now _)), Ev.congr c2 (Ev.step (f := fun _ => some ([], false)) (fun q => ?_) (Ev.now _)), by simp⟩
    · rw [hd, octet_Split.j0, if_pos rfl]
    · rw [hd, chainmanref02_Split.j0, if_pos rfl]
theorem same_loop (l : List ByteArray) (hl : l.length ≤ 200) : ∀ (d i : Nat), i + d = l.length → Ev (fun q => chainmanlaw02_same.l0 q l l (i : Int)) true := by
  intro d
  induction d with
  | zero =>
    intro i hi
    refine Ev.step (f := fun _ => some true) (fun q => ?_) (Ev.now _)
    rw [chainmanlaw02_same.l0, if_neg (by omega)]
  | succ d ih =>
    intro i hi
    refine Ev.step (fun q => ?_) (ih (i + 1) (by omega))
    have e1 : wrap64 ((i : Int) + 1) = ((i + 1 : Nat) : Int) := wrap_succ i (by omega)
    rw [chainmanlaw02_same.l0, if_pos (by omega), if_pos (by omega), if_pos (by omega), if_pos rfl, e1]
theorem same_ev (l : List ByteArray) (hl : l.length ≤ 200) : Ev (fun q => chainmanlaw02_same.f q l l) true := by
  refine Ev.congr (fun q => ?_) (same_loop l hl l.length 0 (by omega))
  unfold chainmanlaw02_same.f
  rw [if_pos rfl]; rfl
theorem OctetRows : chainmanlaw02_OctetRows.Pure := by
  intro l k s _ _ hw _ _
  have aw : Ev (fun _ => (chainmanlaw02_awake.f).bind fun t => some t) true := ⟨0, fun _ _ => by rw [awake_k, Option.bind_some]⟩
  suffices H : Ev (fun q => chainmanlaw02_OctetRows.f q l k s) true from H.rounds
  by_cases g : l.length > 20 ∨ s.size > 100
  · have c : ∀ q, chainmanlaw02_OctetRows.f q l k s = chainmanlaw02_OctetRows.j0 q l k s true := fun q => by
      unfold chainmanlaw02_OctetRows.f
      by_cases g1 : (l.length : Int) > 20
      · rw [if_pos g1]
      · rw [if_neg g1, decide_eq_true (by omega)]
    refine Ev.congr c (Ev.step (fun q => ?_) aw)
    rw [chainmanlaw02_OctetRows.j0, if_pos rfl]
  · have c : ∀ q, chainmanlaw02_OctetRows.f q l k s = chainmanlaw02_OctetRows.j0 q l k s false := fun q => by
      unfold chainmanlaw02_OctetRows.f
      rw [if_neg (by omega), decide_eq_false (by omega)]
    have hx : ∀ x ∈ l, x < 9223372036854775808 := fun x hx => by
      have := hw x hx
      have : -9223372036854775808 ≤ x ∧ x ≤ 9223372036854775807 := by simpa [Lit.wf, IntKind.min, IntKind.max, IntKind.signed, IntKind.bits] using this
      omega
    obtain ⟨r, r1, r2⟩ := row_both l k (by omega) hx
    obtain ⟨p, p1, p2, p3⟩ := split_both s k (by omega)
    refine Ev.congr c (Ev.step (f := fun q => (chainmanref02_Row.f q l k).bind fun bt126 => ((octet_Split.f q s k).bind fun bt128 => ((chainmanref02_Split.f q s k).bind fun bt132 => (if r.1.toList = bt126.1.toList then (if (r.2 == bt126.2) = true then ((chainmanlaw02_same.f q bt128.1 bt132.1).bind fun t136 => (if t136 = true then (if (bt128.2 == bt132.2) = true then ((chainmanlaw02_awake.f).bind fun t137 => (some t137)) else (none)) else (none))) else (none)) else (none))))) (fun q => ?_) ?_)
    · rw [chainmanlaw02_OctetRows.j0, if_neg (by decide), r1, Option.bind_some]
    · refine Ev.bind r2 (Ev.bind p1 (Ev.bind p2 ?_))
      simp only [if_true, beq_self_eq_true]
      exact Ev.bind (same_ev p.1 p3) aw

end Go.Proofs.Ytpdgjegnbcillaa.Pure
