/- The plan of any records, the room of a nest, and how many records must be left are the document's (the law PlanTells). -/
import Derived.Test.YtgpgekjhpkakbaaPPlanTellsx5
namespace Go.Proofs.Ytgpgekjhpkakbaa.Pure
open Go.RowKit Go.Proofs.Ytgpgekjhpkakbaa.PPlanTells Go.Proofs.YtgpgekjhpkakbaaW.PrintWords Go.Proofs.YtgpgekjhpkakbaaW.PrintLast
set_option linter.unusedVariables false
set_option linter.unusedSimpArgs false
/-! ### what the package plan computes, without the document's -/
theorem w64 (n : Int) (h : -9223372036854775808 ≤ n ∧ n ≤ 9223372036854775807) : wrap64 n = n := by unfold wrap64; omega
theorem up_ {α : Type} {f : Nat → Option α} (h : ∀ k, LeO (f k) (f (k + 1))) {r : α} {k : Nat} (K : Nat) (hk : k ≤ K) (e : f k = some r) : f K = some r := by
  induction K with
  | zero => obtain rfl : k = 0 := by omega
            exact e
  | succ K ih =>
    by_cases hq : k = K + 1
    · subst hq; exact e
    · exact h K _ (ih (by omega))
/-- sort.Search: the place at which the answer turns. -/
theorem search_spec (p : Int → Option Bool) (hi : Int) (tot : ∀ x, 0 ≤ x → x < hi → ∃ q, p x = some q) : ∀ (d : Nat) (i j : Int), (j - i).toNat ≤ d → 0 ≤ i → i ≤ j → j ≤ hi →
    ∃ k r, plan_Least.search p k i j = some r ∧ i ≤ r ∧ r ≤ j ∧ (r = i ∨ p (r - 1) = some false) ∧ (r = j ∨ p r = some true) := by
  intro d
  induction d with
  | zero =>
    intro i j hd h0 h1 h2
    have e : i = j := by omega
    subst e
    exact ⟨1, i, by rw [plan_Least.search, if_neg (by omega)], Int.le_refl _, Int.le_refl _, .inl rfl, .inl rfl⟩
  | succ d ih =>
    intro i j hd h0 h1 h2
    by_cases c : i < j
    · obtain ⟨q, hq⟩ := tot ((i + j) / 2) (by omega) (by omega)
      cases q with
      | true =>
        obtain ⟨k, r, hr, r0, r1, r2, r3⟩ := ih i ((i + j) / 2) (by omega) h0 (by omega) (by omega)
        refine ⟨k + 1, r, by rw [plan_Least.search, if_pos c, hq, Option.bind_some, if_pos rfl]; exact hr, r0, by omega, r2, ?_⟩
        rcases r3 with e | e
        · exact .inr (by rw [e]; exact hq)
        · exact .inr e
      | false =>
        obtain ⟨k, r, hr, r0, r1, r2, r3⟩ := ih ((i + j) / 2 + 1) j (by omega) (by omega) (by omega) h2
        refine ⟨k + 1, r, by rw [plan_Least.search, if_pos c, hq, Option.bind_some, if_neg (by decide)]; exact hr, by omega, r1, ?_, r3⟩
        rcases r2 with e | e
        · exact .inr (by rw [e, show (i + j) / 2 + 1 - 1 = (i + j) / 2 by omega]; exact hq)
        · exact .inr e
    · have e : i = j := by omega
      subst e
      exact ⟨1, i, by rw [plan_Least.search, if_neg c], Int.le_refl _, Int.le_refl _, .inl rfl, .inl rfl⟩
/-! #### how often all are written -/
theorem ceil_less (c f : Int) (hc : 1 < c) (hf : 2 ≤ f) : 1 ≤ (c + f - 1) / f ∧ (c + f - 1) / f < c := by
  have h1 : (c + f - 1) / f * f ≤ c + f - 1 := Int.ediv_mul_le _ (by omega)
  have h2 : c + f - 1 < ((c + f - 1) / f + 1) * f := Int.lt_ediv_add_one_mul_self _ (by omega)
  generalize (c + f - 1) / f = q at *
  have h3 : (1 : Int) * 1 ≤ (c - 1) * (f - 1) := Int.mul_le_mul (by omega) (by omega) (by omega) (by omega)
  rw [Int.sub_mul, Int.mul_sub] at h3
  constructor
  · rcases Int.lt_or_le 0 q with z | z
    · omega
    · have := Int.mul_le_mul_of_nonneg_right (show q + 1 ≤ 1 by omega) (show 0 ≤ f by omega)
      omega
  · rcases Int.lt_or_le q c with z | z
    · exact z
    · have := Int.mul_le_mul_of_nonneg_right z (show 0 ≤ f by omega)
      omega
theorem mxmn_ok (x : Int) : mn 64 x ≤ 64 := by unfold mn; split <;> omega
theorem xrounds (f : Int) (hf : 2 ≤ f) (hf2 : f ≤ 64) : ∀ (d : Nat) (c p : Int), c.toNat ≤ d → 1 ≤ p → p + c ≤ 4611686018427387904 → 0 ≤ c →
    ∃ k v, xsort_Passes.l0 k f p c = some v ∧ p ≤ v := by
  intro d
  induction d with
  | zero =>
    intro c p hd h1 h2 h0
    exact ⟨1, p, by rw [xsort_Passes.l0, if_neg (by omega)], Int.le_refl _⟩
  | succ d ih =>
    intro c p hd h1 h2 h0
    by_cases hc : c > 1
    · obtain ⟨q1, q2⟩ := ceil_less c f hc hf
      have e1 : wrap64 (c + f) = c + f := w64 _ (by omega)
      have e2 : wrap64 (c + f - 1) = c + f - 1 := w64 _ (by omega)
      have e3 : Int.tdiv (c + f - 1) f = (c + f - 1) / f := Int.tdiv_eq_ediv_of_nonneg (by omega)
      have e4 : wrap64 ((c + f - 1) / f) = (c + f - 1) / f := w64 _ (by omega)
      have e5 : wrap64 (p + 1) = p + 1 := w64 _ (by omega)
      obtain ⟨k, v, a1, a3⟩ := ih ((c + f - 1) / f) (p + 1) (by omega) (by omega) (by omega) (by omega)
      exact ⟨k + 1, v, by rw [xsort_Passes.l0, if_pos hc, if_neg (by omega), e1, e2, e3, e4, e5]; exact a1, by omega⟩
    · exact ⟨1, p, by rw [xsort_Passes.l0, if_neg hc], Int.le_refl _⟩
/-- Rounded up: of less, by more, no more. -/
theorem ceil_anti {c c' f f' : Int} (hc : c' ≤ c) (h0 : 0 ≤ c') (hf : f ≤ f') (h1 : 1 ≤ f) : 0 ≤ (c' + f' - 1) / f' ∧ (c' + f' - 1) / f' ≤ (c + f - 1) / f := by
  have h2 : c + f - 1 < ((c + f - 1) / f + 1) * f := Int.lt_ediv_add_one_mul_self _ (by omega)
  have h3 : 0 ≤ (c + f - 1) / f := Int.ediv_nonneg (by omega) (by omega)
  refine ⟨Int.ediv_nonneg (by omega) (by omega), ?_⟩
  generalize (c + f - 1) / f = q at *
  have h4 : q * f ≤ q * f' := Int.mul_le_mul_of_nonneg_left hf h3
  rw [Int.add_mul, Int.one_mul] at h2
  have h5 : (c' + f' - 1) / f' < q + 1 := Int.ediv_lt_of_lt_mul (by omega) (by rw [Int.add_mul, Int.one_mul]; omega)
  omega
theorem anti (f f' : Int) (hf : 2 ≤ f) (hff : f ≤ f') (hf2 : f' ≤ 64) : ∀ (k k' : Nat) (c c' p p' v v' : Int), xsort_Passes.l0 k f p c = some v → xsort_Passes.l0 k' f' p' c' = some v' →
    1 ≤ p' → p' ≤ p → 0 ≤ c' → c' ≤ c → p + c ≤ 4611686018427387904 → v' ≤ v := by
  intro k
  induction k with
  | zero => intro k' c c' p p' v v' h; simp [xsort_Passes.l0] at h
  | succ k ih =>
    intro k' c c' p p' v v' h h' h1 hp h0 hc hb
    cases k' with
    | zero => simp [xsort_Passes.l0] at h'
    | succ k' =>
      by_cases hc1 : c > 1
      · obtain ⟨q1, q2⟩ := ceil_less c f hc1 hf
        have e1 : wrap64 (c + f) = c + f := w64 _ (by omega)
        have e2 : wrap64 (c + f - 1) = c + f - 1 := w64 _ (by omega)
        have e3 : Int.tdiv (c + f - 1) f = (c + f - 1) / f := Int.tdiv_eq_ediv_of_nonneg (by omega)
        have e4 : wrap64 ((c + f - 1) / f) = (c + f - 1) / f := w64 _ (by omega)
        have e5 : wrap64 (p + 1) = p + 1 := w64 _ (by omega)
        rw [xsort_Passes.l0, if_pos hc1, if_neg (by omega), e1, e2, e3, e4, e5] at h
        by_cases hc2 : c' > 1
        · obtain ⟨r1, r2⟩ := ceil_less c' f' hc2 (by omega)
          obtain ⟨_, an⟩ := ceil_anti hc h0 hff (by omega)
          have d1 : wrap64 (c' + f') = c' + f' := w64 _ (by omega)
          have d2 : wrap64 (c' + f' - 1) = c' + f' - 1 := w64 _ (by omega)
          have d3 : Int.tdiv (c' + f' - 1) f' = (c' + f' - 1) / f' := Int.tdiv_eq_ediv_of_nonneg (by omega)
          have d4 : wrap64 ((c' + f' - 1) / f') = (c' + f' - 1) / f' := w64 _ (by omega)
          have d5 : wrap64 (p' + 1) = p' + 1 := w64 _ (by omega)
          rw [xsort_Passes.l0, if_pos hc2, if_neg (by omega), d1, d2, d3, d4, d5] at h'
          exact ih k' _ _ _ _ v v' h h' (by omega) (by omega) (by omega) an (by omega)
        · rw [xsort_Passes.l0, if_neg hc2] at h'
          obtain rfl := Option.some.inj h'
          obtain ⟨kk, u, hu, hpu⟩ := xrounds f hf (by omega) _ ((c + f - 1) / f) (p + 1) (Nat.le_refl _) (by omega) (by omega) (by omega)
          have g1 := up_ (f := fun k => xsort_Passes.l0 k f (p + 1) ((c + f - 1) / f)) (fun k => (xsort_Passes.mono_l k).2 _ _ _) (k + kk) (by omega) h
          have g2 := up_ (f := fun k => xsort_Passes.l0 k f (p + 1) ((c + f - 1) / f)) (fun k => (xsort_Passes.mono_l k).2 _ _ _) (k + kk) (by omega) hu
          have : v = u := Option.some.inj (g1.symm.trans g2)
          omega
      · have hc2 : ¬ c' > 1 := by omega
        rw [xsort_Passes.l0, if_neg hc1] at h
        rw [xsort_Passes.l0, if_neg hc2] at h'
        obtain rfl := Option.some.inj h
        obtain rfl := Option.some.inj h'
        exact hp
/-- The passes of a program that has so many left: its loop. -/
theorem xpasses_f (k : Nat) (n m : Int) (hn : 0 ≤ n ∧ n ≤ 1099511627776) (hm : 16 ≤ m ∧ m ≤ 1099511627776) :
    xsort_Passes.f (k + 1) n m = xsort_Passes.l0 k (mn 64 ((m - 4) / 4)) 1 ((n + (m - 8) - 1) / (m - 8)) := by
  have e1 : wrap64 (m - 8) = m - 8 := w64 _ (by omega)
  have e2 : wrap64 (m - 4) = m - 4 := w64 _ (by omega)
  have e3 : Int.tdiv (m - 4) 4 = (m - 4) / 4 := Int.tdiv_eq_ediv_of_nonneg (by omega)
  have e4 : wrap64 ((m - 4) / 4) = (m - 4) / 4 := w64 _ (by omega)
  have e5 : wrap64 (n + (m - 8)) = n + (m - 8) := w64 _ (by omega)
  have e6 : wrap64 (n + (m - 8) - 1) = n + (m - 8) - 1 := w64 _ (by omega)
  have e9 : Int.tdiv (n + (m - 8) - 1) (m - 8) = (n + (m - 8) - 1) / (m - 8) := Int.tdiv_eq_ediv_of_nonneg (by omega)
  have q0 : 0 ≤ (n + (m - 8) - 1) / (m - 8) := Int.ediv_nonneg (by omega) (by omega)
  have q1 : (n + (m - 8) - 1) / (m - 8) ≤ n + (m - 8) - 1 := Int.ediv_le_self _ (by omega)
  have e10 : wrap64 ((n + (m - 8) - 1) / (m - 8)) = (n + (m - 8) - 1) / (m - 8) := w64 _ (by omega)
  unfold xsort_Passes.f
  rw [if_neg (by omega), if_neg (by omega), if_neg (by omega), decide_eq_false (by omega), xsort_Passes.j0, if_neg (by decide)]
  unfold xsort_room.f
  rw [Option.bind_some]
  show (if wrap64 (m - 8) = 0 then none else xsort_Passes.l0 k (mn 64 (wrap64 (Int.tdiv (wrap64 (m - 4)) 4))) 1 (wrap64 (Int.tdiv (wrap64 (wrap64 (n + wrap64 (m - 8)) - 1)) (wrap64 (m - 8))))) = _
  rw [e1, if_neg (by omega), e2, e3, e4, e5, e6, e9, e10]
theorem xfan (m : Int) (hm : 16 ≤ m) : 2 ≤ mn 64 ((m - 4) / 4) ∧ mn 64 ((m - 4) / 4) ≤ 64 := by unfold mn; split <;> omega
theorem xcount (n m : Int) (hn : 0 ≤ n ∧ n ≤ 1099511627776) (hm : 16 ≤ m ∧ m ≤ 1099511627776) : 0 ≤ (n + (m - 8) - 1) / (m - 8) ∧ (n + (m - 8) - 1) / (m - 8) ≤ 2199023255552 := by
  have q0 : 0 ≤ (n + (m - 8) - 1) / (m - 8) := Int.ediv_nonneg (by omega) (by omega)
  have q1 : (n + (m - 8) - 1) / (m - 8) ≤ n + (m - 8) - 1 := Int.ediv_le_self _ (by omega)
  omega
theorem xpasses (n m : Int) (hn : 0 ≤ n ∧ n ≤ 1099511627776) (hm : 16 ≤ m ∧ m ≤ 1099511627776) : ∃ k v, xsort_Passes.f k n m = some v ∧ 1 ≤ v := by
  have hF := xfan m hm.1
  have hc := xcount n m hn hm
  obtain ⟨k, v, a1, a3⟩ := xrounds (mn 64 ((m - 4) / 4)) hF.1 hF.2 _ ((n + (m - 8) - 1) / (m - 8)) 1 (Nat.le_refl _) (Int.le_refl _) (by omega) hc.1
  exact ⟨k + 1, v, by rw [xpasses_f k n m hn hm]; exact a1, a3⟩
/-- Who has more left writes no more often. -/
theorem xpasses_anti {n m m' v v' : Int} {k k' : Nat} (hn : 0 ≤ n ∧ n ≤ 1099511627776) (hm : 16 ≤ m) (hmm : m ≤ m') (hm2 : m' ≤ 1099511627776) (h : xsort_Passes.f k n m = some v) (h' : xsort_Passes.f k' n m' = some v') : v' ≤ v := by
  have g := up_ (f := fun k => xsort_Passes.f k n m) (fun k => xsort_Passes.mono n m k) (k + 1) (by omega) h
  have g' := up_ (f := fun k => xsort_Passes.f k n m') (fun k => xsort_Passes.mono n m' k) (k' + 1) (by omega) h'
  have g1 : xsort_Passes.f (k + 1) n m = some v := g
  have g2 : xsort_Passes.f (k' + 1) n m' = some v' := g'
  rw [xpasses_f k n m hn (by omega)] at g1
  rw [xpasses_f k' n m' hn (by omega)] at g2
  have c1 := xcount n m hn (by omega)
  have c2 := xcount n m' hn (by omega)
  have an := ceil_anti (c := n) (c' := n) (f := m - 8) (f' := m' - 8) (Int.le_refl _) hn.1 (by omega) (by omega)
  refine anti (mn 64 ((m - 4) / 4)) (mn 64 ((m' - 4) / 4)) (xfan m hm).1 ?_ (xfan m' (by omega)).2 k k' _ _ 1 1 v v' g1 g2 (Int.le_refl _) (Int.le_refl _) an.1 an.2 (by omega)
  unfold mn
  split <;> split <;> omega

/-! #### how often all are written, by the program and by the document -/
theorem rounds (f : Int) (hf : 2 ≤ f) (hf2 : f ≤ 64) : ∀ (d : Nat) (c p : Int), c.toNat ≤ d → 1 ≤ p → p + c ≤ 4611686018427387904 → 0 ≤ c →
    ∃ k v, xsort_Passes.l0 k f p c = some v ∧ chainmanref18_Passes.l0 k c f p = some v ∧ p ≤ v ∧ (c ≤ 1 → v = 1 ∨ p ≠ 1) := by
  intro d
  induction d with
  | zero =>
    intro c p hd h1 h2 h0
    refine ⟨1, p, by rw [xsort_Passes.l0, if_neg (by omega)], by rw [chainmanref18_Passes.l0, if_neg (by omega)], Int.le_refl _, by omega⟩
  | succ d ih =>
    intro c p hd h1 h2 h0
    by_cases hc : c > 1
    · obtain ⟨q1, q2⟩ := ceil_less c f hc hf
      have e1 : wrap64 (c + f) = c + f := w64 _ (by omega)
      have e2 : wrap64 (c + f - 1) = c + f - 1 := w64 _ (by omega)
      have e3 : Int.tdiv (c + f - 1) f = (c + f - 1) / f := Int.tdiv_eq_ediv_of_nonneg (by omega)
      have e4 : wrap64 ((c + f - 1) / f) = (c + f - 1) / f := w64 _ (by omega)
      have e5 : wrap64 (p + 1) = p + 1 := w64 _ (by omega)
      obtain ⟨k, v, a1, a2, a3, a4⟩ := ih ((c + f - 1) / f) (p + 1) (by omega) (by omega) (by omega) (by omega)
      refine ⟨k + 1, v, ?_, ?_, by omega, by omega⟩
      · rw [xsort_Passes.l0, if_pos hc, if_neg (by omega), e1, e2, e3, e4, e5]; exact a1
      · rw [chainmanref18_Passes.l0, if_pos hc, if_neg (by omega), e1, e2, e3, e4, e5]; exact a2
    · exact ⟨1, p, by rw [xsort_Passes.l0, if_neg hc], by rw [chainmanref18_Passes.l0, if_neg hc], Int.le_refl _, by omega⟩
theorem passes (n m : Int) (hn : 0 ≤ n ∧ n ≤ 1099511627776) (hm : 16 ≤ m ∧ m ≤ 1099511627776) :
    ∃ k v, xsort_Passes.f k n m = some v ∧ chainmanref18_Passes.f k n m = some v ∧ 1 ≤ v ∧ (n + 8 ≤ m → v = 1) := by
  have e1 : wrap64 (m - 8) = m - 8 := w64 _ (by omega)
  have e2 : wrap64 (m - 4) = m - 4 := w64 _ (by omega)
  have e3 : Int.tdiv (m - 4) 4 = (m - 4) / 4 := Int.tdiv_eq_ediv_of_nonneg (by omega)
  have e4 : wrap64 ((m - 4) / 4) = (m - 4) / 4 := w64 _ (by omega)
  have e5 : wrap64 (n + (m - 8)) = n + (m - 8) := w64 _ (by omega)
  have e6 : wrap64 (n + (m - 8) - 1) = n + m - 9 := by rw [w64 _ (by omega)]; omega
  have e7 : wrap64 (n + m) = n + m := w64 _ (by omega)
  have e8 : wrap64 (n + m - 9) = n + m - 9 := w64 _ (by omega)
  have e9 : Int.tdiv (n + m - 9) (m - 8) = (n + m - 9) / (m - 8) := Int.tdiv_eq_ediv_of_nonneg (by omega)
  have q0 : 0 ≤ (n + m - 9) / (m - 8) := Int.ediv_nonneg (by omega) (by omega)
  have q1 : (n + m - 9) / (m - 8) ≤ n + m - 9 := Int.ediv_le_self _ (by omega)
  have q2 : n + 8 ≤ m → (n + m - 9) / (m - 8) < 2 := fun h => Int.ediv_lt_of_lt_mul (by omega) (by omega)
  have e10 : wrap64 ((n + m - 9) / (m - 8)) = (n + m - 9) / (m - 8) := w64 _ (by omega)
  obtain ⟨F, hF⟩ : ∃ F, mn 64 ((m - 4) / 4) = F := ⟨_, rfl⟩
  have hF2 : 2 ≤ F ∧ F ≤ 64 := by
    rw [← hF]; unfold mn
    split <;> omega
  obtain ⟨k, v, a1, a2, a3, a4⟩ := rounds F hF2.1 hF2.2 _ ((n + m - 9) / (m - 8)) 1 (Nat.le_refl _) (Int.le_refl _) (by omega) q0
  refine ⟨k + 1, v, ?_, ?_, a3, fun h => (a4 (by have := q2 h; omega)).elim id (fun h => absurd rfl h)⟩
  · unfold xsort_Passes.f
    rw [if_neg (by omega), if_neg (by omega), if_neg (by omega), decide_eq_false (by omega), xsort_Passes.j0, if_neg (by decide)]
    unfold xsort_room.f
    rw [Option.bind_some]
    show (if wrap64 (m - 8) = 0 then none else xsort_Passes.l0 k (mn 64 (wrap64 (Int.tdiv (wrap64 (m - 4)) 4))) 1 (wrap64 (Int.tdiv (wrap64 (wrap64 (n + wrap64 (m - 8)) - 1)) (wrap64 (m - 8))))) = some v
    rw [e1, if_neg (by omega), e2, e3, e4, hF, e5, e6, e9, e10]
    exact a1
  · unfold chainmanref18_Passes.f
    rw [if_neg (by omega), if_neg (by omega), if_neg (by omega), decide_eq_false (by omega), chainmanref18_Passes.j0, if_neg (by decide), e1, if_neg (by omega), e7, e8, e9, e10, e2, e3, e4, hF]
    exact a2
/-- One number of rounds for all that may be left. -/
theorem passes_all (n : Int) (hn : 0 ≤ n ∧ n ≤ 1099511627776) : ∀ N : Nat, N ≤ 1099511627760 → ∃ K, ∀ m : Int, 16 ≤ m → m < 16 + (N : Int) →
    ∃ v, xsort_Passes.f K n m = some v ∧ chainmanref18_Passes.f K n m = some v ∧ 1 ≤ v ∧ (n + 8 ≤ m → v = 1) := by
  intro N
  induction N with
  | zero => intro _; exact ⟨0, fun m h1 h2 => by omega⟩
  | succ N ih =>
    intro hN
    obtain ⟨K, hK⟩ := ih (by omega)
    obtain ⟨k, v, a1, a2, a3, a4⟩ := passes n (16 + (N : Int)) hn (by omega)
    refine ⟨K + k, fun m h1 h2 => ?_⟩
    by_cases e : m = 16 + (N : Int)
    · subst e
      exact ⟨v, up_ (f := fun k => xsort_Passes.f k n _) (fun k => xsort_Passes.mono n _ k) _ (by omega) a1, up_ (f := fun k => chainmanref18_Passes.f k n _) (fun k => chainmanref18_Passes.mono n _ k) _ (by omega) a2, a3, a4⟩
    · obtain ⟨v', b1, b2, b3, b4⟩ := hK m h1 (by omega)
      exact ⟨v', up_ (f := fun k => xsort_Passes.f k n _) (fun k => xsort_Passes.mono n _ k) _ (by omega) b1, up_ (f := fun k => chainmanref18_Passes.f k n _) (fun k => chainmanref18_Passes.mono n _ k) _ (by omega) b2, b3, b4⟩

/-! #### the least that must be left -/
theorem enough_up (n p m : Int) (K K' : Nat) (h : K ≤ K') : LeO (plan_Least.enough K n p m) (plan_Least.enough K' n p m) := by
  intro r hr
  refine up_ (f := fun k => plan_Least.enough k n p m) (fun k => ?_) K' h hr
  unfold plan_Least.enough
  exact LeO.bind (xsort_Passes.mono n m k) (fun _ => LeO.refl _)
theorem least_spec (n p : Int) (hn : 0 ≤ n ∧ n ≤ 1048576) (hp : 1 ≤ p) : ∃ K r v, plan_Least.f K n p = some (r, true) ∧ (16 ≤ r ∧ r ≤ 1048584) ∧ chainmanref18_Passes.f K n r = some v ∧ v ≤ p ∧
    (r = 16 ∨ ∃ u, chainmanref18_Passes.f K n (r - 1) = some u ∧ p < u) := by
  obtain ⟨M, hM⟩ : ∃ M, mx 16 (n + 8) = M := ⟨_, rfl⟩
  have hM2 : 16 ≤ M ∧ n + 8 ≤ M ∧ M ≤ 1048584 := by
    rw [← hM]; unfold mx
    split <;> omega
  obtain ⟨K, hK⟩ := passes_all n (by omega) (M - 16 + 1).toNat (by omega)
  have en : ∀ m, 16 ≤ m → m ≤ M → ∃ v, xsort_Passes.f K n m = some v ∧ chainmanref18_Passes.f K n m = some v ∧ 1 ≤ v ∧ (n + 8 ≤ m → v = 1) := fun m h1 h2 => hK m h1 (by omega)
  have w16 : ∀ x, 0 ≤ x → x ≤ M - 16 → wrap64 (16 + x) = 16 + x := fun x h1 h2 => w64 _ (by omega)
  obtain ⟨k, r, hr, r0, r1, r2, r3⟩ := search_spec (fun i => plan_Least.enough K n p (wrap64 (16 + i))) (M - 16) (fun x h0 h1 => by
    obtain ⟨v, e, _⟩ := en (16 + x) (by omega) (by omega)
    exact ⟨decide (v ≤ p), by show plan_Least.enough K n p (wrap64 (16 + x)) = _; rw [w16 x h0 (by omega)]; unfold plan_Least.enough; rw [e, Option.bind_some]⟩) _ 0 (M - 16) (Nat.le_refl _) (Int.le_refl _) (by omega) (Int.le_refl _)
  obtain ⟨v, e1, e2, e3, e4⟩ := en (16 + r) (by omega) (by omega)
  refine ⟨K + k, 16 + r, v, ?_, ⟨by omega, by omega⟩, up_ (f := fun k => chainmanref18_Passes.f k n _) (fun k => chainmanref18_Passes.mono n _ k) _ (by omega) e2, ?_, ?_⟩
  · unfold plan_Least.f
    rw [if_neg (by omega), if_neg (by omega), if_neg (by omega), hM]
    unfold plan_Least.first
    rw [if_pos (by omega)]
    have h1 := plan_Least.search_le (q := fun i => plan_Least.enough (K + k) n p (wrap64 (16 + i))) (fun x => enough_up n p _ K (K + k) (by omega)) _ _ _ _ hr
    have h2 := up_ (f := fun j => plan_Least.search (fun i => plan_Least.enough (K + k) n p (wrap64 (16 + i))) j 0 (M - 16)) (fun j => plan_Least.search_mono _ j 0 _) (K + k) (by omega) h1
    rw [h2, Option.bind_some, Option.bind_some, w16 r r0 r1]
  · rcases r3 with e | e
    · have := e4 (by omega); omega
    · have e' : plan_Least.enough K n p (wrap64 (16 + r)) = some true := e
      rw [w16 r r0 r1] at e'
      unfold plan_Least.enough at e'
      rw [e1, Option.bind_some] at e'
      exact of_decide_eq_true (Option.some.inj e')
  · rcases r2 with e | e
    · exact .inl (by omega)
    · by_cases hz : r = 0
      · exact .inl (by omega)
      · obtain ⟨u, f1, f2, f3, f4⟩ := en (16 + r - 1) (by omega) (by omega)
        have e' : plan_Least.enough K n p (wrap64 (16 + (r - 1))) = some false := e
        rw [w16 (r - 1) (by omega) (by omega), show 16 + (r - 1) = 16 + r - 1 by omega] at e'
        unfold plan_Least.enough at e'
        rw [f1, Option.bind_some] at e'
        have := of_decide_eq_false (Option.some.inj e')
        exact .inr ⟨u, up_ (f := fun k => chainmanref18_Passes.f k n _) (fun k => chainmanref18_Passes.mono n _ k) _ (by omega) f2, by omega⟩

/-! #### plans and rooms -/
theorem hold_fan (m : Int) (hm : 16 ≤ m ∧ m ≤ 1099511627776) : num_Hold.f 2 (wrap64 (Int.tdiv (wrap64 (m - 4)) 4)) 1 64 = some (mn ((m - 4) / 4) 64) := by
  have e2 : wrap64 (m - 4) = m - 4 := w64 _ (by omega)
  have e3 : Int.tdiv (m - 4) 4 = (m - 4) / 4 := Int.tdiv_eq_ediv_of_nonneg (by omega)
  have e4 : wrap64 ((m - 4) / 4) = (m - 4) / 4 := w64 _ (by omega)
  have e : num_least.f 2 ((m - 4) / 4) [64] = some (mn ((m - 4) / 4) 64) := by simp [num_least.f, num_least.l0, rd, wrap64]
  unfold num_Hold.f
  rw [e2, e3, e4, if_neg (by omega), e, Option.bind_some]
theorem ceil_up (n b : Int) (hn : 0 ≤ n ∧ n ≤ 1099511627776) (hb : 1 ≤ b ∧ b ≤ 1099511627776) : num_Ceil.f 1 n b = some ((n + b - 1) / b) := by
  have t1 : Int.tdiv n b = n / b := Int.tdiv_eq_ediv_of_nonneg hn.1
  have t2 : Int.tmod n b = n % b := Int.tmod_eq_emod_of_nonneg hn.1
  have q0 : 0 ≤ n / b := Int.ediv_nonneg hn.1 (by omega)
  have q1 : n / b ≤ n := Int.ediv_le_self _ hn.1
  have m0 : 0 ≤ n % b := Int.emod_nonneg _ (by omega)
  have m1 : n % b < b := Int.emod_lt_of_pos _ (by omega)
  have ee : n / b * b + n % b = n := Int.ediv_mul_add_emod n b
  have hF : num_Floor.f n b = some (n / b) := by
    unfold num_Floor.f
    rw [if_neg (by omega), if_neg (by omega), t1, w64 (n / b) (by omega), w64 (n / b * b) (by omega), if_neg (by omega)]
  have hR : num_Rest.f n b = some (n % b) := by
    unfold num_Rest.f
    rw [if_neg (by omega), if_neg (by omega), t2, if_neg (by omega)]
  unfold num_Ceil.f
  rw [if_neg (by omega), if_neg (by omega), decide_eq_false (by omega), num_Ceil.j0, if_neg (by decide), hF, Option.bind_some, hR, Option.bind_some]
  have h2 : n + b - 1 < ((n + b - 1) / b + 1) * b := Int.lt_ediv_add_one_mul_self _ (by omega)
  have h1 : (n + b - 1) / b * b ≤ n + b - 1 := Int.ediv_mul_le _ (by omega)
  generalize (n + b - 1) / b = q at *
  generalize n % b = r at *
  generalize n / b = f at *
  rw [Int.add_mul, Int.one_mul] at h2
  by_cases hr : r > 0
  · rw [if_pos hr, w64 _ (by omega)]
    congr 1
    rcases Int.lt_trichotomy (f + 1) q with z | z | z
    · have := Int.mul_le_mul_of_nonneg_right (show f + 2 ≤ q by omega) (show 0 ≤ b by omega)
      rw [Int.add_mul] at this; omega
    · exact z
    · have := Int.mul_le_mul_of_nonneg_right (show q ≤ f by omega) (show 0 ≤ b by omega)
      omega
  · rw [if_neg hr]
    congr 1
    rcases Int.lt_trichotomy f q with z | z | z
    · have := Int.mul_le_mul_of_nonneg_right (show f + 1 ≤ q by omega) (show 0 ≤ b by omega)
      rw [Int.add_mul, Int.one_mul] at this; omega
    · exact z
    · have := Int.mul_le_mul_of_nonneg_right (show q + 1 ≤ f by omega) (show 0 ≤ b by omega)
      rw [Int.add_mul, Int.one_mul] at this; omega
theorem of_spec (n m : Int) (hn : 0 ≤ n ∧ n ≤ 1099511627776) (hm : 16 ≤ m ∧ m ≤ 1099511627776) : ∃ k v, plan_Of.f k n m = some (m - 8, mn ((m - 4) / 4) 64, v, (n + (m - 8) - 1) / (m - 8), true) ∧ xsort_Passes.f k n m = some v ∧ 1 ≤ v := by
  obtain ⟨k, v, a1, a2⟩ := xpasses n m hn hm
  refine ⟨k + 3, v, ?_, up_ (f := fun k => xsort_Passes.f k n m) (fun k => xsort_Passes.mono n m k) _ (by omega) a1, a2⟩
  have h1 := up_ (f := fun k => num_Hold.f k (wrap64 (Int.tdiv (wrap64 (m - 4)) 4)) 1 64) (fun k => num_Hold.mono _ _ _ k) (k + 2) (by omega) (hold_fan m hm)
  have h2 := up_ (f := fun k => xsort_Passes.f k n m) (fun k => xsort_Passes.mono n m k) (k + 2) (by omega) a1
  have h3 := up_ (f := fun k => num_Ceil.f k n (m - 8)) (fun k => num_Ceil.mono _ _ k) (k + 2) (by omega) (ceil_up n (m - 8) hn (by omega))
  unfold plan_Of.f
  rw [if_neg (by omega), if_neg (by omega), if_neg (by omega), decide_eq_false (by omega), plan_Of.j0, if_neg (by decide), h1, Option.bind_some, h2, Option.bind_some, w64 (m - 8) (by omega), h3, Option.bind_some]
theorem need_one (x : Int) (hx : 1 ≤ x ∧ x ≤ 1099511627776) : nest_Need.f x = some (2 * x + 5) := by
  have e1 : wrap64 (2 * x) = 2 * x := w64 _ (by omega)
  have e2 : wrap64 (2 * x + 4) = 2 * x + 4 := w64 _ (by omega)
  have e3 : wrap64 (2 * x + 4 + 1) = 2 * x + 5 := by rw [w64 _ (by omega)]; omega
  unfold nest_Need.f
  rw [if_neg (by omega), if_neg (by omega), e1, e2, e3]
theorem over_eq (m x : Int) (hx : 0 ≤ x ∧ x < 1099511627776) : plan_Room.over m x = some (decide (m < 2 * (x + 1) + 5)) := by
  unfold plan_Room.over
  rw [w64 (x + 1) (by omega), need_one (x + 1) (by omega), Option.bind_some]
theorem room_spec (m : Int) (hm : 7 ≤ m ∧ m ≤ 1099511627776) : ∃ k r, plan_Room.f k m = some r ∧ 1 ≤ r ∧ r ≤ m ∧ 2 * r + 5 ≤ m ∧ m < 2 * (r + 1) + 5 := by
  have ov : ∀ x, 0 ≤ x → x < m - 1 → plan_Room.over m (wrap64 (1 + x)) = some (decide (m < 2 * (1 + x + 1) + 5)) := fun x h0 h1 => by
    rw [w64 (1 + x) (by omega), over_eq m (1 + x) (by omega)]
  obtain ⟨k, r, hr, r0, r1, r2, r3⟩ := search_spec (fun i => plan_Room.over m (wrap64 (1 + i))) (m - 1) (fun x h0 h1 => ⟨_, ov x h0 (by omega)⟩) _ 0 (m - 1) (Nat.le_refl _) (Int.le_refl _) (by omega) (Int.le_refl _)
  refine ⟨k, 1 + r, ?_, by omega, by omega, ?_, ?_⟩
  · unfold plan_Room.f
    rw [if_neg (by omega), if_neg (by omega)]
    unfold plan_Least.first
    rw [if_pos (by omega), hr, Option.bind_some, w64 (1 + r) (by omega)]
  · rcases r2 with e | e
    · omega
    · by_cases hz : r = 0
      · omega
      · have e' : plan_Room.over m (wrap64 (1 + (r - 1))) = some false := e
        rw [ov (r - 1) (by omega) (by omega)] at e'
        have := of_decide_eq_false (Option.some.inj e')
        omega
  · by_cases hr : r = m - 1
    · omega
    rcases r3 with e | e
    · omega
    · have e' : plan_Room.over m (wrap64 (1 + r)) = some true := e
      rw [ov r r0 (by omega)] at e'
      have := of_decide_eq_true (Option.some.inj e')
      omega

/-! ### the law PlanTells -/
theorem mn_comm (a b : Int) : mn a b = mn b a := by unfold mn; split <;> split <;> omega
theorem uniq {α : Type} {f : Nat → Option α} (h : ∀ k, LeO (f k) (f (k + 1))) {k k' : Nat} {r r' : α} (e : f k = some r) (e' : f k' = some r') : r = r' :=
  Option.some.inj ((up_ h (k + k') (by omega) e).symm.trans (up_ h (k + k') (by omega) e'))
theorem div_bounds (a b : Int) (ha : -9223372036854775808 ≤ a ∧ a ≤ 9223372036854775807) (hb : 1 ≤ b) :
    -9223372036854775808 ≤ Int.tdiv a b ∧ Int.tdiv a b ≤ 9223372036854775807 ∧ Int.tdiv a b * b + Int.tmod a b = a ∧ -b < Int.tmod a b ∧ Int.tmod a b < b ∧ (0 ≤ a → 0 ≤ Int.tmod a b) ∧ (Int.tmod a b < 0 → -9223372036854775808 < Int.tdiv a b) := by
  have e := Int.tdiv_mul_add_tmod a b
  have h1 : (Int.tdiv a b).natAbs ≤ a.natAbs := by rw [Int.natAbs_tdiv]; exact Nat.div_le_self _ _
  have hm : 0 ≤ a → Int.tdiv a b ≥ 0 := fun h => Int.tdiv_nonneg h (by omega)
  have hs : (0 ≤ a → 0 ≤ Int.tmod a b) := fun h => Int.tmod_nonneg b h
  have l1 := Int.lt_tmod_of_pos a (show 0 < b by omega)
  have l2 := Int.tmod_lt_of_pos a (show 0 < b by omega)
  refine ⟨by omega, ?_, e, by omega, l2, hs, ?_⟩
  · rcases Int.lt_or_le a 0 with h | h
    · have : Int.tdiv a b ≤ 0 := by
        have := Int.tdiv_nonneg (show 0 ≤ -a by omega) (show 0 ≤ b by omega)
        rw [Int.neg_tdiv] at this; omega
      omega
    · omega
  · intro hr
    rcases Int.lt_or_le (-9223372036854775808) (Int.tdiv a b) with z | z
    · exact z
    · exfalso
      have ez : Int.tdiv a b = -9223372036854775808 := by omega
      rw [ez] at e
      omega
theorem rfloor (a b : Int) (ha : -4611686018427387904 ≤ a ∧ a ≤ 4611686018427387904) (hb : 1 ≤ b) : ∃ q, chainmanref01_Floor.f a b = some q ∧ q * b ≤ a ∧ a < q * b + b := by
  obtain ⟨h1, h2, e, h3, h4, h5, h6⟩ := div_bounds a b (by omega) hb
  unfold chainmanref01_Floor.f
  rw [if_neg (by omega), if_neg (by omega), w64 _ ⟨h1, h2⟩]
  by_cases c : Int.tmod a b < 0
  · rw [if_pos c, w64 _ (by have := h6 c; omega)]
    exact ⟨_, rfl, by rw [Int.sub_mul]; omega, by rw [Int.sub_mul]; omega⟩
  · rw [if_neg c]
    exact ⟨_, rfl, by omega, by omega⟩
theorem rceil (n b : Int) (hn : 0 ≤ n ∧ n ≤ 1099511627776) (hb : 1 ≤ b ∧ b ≤ 1099511627776) : chainmanref01_Ceil.f n b = some ((n + b - 1) / b) := by
  obtain ⟨p, hp, h3, h4⟩ := rfloor (-n) b (by omega) hb.1
  unfold chainmanref01_Ceil.f
  rw [if_neg (by omega), if_neg (by omega), if_neg (by omega), w64 (-n) (by omega), hp, Option.bind_some]
  have h1 : (n + b - 1) / b * b ≤ n + b - 1 := Int.ediv_mul_le _ (by omega)
  have h2 : n + b - 1 < ((n + b - 1) / b + 1) * b := Int.lt_ediv_add_one_mul_self _ (by omega)
  have h5 : 0 ≤ (n + b - 1) / b := Int.ediv_nonneg (by omega) (by omega)
  have h6 : (n + b - 1) / b ≤ n + b - 1 := Int.ediv_le_self _ (by omega)
  generalize (n + b - 1) / b = q at *
  rw [Int.add_mul, Int.one_mul] at h2
  have : p = -q := by
    rcases Int.lt_trichotomy p (-q) with z | z | z
    · have := Int.mul_le_mul_of_nonneg_right (show p + 1 ≤ -q by omega) (show 0 ≤ b by omega)
      rw [Int.add_mul, Int.neg_mul] at this; omega
    · exact z
    · have := Int.mul_le_mul_of_nonneg_right (show -q + 1 ≤ p by omega) (show 0 ≤ b by omega)
      rw [Int.add_mul, Int.neg_mul] at this; omega
  rw [this, w64 _ (by omega)]
  congr 1; omega
theorem of_all (n m : Int) : ∃ k r, plan_Of.f k n m = some r ∧ chainmanref52_Of.f k n m = some r := by
  by_cases c : n < 0 ∨ 1099511627776 < n ∨ m < 16 ∨ 1099511627776 < m
  · refine ⟨1, (0, 0, 0, 0, false), ?_, ?_⟩
    · unfold plan_Of.f
      simp only [plan_Of.j0, if_pos]
      by_cases c1 : n < 0
      · rw [if_pos c1]
      rw [if_neg c1]
      by_cases c2 : n > 1099511627776
      · rw [if_pos c2]
      rw [if_neg c2]
      by_cases c3 : m < 16
      · rw [if_pos c3]
      rw [if_neg c3, decide_eq_true (by omega), if_pos rfl]
    · unfold chainmanref52_Of.f
      simp only [chainmanref52_Of.j0, if_pos]
      by_cases c1 : n < 0
      · rw [if_pos c1]
      rw [if_neg c1]
      by_cases c2 : n > 1099511627776
      · rw [if_pos c2]
      rw [if_neg c2]
      by_cases c3 : m < 16
      · rw [if_pos c3]
      rw [if_neg c3, decide_eq_true (by omega), if_pos rfl]
  · have hn : 0 ≤ n ∧ n ≤ 1099511627776 := by omega
    have hm : 16 ≤ m ∧ m ≤ 1099511627776 := by omega
    obtain ⟨k, v, h1, h2, h3⟩ := of_spec n m hn hm
    obtain ⟨k', v', g1, g2, _⟩ := passes n m hn hm
    have ev : v = v' := uniq (f := fun k => xsort_Passes.f k n m) (fun k => xsort_Passes.mono n m k) h2 g1
    subst ev
    refine ⟨k + k' + 1, _, up_ (f := fun k => plan_Of.f k n m) (fun k => plan_Of.mono n m k) _ (by omega) h1, ?_⟩
    have g3 := up_ (f := fun k => chainmanref18_Passes.f k n m) (fun k => chainmanref18_Passes.mono n m k) (k + k') (by omega) g2
    have e3 : Int.tdiv (m - 4) 4 = (m - 4) / 4 := Int.tdiv_eq_ediv_of_nonneg (by omega)
    unfold chainmanref52_Of.f
    rw [if_neg (by omega), if_neg (by omega), if_neg (by omega), decide_eq_false (by omega), chainmanref52_Of.j0, if_neg (by decide), g3, Option.bind_some, w64 (m - 8) (by omega), rceil n (m - 8) hn (by omega), Option.bind_some, w64 (m - 4) (by omega), e3, w64 ((m - 4) / 4) (by omega), mn_comm]
theorem room_all (m : Int) : ∃ k r, plan_Room.f k m = some r ∧ chainmanref52_Room.f m = some r := by
  by_cases c1 : m < 7
  · exact ⟨0, 0, by unfold plan_Room.f; rw [if_pos c1], by unfold chainmanref52_Room.f; rw [if_pos c1]⟩
  by_cases c2 : 1099511627776 < m
  · exact ⟨0, 0, by unfold plan_Room.f; rw [if_neg c1, if_pos c2], by unfold chainmanref52_Room.f; rw [if_neg c1, if_pos c2]⟩
  obtain ⟨k, r, h, _, _, h3, h4⟩ := room_spec m (by omega)
  refine ⟨k, r, h, ?_⟩
  unfold chainmanref52_Room.f
  rw [if_neg c1, if_neg (by omega), w64 (m - 5) (by omega), Int.tdiv_eq_ediv_of_nonneg (by omega), w64 _ (by omega)]
  congr 1; omega
/-- The document's halving. -/
theorem halves (n p K : Int) (q : Nat) (M : Int) (hn : 0 ≤ n ∧ n ≤ 1048576) (hM : M ≤ 1048584) (fit : ∀ m, 16 ≤ m → m ≤ M → ∃ v, chainmanref18_Passes.f q n m = some v) : ∀ (d : Nat) (lo hi : Int), (hi - lo).toNat ≤ d → 15 ≤ lo → lo < hi → hi ≤ M →
    (lo = 15 ∨ ∃ u, chainmanref18_Passes.f q n lo = some u ∧ p < u) → (hi = M ∨ ∃ u, chainmanref18_Passes.f q n hi = some u ∧ u ≤ p) →
    ∃ k r, chainmanref52_Least.l0 k n p lo hi = some (r, true) ∧ 16 ≤ r ∧ r ≤ M ∧ (r = 16 ∨ ∃ u, chainmanref18_Passes.f q n (r - 1) = some u ∧ p < u) ∧ (r = M ∨ ∃ u, chainmanref18_Passes.f q n r = some u ∧ u ≤ p) := by
  intro d
  induction d with
  | zero => intro lo hi h h15 hlt; exfalso; omega
  | succ d ih =>
    intro lo hi hd h15 hlt hM2 hlo' hhi'
    have HLO := Aside0.mk hlo'
    have HHI := Aside0.mk hhi'
    clear hlo' hhi'
    have e1 : wrap64 (hi - lo) = hi - lo := w64 _ (by omega)
    by_cases c : hi - lo > 1
    · have e2 : wrap64 (lo + hi) = lo + hi := w64 _ (by omega)
      have e3 : Int.tdiv (lo + hi) 2 = (lo + hi) / 2 := Int.tdiv_eq_ediv_of_nonneg (by omega)
      have e4 : wrap64 ((lo + hi) / 2) = (lo + hi) / 2 := w64 _ (by omega)
      obtain ⟨v, hv⟩ := fit ((lo + hi) / 2) (by omega) (by omega)
      by_cases cv : v ≤ p
      · obtain ⟨k, r, hr, r1, r2, r3, r4⟩ := ih lo ((lo + hi) / 2) (by omega) h15 (by omega) (by omega) HLO.out (.inr ⟨v, hv, cv⟩)
        refine ⟨k + q + 1, r, ?_, r1, r2, r3, r4⟩
        have hv' := up_ (f := fun k => chainmanref18_Passes.f k n ((lo + hi) / 2)) (fun k => chainmanref18_Passes.mono n _ k) (k + q) (by omega) hv
        have hr' := up_ (f := fun k => chainmanref52_Least.l0 k n p lo ((lo + hi) / 2)) (fun k => (chainmanref52_Least.mono_l k).2 _ _ _ _) (k + q) (by omega) hr
        rw [chainmanref52_Least.l0, e1, if_pos c, e2, e3, e4]
        unfold chainmanref52_Fits.f
        rw [hv', Option.bind_some, Option.bind_some, decide_eq_true cv, if_pos rfl]
        exact hr'
      · obtain ⟨k, r, hr, r1, r2, r3, r4⟩ := ih ((lo + hi) / 2) hi (by omega) (by omega) (by omega) hM2 (.inr ⟨v, hv, by omega⟩) HHI.out
        refine ⟨k + q + 1, r, ?_, r1, r2, r3, r4⟩
        have hv' := up_ (f := fun k => chainmanref18_Passes.f k n ((lo + hi) / 2)) (fun k => chainmanref18_Passes.mono n _ k) (k + q) (by omega) hv
        have hr' := up_ (f := fun k => chainmanref52_Least.l0 k n p ((lo + hi) / 2) hi) (fun k => (chainmanref52_Least.mono_l k).2 _ _ _ _) (k + q) (by omega) hr
        rw [chainmanref52_Least.l0, e1, if_pos c, e2, e3, e4]
        unfold chainmanref52_Fits.f
        rw [hv', Option.bind_some, Option.bind_some, decide_eq_false cv, if_neg (by decide)]
        exact hr'
    · obtain rfl : lo = hi - 1 := by omega
      refine ⟨1, hi, ?_, by omega, hM2, ?_, HHI.out⟩
      · rw [chainmanref52_Least.l0, e1, if_neg c]
      · rcases HLO.out with e | e
        · exact .inl (by omega)
        · exact .inr e
theorem least_all (n p : Int) : ∃ k r, plan_Least.f k n p = some r ∧ chainmanref52_Least.f k n p = some r ∧ (r.2 = true → 16 ≤ r.1 ∧ r.1 ≤ 1048584) := by
  by_cases c : n < 0 ∨ 1048576 < n ∨ p < 1
  · refine ⟨1, (0, false), ?_, ?_, by simp⟩
    · unfold plan_Least.f
      by_cases c1 : n < 0
      · rw [if_pos c1]
      rw [if_neg c1]
      by_cases c2 : 1048576 < n
      · rw [if_pos c2]
      rw [if_neg c2, if_pos (by omega)]
    · unfold chainmanref52_Least.f
      simp only [chainmanref52_Least.j0, if_pos]
      by_cases c1 : n < 0
      · rw [if_pos c1]
      rw [if_neg c1]
      by_cases c2 : n > 1048576
      · rw [if_pos c2]
      rw [if_neg c2, decide_eq_true (by omega), if_pos rfl]
  · have hn : 0 ≤ n ∧ n ≤ 1048576 := by omega
    obtain ⟨K, r, v, h1, h2, h3, h4, h5⟩ := least_spec n p hn (by omega)
    obtain ⟨M, hM⟩ : ∃ M, mx 16 (n + 8) = M := ⟨_, rfl⟩
    have hM2 : 16 ≤ M ∧ n + 8 ≤ M ∧ M ≤ 1048584 := by
      rw [← hM]; unfold mx
      split <;> omega
    obtain ⟨q, hq⟩ := passes_all n (by omega) (M - 16 + 1).toNat (by omega)
    have en : ∀ m, 16 ≤ m → m ≤ M → ∃ v, xsort_Passes.f q n m = some v ∧ chainmanref18_Passes.f q n m = some v ∧ 1 ≤ v ∧ (n + 8 ≤ m → v = 1) := fun m h1 h2 => hq m h1 (by omega)
    obtain ⟨k, s, g1, g2, g3, g4, g5⟩ := halves n p 0 q M hn hM2.2.2 (fun m h1 h2 => by obtain ⟨v, _, e, _⟩ := en m h1 h2; exact ⟨v, e⟩) _ 15 M (Nat.le_refl _) (by omega) (by omega) (Int.le_refl _) (.inl rfl) (.inl rfl)
    have g6 : ∃ u, chainmanref18_Passes.f q n s = some u ∧ u ≤ p := by
      rcases g5 with e | e
      · obtain ⟨u, _, e2, _, e4⟩ := en s g2 g3
        have := e4 (by omega)
        exact ⟨u, e2, by omega⟩
      · exact e
    obtain ⟨u, u1, u2⟩ := g6
    have rx : ∀ m, 16 ≤ m → m ≤ 1048584 → ∀ (k : Nat) (v : Int), chainmanref18_Passes.f k n m = some v → ∃ k', xsort_Passes.f k' n m = some v := fun m a b k v h => by
      obtain ⟨k2, v2, b1, b2, _⟩ := passes n m (by omega) (by omega)
      have := uniq (f := fun k => chainmanref18_Passes.f k n m) (fun k => chainmanref18_Passes.mono n m k) h b2
      exact ⟨k2, by rw [this]; exact b1⟩
    have ers : s = r := by
      rcases Int.lt_trichotomy s r with z | z | z
      · rcases h5 with e | ⟨t, t1, t2⟩
        · omega
        · obtain ⟨k1, f1⟩ := rx s g2 (by omega) _ _ u1
          obtain ⟨k2, f2⟩ := rx (r - 1) (by omega) (by omega) _ _ t1
          have := xpasses_anti (n := n) (m := s) (m' := r - 1) (by omega) g2 (by omega) (by omega) f1 f2
          omega
      · exact z
      · rcases g4 with e | ⟨t, t1, t2⟩
        · omega
        · obtain ⟨k1, f1⟩ := rx r h2.1 (by omega) _ _ h3
          obtain ⟨k2, f2⟩ := rx (s - 1) (by omega) (by omega) _ _ t1
          have := xpasses_anti (n := n) (m := r) (m' := s - 1) (by omega) h2.1 (by omega) (by omega) f1 f2
          omega
    subst ers
    refine ⟨K + k + 1, (s, true), up_ (f := fun k => plan_Least.f k n p) (fun k => plan_Least.mono n p k) _ (by omega) h1, ?_, fun _ => h2⟩
    have g7 := up_ (f := fun k => chainmanref52_Least.l0 k n p 15 M) (fun k => (chainmanref52_Least.mono_l k).2 _ _ _ _) (K + k) (by omega) g1
    unfold chainmanref52_Least.f
    rw [if_neg (by omega), if_neg (by omega), decide_eq_false (by omega), chainmanref52_Least.j0, if_neg (by decide), w64 (n + 8) (by omega), hM]
    exact g7
theorem hold_eq (x a b : Int) (hab : a ≤ b) : num_Hold.f 2 x a b = some (if x < a then a else if b < x then b else x) := by
  have e : num_least.f 2 x [b] = some (mn x b) := by simp [num_least.f, num_least.l0, rd, wrap64]
  unfold num_Hold.f
  by_cases c : x < a
  · rw [if_pos c, if_pos c]
  · rw [if_neg c, if_neg c, e, Option.bind_some]
    rfl
theorem within_eq (x a b : Int) (hab : a ≤ b) (K : Nat) (hK : 2 ≤ K) : descent_within.f K x a b = some (decide (a ≤ x ∧ x ≤ b)) := by
  have h := up_ (f := fun k => num_Hold.f k x a b) (fun k => num_Hold.mono _ _ _ k) K hK (hold_eq x a b hab)
  unfold descent_within.f
  rw [h, Option.bind_some]
  congr 1
  rw [Bool.eq_iff_iff]
  simp only [beq_iff_eq, decide_eq_true_eq]
  split
  · omega
  · split <;> omega
theorem right_eq (c0 c1 c2 c3 c4 c5 c6 c7 c8 : Int) (K : Nat) (hK : 2 ≤ K) : descent_Right.f K c0 c1 c2 c3 c4 c5 c6 c7 c8 = chainmanref32_Right.f c0 c1 c2 c3 c4 c5 c6 c7 c8 := by
  unfold descent_Right.f chainmanref32_Right.f
  rw [within_eq c3 1 64 (by omega) K hK, within_eq c4 1 1000 (by omega) K hK, within_eq c6 1 64 (by omega) K hK, within_eq c7 0 1000 (by omega) K hK]
  simp only [Option.bind_some, decide_eq_true_eq]
  by_cases h1 : c3 ≥ 1 <;> by_cases h2 : c3 ≤ 64 <;> by_cases h3 : c4 ≥ 1 <;> by_cases h4 : c4 ≤ 1000 <;> by_cases h5 : c6 ≥ 1 <;> by_cases h6 : c6 ≤ 64 <;> by_cases h7 : c7 ≥ 0 <;> simp [h1, h2, h3, h4, h5, h6, h7] <;> omega
theorem right_some (c0 c1 c2 c3 c4 c5 c6 c7 c8 : Int) : ∃ b, chainmanref32_Right.f c0 c1 c2 c3 c4 c5 c6 c7 c8 = some b := by
  unfold chainmanref32_Right.f
  repeat' split
  all_goals exact ⟨_, rfl⟩
theorem budget_all (n p c0 c1 c2 c3 c4 c5 c6 c7 c8 : Int) : ∃ k r, plan_Budget.f k n p c0 c1 c2 c3 c4 c5 c6 c7 c8 = some r ∧ chainmanref52_Budget.f k n p c0 c1 c2 c3 c4 c5 c6 c7 c8 = some r := by
  obtain ⟨k, r, h1, h2, _⟩ := least_all n p
  have h1' := up_ (f := fun k => plan_Least.f k n p) (fun k => plan_Least.mono n p k) (k + 2) (by omega) h1
  have h2' := up_ (f := fun k => chainmanref52_Least.f k n p) (fun k => chainmanref52_Least.mono n p k) (k + 2) (by omega) h2
  obtain ⟨b, hb⟩ := right_some c0 c1 c2 c3 c4 c5 c6 c7 c8
  have hb' := (right_eq c0 c1 c2 c3 c4 c5 c6 c7 c8 (k + 2) (by omega)).trans hb
  have hl : ∃ x, descent_Least.f (k + 2) c0 c1 c2 c3 c4 c5 c6 c7 c8 = some x ∧ chainmanref32_Least.f c0 c1 c2 c3 c4 c5 c6 c7 c8 = some x := by
    unfold descent_Least.f chainmanref32_Least.f
    rw [hb, hb']
    simp only [Option.bind_some]
    cases b
    · exact ⟨_, rfl, rfl⟩
    · exact ⟨_, rfl, rfl⟩
  obtain ⟨x, x1, x2⟩ := hl
  have H : ∃ y, plan_Budget.f (k + 2) n p c0 c1 c2 c3 c4 c5 c6 c7 c8 = some y ∧ chainmanref52_Budget.f (k + 2) n p c0 c1 c2 c3 c4 c5 c6 c7 c8 = some y := by
    unfold plan_Budget.f chainmanref52_Budget.f
    rw [h1', h2']
    simp only [Option.bind_some]
    rw [hb, hb']
    simp only [Option.bind_some]
    rw [x1, x2]
    simp only [Option.bind_some]
    split
    · cases b
      · exact ⟨_, rfl, rfl⟩
      · exact ⟨_, rfl, rfl⟩
    · exact ⟨_, rfl, rfl⟩
  obtain ⟨y, y1, y2⟩ := H
  exact ⟨k + 2, y, y1, y2⟩
theorem awake_k : chainmanlaw52_awake.f 40 = some true := by decide +kernel
theorem PlanTells : chainmanlaw52_PlanTells.Pure := by
  intro n m p c0 c1 c2 c3 c4 c5 c6 c7 c8 _ _ _ _ _ _ _ _ _ _ _ _
  obtain ⟨k1, r1, a1, b1⟩ := of_all n m
  obtain ⟨k2, r2, a2, b2, _⟩ := least_all n p
  obtain ⟨k3, r3, a3, b3⟩ := budget_all n p c0 c1 c2 c3 c4 c5 c6 c7 c8
  obtain ⟨k4, r4, a4, b4⟩ := room_all m
  refine ⟨k1 + k2 + k3 + k4 + 40, ?_⟩
  have A1 := up_ (f := fun k => plan_Of.f k n m) (fun k => plan_Of.mono n m k) (k1 + k2 + k3 + k4 + 40) (by omega) a1
  have B1 := up_ (f := fun k => chainmanref52_Of.f k n m) (fun k => chainmanref52_Of.mono n m k) (k1 + k2 + k3 + k4 + 40) (by omega) b1
  have A2 := up_ (f := fun k => plan_Least.f k n p) (fun k => plan_Least.mono n p k) (k1 + k2 + k3 + k4 + 40) (by omega) a2
  have B2 := up_ (f := fun k => chainmanref52_Least.f k n p) (fun k => chainmanref52_Least.mono n p k) (k1 + k2 + k3 + k4 + 40) (by omega) b2
  have A3 := up_ (f := fun k => plan_Budget.f k n p c0 c1 c2 c3 c4 c5 c6 c7 c8) (fun k => plan_Budget.mono n p c0 c1 c2 c3 c4 c5 c6 c7 c8 k) (k1 + k2 + k3 + k4 + 40) (by omega) a3
  have B3 := up_ (f := fun k => chainmanref52_Budget.f k n p c0 c1 c2 c3 c4 c5 c6 c7 c8) (fun k => chainmanref52_Budget.mono n p c0 c1 c2 c3 c4 c5 c6 c7 c8 k) (k1 + k2 + k3 + k4 + 40) (by omega) b3
  have A4 := up_ (f := fun k => plan_Room.f k m) (fun k => plan_Room.mono m k) (k1 + k2 + k3 + k4 + 40) (by omega) a4
  have A5 : chainmanlaw52_awake.f (k1 + k2 + k3 + k4 + 40) = some true := up_ chainmanlaw52_awake.mono _ (by omega) awake_k
  unfold chainmanlaw52_PlanTells.f
  rw [A1, Option.bind_some, B1, Option.bind_some, A2, Option.bind_some, B2, Option.bind_some, A3, Option.bind_some, B3, Option.bind_some, if_pos rfl, if_pos rfl, if_pos rfl, if_pos rfl, if_pos (by simp), A4, Option.bind_some, b4, Option.bind_some, if_pos rfl, if_pos rfl, if_pos (by simp), if_pos rfl, if_pos (by simp), A5, Option.bind_some]

end Go.Proofs.Ytgpgekjhpkakbaa.Pure
