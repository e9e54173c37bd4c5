/- Who has more left writes no more often, by longer runs and more files at once; a nest's room fits and one more does not (the law PlanMore). -/
import Derived.Test.YtgpgekjhpkakbaaPPlanMorex3
namespace Go.Proofs.Ytgpgekjhpkakbaa.Pure
open Go.RowKit Go.Proofs.Ytgpgekjhpkakbaa.PPlanMore Go.Proofs.YtgpgekjhpkakbaaW.PrintWords Go.Proofs.YtgpgekjhpkakbaaW.PrintLast
set_option linter.unusedVariables false
set_option linter.unusedSimpArgs false
/-! ### what the package plan computes, without the document's -/
theorem w64 (n : Int) (h : -9223372036854775808 ≤ n ∧ n ≤ 9223372036854775807) : wrap64 n = n := by unfold wrap64; omega
theorem up_ {α : Type} {f : Nat → Option α} (h : ∀ k, LeO (f k) (f (k + 1))) {r : α} {k : Nat} (K : Nat) (hk : k ≤ K) (e : f k = some r) : f K = some r := by
  induction K with
  | zero => obtain rfl : k = 0 := by omega
            exact e
  | succ K ih =>
    by_cases hq : k = K + 1
    · subst hq; exact e
    · exact h K _ (ih (by omega))
/-- sort.Search: the place at which the answer turns. -/
theorem search_spec (p : Int → Option Bool) (hi : Int) (tot : ∀ x, 0 ≤ x → x < hi → ∃ q, p x = some q) : ∀ (d : Nat) (i j : Int), (j - i).toNat ≤ d → 0 ≤ i → i ≤ j → j ≤ hi →
    ∃ k r, plan_Least.search p k i j = some r ∧ i ≤ r ∧ r ≤ j ∧ (r = i ∨ p (r - 1) = some false) ∧ (r = j ∨ p r = some true) := by
  intro d
  induction d with
  | zero =>
    intro i j hd h0 h1 h2
    have e : i = j := by omega
    subst e
    exact ⟨1, i, by rw [plan_Least.search, if_neg (by omega)], Int.le_refl _, Int.le_refl _, .inl rfl, .inl rfl⟩
  | succ d ih =>
    intro i j hd h0 h1 h2
    by_cases c : i < j
    · obtain ⟨q, hq⟩ := tot ((i + j) / 2) (by omega) (by omega)
      cases q with
      | true =>
        obtain ⟨k, r, hr, r0, r1, r2, r3⟩ := ih i ((i + j) / 2) (by omega) h0 (by omega) (by omega)
        refine ⟨k + 1, r, by rw [plan_Least.search, if_pos c, hq, Option.bind_some, if_pos rfl]; exact hr, r0, by omega, r2, ?_⟩
        rcases r3 with e | e
        · exact .inr (by rw [e]; exact hq)
        · exact .inr e
      | false =>
        obtain ⟨k, r, hr, r0, r1, r2, r3⟩ := ih ((i + j) / 2 + 1) j (by omega) (by omega) (by omega) h2
        refine ⟨k + 1, r, by rw [plan_Least.search, if_pos c, hq, Option.bind_some, if_neg (by decide)]; exact hr, by omega, r1, ?_, r3⟩
        rcases r2 with e | e
        · exact .inr (by rw [e, show (i + j) / 2 + 1 - 1 = (i + j) / 2 by omega]; exact hq)
        · exact .inr e
    · have e : i = j := by omega
      subst e
      exact ⟨1, i, by rw [plan_Least.search, if_neg c], Int.le_refl _, Int.le_refl _, .inl rfl, .inl rfl⟩
/-! #### how often all are written -/
theorem ceil_less (c f : Int) (hc : 1 < c) (hf : 2 ≤ f) : 1 ≤ (c + f - 1) / f ∧ (c + f - 1) / f < c := by
  have h1 : (c + f - 1) / f * f ≤ c + f - 1 := Int.ediv_mul_le _ (by omega)
  have h2 : c + f - 1 < ((c + f - 1) / f + 1) * f := Int.lt_ediv_add_one_mul_self _ (by omega)
  generalize (c + f - 1) / f = q at *
  have h3 : (1 : Int) * 1 ≤ (c - 1) * (f - 1) := Int.mul_le_mul (by omega) (by omega) (by omega) (by omega)
  rw [Int.sub_mul, Int.mul_sub] at h3
  constructor
  · rcases Int.lt_or_le 0 q with z | z
    · omega
    · have := Int.mul_le_mul_of_nonneg_right (show q + 1 ≤ 1 by omega) (show 0 ≤ f by omega)
      omega
  · rcases Int.lt_or_le q c with z | z
    · exact z
    · have := Int.mul_le_mul_of_nonneg_right z (show 0 ≤ f by omega)
      omega
theorem mxmn_ok (x : Int) : mn 64 x ≤ 64 := by unfold mn; split <;> omega
theorem xrounds (f : Int) (hf : 2 ≤ f) (hf2 : f ≤ 64) : ∀ (d : Nat) (c p : Int), c.toNat ≤ d → 1 ≤ p → p + c ≤ 4611686018427387904 → 0 ≤ c →
    ∃ k v, xsort_Passes.l0 k f p c = some v ∧ p ≤ v := by
  intro d
  induction d with
  | zero =>
    intro c p hd h1 h2 h0
    exact ⟨1, p, by rw [xsort_Passes.l0, if_neg (by omega)], Int.le_refl _⟩
  | succ d ih =>
    intro c p hd h1 h2 h0
    by_cases hc : c > 1
    · obtain ⟨q1, q2⟩ := ceil_less c f hc hf
      have e1 : wrap64 (c + f) = c + f := w64 _ (by omega)
      have e2 : wrap64 (c + f - 1) = c + f - 1 := w64 _ (by omega)
      have e3 : Int.tdiv (c + f - 1) f = (c + f - 1) / f := Int.tdiv_eq_ediv_of_nonneg (by omega)
      have e4 : wrap64 ((c + f - 1) / f) = (c + f - 1) / f := w64 _ (by omega)
      have e5 : wrap64 (p + 1) = p + 1 := w64 _ (by omega)
      obtain ⟨k, v, a1, a3⟩ := ih ((c + f - 1) / f) (p + 1) (by omega) (by omega) (by omega) (by omega)
      exact ⟨k + 1, v, by rw [xsort_Passes.l0, if_pos hc, if_neg (by omega), e1, e2, e3, e4, e5]; exact a1, by omega⟩
    · exact ⟨1, p, by rw [xsort_Passes.l0, if_neg hc], Int.le_refl _⟩
/-- Rounded up: of less, by more, no more. -/
theorem ceil_anti {c c' f f' : Int} (hc : c' ≤ c) (h0 : 0 ≤ c') (hf : f ≤ f') (h1 : 1 ≤ f) : 0 ≤ (c' + f' - 1) / f' ∧ (c' + f' - 1) / f' ≤ (c + f - 1) / f := by
  have h2 : c + f - 1 < ((c + f - 1) / f + 1) * f := Int.lt_ediv_add_one_mul_self _ (by omega)
  have h3 : 0 ≤ (c + f - 1) / f := Int.ediv_nonneg (by omega) (by omega)
  refine ⟨Int.ediv_nonneg (by omega) (by omega), ?_⟩
  generalize (c + f - 1) / f = q at *
  have h4 : q * f ≤ q * f' := Int.mul_le_mul_of_nonneg_left hf h3
  rw [Int.add_mul, Int.one_mul] at h2
  have h5 : (c' + f' - 1) / f' < q + 1 := Int.ediv_lt_of_lt_mul (by omega) (by rw [Int.add_mul, Int.one_mul]; omega)
  omega
theorem anti (f f' : Int) (hf : 2 ≤ f) (hff : f ≤ f') (hf2 : f' ≤ 64) : ∀ (k k' : Nat) (c c' p p' v v' : Int), xsort_Passes.l0 k f p c = some v → xsort_Passes.l0 k' f' p' c' = some v' →
    1 ≤ p' → p' ≤ p → 0 ≤ c' → c' ≤ c → p + c ≤ 4611686018427387904 → v' ≤ v := by
  intro k
  induction k with
  | zero => intro k' c c' p p' v v' h; simp [xsort_Passes.l0] at h
  | succ k ih =>
    intro k' c c' p p' v v' h h' h1 hp h0 hc hb
    cases k' with
    | zero => simp [xsort_Passes.l0] at h'
    | succ k' =>
      by_cases hc1 : c > 1
      · obtain ⟨q1, q2⟩ := ceil_less c f hc1 hf
        have e1 : wrap64 (c + f) = c + f := w64 _ (by omega)
        have e2 : wrap64 (c + f - 1) = c + f - 1 := w64 _ (by omega)
        have e3 : Int.tdiv (c + f - 1) f = (c + f - 1) / f := Int.tdiv_eq_ediv_of_nonneg (by omega)
        have e4 : wrap64 ((c + f - 1) / f) = (c + f - 1) / f := w64 _ (by omega)
        have e5 : wrap64 (p + 1) = p + 1 := w64 _ (by omega)
        rw [xsort_Passes.l0, if_pos hc1, if_neg (by omega), e1, e2, e3, e4, e5] at h
        by_cases hc2 : c' > 1
        · obtain ⟨r1, r2⟩ := ceil_less c' f' hc2 (by omega)
          obtain ⟨_, an⟩ := ceil_anti hc h0 hff (by omega)
          have d1 : wrap64 (c' + f') = c' + f' := w64 _ (by omega)
          have d2 : wrap64 (c' + f' - 1) = c' + f' - 1 := w64 _ (by omega)
          have d3 : Int.tdiv (c' + f' - 1) f' = (c' + f' - 1) / f' := Int.tdiv_eq_ediv_of_nonneg (by omega)
          have d4 : wrap64 ((c' + f' - 1) / f') = (c' + f' - 1) / f' := w64 _ (by omega)
          have d5 : wrap64 (p' + 1) = p' + 1 := w64 _ (by omega)
          rw [xsort_Passes.l0, if_pos hc2, if_neg (by omega), d1, d2, d3, d4, d5] at h'
          exact ih k' _ _ _ _ v v' h h' (by omega) (by omega) (by omega) an (by omega)
        · rw [xsort_Passes.l0, if_neg hc2] at h'
          obtain rfl := Option.some.inj h'
          obtain ⟨kk, u, hu, hpu⟩ := xrounds f hf (by omega) _ ((c + f - 1) / f) (p + 1) (Nat.le_refl _) (by omega) (by omega) (by omega)
          have g1 := up_ (f := fun k => xsort_Passes.l0 k f (p + 1) ((c + f - 1) / f)) (fun k => (xsort_Passes.mono_l k).2 _ _ _) (k + kk) (by omega) h
          have g2 := up_ (f := fun k => xsort_Passes.l0 k f (p + 1) ((c + f - 1) / f)) (fun k => (xsort_Passes.mono_l k).2 _ _ _) (k + kk) (by omega) hu
          have : v = u := Option.some.inj (g1.symm.trans g2)
          omega
      · have hc2 : ¬ c' > 1 := by omega
        rw [xsort_Passes.l0, if_neg hc1] at h
        rw [xsort_Passes.l0, if_neg hc2] at h'
        obtain rfl := Option.some.inj h
        obtain rfl := Option.some.inj h'
        exact hp
/-- The passes of a program that has so many left: its loop. -/
theorem xpasses_f (k : Nat) (n m : Int) (hn : 0 ≤ n ∧ n ≤ 1099511627776) (hm : 16 ≤ m ∧ m ≤ 1099511627776) :
    xsort_Passes.f (k + 1) n m = xsort_Passes.l0 k (mn 64 ((m - 4) / 4)) 1 ((n + (m - 8) - 1) / (m - 8)) := by
  have e1 : wrap64 (m - 8) = m - 8 := w64 _ (by omega)
  have e2 : wrap64 (m - 4) = m - 4 := w64 _ (by omega)
  have e3 : Int.tdiv (m - 4) 4 = (m - 4) / 4 := Int.tdiv_eq_ediv_of_nonneg (by omega)
  have e4 : wrap64 ((m - 4) / 4) = (m - 4) / 4 := w64 _ (by omega)
  have e5 : wrap64 (n + (m - 8)) = n + (m - 8) := w64 _ (by omega)
  have e6 : wrap64 (n + (m - 8) - 1) = n + (m - 8) - 1 := w64 _ (by omega)
  have e9 : Int.tdiv (n + (m - 8) - 1) (m - 8) = (n + (m - 8) - 1) / (m - 8) := Int.tdiv_eq_ediv_of_nonneg (by omega)
  have q0 : 0 ≤ (n + (m - 8) - 1) / (m - 8) := Int.ediv_nonneg (by omega) (by omega)
  have q1 : (n + (m - 8) - 1) / (m - 8) ≤ n + (m - 8) - 1 := Int.ediv_le_self _ (by omega)
  have e10 : wrap64 ((n + (m - 8) - 1) / (m - 8)) = (n + (m - 8) - 1) / (m - 8) := w64 _ (by omega)
  unfold xsort_Passes.f
  rw [if_neg (by omega), if_neg (by omega), if_neg (by omega), decide_eq_false (by omega), xsort_Passes.j0, if_neg (by decide)]
  unfold xsort_room.f
  rw [Option.bind_some]
  show (if wrap64 (m - 8) = 0 then none else xsort_Passes.l0 k (mn 64 (wrap64 (Int.tdiv (wrap64 (m - 4)) 4))) 1 (wrap64 (Int.tdiv (wrap64 (wrap64 (n + wrap64 (m - 8)) - 1)) (wrap64 (m - 8))))) = _
  rw [e1, if_neg (by omega), e2, e3, e4, e5, e6, e9, e10]
theorem xfan (m : Int) (hm : 16 ≤ m) : 2 ≤ mn 64 ((m - 4) / 4) ∧ mn 64 ((m - 4) / 4) ≤ 64 := by unfold mn; split <;> omega
theorem xcount (n m : Int) (hn : 0 ≤ n ∧ n ≤ 1099511627776) (hm : 16 ≤ m ∧ m ≤ 1099511627776) : 0 ≤ (n + (m - 8) - 1) / (m - 8) ∧ (n + (m - 8) - 1) / (m - 8) ≤ 2199023255552 := by
  have q0 : 0 ≤ (n + (m - 8) - 1) / (m - 8) := Int.ediv_nonneg (by omega) (by omega)
  have q1 : (n + (m - 8) - 1) / (m - 8) ≤ n + (m - 8) - 1 := Int.ediv_le_self _ (by omega)
  omega
theorem xpasses (n m : Int) (hn : 0 ≤ n ∧ n ≤ 1099511627776) (hm : 16 ≤ m ∧ m ≤ 1099511627776) : ∃ k v, xsort_Passes.f k n m = some v ∧ 1 ≤ v := by
  have hF := xfan m hm.1
  have hc := xcount n m hn hm
  obtain ⟨k, v, a1, a3⟩ := xrounds (mn 64 ((m - 4) / 4)) hF.1 hF.2 _ ((n + (m - 8) - 1) / (m - 8)) 1 (Nat.le_refl _) (Int.le_refl _) (by omega) hc.1
  exact ⟨k + 1, v, by rw [xpasses_f k n m hn hm]; exact a1, a3⟩
/-- Who has more left writes no more often. -/
theorem xpasses_anti {n m m' v v' : Int} {k k' : Nat} (hn : 0 ≤ n ∧ n ≤ 1099511627776) (hm : 16 ≤ m) (hmm : m ≤ m') (hm2 : m' ≤ 1099511627776) (h : xsort_Passes.f k n m = some v) (h' : xsort_Passes.f k' n m' = some v') : v' ≤ v := by
  have g := up_ (f := fun k => xsort_Passes.f k n m) (fun k => xsort_Passes.mono n m k) (k + 1) (by omega) h
  have g' := up_ (f := fun k => xsort_Passes.f k n m') (fun k => xsort_Passes.mono n m' k) (k' + 1) (by omega) h'
  have g1 : xsort_Passes.f (k + 1) n m = some v := g
  have g2 : xsort_Passes.f (k' + 1) n m' = some v' := g'
  rw [xpasses_f k n m hn (by omega)] at g1
  rw [xpasses_f k' n m' hn (by omega)] at g2
  have c1 := xcount n m hn (by omega)
  have c2 := xcount n m' hn (by omega)
  have an := ceil_anti (c := n) (c' := n) (f := m - 8) (f' := m' - 8) (Int.le_refl _) hn.1 (by omega) (by omega)
  refine anti (mn 64 ((m - 4) / 4)) (mn 64 ((m' - 4) / 4)) (xfan m hm).1 ?_ (xfan m' (by omega)).2 k k' _ _ 1 1 v v' g1 g2 (Int.le_refl _) (Int.le_refl _) an.1 an.2 (by omega)
  unfold mn
  split <;> split <;> omega

/-! ### the law PlanMore -/
theorem hold_fan (m : Int) (hm : 16 ≤ m ∧ m ≤ 1099511627776) : num_Hold.f 2 (wrap64 (Int.tdiv (wrap64 (m - 4)) 4)) 1 64 = some (mn ((m - 4) / 4) 64) := by
  have e2 : wrap64 (m - 4) = m - 4 := w64 _ (by omega)
  have e3 : Int.tdiv (m - 4) 4 = (m - 4) / 4 := Int.tdiv_eq_ediv_of_nonneg (by omega)
  have e4 : wrap64 ((m - 4) / 4) = (m - 4) / 4 := w64 _ (by omega)
  have e : num_least.f 2 ((m - 4) / 4) [64] = some (mn ((m - 4) / 4) 64) := by simp [num_least.f, num_least.l0, rd, wrap64]
  unfold num_Hold.f
  rw [e2, e3, e4, if_neg (by omega), e, Option.bind_some]
theorem ceil_up (n b : Int) (hn : 0 ≤ n ∧ n ≤ 1099511627776) (hb : 1 ≤ b ∧ b ≤ 1099511627776) : num_Ceil.f 1 n b = some ((n + b - 1) / b) := by
  have t1 : Int.tdiv n b = n / b := Int.tdiv_eq_ediv_of_nonneg hn.1
  have t2 : Int.tmod n b = n % b := Int.tmod_eq_emod_of_nonneg hn.1
  have q0 : 0 ≤ n / b := Int.ediv_nonneg hn.1 (by omega)
  have q1 : n / b ≤ n := Int.ediv_le_self _ hn.1
  have m0 : 0 ≤ n % b := Int.emod_nonneg _ (by omega)
  have m1 : n % b < b := Int.emod_lt_of_pos _ (by omega)
  have ee : n / b * b + n % b = n := Int.ediv_mul_add_emod n b
  have hF : num_Floor.f n b = some (n / b) := by
    unfold num_Floor.f
    rw [if_neg (by omega), if_neg (by omega), t1, w64 (n / b) (by omega), w64 (n / b * b) (by omega), if_neg (by omega)]
  have hR : num_Rest.f n b = some (n % b) := by
    unfold num_Rest.f
    rw [if_neg (by omega), if_neg (by omega), t2, if_neg (by omega)]
  unfold num_Ceil.f
  rw [if_neg (by omega), if_neg (by omega), decide_eq_false (by omega), num_Ceil.j0, if_neg (by decide), hF, Option.bind_some, hR, Option.bind_some]
  have h2 : n + b - 1 < ((n + b - 1) / b + 1) * b := Int.lt_ediv_add_one_mul_self _ (by omega)
  have h1 : (n + b - 1) / b * b ≤ n + b - 1 := Int.ediv_mul_le _ (by omega)
  generalize (n + b - 1) / b = q at *
  generalize n % b = r at *
  generalize n / b = f at *
  rw [Int.add_mul, Int.one_mul] at h2
  by_cases hr : r > 0
  · rw [if_pos hr, w64 _ (by omega)]
    congr 1
    rcases Int.lt_trichotomy (f + 1) q with z | z | z
    · have := Int.mul_le_mul_of_nonneg_right (show f + 2 ≤ q by omega) (show 0 ≤ b by omega)
      rw [Int.add_mul] at this; omega
    · exact z
    · have := Int.mul_le_mul_of_nonneg_right (show q ≤ f by omega) (show 0 ≤ b by omega)
      omega
  · rw [if_neg hr]
    congr 1
    rcases Int.lt_trichotomy f q with z | z | z
    · have := Int.mul_le_mul_of_nonneg_right (show f + 1 ≤ q by omega) (show 0 ≤ b by omega)
      rw [Int.add_mul, Int.one_mul] at this; omega
    · exact z
    · have := Int.mul_le_mul_of_nonneg_right (show q + 1 ≤ f by omega) (show 0 ≤ b by omega)
      rw [Int.add_mul, Int.one_mul] at this; omega
theorem of_spec (n m : Int) (hn : 0 ≤ n ∧ n ≤ 1099511627776) (hm : 16 ≤ m ∧ m ≤ 1099511627776) : ∃ k v, plan_Of.f k n m = some (m - 8, mn ((m - 4) / 4) 64, v, (n + (m - 8) - 1) / (m - 8), true) ∧ xsort_Passes.f k n m = some v ∧ 1 ≤ v := by
  obtain ⟨k, v, a1, a2⟩ := xpasses n m hn hm
  refine ⟨k + 3, v, ?_, up_ (f := fun k => xsort_Passes.f k n m) (fun k => xsort_Passes.mono n m k) _ (by omega) a1, a2⟩
  have h1 := up_ (f := fun k => num_Hold.f k (wrap64 (Int.tdiv (wrap64 (m - 4)) 4)) 1 64) (fun k => num_Hold.mono _ _ _ k) (k + 2) (by omega) (hold_fan m hm)
  have h2 := up_ (f := fun k => xsort_Passes.f k n m) (fun k => xsort_Passes.mono n m k) (k + 2) (by omega) a1
  have h3 := up_ (f := fun k => num_Ceil.f k n (m - 8)) (fun k => num_Ceil.mono _ _ k) (k + 2) (by omega) (ceil_up n (m - 8) hn (by omega))
  unfold plan_Of.f
  rw [if_neg (by omega), if_neg (by omega), if_neg (by omega), decide_eq_false (by omega), plan_Of.j0, if_neg (by decide), h1, Option.bind_some, h2, Option.bind_some, w64 (m - 8) (by omega), h3, Option.bind_some]
theorem need_eq (x : Int) (hx : 1 ≤ x ∧ x ≤ 1099511627776) : nest_Need.f x = some (2 * x + 5) ∧ chainmanref52_Need.f x = some (2 * x + 5) := by
  have e1 : wrap64 (2 * x) = 2 * x := w64 _ (by omega)
  have e2 : wrap64 (2 * x + 4) = 2 * x + 4 := w64 _ (by omega)
  have e3 : wrap64 (2 * x + 4 + 1) = 2 * x + 5 := by rw [w64 _ (by omega)]; omega
  have e4 : wrap64 (2 * x + 5) = 2 * x + 5 := w64 _ (by omega)
  constructor
  · unfold nest_Need.f
    rw [if_neg (by omega), if_neg (by omega), e1, e2, e3]
  · unfold chainmanref52_Need.f chainmanref25_Need.f
    rw [if_neg (by omega), if_neg (by omega), e1, e4, Option.bind_some]
theorem over_eq (m x : Int) (hx : 0 ≤ x ∧ x < 1099511627776) : plan_Room.over m x = some (decide (m < 2 * (x + 1) + 5)) := by
  unfold plan_Room.over
  rw [w64 (x + 1) (by omega), (need_eq (x + 1) (by omega)).1, Option.bind_some]
theorem room_spec (m : Int) (hm : 16 ≤ m ∧ m ≤ 549755813888) : ∃ k r, plan_Room.f k m = some r ∧ 1 ≤ r ∧ r ≤ m ∧ 2 * r + 5 ≤ m ∧ m < 2 * (r + 1) + 5 := by
  have ov : ∀ x, 0 ≤ x → x ≤ m - 1 → plan_Room.over m (wrap64 (1 + x)) = some (decide (m < 2 * (1 + x + 1) + 5)) := fun x h0 h1 => by
    rw [w64 (1 + x) (by omega), over_eq m (1 + x) (by omega)]
  obtain ⟨k, r, hr, r0, r1, r2, r3⟩ := search_spec (fun i => plan_Room.over m (wrap64 (1 + i))) (m - 1) (fun x h0 h1 => ⟨_, ov x h0 (by omega)⟩) _ 0 (m - 1) (Nat.le_refl _) (Int.le_refl _) (by omega) (Int.le_refl _)
  refine ⟨k, 1 + r, ?_, by omega, by omega, ?_, ?_⟩
  · unfold plan_Room.f
    rw [if_neg (by omega), if_neg (by omega)]
    unfold plan_Least.first
    rw [if_pos (by omega), hr, Option.bind_some, w64 (1 + r) (by omega)]
  · rcases r2 with e | e
    · omega
    · by_cases hz : r = 0
      · omega
      · have e' : plan_Room.over m (wrap64 (1 + (r - 1))) = some false := e
        rw [ov (r - 1) (by omega) (by omega)] at e'
        have := of_decide_eq_false (Option.some.inj e')
        omega
  · rcases r3 with e | e
    · omega
    · have e' : plan_Room.over m (wrap64 (1 + r)) = some true := e
      rw [ov r r0 r1] at e'
      have := of_decide_eq_true (Option.some.inj e')
      omega
theorem awake_k : chainmanlaw52_awake.f 40 = some true := by decide +kernel
theorem PlanMore : chainmanlaw52_PlanMore.Pure := by
  intro a0 a1 a2 w0 w1 w2
  have h0 : 0 ≤ a0 ∧ a0 ≤ 18446744073709551615 := by simpa [Lit.wf, IntKind.min, IntKind.max, IntKind.signed, IntKind.bits] using w0
  have h1 : 0 ≤ a1 ∧ a1 ≤ 18446744073709551615 := by simpa [Lit.wf, IntKind.min, IntKind.max, IntKind.signed, IntKind.bits] using w1
  have h2 : 0 ≤ a2 ∧ a2 ≤ 18446744073709551615 := by simpa [Lit.wf, IntKind.min, IntKind.max, IntKind.signed, IntKind.bits] using w2
  have en : wrap64 (Int.tmod a0 1099511627776) = a0 % 1099511627776 := by rw [Int.tmod_eq_emod_of_nonneg h0.1, w64 _ (by omega)]
  have ea : wrap64 (16 + wrap64 (Int.tmod a1 274877906944)) = 16 + a1 % 274877906944 := by rw [Int.tmod_eq_emod_of_nonneg h1.1, w64 (a1 % 274877906944) (by omega), w64 _ (by omega)]
  have eb : wrap64 (16 + a1 % 274877906944 + wrap64 (Int.tmod a2 274877906944)) = 16 + a1 % 274877906944 + a2 % 274877906944 := by rw [Int.tmod_eq_emod_of_nonneg h2.1, w64 (a2 % 274877906944) (by omega), w64 _ (by omega)]
  have hn : 0 ≤ a0 % 1099511627776 ∧ a0 % 1099511627776 ≤ 1099511627776 := by omega
  have ha : 16 ≤ 16 + a1 % 274877906944 ∧ 16 + a1 % 274877906944 ≤ 274877906960 := by omega
  have hb : 16 + a1 % 274877906944 ≤ 16 + a1 % 274877906944 + a2 % 274877906944 ∧ 16 + a1 % 274877906944 + a2 % 274877906944 ≤ 549755813904 := by omega
  suffices H : ∃ k, chainmanlaw52_PlanMore.f k a0 a1 a2 = some true from H
  have key : ∀ n a b : Int, 0 ≤ n ∧ n ≤ 1099511627776 → 16 ≤ a ∧ a ≤ 274877906960 → a ≤ b ∧ b ≤ 549755813904 → ∃ K va vb r, plan_Of.f K n a = some (a - 8, mn ((a - 4) / 4) 64, va, (n + (a - 8) - 1) / (a - 8), true) ∧
      plan_Of.f K n b = some (b - 8, mn ((b - 4) / 4) 64, vb, (n + (b - 8) - 1) / (b - 8), true) ∧ plan_Room.f K a = some r ∧ chainmanlaw52_awake.f K = some true ∧ vb ≤ va ∧ 1 ≤ va ∧
      mn ((a - 4) / 4) 64 ≤ mn ((b - 4) / 4) 64 ∧ (n + (b - 8) - 1) / (b - 8) ≤ (n + (a - 8) - 1) / (a - 8) ∧ 1 ≤ r ∧ r ≤ a ∧ 2 * r + 5 ≤ a ∧ a < 2 * (r + 1) + 5 := by
    intro n a b hn ha hb
    obtain ⟨k1, va, x1, x2, x3⟩ := of_spec n a hn (by omega)
    obtain ⟨k2, vb, y1, y2, y3⟩ := of_spec n b hn (by omega)
    obtain ⟨k3, r, z1, z2, z3, z4, z5⟩ := room_spec a (by omega)
    refine ⟨k1 + k2 + k3 + 40, va, vb, r, up_ (f := fun k => plan_Of.f k n a) (fun k => plan_Of.mono n a k) _ (by omega) x1, up_ (f := fun k => plan_Of.f k n b) (fun k => plan_Of.mono n b k) _ (by omega) y1, up_ (f := fun k => plan_Room.f k a) (fun k => plan_Room.mono a k) _ (by omega) z1, up_ chainmanlaw52_awake.mono _ (by omega) awake_k,
      xpasses_anti hn ha.1 hb.1 (by omega) x2 y2, x3, ?_, (ceil_anti (Int.le_refl _) hn.1 (by omega) (by omega)).2, z2, z3, z4, z5⟩
    unfold mn
    split <;> split <;> omega
  obtain ⟨K, va, vb, r, o1, o2, o3, o4, o5, o6, o7, o8, o9, o10, o11, o12⟩ := key _ _ _ hn ha hb
  refine ⟨K, ?_⟩
  unfold chainmanlaw52_PlanMore.f
  rw [en, ea, eb, o1, Option.bind_some, o2, Option.bind_some, o3, Option.bind_some, if_pos rfl, if_pos rfl, if_pos o5, if_pos (by show _ ≥ _; omega), if_pos o7, if_pos o8, if_pos o6, if_pos o9, (need_eq r (by omega)).2, Option.bind_some, if_pos o11, w64 (r + 1) (by omega), (need_eq (r + 1) (by omega)).2, Option.bind_some, if_pos o12, o4, Option.bind_some]

end Go.Proofs.Ytgpgekjhpkakbaa.Pure
