/- The least that must be left is found by halves: there the passes are few enough, one below they are not (the law PlanLeast). -/
import Derived.Test.YtgpgekjhpkakbaaPPlanLeastx3
namespace Go.Proofs.Ytgpgekjhpkakbaa.Pure
open Go.RowKit Go.Proofs.Ytgpgekjhpkakbaa.PPlanLeast Go.Proofs.YtgpgekjhpkakbaaW.PrintWords Go.Proofs.YtgpgekjhpkakbaaW.PrintLast
set_option linter.unusedVariables false
set_option linter.unusedSimpArgs false
/-! ### what the package plan computes -/
theorem w64 (n : Int) (h : -9223372036854775808 ≤ n ∧ n ≤ 9223372036854775807) : wrap64 n = n := by unfold wrap64; omega
theorem up_ {α : Type} {f : Nat → Option α} (h : ∀ k, LeO (f k) (f (k + 1))) {r : α} {k : Nat} (K : Nat) (hk : k ≤ K) (e : f k = some r) : f K = some r := by
  induction K with
  | zero => obtain rfl : k = 0 := by omega
            exact e
  | succ K ih =>
    by_cases hq : k = K + 1
    · subst hq; exact e
    · exact h K _ (ih (by omega))
/-- sort.Search: the place at which the answer turns. -/
theorem search_spec (p : Int → Option Bool) (hi : Int) (tot : ∀ x, 0 ≤ x → x < hi → ∃ q, p x = some q) : ∀ (d : Nat) (i j : Int), (j - i).toNat ≤ d → 0 ≤ i → i ≤ j → j ≤ hi →
    ∃ k r, plan_Least.search p k i j = some r ∧ i ≤ r ∧ r ≤ j ∧ (r = i ∨ p (r - 1) = some false) ∧ (r = j ∨ p r = some true) := by
  intro d
  induction d with
  | zero =>
    intro i j hd h0 h1 h2
    have e : i = j := by omega
    subst e
    exact ⟨1, i, by rw [plan_Least.search, if_neg (by omega)], Int.le_refl _, Int.le_refl _, .inl rfl, .inl rfl⟩
  | succ d ih =>
    intro i j hd h0 h1 h2
    by_cases c : i < j
    · obtain ⟨q, hq⟩ := tot ((i + j) / 2) (by omega) (by omega)
      cases q with
      | true =>
        obtain ⟨k, r, hr, r0, r1, r2, r3⟩ := ih i ((i + j) / 2) (by omega) h0 (by omega) (by omega)
        refine ⟨k + 1, r, by rw [plan_Least.search, if_pos c, hq, Option.bind_some, if_pos rfl]; exact hr, r0, by omega, r2, ?_⟩
        rcases r3 with e | e
        · exact .inr (by rw [e]; exact hq)
        · exact .inr e
      | false =>
        obtain ⟨k, r, hr, r0, r1, r2, r3⟩ := ih ((i + j) / 2 + 1) j (by omega) (by omega) (by omega) h2
        refine ⟨k + 1, r, by rw [plan_Least.search, if_pos c, hq, Option.bind_some, if_neg (by decide)]; exact hr, by omega, r1, ?_, r3⟩
        rcases r2 with e | e
        · exact .inr (by rw [e, show (i + j) / 2 + 1 - 1 = (i + j) / 2 by omega]; exact hq)
        · exact .inr e
    · have e : i = j := by omega
      subst e
      exact ⟨1, i, by rw [plan_Least.search, if_neg c], Int.le_refl _, Int.le_refl _, .inl rfl, .inl rfl⟩
/-! #### how often all are written -/
theorem ceil_less (c f : Int) (hc : 1 < c) (hf : 2 ≤ f) : 1 ≤ (c + f - 1) / f ∧ (c + f - 1) / f < c := by
  have h1 : (c + f - 1) / f * f ≤ c + f - 1 := Int.ediv_mul_le _ (by omega)
  have h2 : c + f - 1 < ((c + f - 1) / f + 1) * f := Int.lt_ediv_add_one_mul_self _ (by omega)
  generalize (c + f - 1) / f = q at *
  have h3 : (1 : Int) * 1 ≤ (c - 1) * (f - 1) := Int.mul_le_mul (by omega) (by omega) (by omega) (by omega)
  rw [Int.sub_mul, Int.mul_sub] at h3
  constructor
  · rcases Int.lt_or_le 0 q with z | z
    · omega
    · have := Int.mul_le_mul_of_nonneg_right (show q + 1 ≤ 1 by omega) (show 0 ≤ f by omega)
      omega
  · rcases Int.lt_or_le q c with z | z
    · exact z
    · have := Int.mul_le_mul_of_nonneg_right z (show 0 ≤ f by omega)
      omega
theorem rounds (f : Int) (hf : 2 ≤ f) (hf2 : f ≤ 64) : ∀ (d : Nat) (c p : Int), c.toNat ≤ d → 1 ≤ p → p + c ≤ 4611686018427387904 → 0 ≤ c →
    ∃ k v, xsort_Passes.l0 k f p c = some v ∧ chainmanref18_Passes.l0 k c f p = some v ∧ p ≤ v ∧ (c ≤ 1 → v = 1 ∨ p ≠ 1) := by
  intro d
  induction d with
  | zero =>
    intro c p hd h1 h2 h0
    refine ⟨1, p, by rw [xsort_Passes.l0, if_neg (by omega)], by rw [chainmanref18_Passes.l0, if_neg (by omega)], Int.le_refl _, by omega⟩
  | succ d ih =>
    intro c p hd h1 h2 h0
    by_cases hc : c > 1
    · obtain ⟨q1, q2⟩ := ceil_less c f hc hf
      have e1 : wrap64 (c + f) = c + f := w64 _ (by omega)
      have e2 : wrap64 (c + f - 1) = c + f - 1 := w64 _ (by omega)
      have e3 : Int.tdiv (c + f - 1) f = (c + f - 1) / f := Int.tdiv_eq_ediv_of_nonneg (by omega)
      have e4 : wrap64 ((c + f - 1) / f) = (c + f - 1) / f := w64 _ (by omega)
      have e5 : wrap64 (p + 1) = p + 1 := w64 _ (by omega)
      obtain ⟨k, v, a1, a2, a3, a4⟩ := ih ((c + f - 1) / f) (p + 1) (by omega) (by omega) (by omega) (by omega)
      refine ⟨k + 1, v, ?_, ?_, by omega, by omega⟩
      · rw [xsort_Passes.l0, if_pos hc, if_neg (by omega), e1, e2, e3, e4, e5]; exact a1
      · rw [chainmanref18_Passes.l0, if_pos hc, if_neg (by omega), e1, e2, e3, e4, e5]; exact a2
    · exact ⟨1, p, by rw [xsort_Passes.l0, if_neg hc], by rw [chainmanref18_Passes.l0, if_neg hc], Int.le_refl _, by omega⟩
theorem passes (n m : Int) (hn : 0 ≤ n ∧ n ≤ 1099511627776) (hm : 16 ≤ m ∧ m ≤ 1099511627776) :
    ∃ k v, xsort_Passes.f k n m = some v ∧ chainmanref18_Passes.f k n m = some v ∧ 1 ≤ v ∧ (n + 8 ≤ m → v = 1) := by
  have e1 : wrap64 (m - 8) = m - 8 := w64 _ (by omega)
  have e2 : wrap64 (m - 4) = m - 4 := w64 _ (by omega)
  have e3 : Int.tdiv (m - 4) 4 = (m - 4) / 4 := Int.tdiv_eq_ediv_of_nonneg (by omega)
  have e4 : wrap64 ((m - 4) / 4) = (m - 4) / 4 := w64 _ (by omega)
  have e5 : wrap64 (n + (m - 8)) = n + (m - 8) := w64 _ (by omega)
  have e6 : wrap64 (n + (m - 8) - 1) = n + m - 9 := by rw [w64 _ (by omega)]; omega
  have e7 : wrap64 (n + m) = n + m := w64 _ (by omega)
  have e8 : wrap64 (n + m - 9) = n + m - 9 := w64 _ (by omega)
  have e9 : Int.tdiv (n + m - 9) (m - 8) = (n + m - 9) / (m - 8) := Int.tdiv_eq_ediv_of_nonneg (by omega)
  have q0 : 0 ≤ (n + m - 9) / (m - 8) := Int.ediv_nonneg (by omega) (by omega)
  have q1 : (n + m - 9) / (m - 8) ≤ n + m - 9 := Int.ediv_le_self _ (by omega)
  have q2 : n + 8 ≤ m → (n + m - 9) / (m - 8) < 2 := fun h => Int.ediv_lt_of_lt_mul (by omega) (by omega)
  have e10 : wrap64 ((n + m - 9) / (m - 8)) = (n + m - 9) / (m - 8) := w64 _ (by omega)
  obtain ⟨F, hF⟩ : ∃ F, mn 64 ((m - 4) / 4) = F := ⟨_, rfl⟩
  have hF2 : 2 ≤ F ∧ F ≤ 64 := by
    rw [← hF]; unfold mn
    split <;> omega
  obtain ⟨k, v, a1, a2, a3, a4⟩ := rounds F hF2.1 hF2.2 _ ((n + m - 9) / (m - 8)) 1 (Nat.le_refl _) (Int.le_refl _) (by omega) q0
  refine ⟨k + 1, v, ?_, ?_, a3, fun h => (a4 (by have := q2 h; omega)).elim id (fun h => absurd rfl h)⟩
  · unfold xsort_Passes.f
    rw [if_neg (by omega), if_neg (by omega), if_neg (by omega), decide_eq_false (by omega), xsort_Passes.j0, if_neg (by decide)]
    unfold xsort_room.f
    rw [Option.bind_some]
    show (if wrap64 (m - 8) = 0 then none else xsort_Passes.l0 k (mn 64 (wrap64 (Int.tdiv (wrap64 (m - 4)) 4))) 1 (wrap64 (Int.tdiv (wrap64 (wrap64 (n + wrap64 (m - 8)) - 1)) (wrap64 (m - 8))))) = some v
    rw [e1, if_neg (by omega), e2, e3, e4, hF, e5, e6, e9, e10]
    exact a1
  · unfold chainmanref18_Passes.f
    rw [if_neg (by omega), if_neg (by omega), if_neg (by omega), decide_eq_false (by omega), chainmanref18_Passes.j0, if_neg (by decide), e1, if_neg (by omega), e7, e8, e9, e10, e2, e3, e4, hF]
    exact a2
/-- One number of rounds for all that may be left. -/
theorem passes_all (n : Int) (hn : 0 ≤ n ∧ n ≤ 1099511627776) : ∀ N : Nat, N ≤ 1099511627760 → ∃ K, ∀ m : Int, 16 ≤ m → m < 16 + (N : Int) →
    ∃ v, xsort_Passes.f K n m = some v ∧ chainmanref18_Passes.f K n m = some v ∧ 1 ≤ v ∧ (n + 8 ≤ m → v = 1) := by
  intro N
  induction N with
  | zero => intro _; exact ⟨0, fun m h1 h2 => by omega⟩
  | succ N ih =>
    intro hN
    obtain ⟨K, hK⟩ := ih (by omega)
    obtain ⟨k, v, a1, a2, a3, a4⟩ := passes n (16 + (N : Int)) hn (by omega)
    refine ⟨K + k, fun m h1 h2 => ?_⟩
    by_cases e : m = 16 + (N : Int)
    · subst e
      exact ⟨v, up_ (f := fun k => xsort_Passes.f k n _) (fun k => xsort_Passes.mono n _ k) _ (by omega) a1, up_ (f := fun k => chainmanref18_Passes.f k n _) (fun k => chainmanref18_Passes.mono n _ k) _ (by omega) a2, a3, a4⟩
    · obtain ⟨v', b1, b2, b3, b4⟩ := hK m h1 (by omega)
      exact ⟨v', up_ (f := fun k => xsort_Passes.f k n _) (fun k => xsort_Passes.mono n _ k) _ (by omega) b1, up_ (f := fun k => chainmanref18_Passes.f k n _) (fun k => chainmanref18_Passes.mono n _ k) _ (by omega) b2, b3, b4⟩

/-! ### the law PlanLeast -/
theorem enough_up (n p m : Int) (K K' : Nat) (h : K ≤ K') : LeO (plan_Least.enough K n p m) (plan_Least.enough K' n p m) := by
  intro r hr
  refine up_ (f := fun k => plan_Least.enough k n p m) (fun k => ?_) K' h hr
  unfold plan_Least.enough
  exact LeO.bind (xsort_Passes.mono n m k) (fun _ => LeO.refl _)
theorem least_spec (n p : Int) (hn : 0 ≤ n ∧ n ≤ 1048576) (hp : 1 ≤ p) : ∃ K r v, plan_Least.f K n p = some (r, true) ∧ (16 ≤ r ∧ r ≤ 1048584) ∧ chainmanref18_Passes.f K n r = some v ∧ v ≤ p ∧
    (r = 16 ∨ ∃ u, chainmanref18_Passes.f K n (r - 1) = some u ∧ p < u) := by
  obtain ⟨M, hM⟩ : ∃ M, mx 16 (n + 8) = M := ⟨_, rfl⟩
  have hM2 : 16 ≤ M ∧ n + 8 ≤ M ∧ M ≤ 1048584 := by
    rw [← hM]; unfold mx
    split <;> omega
  obtain ⟨K, hK⟩ := passes_all n (by omega) (M - 16 + 1).toNat (by omega)
  have en : ∀ m, 16 ≤ m → m ≤ M → ∃ v, xsort_Passes.f K n m = some v ∧ chainmanref18_Passes.f K n m = some v ∧ 1 ≤ v ∧ (n + 8 ≤ m → v = 1) := fun m h1 h2 => hK m h1 (by omega)
  have w16 : ∀ x, 0 ≤ x → x ≤ M - 16 → wrap64 (16 + x) = 16 + x := fun x h1 h2 => w64 _ (by omega)
  obtain ⟨k, r, hr, r0, r1, r2, r3⟩ := search_spec (fun i => plan_Least.enough K n p (wrap64 (16 + i))) (M - 16) (fun x h0 h1 => by
    obtain ⟨v, e, _⟩ := en (16 + x) (by omega) (by omega)
    exact ⟨decide (v ≤ p), by show plan_Least.enough K n p (wrap64 (16 + x)) = _; rw [w16 x h0 (by omega)]; unfold plan_Least.enough; rw [e, Option.bind_some]⟩) _ 0 (M - 16) (Nat.le_refl _) (Int.le_refl _) (by omega) (Int.le_refl _)
  obtain ⟨v, e1, e2, e3, e4⟩ := en (16 + r) (by omega) (by omega)
  refine ⟨K + k, 16 + r, v, ?_, ⟨by omega, by omega⟩, up_ (f := fun k => chainmanref18_Passes.f k n _) (fun k => chainmanref18_Passes.mono n _ k) _ (by omega) e2, ?_, ?_⟩
  · unfold plan_Least.f
    rw [if_neg (by omega), if_neg (by omega), if_neg (by omega), hM]
    unfold plan_Least.first
    rw [if_pos (by omega)]
    have h1 := plan_Least.search_le (q := fun i => plan_Least.enough (K + k) n p (wrap64 (16 + i))) (fun x => enough_up n p _ K (K + k) (by omega)) _ _ _ _ hr
    have h2 := up_ (f := fun j => plan_Least.search (fun i => plan_Least.enough (K + k) n p (wrap64 (16 + i))) j 0 (M - 16)) (fun j => plan_Least.search_mono _ j 0 _) (K + k) (by omega) h1
    rw [h2, Option.bind_some, Option.bind_some, w16 r r0 r1]
  · rcases r3 with e | e
    · have := e4 (by omega); omega
    · have e' : plan_Least.enough K n p (wrap64 (16 + r)) = some true := e
      rw [w16 r r0 r1] at e'
      unfold plan_Least.enough at e'
      rw [e1, Option.bind_some] at e'
      exact of_decide_eq_true (Option.some.inj e')
  · rcases r2 with e | e
    · exact .inl (by omega)
    · by_cases hz : r = 0
      · exact .inl (by omega)
      · obtain ⟨u, f1, f2, f3, f4⟩ := en (16 + r - 1) (by omega) (by omega)
        have e' : plan_Least.enough K n p (wrap64 (16 + (r - 1))) = some false := e
        rw [w16 (r - 1) (by omega) (by omega), show 16 + (r - 1) = 16 + r - 1 by omega] at e'
        unfold plan_Least.enough at e'
        rw [f1, Option.bind_some] at e'
        have := of_decide_eq_false (Option.some.inj e')
        exact .inr ⟨u, up_ (f := fun k => chainmanref18_Passes.f k n _) (fun k => chainmanref18_Passes.mono n _ k) _ (by omega) f2, by omega⟩
theorem awake_k : chainmanlaw52_awake.f 40 = some true := by decide +kernel
theorem PlanLeast : chainmanlaw52_PlanLeast.Pure := by
  intro a0 a1 w0 w1
  have h0 : 0 ≤ a0 ∧ a0 ≤ 4294967295 := by simpa [Lit.wf, IntKind.min, IntKind.max, IntKind.signed, IntKind.bits] using w0
  have h1 : 0 ≤ a1 ∧ a1 ≤ 255 := by simpa [Lit.wf, IntKind.min, IntKind.max, IntKind.signed, IntKind.bits] using w1
  have hn : 0 ≤ Int.tmod (wrap64 a0) 1048576 ∧ Int.tmod (wrap64 a0) 1048576 ≤ 1048576 := by
    rw [w64 a0 (by omega), Int.tmod_eq_emod_of_nonneg h0.1]; omega
  have hp : 1 ≤ wrap64 (1 + Int.tmod (wrap64 a1) 40) := by
    rw [w64 a1 (by omega), Int.tmod_eq_emod_of_nonneg h1.1, w64 _ (by omega)]; omega
  obtain ⟨K, r, v, e1, e2, e3, e4, e5⟩ := least_spec _ _ hn hp
  refine ⟨K + 40, ?_⟩
  have aw : chainmanlaw52_awake.f (K + 40) = some true := up_ chainmanlaw52_awake.mono (K + 40) (by omega) awake_k
  have l := up_ (f := fun k => plan_Least.f k (Int.tmod (wrap64 a0) 1048576) (wrap64 (1 + Int.tmod (wrap64 a1) 40))) (fun k => plan_Least.mono _ _ k) (K + 40) (by omega) e1
  have q := up_ (f := fun k => chainmanref18_Passes.f k (Int.tmod (wrap64 a0) 1048576) r) (fun k => chainmanref18_Passes.mono _ _ k) (K + 40) (by omega) e3
  unfold chainmanlaw52_PlanLeast.f
  rw [l, Option.bind_some, if_pos rfl, if_pos e2.1, q, Option.bind_some, if_pos e4]
  by_cases hr : r = 16
  · rw [if_pos hr, aw, Option.bind_some]
  · obtain ⟨u, u1, u2⟩ := e5.resolve_left hr
    have hb : wrap64 (r - 1) = r - 1 := w64 _ (by omega)
    have q2 := up_ (f := fun k => chainmanref18_Passes.f k (Int.tmod (wrap64 a0) 1048576) (r - 1)) (fun k => chainmanref18_Passes.mono _ _ k) (K + 40) (by omega) u1
    rw [if_neg hr, hb, q2, Option.bind_some, if_pos u2, aw, Option.bind_some]

end Go.Proofs.Ytgpgekjhpkakbaa.Pure
