/- From nothing on, whatever is told, done comes, behind at most rounds and 5 steps; each is right, and its manifest fits; for 1 to 64 rounds and up to 80 answers (the law StageEnds, over numbers and bytes alone). -/
import Derived.Test.YtmacpgkcokpgjaaDoorPStageEndsx5
import Derived.Lib.ItoaNum
import Derived.Lib.Strings
namespace Go.Proofs.YtmacpgkcokpgjaaDoor.Pure
open Go.RowKit Go.Proofs.YtmacpgkcokpgjaaDoor.PStageEnds Go.Proofs.YtmacpgkcokpgjaaDoorW.PrintWords Go.Proofs.YtmacpgkcokpgjaaDoorW.PrintLast
set_option linter.unusedVariables false
set_option linter.unusedSimpArgs false

/-- What may be done. -/
def V (n s p : Int) : Prop := (1 ≤ n ∧ n ≤ 64) ∧ ((p = 0 ∧ (s = 0 ∨ s = 1 ∨ s = 2 ∨ s = 3 ∨ s = 6 ∨ s = 7)) ∨ (s = 4 ∧ 1 ≤ p ∧ p ≤ n - 1) ∨ (s = 5 ∧ 1 ≤ p ∧ p ≤ n))
theorem right_k (n s p : Int) (h : V n s p) (k : Nat) : stage_Right.f (k + 1) s p n = some true := by
  obtain ⟨⟨h1, h2⟩, h⟩ := h
  have hw : wrap64 (n - 1) = n - 1 := by unfold wrap64; omega
  rcases h with ⟨rfl, rfl | rfl | rfl | rfl | rfl | rfl⟩ | ⟨rfl, h3, h4⟩ | ⟨rfl, h3, h4⟩
  · simp [stage_Right.f, stage_Right.j0, h1, h2]
  · simp [stage_Right.f, stage_Right.j0, h1, h2]
  · simp [stage_Right.f, stage_Right.j0, h1, h2]
  · simp [stage_Right.f, stage_Right.j0, h1, h2]
  · simp [stage_Right.f, stage_Right.j0, h1, h2]
  · simp [stage_Right.f, stage_Right.j0, h1, h2]
  · simp [stage_Right.f, stage_Right.j0, h1, h2, h3, hw, h4]
  · simp [stage_Right.f, stage_Right.j0, h1, h2, h3, h4]
/-- How many steps are left. -/
def left (n s p : Int) : Int := if s = 7 then 0 else if s = 6 then 1 else if s = 5 then 2 else if s = 4 then n - p + 2 else n + 5 - s
theorem next_k (n s p : Int) (h : V n s p) (h7 : s ≠ 7) (b : Bool) : ∃ s' p', (∀ k, stage_Next.f (k + 1) s p n b = some (s', p', true)) ∧ V n s' p' ∧ left n s' p' < left n s p ∧ ¬ s' < s ∧ (s' = s → ¬ p' ≤ p) ∧ 1 ≤ s' := by
  have hr := fun k => right_k n s p h k
  obtain ⟨⟨h1, h2⟩, h⟩ := h
  have round : ∀ q : Int, q = s → (s = 3 ∧ p = 0 ∨ s = 4 ∧ 1 ≤ p ∧ p ≤ n - 1) → ∃ s' p', (∀ k, stage_Next.f (k + 1) s p n b = some (s', p', true)) ∧ V n s' p' ∧ left n s' p' < left n s p ∧ ¬ s' < s ∧ (s' = s → ¬ p' ≤ p) ∧ 1 ≤ s' := by
    intro q _ hs
    have hw : wrap64 (p + 1) = p + 1 := by unfold wrap64; omega
    have e : ∀ k, stage_Next.f (k + 1) s p n b = (if p + 1 < n then (if b = true then some (5, p + 1, true) else some (4, p + 1, true)) else some (5, p + 1, true)) := fun k => by
      unfold stage_Next.f
      rw [hr k, Option.bind_some, if_pos rfl, if_neg h7]
      rcases hs with ⟨rfl, rfl⟩ | ⟨rfl, _, _⟩
      · rw [if_pos rfl, stage_Next.j0, if_pos (by decide), hw]
      · rw [if_neg (by decide), stage_Next.j0, if_pos (by decide), hw]
    by_cases hn : p + 1 < n
    · cases b with
      | true =>
        refine ⟨5, p + 1, fun k => by rw [e k, if_pos hn, if_pos rfl], ⟨⟨h1, h2⟩, .inr (.inr ⟨rfl, by omega, by omega⟩)⟩, ?_, by omega, by omega, by omega⟩
        rcases hs with ⟨rfl, rfl⟩ | ⟨rfl, _, _⟩ <;> simp [left] <;> omega
      | false =>
        refine ⟨4, p + 1, fun k => by rw [e k, if_pos hn, if_neg (by decide)], ⟨⟨h1, h2⟩, .inr (.inl ⟨rfl, by omega, by omega⟩)⟩, ?_, by omega, by omega, by omega⟩
        rcases hs with ⟨rfl, rfl⟩ | ⟨rfl, _, _⟩ <;> simp [left] <;> omega
    · refine ⟨5, p + 1, fun k => by rw [e k, if_neg hn], ⟨⟨h1, h2⟩, .inr (.inr ⟨rfl, by omega, by omega⟩)⟩, ?_, by omega, by omega, by omega⟩
      rcases hs with ⟨rfl, rfl⟩ | ⟨rfl, _, _⟩ <;> simp [left] <;> omega
  have plain : ∀ (hs : s = 0 ∨ s = 1 ∨ s = 2 ∨ s = 5 ∨ s = 6), ∀ k, stage_Next.f (k + 1) s p n b = some (s + 1, 0, true) := fun hs k => by
    have hw : wrap64 (s + 1) = s + 1 := by unfold wrap64; omega
    unfold stage_Next.f
    rw [hr k, Option.bind_some, if_pos rfl, if_neg h7, if_neg (by omega), stage_Next.j0, if_neg (by rw [beq_iff_eq]; omega), hw]
  rcases h with ⟨rfl, h | h | h | h | h | h⟩ | ⟨h, h3, h4⟩ | ⟨h, h3, h4⟩
  · refine ⟨s + 1, 0, plain (by omega), ⟨⟨h1, h2⟩, .inl ⟨rfl, by omega⟩⟩, ?_, by omega, by omega, by omega⟩
    subst h; simp [left] <;> omega
  · refine ⟨s + 1, 0, plain (by omega), ⟨⟨h1, h2⟩, .inl ⟨rfl, by omega⟩⟩, ?_, by omega, by omega, by omega⟩
    subst h; simp [left] <;> omega
  · refine ⟨s + 1, 0, plain (by omega), ⟨⟨h1, h2⟩, .inl ⟨rfl, by omega⟩⟩, ?_, by omega, by omega, by omega⟩
    subst h; simp [left] <;> omega
  · exact round s rfl (.inl ⟨h, rfl⟩)
  · refine ⟨s + 1, 0, plain (by omega), ⟨⟨h1, h2⟩, .inl ⟨rfl, by omega⟩⟩, ?_, by omega, by omega, by omega⟩
    subst h; simp [left]
  · exact absurd h h7
  · exact round s rfl (.inr ⟨h, h3, h4⟩)
  · refine ⟨s + 1, 0, plain (by omega), ⟨⟨h1, h2⟩, .inl ⟨rfl, by omega⟩⟩, ?_, by omega, by omega, by omega⟩
    subst h; simp [left]
theorem next_done (n : Int) (hn : 1 ≤ n ∧ n ≤ 64) (b : Bool) (k : Nat) : stage_Next.f (k + 1) 7 0 n b = some (0, 0, false) := by
  unfold stage_Next.f
  rw [right_k n 7 0 ⟨hn, .inl ⟨rfl, by omega⟩⟩ k, Option.bind_some, if_pos rfl, if_pos rfl]
/-! ### files and their manifest -/
def okL (l : List UInt8) : Bool := l.all fs_Right.ok && (decide (l.length ≠ 0) && decide (l.length ≤ 24))
theorem ba_len (s : ByteArray) : s.size = s.data.toList.length := by simp
theorem may_ok (x : S39) (h : okL x.f0.data.toList = true) (h1 : 1 ≤ x.f1 ∧ x.f1 ≤ 64) (h2 : x.f2 = 0) : manifest_Right.mayB x = true := by
  unfold manifest_Right.mayB
  unfold okL at h
  rw [← ba_len] at h
  rw [h, Bool.true_and]
  exact decide_eq_true (by omega)
theorem ok_size (x : S39) (h : okL x.f0.data.toList = true) : x.f0.size ≤ 24 := by
  unfold okL at h
  rw [← ba_len] at h
  simp only [Bool.and_eq_true, decide_eq_true_eq] at h
  exact h.2.2
theorem like_self (x : S39) : api_File_13.like x x = true := by unfold api_File_13.like; simp
theorem eq_self (l : List S39) : api_File_13.ok l l = true := by
  unfold api_File_13.ok
  rw [beq_self_eq_true, Bool.true_and]
  exact List.all_eq_true.mpr (fun j _ => like_self _)
theorem right_one (s p : Int) (x : S39) (hx : okL x.f0.data.toList = true) (hx1 : 1 ≤ x.f1 ∧ x.f1 ≤ 64) (hx2 : x.f2 = 0) (hs : 1 ≤ s ∧ s ≤ 7) (hp : 0 ≤ p ∧ p ≤ 1000) : manifest_Right.f s p [x] = some true := by
  have z1 := ok_size x hx
  unfold manifest_Right.f
  rw [if_pos ⟨by simp, by simp; omega⟩, decide_eq_true (show 1 ≤ s ∧ s ≤ 7 ∧ 0 ≤ p ∧ p ≤ 1000 ∧ (([x] : List S39).length : Int) ≤ 16 from ⟨hs.1, hs.2, hp.1, hp.2, by simp⟩), Bool.true_and]
  refine congrArg some (List.all_eq_true.mpr (fun j hj => ?_))
  have hj := List.mem_range.mp hj
  obtain rfl : j = 0 := by simpa using hj
  show (manifest_Right.mayB x && !manifest_Right.met [x] 0 x.f0) = true
  rw [may_ok x hx hx1 hx2]
  rfl
theorem right_two (s p : Int) (x y : S39) (hx : okL x.f0.data.toList = true) (hx1 : 1 ≤ x.f1 ∧ x.f1 ≤ 64) (hx2 : x.f2 = 0) (hy : okL y.f0.data.toList = true) (hy1 : 1 ≤ y.f1 ∧ y.f1 ≤ 64) (hy2 : y.f2 = 0) (hne : x.f0.data.toList ≠ y.f0.data.toList) (hs : 1 ≤ s ∧ s ≤ 7) (hp : 0 ≤ p ∧ p ≤ 1000) : manifest_Right.f s p [x, y] = some true := by
  have z1 := ok_size x hx
  have z2 := ok_size y hy
  unfold manifest_Right.f
  rw [if_pos ⟨by simp, by simp; omega⟩, decide_eq_true (show 1 ≤ s ∧ s ≤ 7 ∧ 0 ≤ p ∧ p ≤ 1000 ∧ (([x, y] : List S39).length : Int) ≤ 16 from ⟨hs.1, hs.2, hp.1, hp.2, by simp⟩), Bool.true_and]
  refine congrArg some (List.all_eq_true.mpr (fun j hj => ?_))
  have hj := List.mem_range.mp hj
  have hj : j = 0 ∨ j = 1 := by simp at hj; omega
  rcases hj with rfl | rfl
  · show (manifest_Right.mayB x && !manifest_Right.met [x, y] 0 x.f0) = true
    rw [may_ok x hx hx1 hx2]
    rfl
  · show (manifest_Right.mayB y && !manifest_Right.met [x, y] 1 y.f0) = true
    rw [may_ok y hy hy1 hy2, Bool.true_and]
    show (!([x].any fun z => z.f0.toList == y.f0.toList)) = true
    rw [List.any_cons, List.any_nil, Bool.or_false, ByteArray.toList_eq, ByteArray.toList_eq, beq_eq_false_iff_ne.mpr hne]; rfl
def prs : ByteArray := ⟨#[112, 97, 105, 114, 115, 46, 111, 117, 116]⟩
theorem digit_ok (d : Nat) (h : d < 10) : fs_Right.ok (UInt8.ofNat (48 + d)) = true := by
  unfold fs_Right.ok
  rw [UInt8.toNat_ofNat']
  exact decide_eq_true (by omega)
theorem digits_ok (p : Nat) (h : p < 100) : okL ([103, 114, 97, 112, 104, 46] ++ Lib.decDigits p) = true := by
  have g : ∀ l : List UInt8, l.all fs_Right.ok = true → 1 ≤ l.length → l.length ≤ 2 → okL ([103, 114, 97, 112, 104, 46] ++ l) = true := fun l h1 h2 h3 => by
    unfold okL
    rw [List.all_append, h1, show ([103, 114, 97, 112, 104, 46] : List UInt8).all fs_Right.ok = true from by decide, List.length_append]
    have : ([103, 114, 97, 112, 104, 46] : List UInt8).length = 6 := rfl
    rw [this, decide_eq_true (show 6 + l.length ≠ 0 by omega), decide_eq_true (show 6 + l.length ≤ 24 by omega)]; rfl
  by_cases h1 : p < 10
  · rw [Lib.decDigits_one h1]
    exact g _ (by rw [List.all_cons, digit_ok p h1]; rfl) (by simp) (by simp)
  · rw [Lib.decDigits_two h1 h]
    exact g _ (by rw [List.all_cons, List.all_cons, digit_ok _ (by omega), digit_ok _ (Nat.mod_lt _ (by omega))]; rfl) (by simp) (by simp)
theorem graph_f (p : Nat) (h : p < 100) : ∃ g, stage_Graph.f (p : Int) = some g ∧ g.data.toList = [103, 114, 97, 112, 104, 46] ++ Lib.decDigits p := by
  have hl : (Lib.decDigits p).length ≤ 2 := by
    by_cases h1 : p < 10
    · rw [Lib.decDigits_one h1]; simp
    · rw [Lib.decDigits_two h1 h]; simp
  refine ⟨(⟨#[103, 114, 97, 112, 104, 46]⟩ : ByteArray) ++ ⟨(Lib.decDigits p).toArray⟩, ?_, ?_⟩
  · unfold stage_Graph.f strconv_Itoa.f
    rw [if_neg (by omega), if_pos ⟨by omega, by omega⟩, Option.bind_some, Int.toNat_natCast, if_pos (by rw [ba_len]; show 6 + (Lib.decDigits p).length ≤ _; omega)]
  · rw [ByteArray.data_append, Array.toList_append]
theorem both_f (x y : ByteArray) : stage_both.f x y = some [⟨x, 8, 0, 0⟩, ⟨y, 17, 0, 0⟩] := rfl
theorem fits_of (n s p : Int) (fs : List S39) (h : V n s p) (hf : ∀ m, stage_Files.f (m + 2) s p = some fs) (hl : fs.length ≤ 1000) (hr : manifest_Right.f s p fs = some true) : stage_Fits.f s p fs n = some true := by
  unfold stage_Fits.f
  rw [hr, Option.bind_some, if_pos rfl, right_k n s p h 4, Option.bind_some, if_pos rfl, hf 3, Option.bind_some, if_pos hl, eq_self]
theorem fits_k (n s p : Int) (h : V n s p) (hs : 1 ≤ s) : ∃ fs, (∀ m, stage_Files.f (m + 2) s p = some fs) ∧ stage_Fits.f s p fs n = some true := by
  have hV := h
  obtain ⟨⟨h1, h2⟩, h⟩ := h
  have hp : 0 ≤ p ∧ p ≤ 64 := by omega
  have hs7 : 1 ≤ s ∧ s ≤ 7 := by omega
  have e0 : ∀ m, stage_Files.f (m + 2) s p = stage_Files.j0 (m + 2) false s p := fun m => by
    unfold stage_Files.f
    rw [if_neg (by omega), decide_eq_false (by omega)]
  have two : ∀ (x y : ByteArray), (∀ m, stage_Files.f (m + 2) s p = some [⟨x, 8, 0, 0⟩, ⟨y, 17, 0, 0⟩]) → okL x.data.toList = true → okL y.data.toList = true → x.data.toList ≠ y.data.toList → ∃ fs, (∀ m, stage_Files.f (m + 2) s p = some fs) ∧ stage_Fits.f s p fs n = some true := fun x y he hx hy hne =>
    ⟨_, he, fits_of n s p _ hV he (by simp) (right_two s p _ _ hx (by simp) rfl hy (by simp) rfl hne hs7 ⟨hp.1, by omega⟩)⟩
  have graph : ∀ q : Nat, q < 100 → (∀ g, stage_Graph.f (q : Int) = some g → ∀ m, stage_Files.f (m + 2) s p = some [⟨prs, 8, 0, 0⟩, ⟨g, 17, 0, 0⟩]) → ∃ fs, (∀ m, stage_Files.f (m + 2) s p = some fs) ∧ stage_Fits.f s p fs n = some true := fun q hq hf => by
    obtain ⟨g, hg, hd⟩ := graph_f q hq
    refine two prs g (hf g hg) (by decide) (by rw [hd]; exact digits_ok q hq) (fun e => ?_)
    rw [hd] at e
    have e1 := congrArg List.head? e
    have e2 : some (112 : UInt8) = some 103 := e1
    exact absurd e2 (by decide)
  rcases h with ⟨rfl, h | h | h | h | h | h⟩ | ⟨h, h3, h4⟩ | ⟨h, h3, h4⟩
  · omega
  · subst h
    have he : ∀ m, stage_Files.f (m + 2) 1 0 = some [⟨⟨#[99, 101, 108, 108, 115]⟩, 12, 0, 0⟩] := fun m => by
      rw [e0 m, stage_Files.j0, if_neg (by decide), if_pos rfl]
    exact ⟨_, he, fits_of n 1 0 _ hV he (by simp) (right_one 1 0 _ (by decide) (by simp) rfl hs7 (by omega))⟩
  · subst h
    have he : ∀ m, stage_Files.f (m + 2) 2 0 = some [⟨prs, 8, 0, 0⟩] := fun m => by
      rw [e0 m, stage_Files.j0, if_neg (by decide), if_neg (by decide), if_pos rfl, both_f, Option.bind_some, if_pos (by simp)]; rfl
    exact ⟨_, he, fits_of n 2 0 _ hV he (by simp) (right_one 2 0 _ (by decide) (by simp) rfl hs7 (by omega))⟩
  · subst h
    refine graph 0 (by omega) (fun g hg m => ?_)
    rw [e0 m, stage_Files.j0, if_neg (by decide), if_neg (by decide), if_neg (by decide), if_pos rfl, show stage_Graph.f 0 = some g from hg, Option.bind_some, both_f, Option.bind_some]; rfl
  · subst h
    refine two prs ⟨#[103, 114, 97, 112, 104, 46, 111, 117, 116]⟩ (fun m => ?_) (by decide) (by decide) (by decide)
    rw [e0 m, stage_Files.j0, if_neg (by decide), if_neg (by decide), if_neg (by decide), if_neg (by decide), if_neg (by decide), stage_Files.j1, if_neg (by decide), if_pos rfl, both_f, Option.bind_some]; rfl
  · subst h
    refine two ⟨#[112, 97, 105, 114, 115]⟩ ⟨#[103, 114, 97, 112, 104]⟩ (fun m => ?_) (by decide) (by decide) (by decide)
    rw [e0 m, stage_Files.j0, if_neg (by decide), if_neg (by decide), if_neg (by decide), if_neg (by decide), if_neg (by decide), stage_Files.j1, if_neg (by decide), if_neg (by decide), if_pos rfl, both_f, Option.bind_some]
  · subst h
    obtain ⟨q, rfl⟩ := Int.eq_ofNat_of_zero_le hp.1
    refine graph q (by omega) (fun g hg m => ?_)
    rw [e0 m, stage_Files.j0, if_neg (by decide), if_neg (by decide), if_neg (by decide), if_neg (by decide), if_pos rfl, stage_Files.j1, if_pos (by decide), hg, Option.bind_some, both_f, Option.bind_some]; rfl
  · subst h
    obtain ⟨q, rfl⟩ := Int.eq_ofNat_of_zero_le hp.1
    refine graph q (by omega) (fun g hg m => ?_)
    rw [e0 m, stage_Files.j0, if_neg (by decide), if_neg (by decide), if_neg (by decide), if_neg (by decide), if_neg (by decide), stage_Files.j1, if_pos (by decide), hg, Option.bind_some, both_f, Option.bind_some]; rfl
theorem awake_ev : Ev (fun k => chainmanlaw21_awake.f k) true := by
  have hn : ∀ k, stage_Next.f (k + 1) 3 0 1 false = some (5, 1, true) := fun k => by
    unfold stage_Next.f
    rw [right_k 1 3 0 ⟨by omega, .inl ⟨rfl, by omega⟩⟩ k, Option.bind_some, if_pos rfl, if_neg (by decide), if_pos rfl, stage_Next.j0, if_pos (by decide), show wrap64 ((0 : Int) + 1) = 1 by unfold wrap64; omega, if_neg (by decide)]
  obtain ⟨g, hg, hd⟩ := graph_f 12 (by omega)
  obtain ⟨g1, hg1, _⟩ := graph_f 1 (by omega)
  have hf : ∀ m, stage_Files.f (m + 2) 5 1 = some [⟨prs, 8, 0, 0⟩, ⟨g1, 17, 0, 0⟩] := fun m => by
    unfold stage_Files.f
    rw [if_neg (by decide), decide_eq_false (by decide), stage_Files.j0, if_neg (by decide), if_neg (by decide), if_neg (by decide), if_neg (by decide), if_neg (by decide), stage_Files.j1, if_pos (by decide), show stage_Graph.f 1 = some g1 from hg1, Option.bind_some, both_f, Option.bind_some]; rfl
  refine ⟨2, fun k hk => ?_⟩
  obtain ⟨m, rfl⟩ : ∃ m, k = m + 2 := ⟨k - 2, by omega⟩
  show chainmanlaw21_awake.f (m + 2) = _
  unfold chainmanlaw21_awake.f
  rw [show chainmanlaw21_mk.f 3 0 = some (3, 0) from rfl, Option.bind_some, hn (m + 1), Option.bind_some, if_pos rfl, if_pos rfl, if_pos rfl, show stage_Graph.f 12 = some g from hg, Option.bind_some, if_pos (by rw [ByteArray.toList_eq, hd, Lib.decDigits_two (by omega) (by omega)]; rfl), hf m, Option.bind_some]
  rfl
theorem loop_ev (n : Int) (l : List Bool) (hl : l.length ≤ 1000) (hn : 1 ≤ n ∧ n ≤ 64) : ∀ (d : Nat) (i : Nat) (s p : Int), V n s p → s ≠ 7 → left n s p ≤ (d : Int) → (i : Int) + left n s p ≤ n + 5 → Ev (fun k => chainmanlaw21_StageEnds.l0 k l n (i : Int) s p) true := by
  intro d
  induction d with
  | zero =>
    intro i s p hV h7 hd _
    exfalso
    obtain ⟨⟨h1, h2⟩, h⟩ := hV
    rcases h with ⟨rfl, h | h | h | h | h | h⟩ | ⟨h, h3, h4⟩ | ⟨h, h3, h4⟩ <;> subst h <;> simp [left] at hd h7 <;> omega
  | succ d ih =>
    intro i s p hV h7 hd hi
    have hpos : 0 < left n s p := by
      obtain ⟨⟨h1, h2⟩, h⟩ := hV
      rcases h with ⟨rfl, h | h | h | h | h | h⟩ | ⟨h, h3, h4⟩ | ⟨h, h3, h4⟩ <;> subst h <;> simp [left] at h7 ⊢ <;> omega
    have hw : wrap64 (n + 5) = n + 5 := by unfold wrap64; omega
    have hw1 : wrap64 ((i : Int) + 1) = ((i + 1 : Nat) : Int) := by unfold wrap64; omega
    have step : ∀ (b : Bool), ∃ s' p', Ev (fun k => stage_Next.f k s p n b) (s', p', true) ∧ Ev (fun k => stage_Right.f k s' p' n) true ∧ ¬ s' < s ∧ (s' = s → ¬ p' ≤ p) ∧ (∃ fs, Ev (fun k => stage_Files.f k s' p') fs ∧ stage_Fits.f s' p' fs n = some true) ∧
        Ev (fun k => if s' = 7 then ((stage_Next.f k s' p' n false).bind fun bt => (if bt.2.2 = true then (none) else ((chainmanlaw21_awake.f k).bind fun t => (some t)))) else chainmanlaw21_StageEnds.l0 k l n (wrap64 ((i : Int) + 1)) s' p') true := fun b => by
      obtain ⟨s', p', e1, v1, l1, c1, c2, c3⟩ := next_k n s p hV h7 b
      obtain ⟨fs, e2, e3⟩ := fits_k n s' p' v1 c3
      refine ⟨s', p', ⟨1, fun k hk => ?_⟩, ⟨1, fun k hk => ?_⟩, c1, c2, ⟨fs, ⟨2, fun k hk => ?_⟩, e3⟩, ?_⟩
      · obtain ⟨m, rfl⟩ : ∃ m, k = m + 1 := ⟨k - 1, by omega⟩
        exact e1 m
      · obtain ⟨m, rfl⟩ : ∃ m, k = m + 1 := ⟨k - 1, by omega⟩
        exact right_k n s' p' v1 m
      · obtain ⟨m, rfl⟩ : ∃ m, k = m + 2 := ⟨k - 2, by omega⟩
        exact e2 m
      · by_cases h77 : s' = 7
        · subst h77
          have hp0 : p' = 0 := by
            obtain ⟨_, h⟩ := v1
            omega
          subst hp0
          refine Ev.congr (fun k => if_pos rfl) (Ev.bind (a := ((0 : Int), (0 : Int), false)) ⟨1, fun k hk => ?_⟩ (Ev.congr (fun k => if_neg (by decide)) (Ev.bind awake_ev (Ev.now _))))
          obtain ⟨m, rfl⟩ : ∃ m, k = m + 1 := ⟨k - 1, by omega⟩
          exact next_done n hn false m
        · rw [hw1]
          exact Ev.congr (fun k => if_neg h77) (ih (i + 1) s' p' v1 h77 (by omega) (by omega))
    have hin : (i : Int) < wrap64 (n + 5) := by rw [hw]; omega
    by_cases hil : (i : Int) < (l.length : Int)
    · obtain ⟨s', p', q1, q2, q3, q4, ⟨fs, q5, q6⟩, q7⟩ := step (rdOf false l (i : Int))
      have hj : Ev (fun k => chainmanlaw21_StageEnds.j1 k l n (i : Int) false s' p') true := Ev.step (fun k => by rw [chainmanlaw21_StageEnds.j1, if_neg (by decide)]) q7
      refine Ev.step (fun k => by rw [chainmanlaw21_StageEnds.l0, if_pos hin, if_pos hil, if_pos (by omega)]) (Ev.bind q1 (Ev.congr (fun k => if_pos rfl) (Ev.bind q2 (Ev.congr (fun k => by rw [if_pos rfl, if_neg q3]) ?_))))
      by_cases he : s' = s
      · exact Ev.congr (fun k => by rw [if_pos he, if_neg (q4 he)]) (Ev.bind q5 (Ev.congr (fun k => by rw [q6, Option.bind_some]; rfl) hj))
      · exact Ev.congr (fun k => if_neg he) (Ev.bind q5 (Ev.congr (fun k => by rw [q6, Option.bind_some]; rfl) hj))
    · obtain ⟨s', p', q1, q2, q3, q4, ⟨fs, q5, q6⟩, q7⟩ := step false
      have hj : Ev (fun k => chainmanlaw21_StageEnds.j2 k l n (i : Int) false s' p') true := Ev.step (fun k => by rw [chainmanlaw21_StageEnds.j2, if_neg (by decide)]) q7
      refine Ev.step (fun k => by rw [chainmanlaw21_StageEnds.l0, if_pos hin, if_neg hil]) (Ev.bind q1 (Ev.congr (fun k => if_pos rfl) (Ev.bind q2 (Ev.congr (fun k => by rw [if_pos rfl, if_neg q3]) ?_))))
      by_cases he : s' = s
      · exact Ev.congr (fun k => by rw [if_pos he, if_neg (q4 he)]) (Ev.bind q5 (Ev.congr (fun k => by rw [q6, Option.bind_some]; rfl) hj))
      · exact Ev.congr (fun k => if_neg he) (Ev.bind q5 (Ev.congr (fun k => by rw [q6, Option.bind_some]; rfl) hj))
theorem StageEnds : chainmanlaw21_StageEnds.Pure := by
  intro a0 l w0 wl
  have ha : 0 ≤ a0 ∧ a0 ≤ 255 := by simpa [Lit.wf, IntKind.min, IntKind.max, IntKind.signed, IntKind.bits] using w0
  refine Ev.rounds ?_
  unfold chainmanlaw21_StageEnds.f
  by_cases h80 : (l.length : Int) > 80
  · exact Ev.congr (fun k => if_pos h80) (Ev.bind awake_ev (Ev.now _))
  refine Ev.congr (f := fun k => chainmanlaw21_StageEnds.l0 k l (wrap64 (1 + (Int.tmod (wrap64 (a0)) 64))) 0 0 0) (fun k => by rw [if_neg h80]; rfl) ?_
  have hw : wrap64 (1 + (Int.tmod (wrap64 (a0)) 64)) = 1 + a0 % 64 := by
    have e : wrap64 a0 = a0 := by unfold wrap64; omega
    rw [e, Int.tmod_eq_emod_of_nonneg ha.1]
    unfold wrap64; omega
  rw [hw]
  exact loop_ev (1 + a0 % 64) l (by omega) (by omega) 1000 0 0 0 ⟨by omega, .inl ⟨rfl, by omega⟩⟩ (by decide) (by simp [left] <;> omega) (by simp [left] <;> omega)

end Go.Proofs.YtmacpgkcokpgjaaDoor.Pure
