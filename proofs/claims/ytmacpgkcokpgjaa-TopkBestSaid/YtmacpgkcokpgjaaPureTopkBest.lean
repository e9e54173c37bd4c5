/- Whatever order they are put in, the nearest are there: of near ones of unlike ids the first k of their order; turned round, and in two parts, too; for up to 20 near ones, k from 1 to 64 and any place (the law TopkBest, over lists and numbers alone). -/
import Derived.Test.YtmacpgkcokpgjaaPTopkBestx8
namespace Go.Proofs.Ytmacpgkcokpgjaa.Pure
open Go.RowKit Go.Proofs.Ytmacpgkcokpgjaa.PTopkBest Go.Proofs.YtmacpgkcokpgjaaW.PrintWords Go.Proofs.YtmacpgkcokpgjaaW.PrintLast
set_option linter.unusedVariables false
set_option linter.unusedSimpArgs false
/-! ### near ones in order -/
def less (a b : S26) : Prop := topk_Right.ord a b < 0
instance (a b : S26) : Decidable (less a b) := inferInstanceAs (Decidable (topk_Right.ord a b < 0))
theorem less_iff (a b : S26) : less a b ↔ (a.f0 < b.f0 ∨ (a.f0 = b.f0 ∧ a.f1 < b.f1)) := by
  unfold less topk_Right.ord
  (repeat' split) <;> omega
theorem less_trans {a b c : S26} (h : less a b) (h' : less b c) : less a c := by rw [less_iff] at *; omega
theorem less_irr (a : S26) : ¬ less a a := by rw [less_iff]; omega
theorem less_tot {a b : S26} (h : a.f1 ≠ b.f1) (h' : ¬ less a b) : less b a := by rw [less_iff] at *; omega
def cnt (s : List S26) (x : S26) : Nat := s.countP (fun y => decide (less y x))
def Srt (s : List S26) : Prop := s.Pairwise less
def Dis (s : List S26) : Prop := s.Pairwise (fun a b => a.f1 ≠ b.f1)
theorem cnt_le (s : List S26) (x : S26) : cnt s x ≤ s.length := List.countP_le_length
theorem cnt_at (x : S26) : ∀ (s : List S26), Srt s → ∀ j (h : j < s.length), less s[j] x ↔ j < cnt s x := by
  intro s
  induction s with
  | nil => intro _ j h; simp at h
  | cons y t ih =>
    intro hs j h
    obtain ⟨h1, h2⟩ := List.pairwise_cons.mp hs
    by_cases hy : less y x
    · have hc : cnt (y :: t) x = cnt t x + 1 := List.countP_cons_of_pos (by simpa using hy)
      rw [hc]
      cases j with
      | zero => exact ⟨fun _ => by omega, fun _ => hy⟩
      | succ j =>
        have := ih h2 j (by simpa using h)
        rw [List.getElem_cons_succ]
        exact this.trans ⟨fun h => by omega, fun h => by omega⟩
    · have hz : ∀ z ∈ t, ¬ less z x := fun z hz hl => hy (less_trans (h1 z hz) hl)
      have hc : cnt (y :: t) x = 0 := by
        unfold cnt
        rw [List.countP_eq_zero]
        intro z hz'
        rcases List.mem_cons.mp hz' with rfl | hz'
        · simpa using hy
        · simpa using hz z hz'
      rw [hc]
      refine ⟨fun hl => ?_, fun h => absurd h (Nat.not_lt_zero _)⟩
      exfalso
      cases j with
      | zero => exact hy hl
      | succ j => exact hz _ (List.getElem_mem _) hl
theorem cnt_own {s : List S26} (hs : Srt s) (j : Nat) (h : j < s.length) : cnt s s[j] = j := by
  have h0 := cnt_at s[j] s hs
  have h1 := (not_congr (h0 j h)).mp (less_irr _)
  rcases Nat.lt_or_ge (cnt s s[j]) j with hlt | hge
  · have hl : less (s[cnt s s[j]]'(by omega)) s[j] := List.pairwise_iff_getElem.mp hs _ _ (by omega) h hlt
    have := (h0 _ (by omega)).mp hl
    omega
  · omega
def ins (s : List S26) (x : S26) : List S26 := s.take (cnt s x) ++ [x] ++ s.drop (cnt s x)
theorem ins_perm (s : List S26) (x : S26) : (ins s x).Perm (x :: s) := by
  unfold ins
  rw [List.append_assoc, List.singleton_append]
  refine List.perm_middle.trans ?_
  rw [List.take_append_drop]
theorem ins_srt {s : List S26} (hs : Srt s) {x : S26} (hx : ∀ y ∈ s, y.f1 ≠ x.f1) : Srt (ins s x) := by
  have h0 := cnt_at x s hs
  have hlo : ∀ a ∈ s.take (cnt s x), less a x := by
    intro a ha
    obtain ⟨j, hj, rfl⟩ := List.mem_iff_getElem.mp ha
    rw [List.getElem_take]
    rw [List.length_take] at hj
    exact (h0 j (by omega)).mpr (by omega)
  have hhi : ∀ b ∈ s.drop (cnt s x), less x b := by
    intro b hb
    obtain ⟨j, hj, rfl⟩ := List.mem_iff_getElem.mp hb
    rw [List.getElem_drop]
    rw [List.length_drop] at hj
    refine less_tot (hx _ (List.getElem_mem _)) (fun hl => ?_)
    have := (h0 (cnt s x + j) (by omega)).mp hl
    omega
  unfold ins Srt
  rw [List.pairwise_append, List.pairwise_append]
  refine ⟨⟨hs.sublist (List.take_sublist _ _), List.pairwise_singleton _ _, ?_⟩, hs.sublist (List.drop_sublist _ _), ?_⟩
  · intro a ha b hb
    rw [List.mem_singleton] at hb
    rw [hb]; exact hlo a ha
  · intro a ha b hb
    rcases List.mem_append.mp ha with ha | ha
    · exact less_trans (hlo a ha) (hhi b hb)
    · rw [List.mem_singleton] at ha
      rw [ha]; exact hhi b hb
/-- All put in, one behind the other. -/
def srt (s l : List S26) : List S26 := l.foldl ins s
theorem srt_perm (l : List S26) : ∀ s : List S26, (srt s l).Perm (s ++ l) := by
  induction l with
  | nil => intro s; rw [List.append_nil]; exact List.Perm.refl _
  | cons x l ih =>
    intro s
    show (srt (ins s x) l).Perm _
    refine (ih _).trans ?_
    refine ((ins_perm s x).append_right l).trans ?_
    exact List.perm_middle.symm
theorem dis_perm {s t : List S26} (h : s.Perm t) (hs : Dis s) : Dis t := h.pairwise hs (fun h => Ne.symm h)
theorem srt_srt (l : List S26) : ∀ s : List S26, Srt s → Dis (s ++ l) → Srt (srt s l) := by
  induction l with
  | nil => intro s h _; exact h
  | cons x l ih =>
    intro s h hd
    have hx : ∀ y ∈ s, y.f1 ≠ x.f1 := fun y hy => (List.pairwise_append.mp hd).2.2 y hy x List.mem_cons_self
    refine ih (ins s x) (ins_srt h hx) (dis_perm ?_ hd)
    refine List.perm_middle.trans ?_
    exact ((ins_perm s x).symm.append_right l)
theorem srt_one {s t : List S26} (hs : Srt s) (ht : Srt t) (h : s.Perm t) : s = t := by
  have hl := h.length_eq
  refine List.ext_getElem hl (fun j h1 h2 => ?_)
  have hm : s[j] ∈ t := h.mem_iff.mp (List.getElem_mem h1)
  obtain ⟨i, hi, e⟩ := List.mem_iff_getElem.mp hm
  have c1 := cnt_own hs j h1
  have c2 := cnt_own ht i hi
  have c3 : cnt s s[j] = cnt t s[j] := h.countP_eq _
  rw [e, ← c3, c1] at c2
  subst c2
  exact e.symm
theorem cnt_take {S : List S26} (hS : Srt S) (x : S26) (n : Nat) : cnt (S.take n) x = min n (cnt S x) := by
  have h1 := cnt_at x S hS
  have h2 := cnt_at x (S.take n) (hS.sublist (List.take_sublist _ _))
  have l1 := cnt_le S x
  have l2 := cnt_le (S.take n) x
  have hT : (S.take n).length = min n S.length := List.length_take
  have hj : ∀ j, j < (S.take n).length → (j < cnt (S.take n) x ↔ j < cnt S x) := by
    intro j hj
    have a := h2 j hj
    have b := h1 j (by omega)
    rw [List.getElem_take] at a
    exact a.symm.trans b
  rcases Nat.lt_trichotomy (cnt (S.take n) x) (min n (cnt S x)) with h | h | h
  · have := hj (cnt (S.take n) x) (by omega)
    omega
  · exact h
  · have := hj (cnt S x) (by omega)
    omega
/-- The first n of what one was put in. -/
theorem ins_take {S : List S26} (hS : Srt S) (x : S26) (n : Nat) : (ins S x).take n = if cnt (S.take n) x = n then S.take n else ((S.take n).take (cnt (S.take n) x) ++ [x] ++ (S.take n).drop (cnt (S.take n) x)).take (min n ((S.take n).length + 1)) := by
  have hc := cnt_take hS x n
  have l1 := cnt_le S x
  have hT : (S.take n).length = min n S.length := List.length_take
  unfold ins
  by_cases h : n ≤ cnt S x
  · rw [if_pos (by omega), List.append_assoc, List.take_append_of_le_length (by rw [List.length_take]; omega), List.take_take, show min n (cnt S x) = n by omega]
  · rw [if_neg (by omega), hc, show min n (cnt S x) = cnt S x by omega, hT]
    generalize cnt S x = c at h l1
    rw [List.take_take, show min c n = c by omega, List.drop_take]
    have hP : (S.take c ++ [x]).length = c + 1 := by rw [List.length_append, List.length_take]; simp; omega
    rw [List.take_append (l₁ := S.take c ++ [x]), List.take_append (l₁ := S.take c ++ [x]), hP, List.take_of_length_le (l := S.take c ++ [x]) (by omega), List.take_of_length_le (l := S.take c ++ [x]) (by omega)]
    congr 1
    rw [List.take_take]
    by_cases hn : n ≤ S.length
    · congr 1; omega
    · rw [List.take_of_length_le (by rw [List.length_drop]; omega), List.take_of_length_le (by rw [List.length_drop]; omega)]

/-! ### what the functions do with lists in order -/
theorem wsucc (i : Nat) (h : i < 1000000) : wrap64 ((i : Int) + 1) = ((i + 1 : Nat) : Int) := by unfold wrap64; omega
theorem wpred (i : Nat) (h : i < 1000000) : wrap64 ((i : Int) - 1) = (i : Int) - 1 := by unfold wrap64; omega
theorem rd_nat (l : List S26) (i : Nat) (h : i < l.length) : rd_T26 l (i : Int) = l[i] := by
  unfold rd_T26
  rw [Int.toNat_natCast, List.getD_eq_getElem?_getD, List.getElem?_eq_getElem h]; rfl
theorem gd (l : List S26) (i : Nat) (h : i < l.length) : l.getD i z26 = l[i] := by
  rw [List.getD_eq_getElem?_getD, List.getElem?_eq_getElem h]; rfl
def AllMay (s : List S26) : Prop := ∀ y ∈ s, topk_Right.may y = true
theorem has_no {s : List S26} {x : S26} (h : ∀ y ∈ s, y.f1 ≠ x.f1) : (s.any fun y => y.f1 == x.f1) = false := by
  rw [List.any_eq_false]; intro y hy; simpa using h y hy
theorem dis_at {s : List S26} (hd : Dis s) (i : Nat) (h : i < s.length) : ∀ y ∈ s.take i, y.f1 ≠ s[i].f1 := by
  intro y hy
  obtain ⟨j, hj, rfl⟩ := List.mem_iff_getElem.mp hy
  rw [List.getElem_take]
  rw [List.length_take] at hj
  exact List.pairwise_iff_getElem.mp hd j i (by omega) h (by omega)
theorem right_ok (t : List S26) (n : Nat) (hn : 1 ≤ n ∧ n ≤ 64) (hl : t.length ≤ n) (hs : Srt t) (hd : Dis t) (hm : AllMay t) : topk_Right.f t (n : Int) = some true := by
  unfold topk_Right.f
  rw [if_pos (by omega), decide_eq_true (by omega), Bool.true_and]
  refine congrArg some (List.all_eq_true.mpr (fun i hi => ?_))
  have hi' := List.mem_range.mp hi
  unfold topk_Right.ok
  rw [gd t i hi', hm _ (List.getElem_mem hi')]
  unfold topk_Right.met
  rw [has_no (dis_at hd i hi'), Bool.not_false, Bool.true_and, Bool.true_and]
  cases i with
  | zero => rfl
  | succ i =>
    have hlt : i < t.length := by omega
    rw [Nat.add_sub_cancel, gd t i hlt, decide_eq_true (show topk_Right.ord t[i] t[i + 1] < 0 from List.pairwise_iff_getElem.mp hs i (i + 1) hlt hi' (by omega)), Bool.or_true]
theorem bs_cnt (t : List S26) (hs : Srt t) (x : S26) : ∀ d i j, i ≤ cnt t x → cnt t x ≤ j → j ≤ t.length → j - i < d → api_Near_137.bs t x d i j = cnt t x := by
  intro d
  induction d with
  | zero => intro i j _ _ _ h; omega
  | succ d ih =>
    intro i j h1 h2 h3 h4
    rw [api_Near_137.bs]
    by_cases hlt : i < j
    · rw [if_pos hlt]
      have hm : (i + j) / 2 < t.length := by omega
      have ha := cnt_at x t hs _ hm
      rw [gd t _ hm]
      by_cases hl : topk_Right.ord (t[(i + j) / 2]) x < 0
      · rw [if_pos hl]
        have := ha.mp hl
        exact ih _ _ (by omega) h2 h3 (by omega)
      · rw [if_neg hl]
        have := (not_congr ha).mp hl
        exact ih _ _ h1 (by omega) (by omega) (by omega)
    · rw [if_neg hlt]; omega
theorem put_ev {S : List S26} (hS : Srt S) (hd : Dis S) (hm : AllMay S) (hl : S.length ≤ 1000) (x : S26) (hx : topk_Right.may x = true) (hid : ∀ y ∈ S, y.f1 ≠ x.f1) (n : Nat) (hn : 1 ≤ n ∧ n ≤ 64) : ∃ b, topk_Put.f (S.take n) (n : Int) x.f0 x.f1 x.f2 = some ((ins S x).take n, b) := by
  have hT : (S.take n).length = min n S.length := List.length_take
  have hst : Srt (S.take n) := hS.sublist (List.take_sublist _ _)
  have hR := right_ok (S.take n) n hn (by omega) hst (hd.sublist (List.take_sublist _ _)) (fun y hy => hm y (List.mem_of_mem_take hy))
  have hH : topk_Has.f (S.take n) x.f1 = some false := by
    unfold topk_Has.f
    rw [if_pos (by omega), has_no (fun y hy => hid y (List.mem_of_mem_take hy))]
  have hc := cnt_le (S.take n) x
  have hat : topk_Put.at (S.take n) x.f0 x.f1 x.f2 = cnt (S.take n) x := bs_cnt (S.take n) hst x ((S.take n).length + 1) 0 (S.take n).length (Nat.zero_le _) hc (Nat.le_refl _) (by omega)
  unfold topk_Put.f
  rw [hR, Option.bind_some, if_pos rfl, if_pos (show topk_Right.may ⟨x.f0, x.f1, x.f2⟩ = true from hx), hH, Option.bind_some, if_neg (by decide), hat, ins_take hS x n]
  by_cases he : cnt (S.take n) x = n
  · rw [if_pos (by omega), if_pos he]; exact ⟨_, rfl⟩
  · rw [if_neg (by omega), if_neg he, if_pos ⟨by omega, hc, by omega⟩, Int.toNat_natCast]; exact ⟨_, rfl⟩
theorem fresh_ev (a out : List S26) (ha : a.length ≤ 1000000000) (ho : out.length ≤ 1000) : ∀ (d i : Nat) (c : Nat), i + d = out.length → c ≤ i → ∃ c', Ev (fun k => topk_Merge.l1 k a out (c : Int) out (out.length : Int) (i : Int)) (out, c') := by
  intro d
  induction d with
  | zero =>
    intro i c hi _
    exact ⟨_, Ev.step (f := fun _ => some (out, (c : Int))) (fun k => by rw [topk_Merge.l1, if_neg (by omega)]) (Ev.now _)⟩
  | succ d ih =>
    intro i c hi hc
    have hlt : i < out.length := by omega
    have hH : topk_Has.f a out[i].f1 = some (a.any fun x => x.f1 == out[i].f1) := by unfold topk_Has.f; rw [if_pos ha]
    cases hb : (a.any fun x => x.f1 == out[i].f1) with
    | true =>
      obtain ⟨c', h⟩ := ih (i + 1) c (by omega) (by omega)
      refine ⟨c', Ev.step (fun k => ?_) h⟩
      rw [topk_Merge.l1, if_pos (by omega), if_pos (by omega), if_pos (by omega), rd_nat out i hlt, hH, hb, Option.bind_some, if_pos rfl, wsucc i (by omega)]
    | false =>
      obtain ⟨c', h⟩ := ih (i + 1) (c + 1) (by omega) (by omega)
      refine ⟨c', Ev.step (fun k => ?_) h⟩
      rw [topk_Merge.l1, if_pos (by omega), if_pos (by omega), if_pos (by omega), rd_nat out i hlt, hH, hb, Option.bind_some, if_neg (by decide), wsucc i (by omega), wsucc c (by omega)]
theorem allmay_ins {S : List S26} (hm : AllMay S) {x : S26} (hx : topk_Right.may x = true) : AllMay (ins S x) := fun y hy => by
  rcases List.mem_cons.mp ((ins_perm S x).mem_iff.mp hy) with rfl | h
  · exact hx
  · exact hm y h
theorem merge_loop (a : List S26) (ha : a.length ≤ 1000000000) (n : Nat) (hn : 1 ≤ n ∧ n ≤ 64) (b : List S26) (hb : b.length ≤ 100) : ∀ (d i : Nat) (S : List S26), i + d = b.length → Srt S → Dis (S ++ b.drop i) → AllMay S → AllMay b → S.length ≤ 100 + i →
    ∃ c, Ev (fun k => topk_Merge.l0 k a (n : Int) (S.take n) b (b.length : Int) (i : Int)) ((srt S (b.drop i)).take n, c) := by
  intro d
  induction d with
  | zero =>
    intro i S hi hS hd hm hmb hl
    obtain ⟨c, h⟩ := fresh_ev a (S.take n) ha (by rw [List.length_take]; omega) (S.take n).length 0 0 (by omega) (Nat.le_refl _)
    rw [List.drop_eq_nil_of_le (by omega)]
    exact ⟨c, Ev.step (fun k => by rw [topk_Merge.l0, if_neg (by omega)]; rfl) h⟩
  | succ d ih =>
    intro i S hi hS hd hm hmb hl
    have hlt : i < b.length := by omega
    rw [List.drop_eq_getElem_cons hlt] at hd ⊢
    have hid : ∀ y ∈ S, y.f1 ≠ b[i].f1 := fun y hy => (List.pairwise_append.mp hd).2.2 y hy _ List.mem_cons_self
    have hx := hmb b[i] (List.getElem_mem hlt)
    obtain ⟨q, hp⟩ := put_ev hS (List.pairwise_append.mp hd).1 hm (by omega) b[i] hx hid n hn
    obtain ⟨c, h⟩ := ih (i + 1) (ins S b[i]) (by omega) (ins_srt hS hid) (dis_perm (List.perm_middle.trans ((ins_perm S b[i]).symm.append_right _)) hd) (allmay_ins hm hx) hmb (by rw [(ins_perm S b[i]).length_eq, List.length_cons]; omega)
    refine ⟨c, Ev.step (fun k => ?_) h⟩
    rw [topk_Merge.l0, if_pos (by omega), if_pos (by omega), if_pos (by omega), rd_nat b i hlt, hp, Option.bind_some, wsucc i (by omega)]
theorem merge_ev (S b : List S26) (n : Nat) (hn : 1 ≤ n ∧ n ≤ 64) (hb : b.length ≤ 100) (hS : Srt S) (hd : Dis (S ++ b)) (hm : AllMay S) (hmb : AllMay b) (hl : S.length ≤ 100) : ∃ c, Ev (fun k => topk_Merge.f k (S.take n) b (n : Int)) ((srt S b).take n, c) := by
  have hT : (S.take n).length = min n S.length := List.length_take
  have hR := right_ok (S.take n) n hn (by omega) (hS.sublist (List.take_sublist _ _)) ((List.pairwise_append.mp hd).1.sublist (List.take_sublist _ _)) (fun y hy => hm y (List.mem_of_mem_take hy))
  obtain ⟨c, h⟩ := merge_loop (S.take n) (by omega) n hn b hb b.length 0 S (by omega) hS hd hm hmb (by omega)
  refine ⟨c, Ev.congr (fun k => ?_) h⟩
  unfold topk_Merge.f
  rw [hR, Option.bind_some, if_pos rfl]; rfl
theorem best_ev (b : List S26) (n : Nat) (hn : 1 ≤ n ∧ n ≤ 64) (hb : b.length ≤ 100) (hd : Dis b) (hmb : AllMay b) : Ev (fun k => topk_Best.f k b (n : Int)) ((srt [] b).take n) := by
  obtain ⟨c, h⟩ := merge_ev [] b n hn hb List.Pairwise.nil hd (fun y hy => by cases hy) hmb (Nat.zero_le _)
  rw [List.take_nil] at h
  exact Ev.bind h (Ev.now _)
/-! ### the document's functions -/
theorem refhas (l : List S26) (hl : l.length ≤ 1000) (id : Int) : ∀ d i : Nat, i + d = l.length → Ev (fun k => chainmanref12_Has.l0 k l id (i : Int)) ((l.drop i).any fun x => x.f1 == id) := by
  intro d
  induction d with
  | zero =>
    intro i hi
    rw [List.drop_eq_nil_of_le (by omega)]
    exact Ev.step (f := fun _ => some false) (fun k => by rw [chainmanref12_Has.l0, if_neg (by omega)]) (Ev.now _)
  | succ d ih =>
    intro i hi
    have hlt : i < l.length := by omega
    rw [List.drop_eq_getElem_cons hlt, List.any_cons]
    by_cases h : l[i].f1 = id
    · rw [show (l[i].f1 == id) = true by simpa using h, Bool.true_or]
      exact Ev.step (f := fun _ => some true) (fun k => by rw [chainmanref12_Has.l0, if_pos (by omega), if_pos (by omega), rd_nat l i hlt, if_pos h]) (Ev.now _)
    · rw [show (l[i].f1 == id) = false by simpa using h, Bool.false_or]
      exact Ev.step (fun k => by rw [chainmanref12_Has.l0, if_pos (by omega), if_pos (by omega), rd_nat l i hlt, if_neg h, wsucc i (by omega)]) (ih (i + 1) (by omega))
theorem refhas_ev (l : List S26) (hl : l.length ≤ 1000) (id : Int) : Ev (fun k => chainmanref12_Has.f k l id) (l.any fun x => x.f1 == id) := refhas l hl id l.length 0 (by omega)
theorem refone (a : S26) : chainmanref12_One.f a.f0 a.f1 a.f2 = some (topk_Right.may a) := topk_Right.may_f a
theorem refless (a b : S26) : chainmanref12_Less.f a.f0 a.f1 a.f2 b.f0 b.f1 b.f2 = some (decide (less a b)) := by
  have h := less_iff a b
  unfold chainmanref12_Less.f
  by_cases h1 : a.f0 < b.f0
  · rw [if_pos h1, decide_eq_true (h.mpr (.inl h1))]
  · rw [if_neg h1]
    by_cases h2 : a.f0 = b.f0
    · rw [if_pos h2]; exact congrArg some (decide_eq_decide.mpr (by rw [h]; omega))
    · rw [if_neg h2, decide_eq_false (fun hl => by have := h.mp hl; omega)]
theorem refright (t : List S26) (n : Nat) (hn : 1 ≤ n ∧ n ≤ 64) (hl : t.length ≤ n) (hs : Srt t) (hd : Dis t) (hm : AllMay t) : Ev (fun k => chainmanref12_Right.f k t (n : Int)) true := by
  have loop : ∀ d i : Nat, i + d = t.length → Ev (fun k => chainmanref12_Right.l0 k t (i : Int)) true := by
    intro d
    induction d with
    | zero => intro i hi; exact Ev.step (f := fun _ => some true) (fun k => by rw [chainmanref12_Right.l0, if_neg (by omega)]) (Ev.now _)
    | succ d ih =>
      intro i hi
      have hlt : i < t.length := by omega
      have hH := refhas_ev (t.take i) (by rw [List.length_take]; omega) t[i].f1
      rw [has_no (dis_at hd i hlt)] at hH
      have hmi := hm _ (List.getElem_mem hlt)
      cases i with
      | zero =>
        refine Ev.step (f := fun k => (chainmanref12_Has.f k (t.take 0) t[0].f1).bind fun q => if q = true then some false else chainmanref12_Right.l0 k t ((1 : Nat) : Int)) (fun k => ?_) (Ev.bind hH (ih 1 (by omega)))
        rw [chainmanref12_Right.l0, if_pos (by omega), if_pos (by omega), rd_nat t 0 hlt, refone, hmi, Option.bind_some, if_pos rfl, if_neg (by decide), if_pos (by omega), show wrap64 (((0 : Nat) : Int) + 1) = ((1 : Nat) : Int) from wsucc 0 (by omega), Int.toNat_natCast]
      | succ i =>
        have hlt' : i < t.length := by omega
        have hle : less t[i] t[i + 1] := List.pairwise_iff_getElem.mp hs i (i + 1) hlt' hlt (by omega)
        have hw : wrap64 (((i + 1 : Nat) : Int) - 1) = (i : Int) := by unfold wrap64; omega
        have HW := Aside0.mk hw
        clear hw
        have e1 : ((i + 1 : Nat) : Int) < (t.length : Int) := by omega
        have e2 : 0 ≤ ((i + 1 : Nat) : Int) := by omega
        have e3 : ((i + 1 : Nat) : Int) > 0 := by omega
        have e4 : 0 ≤ (i : Int) := by omega
        have e5 : (i : Int) < (t.length : Int) := by omega
        have e6 : ((i + 1 : Nat) : Int) ≤ (t.length : Int) := by omega
        have e7 : i + 1 < 1000000 := by omega
        refine Ev.step (f := fun k => (chainmanref12_Has.f k (t.take (i + 1)) t[i + 1].f1).bind fun q => if q = true then some false else chainmanref12_Right.l0 k t ((i + 1 + 1 : Nat) : Int)) (fun k => ?_) (Ev.bind hH (ih (i + 1 + 1) (by omega)))
        rw [chainmanref12_Right.l0, if_pos e1, if_pos e2, rd_nat t (i + 1) hlt, refone, hmi, Option.bind_some, if_pos rfl, if_pos e3, HW.out, if_pos e4, if_pos e5, rd_nat t i hlt', refless, decide_eq_true hle, Option.bind_some, if_pos rfl, if_pos e6, Int.toNat_natCast, wsucc (i + 1) e7]
  have hj : Ev (fun k => chainmanref12_Right.j0 k t false) true := Ev.step (fun k => by rw [chainmanref12_Right.j0, if_neg (by decide)]; rfl) (loop t.length 0 (by omega))
  refine Ev.congr (fun k => ?_) hj
  unfold chainmanref12_Right.f
  rw [if_neg (by omega), if_neg (by omega), decide_eq_false (by omega)]
theorem refsame (l : List S26) (hl : l.length ≤ 1000) : Ev (fun k => chainmanref12_Same.f k l l) true := by
  have loop : ∀ d i : Nat, i + d = l.length → Ev (fun k => chainmanref12_Same.l0 k l l (i : Int)) true := by
    intro d
    induction d with
    | zero => intro i hi; exact Ev.step (f := fun _ => some true) (fun k => by rw [chainmanref12_Same.l0, if_neg (by omega)]) (Ev.now _)
    | succ d ih =>
      intro i hi
      exact Ev.step (fun k => by rw [chainmanref12_Same.l0, if_pos (by omega), if_pos (by omega), if_pos (by omega), if_neg (by simp), wsucc i (by omega)]) (ih (i + 1) (by omega))
  refine Ev.congr (fun k => ?_) (loop l.length 0 (by omega))
  unfold chainmanref12_Same.f
  rw [if_pos rfl]; rfl

theorem awake_ev : Ev (fun k => chainmanlaw12_awake.f k) true := Ev.of (chainmanlaw12_awake.mono) (k := 12) (by decide +kernel)
theorem rev_loop (l : List S26) (hl : l.length ≤ 20) (a2 : Int) (n : Int) (b : List S26) (r : Bool) (hend : Ev (fun k => chainmanlaw12_TopkBest.l3 k l a2 n b l.reverse (-1)) r) : ∀ d : Nat, d ≤ l.length → Ev (fun k => chainmanlaw12_TopkBest.l3 k l a2 n b (l.drop d).reverse ((d : Int) - 1)) r := by
  intro d
  induction d with
  | zero => intro _; exact hend
  | succ d ih =>
    intro hd
    have hlt : d < l.length := by omega
    have e : ((d + 1 : Nat) : Int) - 1 = (d : Int) := by omega
    rw [e]
    refine Ev.step (fun k => ?_) (ih (by omega))
    rw [chainmanlaw12_TopkBest.l3, if_pos (by omega), if_pos (by omega), if_pos (by omega), if_pos (by rw [List.length_reverse, List.length_drop]; omega), rd_nat l d hlt, wpred d (by omega), List.drop_eq_getElem_cons hlt, List.reverse_cons]
theorem cnt_loop (l : List S26) (hl : l.length ≤ 20) (a2 : Int) (n : Int) (b : List S26) (i : Nat) (hi : i < l.length) (r : Bool) (hend : Ev (fun k => chainmanlaw12_TopkBest.l2 k l a2 n b (i : Int) ((cnt l l[i] : Nat) : Int) (l.length : Int)) r) : ∀ d j : Nat, j + d = l.length → Ev (fun k => chainmanlaw12_TopkBest.l2 k l a2 n b (i : Int) ((cnt (l.take j) l[i] : Nat) : Int) (j : Int)) r := by
  intro d
  induction d with
  | zero =>
    intro j hj
    have : j = l.length := by omega
    subst this
    rw [List.take_length]; exact hend
  | succ d ih =>
    intro j hj
    have hlt : j < l.length := by omega
    have hc := cnt_le (l.take j) l[i]
    rw [List.length_take] at hc
    have hs : cnt (l.take (j + 1)) l[i] = if less l[j] l[i] then cnt (l.take j) l[i] + 1 else cnt (l.take j) l[i] := by
      unfold cnt
      rw [List.take_succ_eq_append_getElem hlt, List.countP_append, List.countP_singleton]
      by_cases h : less l[j] l[i] <;> simp [h]
    have h1 := ih (j + 1) (by omega)
    rw [hs] at h1
    by_cases h : less l[j] l[i]
    · rw [if_pos h] at h1
      refine Ev.step (fun k => ?_) h1
      rw [chainmanlaw12_TopkBest.l2, if_pos (by omega), if_pos (by omega), if_pos (by omega), if_pos (by omega), rd_nat l j hlt, rd_nat l i hi, refless, decide_eq_true h, Option.bind_some, if_pos rfl, wsucc _ (by omega), wsucc j (by omega)]
    · rw [if_neg h] at h1
      refine Ev.step (fun k => ?_) h1
      rw [chainmanlaw12_TopkBest.l2, if_pos (by omega), if_pos (by omega), if_pos (by omega), if_pos (by omega), rd_nat l j hlt, rd_nat l i hi, refless, decide_eq_false h, Option.bind_some, if_neg (by decide), wsucc j (by omega)]
/-- Who is among the first, and where. -/
theorem first_at {l : List S26} (hd : Dis l) (n : Nat) (i : Nat) (hi : i < l.length) : let b := (srt [] l).take n
    (b.any fun x => x.f1 == l[i].f1) = decide (cnt l l[i] < n) ∧ (cnt l l[i] < n → ∃ h : cnt l l[i] < b.length, b[cnt l l[i]] = l[i]) := by
  intro b
  have hp : (srt [] l).Perm l := srt_perm l []
  have hs : Srt (srt [] l) := srt_srt l [] List.Pairwise.nil hd
  have hds : Dis (srt [] l) := dis_perm hp.symm hd
  obtain ⟨j, hj, e⟩ := List.mem_iff_getElem.mp (hp.mem_iff.mpr (List.getElem_mem hi))
  have hc : cnt l l[i] = j := by
    have h1 := cnt_own hs j hj
    rw [e] at h1
    rw [← h1]; exact (hp.countP_eq _).symm
  rw [hc]
  have hb : b = (srt [] l).take n := rfl
  have hbl : b.length = min n (srt [] l).length := by rw [hb, List.length_take]
  refine ⟨?_, fun hlt => ⟨by omega, ?_⟩⟩
  · by_cases hlt : j < n
    · rw [decide_eq_true hlt, List.any_eq_true]
      refine ⟨l[i], ?_, by simp⟩
      rw [hb, ← e]
      exact List.mem_iff_getElem.mpr ⟨j, by rw [List.length_take]; omega, by rw [List.getElem_take]⟩
    · rw [decide_eq_false hlt, List.any_eq_false]
      intro y hy
      obtain ⟨m, hm, rfl⟩ := List.mem_iff_getElem.mp hy
      have hm2 : m < n := by omega
      have hg : b[m] = (srt [] l)[m]'(by omega) := by show ((srt [] l).take n)[m]'_ = _; rw [List.getElem_take]
      rw [hg, ← e]
      have := List.pairwise_iff_getElem.mp hds m j (by omega) hj (by omega)
      simpa using this
  · show ((srt [] l).take n)[j]'_ = _
    rw [List.getElem_take]; exact e
theorem TopkBest : chainmanlaw12_TopkBest.Pure := by
  intro l a1 a2 wl w1 w2
  have ha : 0 ≤ a1 ∧ a1 ≤ 255 := by simpa [Lit.wf, IntKind.min, IntKind.max, IntKind.signed, IntKind.bits] using w1
  have hb : 0 ≤ a2 ∧ a2 ≤ 255 := by simpa [Lit.wf, IntKind.min, IntKind.max, IntKind.signed, IntKind.bits] using w2
  refine Ev.rounds ?_
  by_cases hbig : (l.length : Int) > 20
  · exact Ev.congr (fun k => by unfold chainmanlaw12_TopkBest.f; rw [if_pos hbig]) (Ev.bind awake_ev (Ev.now _))
  have hl : l.length ≤ 20 := by omega
  obtain ⟨q1, rfl⟩ := Int.eq_ofNat_of_zero_le ha.1
  obtain ⟨q2, rfl⟩ := Int.eq_ofNat_of_zero_le hb.1
  obtain ⟨n, hn, hnn⟩ : ∃ n : Nat, wrap64 (1 + (Int.tmod (wrap64 (q1 : Int)) 64)) = (n : Int) ∧ 1 ≤ n ∧ n ≤ 64 := by
    have e1 : wrap64 (q1 : Int) = (q1 : Int) := by unfold wrap64; omega
    refine ⟨1 + q1 % 64, ?_, by omega, by omega⟩
    rw [e1, Int.tmod_eq_emod_of_nonneg (by omega)]
    clear e1
    unfold wrap64; omega
  refine Ev.congr (fun k => by unfold chainmanlaw12_TopkBest.f; rw [if_neg hbig, hn]) ?_
  clear hn
  have aw : Ev (fun k => (chainmanlaw12_awake.f k).bind fun t => some t) true := Ev.bind awake_ev (Ev.now _)
  -- all are fit, and of unlike ids
  have main : AllMay l → Dis l → Ev (fun k => chainmanlaw12_TopkBest.l0 k l (q2 : Int) (n : Int) (l.length : Int)) true := by
    intro hm hd
    have hp : (srt [] l).Perm l := srt_perm l []
    have hs : Srt (srt [] l) := srt_srt l [] List.Pairwise.nil hd
    have hds : Dis (srt [] l) := dis_perm hp.symm hd
    have hms : AllMay (srt [] l) := fun y hy => hm y (hp.mem_iff.mp hy)
    have hls : (srt [] l).length = l.length := hp.length_eq
    have hbl : ((srt [] l).take n).length = min n l.length := by rw [List.length_take, hls]
    have hbest := best_ev l n hnn (by omega) hd hm
    have hfirst := fun i hi => first_at hd n i hi
    have hright := refright ((srt [] l).take n) n hnn (by omega) (hs.sublist (List.take_sublist _ _)) (hds.sublist (List.take_sublist _ _)) (fun y hy => hms y (List.mem_of_mem_take hy))
    have hsame := refsame ((srt [] l).take n) (by omega)
    -- turned round
    have hrevp : l.reverse.Perm l := List.reverse_perm l
    have hdr : Dis l.reverse := dis_perm hrevp.symm hd
    have hbr := best_ev l.reverse n hnn (by rw [List.length_reverse]; omega) hdr (fun y hy => hm y (List.mem_reverse.mp hy))
    rw [srt_one (srt_srt l.reverse [] List.Pairwise.nil hdr) hs ((srt_perm l.reverse []).trans (hrevp.trans hp.symm))] at hbr
    -- in two parts
    obtain ⟨m, hmm, hml⟩ : ∃ m : Nat, Int.tmod (wrap64 (q2 : Int)) (wrap64 ((l.length : Int) + 1)) = (m : Int) ∧ m ≤ l.length := by
      have e1 : wrap64 (q2 : Int) = (q2 : Int) := by unfold wrap64; omega
      rw [e1, wsucc l.length (by omega)]
      refine ⟨q2 % (l.length + 1), ?_, ?_⟩
      · rw [Int.tmod_eq_emod_of_nonneg (by omega), ← Int.natCast_emod]
      · have := Nat.mod_lt q2 (show 0 < l.length + 1 by omega); omega
    have hsplit : l.take m ++ l.drop m = l := List.take_append_drop m l
    have hd1 : Dis (l.take m) := hd.sublist (List.take_sublist _ _)
    have hb1 := best_ev (l.take m) n hnn (by rw [List.length_take]; omega) hd1 (fun y hy => hm y (List.mem_of_mem_take hy))
    have hp1 : (srt [] (l.take m)).Perm (l.take m) := srt_perm _ []
    obtain ⟨c, hmg⟩ := merge_ev (srt [] (l.take m)) (l.drop m) n hnn (by rw [List.length_drop]; omega) (srt_srt _ [] List.Pairwise.nil hd1) (dis_perm ((hp1.symm.append_right _)) (by rw [hsplit]; exact hd)) (fun y hy => hm y (List.mem_of_mem_take (hp1.mem_iff.mp hy))) (fun y hy => hm y (List.mem_of_mem_drop hy)) (by rw [hp1.length_eq, List.length_take]; omega)
    have e2 : srt (srt [] (l.take m)) (l.drop m) = srt [] l := by
      show (l.drop m).foldl ins ((l.take m).foldl ins []) = l.foldl ins []
      rw [← List.foldl_append, hsplit]
    rw [e2] at hmg
    have hne : ¬ wrap64 ((l.length : Int) + 1) = 0 := by rw [wsucc l.length (by omega)]; omega
    have hm0 : 0 ≤ (m : Int) := by omega
    have hm1 : (m : Int) ≤ (l.length : Int) := by omega
    generalize hB : (srt [] l).take n = B at *
    have h3 : Ev (fun k => chainmanlaw12_TopkBest.l3 k l (q2 : Int) (n : Int) B l.reverse (-1)) true := by
      refine Ev.step (fun k => by rw [chainmanlaw12_TopkBest.l3, if_neg (by decide), if_neg hne, hmm, if_pos hm0, if_pos hm1, Int.toNat_natCast]) ?_
      refine Ev.bind hb1 ?_
      refine Ev.bind hmg ?_
      refine Ev.bind hbr ?_
      refine Ev.bind hsame ?_
      refine Ev.congr (fun k => if_pos rfl) ?_
      refine Ev.bind hsame ?_
      refine Ev.congr (fun k => if_pos rfl) ?_
      exact aw
    have h3' := rev_loop l hl (q2 : Int) (n : Int) B true h3 l.length (Nat.le_refl _)
    rw [List.drop_length] at h3'
    have h1 : ∀ d i : Nat, i + d = l.length → Ev (fun k => chainmanlaw12_TopkBest.l1 k l (q2 : Int) (n : Int) B (i : Int)) true := by
      intro d
      induction d with
      | zero =>
        intro i hi
        refine Ev.step (fun k => ?_) h3'
        rw [chainmanlaw12_TopkBest.l1, if_neg (by omega), wpred l.length (by omega)]; rfl
      | succ d ih =>
        intro i hi
        have hlt : i < l.length := by omega
        obtain ⟨f1, f2⟩ := hfirst i hlt
        have hH : topk_Has.f B l[i].f1 = some (decide (cnt l l[i] < n)) := by
          unfold topk_Has.f
          rw [if_pos (by omega)]
          exact congrArg some f1
        have hnext := ih (i + 1) (by omega)
        have hcl := cnt_le l l[i]
        have hend : Ev (fun k => chainmanlaw12_TopkBest.l2 k l (q2 : Int) (n : Int) B (i : Int) ((cnt l l[i] : Nat) : Int) (l.length : Int)) true := by
          refine Ev.step (fun k => ?_) hnext
          rw [chainmanlaw12_TopkBest.l2, if_neg (by omega), if_pos (by omega), if_pos (by omega), rd_nat l i hlt, hH, Option.bind_some]
          have hdd : decide (((cnt l l[i] : Nat) : Int) < (n : Int)) = decide (cnt l l[i] < n) := decide_eq_decide.mpr (by omega)
          by_cases hc : cnt l l[i] < n
          · obtain ⟨hcb, hcc⟩ := f2 hc
            rw [if_neg (by rw [hdd]; simp), if_pos (by omega), if_neg (by omega), if_pos (by omega), if_pos (by omega), rd_nat B _ hcb, hcc, if_neg (by simp), wsucc i (by omega)]
          · rw [if_neg (by rw [hdd]; simp), if_neg (by omega), wsucc i (by omega)]
        have h2 := cnt_loop l hl (q2 : Int) (n : Int) B i hlt true hend l.length 0 (by omega)
        refine Ev.step (fun k => ?_) h2
        rw [chainmanlaw12_TopkBest.l1, if_pos (by omega)]; rfl
    have hj1 : Ev (fun k => chainmanlaw12_TopkBest.j1 k l (q2 : Int) (n : Int) B (!true)) true := Ev.step (fun k => by rw [chainmanlaw12_TopkBest.j1, if_neg (by decide)]; rfl) (h1 l.length 0 (by omega))
    have hmn : (B.length : Int) = mn (n : Int) (l.length : Int) := by rw [hbl]; unfold mn; split <;> omega
    refine Ev.step (fun k => by rw [chainmanlaw12_TopkBest.l0, if_neg (by omega)]) ?_
    refine Ev.bind hbest ?_
    refine Ev.congr (fun k => if_pos hmn) ?_
    exact Ev.bind hright hj1
  have guard : ∀ d i : Nat, i + d = l.length → AllMay (l.take i) → Dis (l.take i) → Ev (fun k => chainmanlaw12_TopkBest.l0 k l (q2 : Int) (n : Int) (i : Int)) true := by
    intro d
    induction d with
    | zero =>
      intro i hi hm hd
      have : i = l.length := by omega
      subst this
      rw [List.take_length] at hm hd
      exact main hm hd
    | succ d ih =>
      intro i hi hm hd
      have hlt : i < l.length := by omega
      cases hone : topk_Right.may l[i] with
      | false =>
        refine Ev.step (fun k => ?_) aw
        rw [chainmanlaw12_TopkBest.l0, if_pos (by omega), if_pos (by omega), rd_nat l i hlt, refone, hone, Option.bind_some, if_neg (by decide)]
      | true =>
        have hH := refhas_ev (l.take i) (by rw [List.length_take]; omega) l[i].f1
        cases hany : ((l.take i).any fun x => x.f1 == l[i].f1) with
        | true =>
          rw [hany] at hH
          refine Ev.step (f := fun k => (chainmanref12_Has.f k (l.take i) l[i].f1).bind fun t => if t = true then ((chainmanlaw12_awake.f k).bind fun t => some t) else chainmanlaw12_TopkBest.l0 k l (q2 : Int) (n : Int) ((i + 1 : Nat) : Int)) (fun k => ?_) (Ev.bind hH aw)
          rw [chainmanlaw12_TopkBest.l0, if_pos (by omega), if_pos (by omega), rd_nat l i hlt, refone, hone, Option.bind_some, if_pos rfl, if_pos (by omega), Int.toNat_natCast, wsucc i (by omega)]
        | false =>
          rw [hany] at hH
          have hrec := ih (i + 1) (by omega) (by
            intro y hy
            rw [List.take_succ_eq_append_getElem hlt] at hy
            rcases List.mem_append.mp hy with hy | hy
            · exact hm y hy
            · rw [List.mem_singleton] at hy; rw [hy]; exact hone) (by
            rw [List.take_succ_eq_append_getElem hlt]
            unfold Dis
            rw [List.pairwise_append]
            refine ⟨hd, List.pairwise_singleton _ _, fun a ha b hb => ?_⟩
            rw [List.mem_singleton] at hb
            rw [hb]
            have := List.any_eq_false.mp hany a ha
            simpa using this)
          refine Ev.step (f := fun k => (chainmanref12_Has.f k (l.take i) l[i].f1).bind fun t => if t = true then ((chainmanlaw12_awake.f k).bind fun t => some t) else chainmanlaw12_TopkBest.l0 k l (q2 : Int) (n : Int) ((i + 1 : Nat) : Int)) (fun k => ?_) (Ev.bind hH hrec)
          rw [chainmanlaw12_TopkBest.l0, if_pos (by omega), if_pos (by omega), rd_nat l i hlt, refone, hone, Option.bind_some, if_pos rfl, if_pos (by omega), Int.toNat_natCast, wsucc i (by omega)]
  exact guard l.length 0 (by omega) (fun y hy => by cases hy) List.Pairwise.nil

end Go.Proofs.Ytmacpgkcokpgjaa.Pure
