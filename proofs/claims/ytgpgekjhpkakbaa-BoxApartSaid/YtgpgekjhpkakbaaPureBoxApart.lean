/- No vectors of two boxes are nearer than these are apart, and the box of both holds what each holds and is from nothing that they hold apart (the law BoxApart). -/
import Derived.Test.YtgpgekjhpkakbaaPBoxApartx9
namespace Go.Proofs.Ytgpgekjhpkakbaa.Pure
open Go.RowKit Go.Proofs.Ytgpgekjhpkakbaa.PBoxApart Go.Proofs.YtgpgekjhpkakbaaW.PrintWords Go.Proofs.YtgpgekjhpkakbaaW.PrintLast
set_option linter.unusedVariables false
set_option linter.unusedSimpArgs false
/-! ### boxes -/
theorem w64 (n : Int) (h : -9223372036854775808 ≤ n ∧ n ≤ 9223372036854775807) : wrap64 n = n := by unfold wrap64; omega
theorem wsucc (i : Nat) (h : i < 1000000000000000) : wrap64 ((i : Int) + 1) = ((i + 1 : Nat) : Int) := by rw [w64 _ (by omega)]; omega
theorem rd_nat (l : List Int) (i : Nat) : rd l (i : Int) = l.getD i 0 := by unfold rd; rw [Int.toNat_natCast]
theorem getD_mem {l : List Int} {i : Nat} (h : i < l.length) : l.getD i 0 ∈ l := by
  rw [List.getD_eq_getElem?_getD, List.getElem?_eq_getElem h]; exact List.getElem_mem h
theorem rdL {l : List (List Int)} {i : Nat} (h : i < l.length) : rd_L1 l (i : Int) = l[i] := by
  show l.getD (i : Int).toNat [] = _
  rw [Int.toNat_natCast, List.getD_eq_getElem?_getD, List.getElem?_eq_getElem h]; rfl
/-- A vector that may be. -/
def Ok (l : List Int) : Prop := 0 < l.length ∧ l.length ≤ 4096 ∧ ∀ i, i < l.length → -16777215 ≤ l.getD i 0 ∧ l.getD i 0 ≤ 16777215
theorem ok_mem {l : List Int} (h : ∀ c ∈ l, -16777215 ≤ c ∧ c ≤ 16777215) (h0 : 0 < l.length) (h1 : l.length ≤ 4096) : Ok l := ⟨h0, h1, fun i hi => h _ (getD_mem hi)⟩
theorem right_true {l : List Int} (h : Ok l) : dist_Right.f l = some true := by
  unfold dist_Right.f
  congr 1
  rw [decide_eq_true h.1, decide_eq_true h.2.1]
  simp only [Bool.true_and, Bool.not_eq_true', List.any_eq_false]
  intro x hx
  obtain ⟨i, hi, rfl⟩ := List.getElem_of_mem hx
  have := h.2.2 i hi
  rw [List.getD_eq_getElem?_getD, List.getElem?_eq_getElem hi] at this
  unfold dist_Right.isfar
  simp only [Option.getD_some] at this
  rw [decide_eq_false (by omega), decide_eq_false (by omega)]; simp
theorem like_true {l : List (List Int)} (h : ∀ x ∈ l, Ok x ∧ x.length = (l.headD []).length) : box_like.f l = some true := by
  unfold box_like.f
  congr 1
  rw [Bool.not_eq_true', List.any_eq_false]
  intro x hx
  obtain ⟨h1, h2⟩ := h x hx
  unfold box_like.bad
  rw [right_true h1, h2]
  simp
/-- A box. -/
def IsBox (lo hi : List Int) : Prop := Ok lo ∧ Ok hi ∧ hi.length = lo.length ∧ ∀ i, i < lo.length → lo.getD i 0 ≤ hi.getD i 0
theorem under_true {lo hi : List Int} (h : IsBox lo hi) : ∃ l, box_zip_under.f lo hi () = some l ∧ l.length ≤ 4096 ∧ ∀ i, i < l.length → rdOf false l (i : Int) = true := by
  obtain ⟨h1, h2, h3, h4⟩ := h
  refine ⟨List.zipWith (fun x y => decide (x ≤ y)) lo hi, ?_, ?_, fun i hi' => ?_⟩
  · unfold box_zip_under.f
    rw [if_pos ⟨by omega, by have := h1.2.1; omega⟩]
  · rw [List.length_zipWith]; have := h1.2.1; omega
  · rw [List.length_zipWith] at hi'
    have hl : i < lo.length := by omega
    have hh : i < hi.length := by omega
    have := h4 i hl
    rw [List.getD_eq_getElem?_getD, List.getElem?_eq_getElem hl, List.getD_eq_getElem?_getD, List.getElem?_eq_getElem hh] at this
    show (List.zipWith (fun x y => decide (x ≤ y)) lo hi).getD (i : Int).toNat false = true
    rw [Int.toNat_natCast, List.getD_eq_getElem?_getD, List.getElem?_eq_getElem (by rw [List.length_zipWith]; omega)]
    simpa using this
theorem none_false (l : List Bool) (hl : l.length ≤ 4096) (h : ∀ i, i < l.length → rdOf false l (i : Int) = true) : ∀ (d i : Nat), i + d = l.length → Ev (fun k => slices_Index_bool_bool.l0 k l false (l.length : Int) (i : Int)) (-1) := by
  intro d
  induction d with
  | zero =>
    intro i hi
    refine Ev.step (f := fun _ => some (-1)) (fun k => ?_) (Ev.now _)
    rw [slices_Index_bool_bool.l0, if_neg (by omega)]
  | succ d ih =>
    intro i hi
    refine Ev.step (fun k => ?_) (ih (i + 1) (by omega))
    rw [slices_Index_bool_bool.l0, if_pos (by omega), if_pos (by omega), if_pos (by omega), h i (by omega), if_neg (by decide), wsucc i (by omega)]
theorem right_ev {lo hi : List Int} (h : IsBox lo hi) : Ev (fun k => box_Right.f k lo hi) true := by
  obtain ⟨l, e, hl, hf⟩ := under_true h
  have hlike : box_like.f [lo, hi] = some true := like_true (by
    intro x hx
    simp at hx
    rcases hx with rfl | rfl
    · exact ⟨h.1, rfl⟩
    · exact ⟨h.2.1, h.2.2.1⟩)
  unfold box_Right.f
  simp only [hlike, Option.bind_some, if_true, e]
  have hi := none_false l hl hf l.length 0 (by omega)
  unfold slices_Contains_bool_bool.f slices_Index_bool_bool.f
  exact Ev.bind (Ev.bind (f := fun _ t => some (decide (t ≥ 0))) hi (Ev.now _)) (Ev.now _)
/-! #### how far -/
def hold (x lo hi : Int) : Int := if x < lo then lo else if hi < x then hi else x
theorem hold_ev (x lo hi : Int) (h : lo ≤ hi) : Ev (fun k => num_Hold.f k x lo hi) (hold x lo hi) := by
  refine Ev.of (fun k => num_Hold.mono _ _ _ k) (k := 2) ?_
  have e : num_least.f 2 x [hi] = some (mn x hi) := by simp [num_least.f, num_least.l0, rd, wrap64]
  unfold num_Hold.f hold
  by_cases c : x < lo
  · rw [if_pos c, if_pos c]
  · rw [if_neg c, if_neg c, e, Option.bind_some]; rfl
def off (lo hi x : List Int) (i : Nat) : Int := x.getD i 0 - hold (x.getD i 0) (lo.getD i 0) (hi.getD i 0)
def offs (lo hi x : List Int) (n : Nat) : List Int := (List.range n).map (off lo hi x)
theorem offs_len (lo hi x : List Int) (n : Nat) : (offs lo hi x n).length = n := by simp [offs]
theorem offs_get (lo hi x : List Int) (n i : Nat) (h : i < n) : (offs lo hi x n).getD i 0 = off lo hi x i := by
  rw [List.getD_eq_getElem?_getD, List.getElem?_eq_getElem (by rw [offs_len]; exact h)]; simp [offs]
theorem offs_succ (lo hi x : List Int) (n : Nat) : offs lo hi x (n + 1) = offs lo hi x n ++ [off lo hi x n] := by simp [offs, List.range_succ]
/-- A sum of the first n squares. -/
def ssum (l : List Int) : Nat → Int
  | 0 => 0
  | n + 1 => ssum l n + l.getD n 0 * l.getD n 0
def Small (l : List Int) : Prop := l.length ≤ 4096 ∧ ∀ i, i < l.length → -33554430 ≤ l.getD i 0 ∧ l.getD i 0 ≤ 33554430
theorem sq_small {x : Int} (h : -33554430 ≤ x ∧ x ≤ 33554430) : 0 ≤ x * x ∧ x * x ≤ 1125899772624900 := by
  have h0 : ((x).natAbs : Int) * ((x).natAbs : Int) = x * x := Int.natAbs_mul_self
  have h1 : x.natAbs * x.natAbs ≤ 33554430 * 33554430 := Nat.mul_le_mul (by omega) (by omega)
  generalize x * x = q at *
  rw [← Int.natCast_mul] at h0
  generalize x.natAbs * x.natAbs = p at *
  omega
theorem ssum_bound {l : List Int} (h : Small l) : ∀ n, n ≤ l.length → 0 ≤ ssum l n ∧ ssum l n ≤ (n : Int) * 1125899772624900 := by
  intro n
  induction n with
  | zero => intro _; exact ⟨Int.le_refl _, by simp [ssum]⟩
  | succ n ih =>
    intro hn
    obtain ⟨a, b⟩ := ih (by omega)
    have := sq_small (h.2 n (by omega))
    show 0 ≤ ssum l n + _ ∧ ssum l n + _ ≤ _
    omega
theorem sum_loop {l : List Int} (h : Small l) : ∀ (d i : Nat), i + d = l.length → Ev (fun k => box_sum.l0 k (ssum l i) l (l.length : Int) (i : Int)) (ssum l l.length) := by
  intro d
  have hl := h.1
  induction d with
  | zero =>
    intro i hi
    obtain rfl : i = l.length := by omega
    refine Ev.step (f := fun _ => some (ssum l l.length)) (fun k => ?_) (Ev.now _)
    rw [box_sum.l0, if_neg (by omega)]
  | succ d ih =>
    intro i hi
    refine Ev.step (fun k => ?_) (ih (i + 1) (by omega))
    have sb := ssum_bound h i (by omega)
    have sq := sq_small (h.2 i (by omega))
    rw [box_sum.l0, if_pos (by omega), if_pos (by omega), if_pos (by omega), rd_nat, wsucc i (by omega)]
    show box_sum.l0 k (wrap64 (ssum l i + wrap64 (l.getD i 0 * l.getD i 0))) l _ _ = box_sum.l0 k (ssum l i + l.getD i 0 * l.getD i 0) l _ _
    generalize l.getD i 0 * l.getD i 0 = q at *
    generalize ssum l i = s at *
    rw [w64 q (by omega), w64 (s + q) (by omega)]
theorem sum_ev {l : List Int} (h : Small l) : Ev (fun k => box_sum.f k l) (ssum l l.length) := sum_loop h l.length 0 (by omega)
theorem off_small {lo hi x : List Int} (hb : IsBox lo hi) (hx : Ok x) (hl : x.length = lo.length) (i : Nat) (hi' : i < x.length) : -33554430 ≤ off lo hi x i ∧ off lo hi x i ≤ 33554430 := by
  have h1 := hb.1.2.2 i (by omega)
  have h2 := hb.2.1.2.2 i (by rw [hb.2.2.1]; omega)
  have h3 := hx.2.2 i hi'
  unfold off hold
  split
  · omega
  · split <;> omega
theorem offs_small {lo hi x : List Int} (hb : IsBox lo hi) (hx : Ok x) (hl : x.length = lo.length) : Small (offs lo hi x x.length) := by
  refine ⟨by rw [offs_len]; exact hx.2.1, fun i h => ?_⟩
  rw [offs_len] at h
  rw [offs_get lo hi x _ i h]
  exact off_small hb hx hl i h
theorem set_here {α : Type} (A B : List α) (x v : α) : (A ++ x :: B).set A.length v = A ++ [v] ++ B := by simp
def far (lo hi x : List Int) : Int := ssum (offs lo hi x x.length) x.length
theorem far_loop {lo hi x : List Int} (hb : IsBox lo hi) (hx : Ok x) (hl : x.length = lo.length) : ∀ (d i : Nat), i + d = x.length → Ev (fun k => box_Far.l0 k (offs lo hi x i ++ List.replicate d 0) x (x.length : Int) (i : Int) lo hi) (far lo hi x, true) := by
  intro d
  have hx2 := hx.2.1
  induction d with
  | zero =>
    intro i hi0
    obtain rfl : i = x.length := by omega
    have hs := sum_ev (offs_small hb hx hl)
    rw [offs_len] at hs
    refine Ev.step (f := fun k => (box_sum.f k (offs lo hi x x.length)).bind fun t172 => some (t172, true)) (fun k => ?_) (Ev.bind hs (Ev.now _))
    rw [box_Far.l0, if_neg (by omega), List.replicate_zero, List.append_nil]
  | succ d ih =>
    intro i hi'
    have hh := hold_ev (x.getD i 0) (lo.getD i 0) (hi.getD i 0) (hb.2.2.2 i (by omega))
    have hs := off_small hb hx hl i (by omega)
    have hlen : (offs lo hi x i ++ List.replicate (d + 1) (0 : Int)).length = x.length := by rw [List.length_append, offs_len, List.length_replicate]; omega
    have hset : (offs lo hi x i ++ List.replicate (d + 1) (0 : Int)).set i (off lo hi x i) = offs lo hi x (i + 1) ++ List.replicate d 0 := by
      rw [List.replicate_succ, offs_succ]
      have := set_here (offs lo hi x i) (List.replicate d (0 : Int)) 0 (off lo hi x i)
      rw [offs_len] at this
      exact this
    refine Ev.step (f := fun k => (num_Hold.f k (x.getD i 0) (lo.getD i 0) (hi.getD i 0)).bind fun t170 => box_Far.l0 k ((offs lo hi x i ++ List.replicate (d + 1) 0).set i (wrap64 (x.getD i 0 - t170))) x (x.length : Int) ((i + 1 : Nat) : Int) lo hi) (fun k => ?_) (Ev.bind hh ?_)
    · have h3 := hb.2.2.1
      rw [box_Far.l0, if_pos (by omega), if_pos (by omega), if_pos (by omega), if_pos (by omega), if_pos (by omega), rd_nat, rd_nat, rd_nat, wsucc i (by omega)]
      congr 1
      funext t
      rw [if_pos (by omega), Int.toNat_natCast]
    · have e : wrap64 (x.getD i 0 - hold (x.getD i 0) (lo.getD i 0) (hi.getD i 0)) = off lo hi x i := by
        show wrap64 (off lo hi x i) = _
        exact w64 _ (by omega)
      simp only [e, hset]
      exact ih (i + 1) (by omega)
theorem far_ev {lo hi x : List Int} (hb : IsBox lo hi) (hx : Ok x) (hl : x.length = lo.length) : Ev (fun k => box_Far.f k lo hi x) (far lo hi x, true) := by
  have hx2 := hx.2.1
  have hlike : box_like.f [lo, x] = some true := like_true (by
    intro y hy
    simp at hy
    rcases hy with rfl | rfl
    · exact ⟨hb.1, rfl⟩
    · exact ⟨hx, hl⟩)
  unfold box_Far.f
  refine Ev.bind (right_ev hb) ?_
  simp only [if_true, hlike, Option.bind_some, Bool.not_true]
  refine Ev.step (fun k => ?_) (far_loop hb hx hl x.length 0 (by omega))
  rw [box_Far.j0, if_neg (by decide), if_pos (by omega), if_pos (by omega), Int.toNat_natCast]
  rfl
theorem far_nonneg {lo hi x : List Int} (hb : IsBox lo hi) (hx : Ok x) (hl : x.length = lo.length) : 0 ≤ far lo hi x := by
  have hs := offs_small hb hx hl
  exact (ssum_bound hs x.length (by rw [offs_len]; exact Nat.le_refl _)).1
theorem ssum_zero {l : List Int} : ∀ n, (∀ i, i < n → l.getD i 0 = 0) → ssum l n = 0 := by
  intro n
  induction n with
  | zero => intro _; rfl
  | succ n ih =>
    intro h
    show ssum l n + l.getD n 0 * l.getD n 0 = 0
    rw [ih (fun i hi => h i (by omega)), h n (by omega)]; rfl
/-- A box holds a vector: every number lies between its bounds. -/
def In (lo hi x : List Int) : Prop := x.length = lo.length ∧ ∀ i, i < x.length → lo.getD i 0 ≤ x.getD i 0 ∧ x.getD i 0 ≤ hi.getD i 0
theorem far_in {lo hi x : List Int} (h : In lo hi x) : far lo hi x = 0 := by
  refine ssum_zero _ (fun i hi' => ?_)
  rw [offs_get lo hi x _ i hi']
  have := h.2 i hi'
  unfold off hold
  rw [if_neg (by omega), if_neg (by omega)]; omega
theorem holds_ev {lo hi x : List Int} (hb : IsBox lo hi) (hx : Ok x) (hl : x.length = lo.length) : Ev (fun k => box_Holds.f k lo hi x) (far lo hi x == 0) := by
  unfold box_Holds.f
  refine Ev.bind (far_ev hb hx hl) ?_
  simp only [if_true]
  exact Ev.now _
/-! #### distances -/
def dsum (a b : List Int) : Nat → Int
  | 0 => 0
  | n + 1 => dsum a b n + (a.getD n 0 - b.getD n 0) * (a.getD n 0 - b.getD n 0)
theorem dsum_bound {a b : List Int} (ha : Ok a) (hb : Ok b) (hl : b.length = a.length) : ∀ n, n ≤ a.length → 0 ≤ dsum a b n ∧ dsum a b n ≤ (n : Int) * 1125899772624900 := by
  intro n
  induction n with
  | zero => intro _; exact ⟨Int.le_refl _, by simp [dsum]⟩
  | succ n ih =>
    intro hn
    obtain ⟨p, q⟩ := ih (by omega)
    have h1 := ha.2.2 n (by omega)
    have h2 := hb.2.2 n (by omega)
    have := sq_small (x := a.getD n 0 - b.getD n 0) (by omega)
    show 0 ≤ dsum a b n + _ ∧ dsum a b n + _ ≤ _
    omega
theorem sq_le {x y : Int} (h : x.natAbs ≤ y.natAbs) : x * x ≤ y * y := by
  have h0 : ((x).natAbs : Int) * ((x).natAbs : Int) = x * x := Int.natAbs_mul_self
  have h1 : ((y).natAbs : Int) * ((y).natAbs : Int) = y * y := Int.natAbs_mul_self
  rw [← h0, ← h1, ← Int.natCast_mul, ← Int.natCast_mul]
  exact Int.ofNat_le.mpr (Nat.mul_le_mul h h)
/-- No vector that a box holds is nearer to another one than the box is. -/
theorem far_le {lo hi x a : List Int} (hx : x.length = lo.length) (ha : In lo hi a) : ∀ n, n ≤ x.length → ssum (offs lo hi x x.length) n ≤ dsum a x n := by
  intro n
  induction n with
  | zero => intro _; exact Int.le_refl _
  | succ n ih =>
    intro hn
    have h1 := ih (by omega)
    have h2 := ha.2 n (by have := ha.1; omega)
    have h3 : off lo hi x n * off lo hi x n ≤ (a.getD n 0 - x.getD n 0) * (a.getD n 0 - x.getD n 0) := by
      refine sq_le ?_
      unfold off hold
      split
      · omega
      · split <;> omega
    show ssum _ n + _ ≤ dsum a x n + _
    rw [offs_get lo hi x _ n (by omega)]
    omega
theorem ok_ref_loop {l : List Int} (h : Ok l) : ∀ (d i : Nat), i + d = l.length → Ev (fun k => chainmanref11_Right.l0 k l (i : Int)) true := by
  intro d
  have h1 := h.2.1
  have h0 := h.1
  induction d with
  | zero =>
    intro i hi
    refine Ev.step (f := fun k => chainmanref11_Right.j1 k l (i : Int) false) (fun k => ?_) (Ev.step (f := fun _ => some true) (fun k => ?_) (Ev.now _))
    · rw [chainmanref11_Right.l0, if_neg (by omega)]
    · rw [chainmanref11_Right.j1, if_neg (by decide), if_pos (by omega), decide_eq_true (by omega)]
  | succ d ih =>
    intro i hi
    have h2 := h.2.2 i (by omega)
    refine Ev.step (f := fun k => chainmanref11_Right.j1 k l (i : Int) true) (fun k => ?_) (Ev.step (fun k => ?_) (ih (i + 1) (by omega)))
    · rw [chainmanref11_Right.l0, if_pos (by omega), decide_eq_true (by omega)]
    · rw [chainmanref11_Right.j1, if_pos rfl, if_pos (by omega), if_pos (by omega), rd_nat, if_neg (by omega), if_neg (by omega), wsucc i (by omega)]
theorem ok_ref {l : List Int} (h : Ok l) : Ev (fun k => chainmanref11_Right.f k l) true := ok_ref_loop h l.length 0 (by omega)
theorem square_loop {a b : List Int} (ha : Ok a) (hb : Ok b) (hl : b.length = a.length) : ∀ (d i : Nat), i + d = a.length → Ev (fun k => chainmanref11_Square.l0 k a b (dsum a b i) (i : Int)) (dsum a b a.length, 0) := by
  intro d
  have h1 := ha.2.1
  induction d with
  | zero =>
    intro i hi
    obtain rfl : i = a.length := by omega
    refine Ev.step (f := fun _ => some (dsum a b a.length, 0)) (fun k => ?_) (Ev.now _)
    rw [chainmanref11_Square.l0, if_neg (by omega)]
  | succ d ih =>
    intro i hi
    refine Ev.step (fun k => ?_) (ih (i + 1) (by omega))
    have sb := dsum_bound ha hb hl i (by omega)
    have xa := ha.2.2 i (by omega)
    have xb := hb.2.2 i (by omega)
    have sq := sq_small (x := a.getD i 0 - b.getD i 0) (by omega)
    rw [chainmanref11_Square.l0, if_pos (by omega), if_pos (by omega), if_pos (by omega), rd_nat, rd_nat, wsucc i (by omega), w64 (a.getD i 0 - b.getD i 0) (by omega)]
    show chainmanref11_Square.l0 k a b (wrap64 (dsum a b i + wrap64 _)) _ = chainmanref11_Square.l0 k a b (dsum a b i + _) _
    generalize (a.getD i 0 - b.getD i 0) * (a.getD i 0 - b.getD i 0) = q at *
    generalize dsum a b i = s at *
    rw [w64 q (by omega), w64 (s + q) (by omega)]
theorem square_ev {a b : List Int} (ha : Ok a) (hb : Ok b) (hl : b.length = a.length) : Ev (fun k => chainmanref11_Square.f k a b) (dsum a b a.length, 0) := by
  unfold chainmanref11_Square.f
  refine Ev.bind (ok_ref ha) ?_
  simp only [if_true]
  refine Ev.bind (ok_ref hb) ?_
  simp only [if_true, hl, bne_self_eq_false]
  refine Ev.step (fun k => ?_) (square_loop ha hb hl a.length 0 (by omega))
  rw [chainmanref11_Square.j0, if_neg (by decide)]; rfl
/-! #### the least box of vectors -/
theorem zip_len (f : Int → Int → Int) (a b : List Int) (h : b.length = a.length) : (List.zipWith f a b).length = a.length := by rw [List.length_zipWith]; omega
theorem zip_get (f : Int → Int → Int) (a b : List Int) (h : b.length = a.length) (i : Nat) (hi : i < a.length) : (List.zipWith f a b).getD i 0 = f (a.getD i 0) (b.getD i 0) := by
  have hb : i < b.length := by omega
  rw [List.getD_eq_getElem?_getD, List.getElem?_eq_getElem (by rw [zip_len f a b h]; exact hi), List.getD_eq_getElem?_getD, List.getElem?_eq_getElem hi, List.getD_eq_getElem?_getD, List.getElem?_eq_getElem hb]
  simp
theorem lower_eq (a b : List Int) (h : b.length = a.length) (hn : a.length ≤ 4096) : box_zip_lower.f a b () = some (List.zipWith (fun x y => mn x y) a b) := by
  unfold box_zip_lower.f; rw [if_pos (by omega)]
theorem higher_eq (a b : List Int) (h : b.length = a.length) (hn : a.length ≤ 4096) : box_zip_higher.f a b () = some (List.zipWith (fun x y => mx x y) a b) := by
  unfold box_zip_higher.f; rw [if_pos (by omega)]
theorem mn_le (a b : Int) : mn a b ≤ a ∧ mn a b ≤ b ∧ (mn a b = a ∨ mn a b = b) := by unfold mn; split <;> omega
theorem mx_ge (a b : Int) : a ≤ mx a b ∧ b ≤ mx a b ∧ (mx a b = a ∨ mx a b = b) := by unfold mx; split <;> omega
/-- The box of a box and a vector. -/
theorem grow {lo hi x : List Int} (hb : IsBox lo hi) (hx : Ok x) (hl : x.length = lo.length) :
    IsBox (List.zipWith (fun a b => mn a b) lo x) (List.zipWith (fun a b => mx a b) hi x) ∧ (List.zipWith (fun a b => mn a b) lo x).length = lo.length ∧
    In (List.zipWith (fun a b => mn a b) lo x) (List.zipWith (fun a b => mx a b) hi x) x ∧ ∀ y, In lo hi y → In (List.zipWith (fun a b => mn a b) lo x) (List.zipWith (fun a b => mx a b) hi x) y := by
  obtain ⟨h1, h2, h3, h4⟩ := hb
  have l1 := zip_len (fun a b => mn a b) lo x hl
  have l2 := zip_len (fun a b => mx a b) hi x (by omega)
  have g1 := fun i (h : i < lo.length) => zip_get (fun a b => mn a b) lo x hl i h
  have g2 := fun i (h : i < lo.length) => zip_get (fun a b => mx a b) hi x (by omega) i (by omega)
  refine ⟨⟨⟨by have := h1.1; omega, by have := h1.2.1; omega, fun i hi' => ?_⟩, ⟨by have := h2.1; omega, by have := h2.2.1; omega, fun i hi' => ?_⟩, by omega, fun i hi' => ?_⟩, l1, ⟨by omega, fun i hi' => ?_⟩, fun y hy => ⟨by have := hy.1; omega, fun i hi' => ?_⟩⟩
  · rw [l1] at hi'
    rw [g1 i hi']
    have := h1.2.2 i hi'
    have := hx.2.2 i (by omega)
    have := mn_le (lo.getD i 0) (x.getD i 0)
    omega
  · rw [l2, h3] at hi'
    rw [g2 i hi']
    have := h2.2.2 i (by omega)
    have := hx.2.2 i (by omega)
    have := mx_ge (hi.getD i 0) (x.getD i 0)
    omega
  · rw [l1] at hi'
    rw [g1 i hi', g2 i hi']
    have := mn_le (lo.getD i 0) (x.getD i 0)
    have := mx_ge (hi.getD i 0) (x.getD i 0)
    omega
  · rw [g1 i (by omega), g2 i (by omega)]
    have := mn_le (lo.getD i 0) (x.getD i 0)
    have := mx_ge (hi.getD i 0) (x.getD i 0)
    omega
  · have hy1 := hy.1
    have hy2 := hy.2 i hi'
    rw [g1 i (by omega), g2 i (by omega)]
    have := mn_le (lo.getD i 0) (x.getD i 0)
    have := mx_ge (hi.getD i 0) (x.getD i 0)
    omega
theorem of_loop (v : List (List Int)) (n : Nat) (hn : v.length ≤ 2000000) (hv : ∀ x ∈ v, Ok x ∧ x.length = n) : ∀ (d i : Nat), i + d = v.length → ∀ lo hi : List Int, IsBox lo hi → lo.length = n →
    ∃ lo' hi', Ev (fun k => box_Of.l0 k v (v.length : Int) (i : Int) lo hi) (lo', hi', true) ∧ IsBox lo' hi' ∧ lo'.length = n ∧ (∀ y, In lo hi y → In lo' hi' y) ∧ ∀ j (h : j < v.length), i ≤ j → In lo' hi' v[j] := by
  intro d
  induction d with
  | zero =>
    intro i hi lo hi' hb hl
    refine ⟨lo, hi', Ev.step (f := fun _ => some (lo, hi', true)) (fun k => ?_) (Ev.now _), hb, hl, fun _ h => h, fun j h h2 => by omega⟩
    rw [box_Of.l0, if_neg (by omega)]
  | succ d ih =>
    intro i hi lo hi' hb hl
    have hlt : i < v.length := by omega
    obtain ⟨hx, hxl⟩ := hv _ (List.getElem_mem hlt)
    have hle := hb.1.2.1
    have h3 := hb.2.2.1
    obtain ⟨g1, g2, g3, g4⟩ := grow hb hx (by omega)
    obtain ⟨lo2, hi2, r1, r2, r3, r4, r5⟩ := ih (i + 1) (by omega) _ _ g1 (by omega)
    refine ⟨lo2, hi2, Ev.step (fun k => ?_) r1, r2, r3, fun y hy => r4 y (g4 y hy), fun j h h2 => ?_⟩
    · rw [box_Of.l0, if_pos (by omega), if_pos (by omega), if_pos (by omega), rdL hlt, lower_eq _ _ (by omega) (by omega), Option.bind_some, higher_eq _ _ (by omega) (by omega), Option.bind_some, wsucc i (by omega)]
    · by_cases e : j = i
      · subst e; exact r4 _ g3
      · exact r5 j h (by omega)
theorem of_ev (v : List (List Int)) (n : Nat) (h0 : 0 < v.length) (hn : v.length ≤ 1048576) (hv : ∀ x ∈ v, Ok x ∧ x.length = n) :
    ∃ lo hi, Ev (fun k => box_Of.f k v) (lo, hi, true) ∧ IsBox lo hi ∧ lo.length = n ∧ ∀ x ∈ v, In lo hi x := by
  cases v with
  | nil => simp at h0
  | cons a t =>
    obtain ⟨ha, hal⟩ := hv a (by simp)
    have hb : IsBox a a := ⟨ha, ha, rfl, fun _ _ => Int.le_refl _⟩
    have haa : In a a a := ⟨rfl, fun _ _ => ⟨Int.le_refl _, Int.le_refl _⟩⟩
    have hc : slices_Clone_int_int.f a = some a := by unfold slices_Clone_int_int.f; rw [if_pos (by have := ha.2.1; omega)]
    have hlike : box_like.f (a :: t) = some true := like_true (fun x hx => ⟨(hv x hx).1, by rw [(hv x hx).2]; exact hal.symm⟩)
    have ht : t.length ≤ 1048576 := by simp at hn; omega
    obtain ⟨lo, hi, r1, r2, r3, r4, r5⟩ := of_loop t n (by omega) (fun x hx => hv x (by simp [hx])) t.length 0 (by omega) a a hb hal
    refine ⟨lo, hi, ?_, r2, r3, fun x hx => ?_⟩
    · unfold box_Of.f
      have e0 : ¬ (((a :: t).length : Nat) : Int) = 0 := by simp; omega
      have e1 : ¬ (((a :: t).length : Nat) : Int) > 1048576 := by omega
      simp only [if_neg e0, if_neg e1, hlike, Option.bind_some, Bool.not_true]
      refine Ev.step (fun k => ?_) r1
      have e2 : rd_L1 (a :: t) 0 = a := rfl
      rw [box_Of.j0, if_neg (by decide), if_pos (by omega), e2, hc, Option.bind_some, Option.bind_some, if_pos (by omega)]
      rfl
    · rcases List.mem_cons.1 hx with rfl | hx
      · exact r4 _ haa
      · obtain ⟨j, hj, rfl⟩ := List.getElem_of_mem hx
        exact r5 j hj (Nat.zero_le _)
/-! #### what is asked first -/
theorem few_loop (v : List (List Int)) (m w : Nat) (hm : m < 1000000) : ∀ (d i : Nat), i + d = m → (∀ j (h : j < v.length), j < i → (v[j]).length ≤ w) →
    ∃ b, Ev (fun k => chainmanref10_Few.l0 k v (m : Int) (w : Int) (i : Int)) b ∧ (b = true → v.length ≤ m ∧ ∀ x ∈ v, x.length ≤ w) := by
  intro d
  induction d with
  | zero =>
    intro i hi hj
    refine ⟨decide ((v.length : Int) ≤ (m : Int)), Ev.step (f := fun k => chainmanref10_Few.j1 k v (m : Int) (w : Int) (i : Int) false) (fun k => ?_) (Ev.step (f := fun _ => some (decide ((v.length : Int) ≤ (m : Int)))) (fun k => ?_) (Ev.now _)), fun h => ?_⟩
    · rw [chainmanref10_Few.l0]
      by_cases c : (i : Int) < (v.length : Int)
      · rw [if_pos c, decide_eq_false (by omega)]
      · rw [if_neg c]
    · rw [chainmanref10_Few.j1, if_neg (by decide)]
    · have := of_decide_eq_true h
      refine ⟨by omega, fun x hx => ?_⟩
      obtain ⟨j, hjl, rfl⟩ := List.getElem_of_mem hx
      exact hj j hjl (by omega)
  | succ d ih =>
    intro i hi hj
    by_cases c : i < v.length
    · by_cases c2 : (v[i]).length ≤ w
      · obtain ⟨b, h1, h2⟩ := ih (i + 1) (by omega) (fun j h h2 => by
          by_cases e : j = i
          · subst e; exact c2
          · exact hj j h (by omega))
        refine ⟨b, Ev.step (f := fun k => chainmanref10_Few.j1 k v (m : Int) (w : Int) (i : Int) true) (fun k => ?_) (Ev.step (fun k => ?_) h1), h2⟩
        · rw [chainmanref10_Few.l0, if_pos (by omega), decide_eq_true (by omega)]
        · rw [chainmanref10_Few.j1, if_pos rfl, if_pos (by omega), if_pos (by omega), rdL c, if_neg (by omega), wsucc i (by omega)]
      · refine ⟨false, Ev.step (f := fun k => chainmanref10_Few.j1 k v (m : Int) (w : Int) (i : Int) true) (fun k => ?_) (Ev.step (f := fun _ => some false) (fun k => ?_) (Ev.now _)), fun h => by cases h⟩
        · rw [chainmanref10_Few.l0, if_pos (by omega), decide_eq_true (by omega)]
        · rw [chainmanref10_Few.j1, if_pos rfl, if_pos (by omega), if_pos (by omega), rdL c, if_pos (by omega)]
    · refine ⟨true, Ev.step (f := fun k => chainmanref10_Few.j1 k v (m : Int) (w : Int) (i : Int) false) (fun k => ?_) (Ev.step (f := fun _ => some true) (fun k => ?_) (Ev.now _)), fun _ => ⟨by omega, fun x hx => ?_⟩⟩
      · rw [chainmanref10_Few.l0, if_neg (by omega)]
      · rw [chainmanref10_Few.j1, if_neg (by decide), decide_eq_true (by omega)]
      · obtain ⟨j, hjl, rfl⟩ := List.getElem_of_mem hx
        exact hj j hjl (by omega)
theorem few_ev (v : List (List Int)) (m w : Nat) (hm : m < 1000000) : ∃ b, Ev (fun k => chainmanref10_Few.f k v (m : Int) (w : Int)) b ∧ (b = true → v.length ≤ m ∧ ∀ x ∈ v, x.length ≤ w) :=
  few_loop v m w hm m 0 (by omega) (fun j h h2 => absurd h2 (Nat.not_lt_zero _))
theorem dright_loop (l : List Int) : ∀ (d i : Nat), i + d = 4097 → (∀ j, j < l.length → j < i → -16777215 ≤ l.getD j 0 ∧ l.getD j 0 ≤ 16777215) →
    ∃ b, Ev (fun k => chainmanref11_Right.l0 k l (i : Int)) b ∧ (b = true → Ok l) := by
  intro d
  induction d with
  | zero =>
    intro i hi hj
    refine ⟨if (l.length : Int) ≥ 1 then decide ((l.length : Int) ≤ 4096) else false, Ev.step (f := fun k => chainmanref11_Right.j1 k l (i : Int) false) (fun k => ?_) (Ev.step (f := fun _ => some (if (l.length : Int) ≥ 1 then decide ((l.length : Int) ≤ 4096) else false)) (fun k => ?_) (Ev.now _)), fun h => ?_⟩
    · rw [chainmanref11_Right.l0]
      by_cases c : (i : Int) < (l.length : Int)
      · rw [if_pos c, decide_eq_false (by omega)]
      · rw [if_neg c]
    · rw [chainmanref11_Right.j1, if_neg (by decide)]
      by_cases c : (l.length : Int) ≥ 1
      · rw [if_pos c, if_pos c]
      · rw [if_neg c, if_neg c]
    · by_cases c : (l.length : Int) ≥ 1
      · rw [if_pos c] at h
        have := of_decide_eq_true h
        exact ⟨by omega, by omega, fun j hjl => hj j hjl (by omega)⟩
      · rw [if_neg c] at h; cases h
  | succ d ih =>
    intro i hi hj
    by_cases c : i < l.length
    · have e1 : ∀ k, chainmanref11_Right.l0 (k + 1) l (i : Int) = chainmanref11_Right.j1 k l (i : Int) true := fun k => by
        rw [chainmanref11_Right.l0, if_pos (by omega), decide_eq_true (by omega)]
      by_cases c2 : -16777215 ≤ l.getD i 0 ∧ l.getD i 0 ≤ 16777215
      · obtain ⟨b, h1, h2⟩ := ih (i + 1) (by omega) (fun j h h2 => by
          by_cases e : j = i
          · subst e; exact c2
          · exact hj j h (by omega))
        refine ⟨b, Ev.step e1 (Ev.step (fun k => ?_) h1), h2⟩
        rw [chainmanref11_Right.j1, if_pos rfl, if_pos (by omega), if_pos (by omega), rd_nat, if_neg (by omega), if_neg (by omega), wsucc i (by omega)]
      · refine ⟨false, Ev.step e1 (Ev.step (f := fun _ => some false) (fun k => ?_) (Ev.now _)), fun h => by cases h⟩
        rw [chainmanref11_Right.j1, if_pos rfl, if_pos (by omega), if_pos (by omega), rd_nat]
        by_cases c3 : l.getD i 0 ≤ -16777216
        · rw [if_pos c3]
        · rw [if_neg c3, if_pos (by omega)]
    · refine ⟨if (l.length : Int) ≥ 1 then decide ((l.length : Int) ≤ 4096) else false, Ev.step (f := fun k => chainmanref11_Right.j1 k l (i : Int) false) (fun k => ?_) (Ev.step (f := fun _ => some (if (l.length : Int) ≥ 1 then decide ((l.length : Int) ≤ 4096) else false)) (fun k => ?_) (Ev.now _)), fun h => ?_⟩
      · rw [chainmanref11_Right.l0, if_neg (by omega)]
      · rw [chainmanref11_Right.j1, if_neg (by decide)]
        by_cases c4 : (l.length : Int) ≥ 1
        · rw [if_pos c4, if_pos c4]
        · rw [if_neg c4, if_neg c4]
      · by_cases c4 : (l.length : Int) ≥ 1
        · rw [if_pos c4] at h
          have := of_decide_eq_true h
          exact ⟨by omega, by omega, fun j hjl => hj j hjl (by omega)⟩
        · rw [if_neg c4] at h; cases h
theorem dright_ev (l : List Int) : ∃ b, Ev (fun k => chainmanref11_Right.f k l) b ∧ (b = true → Ok l) := dright_loop l 4097 0 (by omega) (fun j h h2 => absurd h2 (Nat.not_lt_zero _))
/-- What the document's look at vectors, from the i-th on, tells. -/
def Tells (v : List (List Int)) (i : Nat) (b : Bool) : Prop := b = true → 0 < v.length ∧ ∀ t (h : t < v.length), i ≤ t → Ok v[t] ∧ (v[t]).length = (v.headD []).length
theorem vright_in (v : List (List Int)) (i : Nat) (hi : i < v.length) (hn : v.length ≤ 1000) (hl : (v[i]).length ≤ 4096) (h1 : 1 ≤ (v[i]).length) (he : (v[i]).length = (v.headD []).length) (b : Bool) (hb : Ev (fun k => chainmanref10_Right.l0 k v ((i + 1 : Nat) : Int)) b) (ht : Tells v (i + 1) b) :
    ∀ (d j : Nat), j + d = (v[i]).length → (∀ q, q < j → -16777215 ≤ (v[i]).getD q 0 ∧ (v[i]).getD q 0 ≤ 16777215) → ∃ b', Ev (fun k => chainmanref10_Right.l1 k v (i : Int) (j : Int)) b' ∧ Tells v i b' := by
  intro d
  induction d with
  | zero =>
    intro j hj hq
    refine ⟨b, Ev.step (fun k => ?_) hb, fun hbt => ⟨(ht hbt).1, fun t h h2 => ?_⟩⟩
    · rw [chainmanref10_Right.l1, if_pos (by omega), if_pos (by omega), rdL hi, if_neg (by omega), wsucc i (by omega)]
    · by_cases e : t = i
      · subst e; exact ⟨⟨h1, hl, fun q hq' => hq q (by omega)⟩, he⟩
      · exact (ht hbt).2 t h (by omega)
  | succ d ih =>
    intro j hj hq
    by_cases c2 : -16777215 ≤ (v[i]).getD j 0 ∧ (v[i]).getD j 0 ≤ 16777215
    · obtain ⟨b', r1, r2⟩ := ih (j + 1) (by omega) (fun q h => by
        by_cases e : q = j
        · subst e; exact c2
        · exact hq q (by omega))
      refine ⟨b', Ev.step (fun k => ?_) r1, r2⟩
      rw [chainmanref10_Right.l1, if_pos (by omega), if_pos (by omega), rdL hi, if_pos (by omega), if_pos (by omega), rd_nat, if_neg (by omega), if_neg (by omega), wsucc j (by omega)]
    · refine ⟨false, Ev.step (f := fun _ => some false) (fun k => ?_) (Ev.now _), fun h => by cases h⟩
      rw [chainmanref10_Right.l1, if_pos (by omega), if_pos (by omega), rdL hi, if_pos (by omega), if_pos (by omega), rd_nat]
      by_cases c3 : (v[i]).getD j 0 ≤ -16777216
      · rw [if_pos c3]
      · rw [if_neg c3, if_pos (by omega)]
theorem vright_loop (v : List (List Int)) (hn : v.length ≤ 1000) : ∀ (d i : Nat), i + d = v.length → ∃ b, Ev (fun k => chainmanref10_Right.l0 k v (i : Int)) b ∧ Tells v i b := by
  intro d
  induction d with
  | zero =>
    intro i hi
    refine ⟨if (v.length : Int) ≥ 1 then decide ((v.length : Int) ≤ 1048576) else false, Ev.step (f := fun k => chainmanref10_Right.j1 k v (i : Int) false) (fun k => ?_) (Ev.step (f := fun _ => some (if (v.length : Int) ≥ 1 then decide ((v.length : Int) ≤ 1048576) else false)) (fun k => ?_) (Ev.now _)), fun h => ?_⟩
    · rw [chainmanref10_Right.l0, if_neg (by omega)]
    · rw [chainmanref10_Right.j1, if_neg (by decide)]
      by_cases c : (v.length : Int) ≥ 1
      · rw [if_pos c, if_pos c]
      · rw [if_neg c, if_neg c]
    · by_cases c : (v.length : Int) ≥ 1
      · exact ⟨by omega, fun t h2 h3 => by omega⟩
      · rw [if_neg c] at h; cases h
  | succ d ih =>
    intro i hi
    have hlt : i < v.length := by omega
    obtain ⟨b, hb, ht⟩ := ih (i + 1) (by omega)
    have e1 : ∀ k, chainmanref10_Right.l0 (k + 1) v (i : Int) = chainmanref10_Right.j1 k v (i : Int) true := fun k => by
      rw [chainmanref10_Right.l0, if_pos (by omega), decide_eq_true (by omega)]
    have e0 : rd_L1 v 0 = v.headD [] := by cases v <;> rfl
    have no : ∀ g : Nat → Option Bool, (∀ k, g (k + 1) = chainmanref10_Right.j2 k v (i : Int) true) → Ev g false := fun g hg => Ev.step hg (Ev.step (f := fun _ => some false) (fun k => by rw [chainmanref10_Right.j2, if_pos rfl]) (Ev.now _))
    by_cases c1 : (v[i]).length < 1
    · refine ⟨false, Ev.step e1 (no _ (fun k => ?_)), fun h => by cases h⟩
      rw [chainmanref10_Right.j1, if_pos rfl, if_pos (by omega), if_pos (by omega), rdL hlt, if_pos (by omega)]
    · by_cases c2 : (v[i]).length > 4096
      · refine ⟨false, Ev.step e1 (no _ (fun k => ?_)), fun h => by cases h⟩
        rw [chainmanref10_Right.j1, if_pos rfl, if_pos (by omega), if_pos (by omega), rdL hlt, if_neg (by omega), if_pos (by omega)]
      · have e2 : ∀ k, chainmanref10_Right.j1 (k + 1) v (i : Int) true = chainmanref10_Right.j2 k v (i : Int) (((v[i]).length : Int) != ((v.headD []).length : Int)) := fun k => by
          rw [chainmanref10_Right.j1, if_pos rfl, if_pos (by omega), if_pos (by omega), rdL hlt, if_neg (by omega), if_neg (by omega), if_pos (by omega), e0]
        by_cases c3 : (v[i]).length = (v.headD []).length
        · obtain ⟨b', r1, r2⟩ := vright_in v i hlt hn (by omega) (by omega) c3 b hb ht (v[i]).length 0 (by omega) (fun q h => absurd h (Nat.not_lt_zero _))
          refine ⟨b', Ev.step e1 (Ev.step e2 (Ev.step (fun k => ?_) r1)), r2⟩
          rw [c3, bne_self_eq_false, chainmanref10_Right.j2, if_neg (by decide)]; rfl
        · refine ⟨false, Ev.step e1 (no _ (fun k => ?_)), fun h => by cases h⟩
          rw [e2]
          congr 1
          rw [bne_iff_ne]
          omega
theorem vright_ev (v : List (List Int)) (hn : v.length ≤ 1000) : ∃ b, Ev (fun k => chainmanref10_Right.f k v) b ∧ (b = true → 0 < v.length ∧ ∀ x ∈ v, Ok x ∧ x.length = (v.headD []).length) := by
  obtain ⟨b, h1, h2⟩ := vright_loop v hn v.length 0 (by omega)
  refine ⟨b, h1, fun h => ⟨(h2 h).1, fun x hx => ?_⟩⟩
  obtain ⟨j, hj, rfl⟩ := List.getElem_of_mem hx
  exact (h2 h).2 j hj (Nat.zero_le _)
theorem same_loop (l : List Int) (hn : l.length ≤ 1000000) : ∀ (d i : Nat), i + d = l.length → Ev (fun k => chainmanref10_SameList.l0 k l l (i : Int)) true := by
  intro d
  induction d with
  | zero =>
    intro i hi
    refine Ev.step (f := fun _ => some true) (fun k => ?_) (Ev.now _)
    rw [chainmanref10_SameList.l0, if_neg (by omega)]
  | succ d ih =>
    intro i hi
    refine Ev.step (fun k => ?_) (ih (i + 1) (by omega))
    rw [chainmanref10_SameList.l0, if_pos (by omega), if_pos (by omega), if_pos (by omega), if_pos rfl, wsucc i (by omega)]
theorem same_ev (l : List Int) (hn : l.length ≤ 1000000) : Ev (fun k => chainmanref10_SameList.f k l l) true := by
  refine Ev.congr (fun k => ?_) (same_loop l hn l.length 0 (by omega))
  unfold chainmanref10_SameList.f
  rw [if_pos rfl]; rfl
/-! #### the least box of two boxes -/
theorem both_ev {lo hi lo2 hi2 : List Int} (h1 : IsBox lo hi) (h2 : IsBox lo2 hi2) (hl : lo2.length = lo.length) :
    Ev (fun k => box_Both.f k lo hi lo2 hi2) (List.zipWith (fun a b => mn a b) lo lo2, List.zipWith (fun a b => mx a b) hi hi2, true) := by
  have l3 := h1.2.2.1
  have l4 := h2.2.2.1
  have l5 := h1.1.2.1
  unfold box_Both.f
  refine Ev.bind (right_ev h1) ?_
  simp only [if_true]
  refine Ev.bind (right_ev h2) ?_
  simp only [if_true, hl, bne_self_eq_false]
  refine Ev.step (f := fun _ => some (List.zipWith (fun a b => mn a b) lo lo2, List.zipWith (fun a b => mx a b) hi hi2, true)) (fun k => ?_) (Ev.now _)
  rw [box_Both.j0, if_neg (by decide), lower_eq _ _ (by omega) (by omega), Option.bind_some, higher_eq _ _ (by omega) (by omega), Option.bind_some]

/-! ### the law BoxApart -/
theorem awake_k : chainmanlaw45_awake.f 60 = some true := by decide +kernel
theorem awake_ev : Ev (fun k => (chainmanlaw45_awake.f k).bind fun t => some t) true := Ev.bind (Ev.of chainmanlaw45_awake.mono awake_k) (Ev.now _)
theorem zip_range (f : Int → Int → Int) (a b : List Int) (n : Nat) (ha : a.length = n) (hb : b.length = n) : List.zipWith f a b = (List.range n).map (fun i => f (a.getD i 0) (b.getD i 0)) := by
  apply List.ext_getElem
  · simp [ha, hb]
  · intro i h1 h2
    have hi : i < n := by simpa using h2
    have ea : a.getD i 0 = a[i] := by rw [List.getD_eq_getElem?_getD, List.getElem?_eq_getElem (by omega)]; rfl
    have eb : b.getD i 0 = b[i] := by rw [List.getD_eq_getElem?_getD, List.getElem?_eq_getElem (by omega)]; rfl
    simp only [List.getElem_zipWith, List.getElem_map, List.getElem_range, ea, eb]
theorem map_get (f : Nat → Int) (n i : Nat) (h : i < n) : ((List.range n).map f).getD i 0 = f i := by
  rw [List.getD_eq_getElem?_getD, List.getElem?_eq_getElem (by simpa using h)]; simp
def apd (lo1 hi1 lo2 hi2 : List Int) (i : Nat) : Int := mx (mx 0 (lo2.getD i 0 - hi1.getD i 0)) (mx 0 (lo1.getD i 0 - hi2.getD i 0))
def ap (lo1 hi1 lo2 hi2 : List Int) : Int := ssum ((List.range lo1.length).map (apd lo1 hi1 lo2 hi2)) lo1.length
theorem apd_small {lo1 hi1 lo2 hi2 : List Int} (h1 : IsBox lo1 hi1) (h2 : IsBox lo2 hi2) (hl : lo2.length = lo1.length) (i : Nat) (hi : i < lo1.length) : 0 ≤ apd lo1 hi1 lo2 hi2 i ∧ apd lo1 hi1 lo2 hi2 i ≤ 33554430 := by
  have a1 := h1.1.2.2 i hi
  have a2 := h1.2.1.2.2 i (by have := h1.2.2.1; omega)
  have b1 := h2.1.2.2 i (by omega)
  have b2 := h2.2.1.2.2 i (by have := h2.2.2.1; omega)
  unfold apd mx
  repeat' split
  all_goals omega
theorem apd_comm (lo1 hi1 lo2 hi2 : List Int) (i : Nat) : apd lo1 hi1 lo2 hi2 i = apd lo2 hi2 lo1 hi1 i := by
  unfold apd
  generalize mx 0 (lo2.getD i 0 - hi1.getD i 0) = p
  generalize mx 0 (lo1.getD i 0 - hi2.getD i 0) = q
  unfold mx
  split <;> split <;> omega
theorem ap_comm (lo1 hi1 lo2 hi2 : List Int) (h : lo2.length = lo1.length) : ap lo1 hi1 lo2 hi2 = ap lo2 hi2 lo1 hi1 := by
  unfold ap
  rw [h]
  congr 2
  funext i
  exact apd_comm _ _ _ _ i
theorem ap_small {lo1 hi1 lo2 hi2 : List Int} (h1 : IsBox lo1 hi1) (h2 : IsBox lo2 hi2) (hl : lo2.length = lo1.length) : Small ((List.range lo1.length).map (apd lo1 hi1 lo2 hi2)) := by
  refine ⟨by simp; exact h1.1.2.1, fun i hi => ?_⟩
  have hi' : i < lo1.length := by simpa using hi
  rw [map_get _ _ i hi']
  have := apd_small h1 h2 hl i hi'
  omega
theorem gap_eq (a b : List Int) (n : Nat) (ha : a.length = n) (hb : b.length = n) (hn : n ≤ 4096) (sa : ∀ i, i < n → -16777215 ≤ a.getD i 0 ∧ a.getD i 0 ≤ 16777215) (sb : ∀ i, i < n → -16777215 ≤ b.getD i 0 ∧ b.getD i 0 ≤ 16777215) :
    box_zip_gap.f a b () = some ((List.range n).map (fun i => mx 0 (a.getD i 0 - b.getD i 0))) := by
  unfold box_zip_gap.f
  rw [if_pos (by omega), zip_range _ a b n ha hb]
  congr 1
  apply List.map_congr_left
  intro i hi
  have hi' := List.mem_range.1 hi
  have := sa i hi'
  have := sb i hi'
  show mx 0 (wrap64 (a.getD i 0 - b.getD i 0)) = _
  rw [w64 _ (by omega)]
theorem apart_ev {lo1 hi1 lo2 hi2 : List Int} (h1 : IsBox lo1 hi1) (h2 : IsBox lo2 hi2) (hl : lo2.length = lo1.length) : Ev (fun k => box_Apart.f k lo1 hi1 lo2 hi2) (ap lo1 hi1 lo2 hi2, true) := by
  have l1 := h1.2.2.1
  have l2 := h2.2.2.1
  have l5 := h1.1.2.1
  unfold box_Apart.f
  refine Ev.bind (right_ev h1) ?_
  simp only [if_true]
  refine Ev.bind (right_ev h2) ?_
  simp only [if_true, hl, bne_self_eq_false]
  have g1 := gap_eq lo2 hi1 lo1.length hl l1 l5 (fun i h => h2.1.2.2 i (by omega)) (fun i h => h1.2.1.2.2 i (by omega))
  have g2 := gap_eq lo1 hi2 lo1.length rfl (by omega) l5 (fun i h => h1.1.2.2 i h) (fun i h => h2.2.1.2.2 i (by omega))
  have g3 : box_zip_higher.f ((List.range lo1.length).map (fun i => mx 0 (lo2.getD i 0 - hi1.getD i 0))) ((List.range lo1.length).map (fun i => mx 0 (lo1.getD i 0 - hi2.getD i 0))) () = some ((List.range lo1.length).map (apd lo1 hi1 lo2 hi2)) := by
    rw [higher_eq _ _ (by simp) (by simp; exact l5), zip_range _ _ _ lo1.length (by simp) (by simp)]
    congr 1
    apply List.map_congr_left
    intro i hi
    have hi' := List.mem_range.1 hi
    rw [map_get _ _ i hi', map_get _ _ i hi']
    rfl
  have hs := sum_ev (ap_small h1 h2 hl)
  rw [show ((List.range lo1.length).map (apd lo1 hi1 lo2 hi2)).length = lo1.length from by simp] at hs
  refine Ev.step (f := fun k => (box_sum.f k ((List.range lo1.length).map (apd lo1 hi1 lo2 hi2))).bind fun t253 => some (t253, true)) (fun k => ?_) (Ev.bind hs (Ev.now _))
  rw [box_Apart.j0, if_neg (by decide), g1, Option.bind_some, g2, Option.bind_some, g3, Option.bind_some]
theorem ap_nonneg {lo1 hi1 lo2 hi2 : List Int} (h1 : IsBox lo1 hi1) (h2 : IsBox lo2 hi2) (hl : lo2.length = lo1.length) : 0 ≤ ap lo1 hi1 lo2 hi2 :=
  (ssum_bound (ap_small h1 h2 hl) lo1.length (by simp)).1
theorem ap_le {lo1 hi1 lo2 hi2 a b : List Int} (ha : In lo1 hi1 a) (hb : In lo2 hi2 b) (hl : lo2.length = lo1.length) : ∀ n, n ≤ lo1.length → ssum ((List.range lo1.length).map (apd lo1 hi1 lo2 hi2)) n ≤ dsum a b n := by
  intro n
  induction n with
  | zero => intro _; exact Int.le_refl _
  | succ n ih =>
    intro hn
    have q1 := ih (by omega)
    have q2 := ha.2 n (by have := ha.1; omega)
    have q3 := hb.2 n (by have := hb.1; omega)
    have h3 : apd lo1 hi1 lo2 hi2 n * apd lo1 hi1 lo2 hi2 n ≤ (a.getD n 0 - b.getD n 0) * (a.getD n 0 - b.getD n 0) := by
      refine sq_le ?_
      unfold apd mx
      repeat' split
      all_goals omega
    show ssum _ n + _ ≤ dsum a b n + _
    rw [map_get _ _ n (by omega)]
    omega
/-- The box of both. -/
theorem both_box {lo hi lo2 hi2 : List Int} (h1 : IsBox lo hi) (h2 : IsBox lo2 hi2) (hl : lo2.length = lo.length) :
    IsBox (List.zipWith (fun a b => mn a b) lo lo2) (List.zipWith (fun a b => mx a b) hi hi2) ∧ (List.zipWith (fun a b => mn a b) lo lo2).length = lo.length ∧
    (∀ y, In lo hi y → In (List.zipWith (fun a b => mn a b) lo lo2) (List.zipWith (fun a b => mx a b) hi hi2) y) ∧ (∀ y, In lo2 hi2 y → In (List.zipWith (fun a b => mn a b) lo lo2) (List.zipWith (fun a b => mx a b) hi hi2) y) ∧
    ap (List.zipWith (fun a b => mn a b) lo lo2) (List.zipWith (fun a b => mx a b) hi hi2) lo hi = 0 := by
  obtain ⟨a1, a2, a3, a4⟩ := h1
  obtain ⟨b1, b2, b3, b4⟩ := h2
  have l1 := zip_len (fun a b => mn a b) lo lo2 hl
  have l2 := zip_len (fun a b => mx a b) hi hi2 (by omega)
  have g1 := fun i (h : i < lo.length) => zip_get (fun a b => mn a b) lo lo2 hl i h
  have g2 := fun i (h : i < lo.length) => zip_get (fun a b => mx a b) hi hi2 (by omega) i (by omega)
  refine ⟨⟨⟨by have := a1.1; omega, by have := a1.2.1; omega, fun i hi' => ?_⟩, ⟨by have := a2.1; omega, by have := a2.2.1; omega, fun i hi' => ?_⟩, by omega, fun i hi' => ?_⟩, l1, fun y hy => ⟨by have := hy.1; omega, fun i hi' => ?_⟩, fun y hy => ⟨by have := hy.1; omega, fun i hi' => ?_⟩, ssum_zero _ (fun i hi' => ?_)⟩
  · rw [l1] at hi'
    rw [g1 i hi']
    have := a1.2.2 i hi'
    have := b1.2.2 i (by omega)
    have := mn_le (lo.getD i 0) (lo2.getD i 0)
    omega
  · rw [l2, a3] at hi'
    rw [g2 i hi']
    have := a2.2.2 i (by omega)
    have := b2.2.2 i (by omega)
    have := mx_ge (hi.getD i 0) (hi2.getD i 0)
    omega
  · rw [l1] at hi'
    rw [g1 i hi', g2 i hi']
    have := a4 i hi'
    have := mn_le (lo.getD i 0) (lo2.getD i 0)
    have := mx_ge (hi.getD i 0) (hi2.getD i 0)
    omega
  · have := hy.1
    have hy2 := hy.2 i hi'
    rw [g1 i (by omega), g2 i (by omega)]
    have := mn_le (lo.getD i 0) (lo2.getD i 0)
    have := mx_ge (hi.getD i 0) (hi2.getD i 0)
    omega
  · have := hy.1
    have hy2 := hy.2 i hi'
    rw [g1 i (by omega), g2 i (by omega)]
    have := mn_le (lo.getD i 0) (lo2.getD i 0)
    have := mx_ge (hi.getD i 0) (hi2.getD i 0)
    omega
  · rw [map_get _ _ i hi']
    rw [l1] at hi'
    unfold apd
    rw [g1 i hi', g2 i hi']
    have := a4 i hi'
    have := mn_le (lo.getD i 0) (lo2.getD i 0)
    have := mx_ge (hi.getD i 0) (hi2.getD i 0)
    generalize mn (lo.getD i 0) (lo2.getD i 0) = p at *
    generalize mx (hi.getD i 0) (hi2.getD i 0) = q at *
    unfold mx
    repeat' split
    all_goals omega
section
variable {v w : List (List Int)} {lo hi lo2 hi2 : List Int}
theorem apart_loop (n : Int) (c1 c2 : List Int) (hn : v.length ≤ 1000) (hn2 : w.length ≤ 1000) (m : Nat) (hv : ∀ x ∈ v, Ok x ∧ x.length = m ∧ In c1 c2 x) (hw : ∀ x ∈ w, Ok x ∧ x.length = m ∧ In c1 c2 x) (hc : IsBox c1 c2) (ha : IsBox lo hi) (hcl : c1.length = m) (hal : lo.length = m)
    (hle : ∀ x ∈ v, ∀ y ∈ w, n ≤ dsum x y m) (hz : ap c1 c2 lo hi = 0) : ∀ (d i : Nat), i + d = v.length → Ev (fun k => chainmanlaw45_BoxApart.l0 k v w n (i : Int) lo hi c1 c2) true := by
  intro d
  induction d with
  | zero =>
    intro i hi'
    refine Ev.step (f := fun k => (box_Apart.f k c1 c2 lo hi).bind fun bt289 => (if bt289.1 = 0 then ((chainmanlaw45_awake.f k).bind fun t291 => (some t291)) else (none))) (fun k => ?_) (Ev.bind (apart_ev hc ha (by omega)) ?_)
    · rw [chainmanlaw45_BoxApart.l0, if_neg (by omega)]
    · rw [hz]
      simp only [if_true]
      exact awake_ev
  | succ d ih =>
    intro i hi'
    have hlt : i < v.length := by omega
    have hx := hv _ (List.getElem_mem hlt)
    have hin : ∀ (e j : Nat), j + e = w.length → Ev (fun k => chainmanlaw45_BoxApart.l1 k v w n (i : Int) (j : Int) lo hi c1 c2) true := by
      intro e
      induction e with
      | zero =>
        intro j hj
        refine Ev.step (fun k => ?_) (ih (i + 1) (by omega))
        rw [chainmanlaw45_BoxApart.l1, if_neg (by omega), wsucc i (by omega)]
      | succ e ih2 =>
        intro j hj
        have hlt2 : j < w.length := by omega
        have hy := hw _ (List.getElem_mem hlt2)
        have hd := hle _ (List.getElem_mem hlt) _ (List.getElem_mem hlt2)
        have hsq := square_ev hx.1 hy.1 (by omega)
        rw [hx.2.1] at hsq
        refine Ev.step (f := fun k => (chainmanref11_Square.f k v[i] w[j]).bind fun bt294 => (if bt294.1 < n then (none) else ((box_Holds.f k c1 c2 v[i]).bind fun t297 => (if t297 = true then ((box_Holds.f k c1 c2 w[j]).bind fun t299 => (if t299 = true then (chainmanlaw45_BoxApart.l1 k v w n (i : Int) ((j + 1 : Nat) : Int) lo hi c1 c2) else (none))) else (none))))) (fun k => ?_) (Ev.bind hsq ?_)
        · rw [chainmanlaw45_BoxApart.l1, if_pos (by omega), if_pos (by omega), if_pos (by omega), if_pos (by omega), rdL hlt, rdL hlt2, wsucc j (by omega)]
        · simp only [if_neg (show ¬ dsum v[i] w[j] m < n by omega)]
          refine Ev.bind (holds_ev hc hx.1 (by omega)) ?_
          rw [far_in hx.2.2]
          simp only [beq_self_eq_true, if_true]
          refine Ev.bind (holds_ev hc hy.1 (by omega)) ?_
          rw [far_in hy.2.2]
          simp only [beq_self_eq_true, if_true]
          exact ih2 (j + 1) (by omega)
    refine Ev.step (fun k => ?_) (hin w.length 0 (by omega))
    rw [chainmanlaw45_BoxApart.l0, if_pos (by omega)]; rfl
end
theorem apart_main (v w : List (List Int)) (m : Nat) (hn : v.length ≤ 8) (hn2 : w.length ≤ 8) (h0 : 0 < v.length) (h02 : 0 < w.length) (hv : ∀ y ∈ v, Ok y ∧ y.length = m) (hw : ∀ y ∈ w, Ok y ∧ y.length = m) : Ev (fun k => chainmanlaw45_BoxApart.j0 k v w false) true := by
  obtain ⟨lo, hi, r1, r2, r3, r4⟩ := of_ev v m h0 (by omega) hv
  obtain ⟨lo2, hi2, s1, s2, s3, s4⟩ := of_ev w m h02 (by omega) hw
  have hl : lo2.length = lo.length := by omega
  obtain ⟨b1, b2, b3, b4, b5⟩ := both_box r2 s2 hl
  have hap := ap_comm lo hi lo2 hi2 hl
  have hnn := ap_nonneg r2 s2 hl
  refine Ev.step (f := fun k => (box_Of.f k v).bind fun bt261 => ((box_Of.f k w).bind fun bt269 => ((box_Apart.f k bt261.1 bt261.2.1 bt269.1 bt269.2.1).bind fun bt277 => ((box_Apart.f k bt269.1 bt269.2.1 bt261.1 bt261.2.1).bind fun bt279 => ((box_Both.f k bt261.1 bt261.2.1 bt269.1 bt269.2.1).bind fun bt281 => (if bt261.2.2 = true then (if bt269.2.2 = true then (if bt277.2 = true then (if bt279.2 = true then (if bt281.2.2 = true then (if bt277.1 = bt279.1 then (chainmanlaw45_BoxApart.j1 k v w bt277.1 (decide (bt277.1 < 0)) bt261.1 bt261.2.1 bt281.1 bt281.2.1) else (chainmanlaw45_BoxApart.j1 k v w bt277.1 true bt261.1 bt261.2.1 bt281.1 bt281.2.1)) else (chainmanlaw45_BoxApart.j1 k v w bt277.1 true bt261.1 bt261.2.1 bt281.1 bt281.2.1)) else (chainmanlaw45_BoxApart.j1 k v w bt277.1 true bt261.1 bt261.2.1 bt281.1 bt281.2.1)) else (chainmanlaw45_BoxApart.j1 k v w bt277.1 true bt261.1 bt261.2.1 bt281.1 bt281.2.1)) else (chainmanlaw45_BoxApart.j1 k v w bt277.1 true bt261.1 bt261.2.1 bt281.1 bt281.2.1)) else (chainmanlaw45_BoxApart.j1 k v w bt277.1 true bt261.1 bt261.2.1 bt281.1 bt281.2.1))))))) (fun k => ?_) (Ev.bind r1 (Ev.bind s1 ?_))
  · rw [chainmanlaw45_BoxApart.j0, if_neg (by decide)]
  · refine Ev.bind (apart_ev r2 s2 hl) (Ev.bind (apart_ev s2 r2 hl.symm) (Ev.bind (both_ev r2 s2 hl) ?_))
    simp only [if_true, if_pos hap, decide_eq_false (show ¬ ap lo hi lo2 hi2 < 0 by omega)]
    refine Ev.step (fun k => ?_) (apart_loop (ap lo hi lo2 hi2) (List.zipWith (fun a b => mn a b) lo lo2) (List.zipWith (fun a b => mx a b) hi hi2) (by omega) (by omega) m (fun x hx => ⟨(hv x hx).1, (hv x hx).2, b3 x (r4 x hx)⟩) (fun x hx => ⟨(hw x hx).1, (hw x hx).2, b4 x (s4 x hx)⟩) b1 r2 (by omega) r3 (fun x hx y hy => ?_) b5 v.length 0 (by omega))
    · rw [chainmanlaw45_BoxApart.j1, if_neg (by decide)]; rfl
    · have := ap_le (r4 x hx) (s4 y hy) hl lo.length (Nat.le_refl _)
      rw [r3] at this
      unfold ap
      rw [r3]
      exact this
theorem apart_no (v w : List (List Int)) : Ev (fun k => chainmanlaw45_BoxApart.j0 k v w true) true := by
  refine Ev.step (fun k => ?_) awake_ev
  rw [chainmanlaw45_BoxApart.j0, if_pos rfl]
theorem BoxApart : chainmanlaw45_BoxApart.Pure := by
  intro v w _ _
  suffices H : Ev (fun k => chainmanlaw45_BoxApart.f k v w) true from H.rounds
  unfold chainmanlaw45_BoxApart.f
  obtain ⟨b1, p1, q1⟩ := few_ev v 8 12 (by decide)
  refine Ev.bind p1 ?_
  cases b1
  · exact apart_no v w
  obtain ⟨f1, f2⟩ := q1 rfl
  simp only [if_true]
  obtain ⟨b2, p2, q2⟩ := few_ev w 8 12 (by decide)
  refine Ev.bind p2 ?_
  cases b2
  · exact apart_no v w
  obtain ⟨f3, f4⟩ := q2 rfl
  simp only [if_true]
  obtain ⟨b3, p3, q3⟩ := vright_ev v (by omega)
  refine Ev.bind p3 ?_
  cases b3
  · exact apart_no v w
  obtain ⟨g1, g2⟩ := q3 rfl
  simp only [if_true]
  obtain ⟨b4, p4, q4⟩ := vright_ev w (by omega)
  refine Ev.bind p4 ?_
  cases b4
  · exact apart_no v w
  obtain ⟨g3, g4⟩ := q4 rfl
  have e0 : rd_L1 v 0 = v.headD [] := by cases v <;> rfl
  have e1 : rd_L1 w 0 = w.headD [] := by cases w <;> rfl
  simp only [if_true, if_pos (show 0 < (v.length : Int) by omega), if_pos (show 0 < (w.length : Int) by omega), e0, e1]
  by_cases c : (v.headD []).length = (w.headD []).length
  · have : (((v.headD []).length : Int) != ((w.headD []).length : Int)) = false := by rw [c]; exact bne_self_eq_false _
    simp only [this]
    exact apart_main v w (v.headD []).length f1 f3 g1 g3 g2 (fun y hy => ⟨(g4 y hy).1, by rw [(g4 y hy).2, c]⟩)
  · have : (((v.headD []).length : Int) != ((w.headD []).length : Int)) = true := by rw [bne_iff_ne]; omega
    simp only [this]
    exact apart_no v w

end Go.Proofs.Ytgpgekjhpkakbaa.Pure
