/- The Go functions that the law reaches, as plain Lean functions, and proofs that the calls of the machine come to them, or the row of the law over them, for every input that the row speaks of; written by a program of this session (wip/tool/mkprint.py) out of the translation and of hand-made templates. -/
import Derived.Test.YtgpgekjhpkakbaaPCellOncex0
import Derived.Test.YtgpgekjhpkakbaaPCellOncex1
import Derived.Test.YtgpgekjhpkakbaaPCellOncex2
import Derived.Test.YtgpgekjhpkakbaaPCellOncex3
namespace Go.Proofs.Ytgpgekjhpkakbaa.PCellOnce
open Go.RowKit Go.Proofs.YtgpgekjhpkakbaaW.PrintWords Go.Proofs.YtgpgekjhpkakbaaW.PrintLast Go.Proofs.YtgpgekjhpkakbaaW.PrintMore
attribute [local go_sem] max2_int min2_int max_two min_two max_three min_three max_four min_four   -- for this text's walks alone
set_option linter.unusedVariables false
set_option linter.unusedSimpArgs false

/-! ### chainmanlaw23_CellOnce: function 5 -/
/-! ### whole numbers as floats: told exactly, added exactly, read back -/
namespace Fl
open Ieee
theorem log2_shift (m b : Nat) (hm : m ≠ 0) : (m * 2 ^ b).log2 = m.log2 + b := by
  have hp : 0 < 2 ^ b := Nat.two_pow_pos b
  have hne : m * 2 ^ b ≠ 0 := Nat.mul_ne_zero hm (by omega)
  rw [Nat.log2_eq_iff hne]
  have h1 := Nat.log2_self_le hm
  have h2 := Nat.lt_log2_self (n := m)
  constructor
  · rw [Nat.pow_add]; exact Nat.mul_le_mul_right _ h1
  · rw [show m.log2 + b + 1 = (m.log2 + 1) + b by omega, Nat.pow_add]
    exact Nat.mul_lt_mul_of_pos_right h2 hp
theorem cut_exact (way : Toward) (neg : Bool) (m b : Nat) (hm : m ≠ 0) : way.cut neg (m * 2 ^ b) b = m := by
  have hp : 0 < 2 ^ b := Nat.two_pow_pos b
  unfold Toward.cut
  have hl : min b ((m * 2 ^ b).log2 + 2) = b := by rw [log2_shift m b hm]; omega
  simp only [hl, Nat.one_shiftLeft, Nat.mul_mod_left, Nat.mul_div_cancel _ hp]
  cases way <;> simp <;> omega
/-- A number's word hangs on no digits that are nought. -/
theorem nearest_shift (neg : Bool) (m b : Nat) (hm : m ≠ 0) (hl : m.log2 ≤ 52) : double.nearest neg (m * 2 ^ b) (-(b : Int)) = double.word neg (((m.log2 + 1022 : Nat)) * 2 ^ 52 + m * 2 ^ (52 - m.log2)) := by
  have hp : 0 < 2 ^ b := Nat.two_pow_pos b
  have hne : m * 2 ^ b ≠ 0 := Nat.mul_ne_zero hm (by omega)
  unfold Format.nearest
  rw [if_neg hne]
  have hlast : max (-(b : Int) + ((m * 2 ^ b).log2 : Nat) - (double.fractionBits : Nat)) double.leastPlace = (m.log2 : Int) - 52 := by
    rw [log2_shift m b hm]
    show max (-(b : Int) + ((m.log2 + b : Nat) : Int) - 52) (-1074) = _
    omega
  simp only [hlast]
  have hk : Toward.even.cut neg ((m * 2 ^ b) <<< (-(b : Int) - ((m.log2 : Int) - 52)).toNat) (((m.log2 : Int) - 52) - -(b : Int)).toNat = m * 2 ^ (52 - m.log2) := by
    rw [Nat.shiftLeft_eq]
    by_cases c : b ≤ 52 - m.log2
    · rw [show (((m.log2 : Int) - 52) - -(b : Int)).toNat = 0 by omega, show (-(b : Int) - ((m.log2 : Int) - 52)).toNat = 52 - m.log2 - b by omega, Nat.mul_assoc, ← Nat.pow_add, show b + (52 - m.log2 - b) = 52 - m.log2 by omega]
      have := cut_exact .even neg (m * 2 ^ (52 - m.log2)) 0 (Nat.mul_ne_zero hm (by have := Nat.two_pow_pos (52 - m.log2); omega))
      rw [Nat.pow_zero, Nat.mul_one] at this
      exact this
    · rw [show (-(b : Int) - ((m.log2 : Int) - 52)).toNat = 0 by omega, Nat.pow_zero, Nat.mul_one, show (((m.log2 : Int) - 52) - -(b : Int)).toNat = b - (52 - m.log2) by omega]
      have := cut_exact .even neg (m * 2 ^ (52 - m.log2)) (b - (52 - m.log2)) (Nat.mul_ne_zero hm (by have := Nat.two_pow_pos (52 - m.log2); omega))
      rw [Nat.mul_assoc, ← Nat.pow_add, show 52 - m.log2 + (b - (52 - m.log2)) = b by omega] at this
      exact this
  rw [hk]
  have hr : (((m.log2 : Int) - 52) - double.leastPlace).toNat = m.log2 + 1022 := by
    show (((m.log2 : Int) - 52) - (-1074)).toNat = _
    omega
  rw [hr]
  have h2 : m * 2 ^ (52 - m.log2) < 2 ^ 53 := by
    have := Nat.lt_log2_self (n := m)
    have h3 : m * 2 ^ (52 - m.log2) < 2 ^ (m.log2 + 1) * 2 ^ (52 - m.log2) := Nat.mul_lt_mul_of_pos_right this (Nat.two_pow_pos _)
    rw [← Nat.pow_add, show m.log2 + 1 + (52 - m.log2) = 53 by omega] at h3
    exact h3
  congr 1
  show min ((m.log2 + 1022) * 2 ^ 52 + _) (2047 * 2 ^ 52) = _
  generalize m * 2 ^ (52 - m.log2) = k at *
  omega
set_option maxRecDepth 100000 in
/-- What the word of a whole number is read as. -/
theorem read_word (neg : Bool) (L k : Nat) (hL : L ≤ 52) (h1 : 2 ^ 52 ≤ k) (h2 : k < 2 ^ 53) : double.read (double.word neg ((L + 1022) * 2 ^ 52 + k)) = .number neg k ((L : Int) - 52) := by
  have hs : double.signWeight = 2 ^ 63 := by decide
  have hb : double.binade = 2 ^ 52 := by decide
  have hi : double.infRung = 2047 * 2 ^ 52 := by decide
  have hlp : double.leastPlace = -1074 := by decide
  have hr : (L + 1022) * 2 ^ 52 + k < 2 ^ 63 := by omega
  have hw1 : double.word neg ((L + 1022) * 2 ^ 52 + k) % double.signWeight = (L + 1022) * 2 ^ 52 + k := by
    unfold Format.word
    rw [hs]
    cases neg <;> simp <;> omega
  have hw2 : (double.word neg ((L + 1022) * 2 ^ 52 + k) / double.signWeight % 2 == 1) = neg := by
    unfold Format.word
    rw [hs]
    cases neg
    · simp; omega
    · simp; omega
  unfold Format.read
  simp only [hw1, hw2, hb, hi, hlp]
  rw [if_neg (by omega), if_pos (by omega)]
  have e1 : 2 ^ 52 + ((L + 1022) * 2 ^ 52 + k) % 2 ^ 52 = k := by omega
  have e2 : ((L + 1022) * 2 ^ 52 + k) / 2 ^ 52 - 1 = L + 1022 := by omega
  rw [e1, e2]
  congr 1
  omega
theorem log_small (m : Nat) (hm : m ≠ 0) (h : m < 2 ^ 53) : m.log2 ≤ 52 := by
  have := (Nat.log2_lt hm).2 h
  omega
theorem mant (m : Nat) (hm : m ≠ 0) (h : m < 2 ^ 53) : 2 ^ 52 ≤ m * 2 ^ (52 - m.log2) ∧ m * 2 ^ (52 - m.log2) < 2 ^ 53 := by
  have hl := log_small m hm h
  have h1 := Nat.log2_self_le hm
  have h2 := Nat.lt_log2_self (n := m)
  constructor
  · have h3 : 2 ^ m.log2 * 2 ^ (52 - m.log2) ≤ m * 2 ^ (52 - m.log2) := Nat.mul_le_mul_right _ h1
    rw [← Nat.pow_add, show m.log2 + (52 - m.log2) = 52 by omega] at h3
    exact h3
  · have h3 : m * 2 ^ (52 - m.log2) < 2 ^ (m.log2 + 1) * 2 ^ (52 - m.log2) := Nat.mul_lt_mul_of_pos_right h2 (Nat.two_pow_pos _)
    rw [← Nat.pow_add, show m.log2 + 1 + (52 - m.log2) = 53 by omega] at h3
    exact h3
theorem nearest_int (n : Int) (h0 : n ≠ 0) (h : n.natAbs < 2 ^ 53) : FloatKind.f64.nearest n = double.word (decide (n < 0)) ((n.natAbs.log2 + 1022) * 2 ^ 52 + n.natAbs * 2 ^ (52 - n.natAbs.log2)) := by
  have := nearest_shift (decide (n < 0)) n.natAbs 0 (by omega) (log_small _ (by omega) h)
  rw [Nat.pow_zero, Nat.mul_one] at this
  exact this
theorem read_int (n : Int) (h0 : n ≠ 0) (h : n.natAbs < 2 ^ 53) : double.read (FloatKind.f64.nearest n) = .number (decide (n < 0)) (n.natAbs * 2 ^ (52 - n.natAbs.log2)) ((n.natAbs.log2 : Int) - 52) := by
  obtain ⟨m1, m2⟩ := mant n.natAbs (by omega) h
  rw [nearest_int n h0 h, read_word _ _ _ (log_small _ (by omega) h) m1 m2]
theorem read_zero : double.read (FloatKind.f64.nearest 0) = .number false 0 (-1074) := by decide +kernel
/-- A whole number told as a float is read back. -/
theorem back_int (n : Int) (h : n.natAbs < 2 ^ 53) : (FloatKind.f64.decode (FloatKind.f64.nearest n)).toInt .zero = some n := by
  show (double.read (FloatKind.f64.nearest n)).toInt .zero = some n
  by_cases h0 : n = 0
  · subst h0; rw [read_zero]; decide +kernel
  · rw [read_int n h0 h]
    have hl := log_small n.natAbs (by omega) h
    unfold Datum.toInt Datum.integral
    have e1 : ((n.natAbs.log2 : Int) - 52).toNat = 0 := by omega
    have e2 : (-((n.natAbs.log2 : Int) - 52)).toNat = 52 - n.natAbs.log2 := by omega
    simp only [e1, e2, Nat.shiftLeft_zero, cut_exact .zero (decide (n < 0)) n.natAbs (52 - n.natAbs.log2) (by omega)]
    unfold signed
    simp only [Nat.shiftLeft_zero, decide_eq_true_eq, Option.some.injEq]
    split <;> omega
theorem read_gen (a : Int) (h : a.natAbs < 2 ^ 53) : ∃ B : Nat, double.read (FloatKind.f64.nearest a) = .number (decide (a < 0)) (a.natAbs * 2 ^ B) (-(B : Int)) := by
  by_cases h0 : a = 0
  · subst h0; obtain ⟨K, hK⟩ : ∃ K : Nat, K = 1074 := ⟨_, rfl⟩; refine ⟨K, ?_⟩; rw [read_zero, show (0 : Int).natAbs = 0 from rfl, Nat.zero_mul]; subst hK; rfl
  · refine ⟨52 - a.natAbs.log2, ?_⟩
    have hl := log_small a.natAbs (by omega) h
    rw [read_int a h0 h]
    congr 1
    omega
theorem signed_gen (a : Int) (B M : Nat) (h : B ≤ M) : signed (decide (a < 0)) (a.natAbs * 2 ^ B) (M - B) = a * ((2 ^ M : Nat) : Int) := by
  unfold signed
  rw [Nat.shiftLeft_eq, Nat.mul_assoc, ← Nat.pow_add, show B + (M - B) = M by omega, Int.natCast_mul]
  by_cases c : a < 0
  · rw [if_pos (by simpa using c), ← Int.neg_mul, show -((a.natAbs : Nat) : Int) = a by omega]
  · rw [if_neg (by simpa using c), show ((a.natAbs : Nat) : Int) = a by omega]
/-- Whole numbers are added exactly. -/
theorem add_int (a b : Int) (ha : a.natAbs < 2 ^ 52) (hb : b.natAbs < 2 ^ 52) : double.add (FloatKind.f64.nearest a) (FloatKind.f64.nearest b) = some (FloatKind.f64.nearest (a + b)) := by
  obtain ⟨B, eB⟩ := read_gen a (by omega)
  obtain ⟨C, eC⟩ := read_gen b (by omega)
  unfold Format.add
  rw [eB, eC]
  obtain ⟨M, hM, h1, h2⟩ : ∃ M : Nat, min (-(B : Int)) (-(C : Int)) = -(M : Int) ∧ B ≤ M ∧ C ≤ M := ⟨max B C, by omega, by omega, by omega⟩
  unfold Datum.sum
  simp only [hM, Option.map_some, Option.some.injEq]
  rw [show (-(B : Int) - -(M : Int)).toNat = M - B by omega, show (-(C : Int) - -(M : Int)).toNat = M - C by omega, signed_gen a B M h1, signed_gen b C M h2, ← Int.add_mul]
  have hp : 0 < 2 ^ M := Nat.two_pow_pos M
  have hpi : (0 : Int) < ((2 ^ M : Nat) : Int) := by omega
  by_cases c : a + b = 0
  · rw [c, Int.zero_mul, if_pos rfl]
    have hs : (decide (a < 0) && decide (b < 0)) = false := by
      rw [Bool.and_eq_false_iff, decide_eq_false_iff_not, decide_eq_false_iff_not]; omega
    rw [hs]
    show double.nearest false 0 _ = double.nearest (decide ((0 : Int) < 0)) 0 0
    unfold Format.nearest
    rw [if_pos rfl, if_pos rfl]
    rfl
  · have hne : (a + b) * ((2 ^ M : Nat) : Int) ≠ 0 := Int.mul_ne_zero c (by omega)
    rw [if_neg hne, Int.natAbs_mul, Int.natAbs_natCast]
    have hd : decide ((a + b) * ((2 ^ M : Nat) : Int) < 0) = decide (a + b < 0) := by
      refine decide_eq_decide.mpr ⟨fun h => ?_, fun h => Int.mul_neg_of_neg_of_pos h hpi⟩
      by_cases q : a + b < 0
      · exact q
      · have := Int.mul_nonneg (show 0 ≤ a + b by omega) (show (0 : Int) ≤ ((2 ^ M : Nat) : Int) by omega)
        omega
    rw [hd]
    show double.nearest _ _ _ = _
    rw [nearest_shift _ _ M (by omega) (log_small _ (by omega) (by omega)), nearest_int (a + b) c (by omega)]
theorem one_bits : FloatKind.f64.nearest 1 = 4607182418800017408 := by decide +kernel
theorem neg_bits : FloatKind.f64.nearest (-1) = 13830554455654793216 := by decide +kernel
theorem zero_bits : FloatKind.f64.nearest 0 = 0 := by decide +kernel
end Fl
/-- How often a neighbour is met by the first ways: (ax i, ay i) is where the one comes to, (bx i, by i) the other. -/
def chainmanlaw23_CellOnce.hit (x y q0 q1 : Int) : Int := if (x == q0 && (y == q1)) = true then 1 else 0
def chainmanlaw23_CellOnce.f (a0 a1 a2 a3 : Int) : Option Bool :=
  if (-2147483648 ≤ a0 ∧ a0 ≤ 2147483647) ∧ (-2147483648 ≤ a1 ∧ a1 ≤ 2147483647) ∧ (-128 ≤ a2 ∧ a2 ≤ 127) ∧ (-128 ≤ a3 ∧ a3 ≤ 127) then some true else none
theorem chainmanlaw23_CellOnce.kb3 {W0 W : World} {p q r : Addr} {a b c : Value} (hp : p.block < W0.heap.size) (hq : q.block < W0.heap.size) (hr : r.block < W0.heap.size) (ha : W0.cell? p = some a) (hb : W0.cell? q = some b) (hc : W0.cell? r = some c) (h : Below W0.heap.size W0 W) :
    Below W0.heap.size W0 W ∧ W.cell? p = some a ∧ W.cell? q = some b ∧ W.cell? r = some c := ⟨h, (h.cell hp).trans ha, (h.cell hq).trans hb, (h.cell hr).trans hc⟩
theorem chainmanlaw23_CellOnce.kb4 {W0 W : World} {g h : Nat} {a b c d : Value} (hp : g < W0.heap.size) (hq : h < W0.heap.size) (ha : W0.cell? ⟨g, 0, none⟩ = some a) (hb : W0.cell? ⟨g, 1, none⟩ = some b) (hc : W0.cell? ⟨h, 0, none⟩ = some c) (hd : W0.cell? ⟨h, 1, none⟩ = some d) (k : Below W0.heap.size W0 W) :
    Below W0.heap.size W0 W ∧ W.cell? ⟨g, 0, none⟩ = some a ∧ W.cell? ⟨g, 1, none⟩ = some b ∧ W.cell? ⟨h, 0, none⟩ = some c ∧ W.cell? ⟨h, 1, none⟩ = some d := ⟨k, (k.cell hp).trans ha, (k.cell hp).trans hb, (k.cell hq).trans hc, (k.cell hq).trans hd⟩
theorem chainmanlaw23_CellOnce.new {W W' : World} {a b : Value} {ty : TypeId} (hb : Below (W.alloc (.cells #[a, b] ty)).drew.heap.size (W.alloc (.cells #[a, b] ty)).drew W') : W'.cell? ⟨W.heap.size, 0, none⟩ = some a ∧ W'.cell? ⟨W.heap.size, 1, none⟩ = some b ∧ W'.frozen? ⟨W.heap.size, 0, none⟩ = false ∧ W'.frozen? ⟨W.heap.size, 1, none⟩ = false := by
  have h : W'.heap[W.heap.size]? = some (.cells #[a, b] ty (0, 0)) := blk_below (blk_drew (blk_new W _)) hb
  exact ⟨(blk_cell h 0).trans rfl, (blk_cell h 1).trans rfl, blk_frozen h 0, blk_frozen h 1⟩
attribute [local go_sem high] eqA23
attribute [local go_sem] chainmanlaw23_awake.run_store_cx
set_option maxHeartbeats 16000000 in
set_option maxRecDepth 100000 in
theorem chainmanlaw23_CellOnce.goes (a0 a1 a2 a3 p0 p1 q0 q1 ax0 ay0 bx0 by0 ax1 ay1 bx1 by1 ax2 ay2 bx2 by2 ax3 ay3 bx3 by3 : Int) (bes l1 l2 : Bool) (w : World)
    (hp0 : IntKind.i64.wrap (Int.tdiv a0 2) = p0) (hp1 : IntKind.i64.wrap (Int.tdiv a1 2) = p1) (hq0 : wrap64 (p0 + Int.tmod a2 4) = q0) (hq1 : wrap64 (p1 + Int.tmod a3 4) = q1)
    (hc0 : IntKind.i64.wrap a0 = a0) (hc1 : IntKind.i64.wrap a1 = a1) (hc2 : IntKind.i64.wrap a2 = a2) (hc3 : IntKind.i64.wrap a3 = a3)
    (hA0 : ∀ W, Calls Try.prog 16 #[.agg #[.int .i64 p0, .int .i64 p1], .complex .f64 4607182418800017408 0] W fun e w' => e = .returned (.tuple #[.agg #[.int .i64 ax0, .int .i64 ay0], .bool true]) ∧ Below W.heap.size W w') (hB0 : ∀ W, Calls Try.prog 16 #[.agg #[.int .i64 q0, .int .i64 q1], .complex .f64 4607182418800017408 0] W fun e w' => e = .returned (.tuple #[.agg #[.int .i64 bx0, .int .i64 by0], .bool true]) ∧ Below W.heap.size W w')
    (hA1 : ∀ W, Calls Try.prog 16 #[.agg #[.int .i64 p0, .int .i64 p1], .complex .f64 13830554455654793216 4607182418800017408] W fun e w' => e = .returned (.tuple #[.agg #[.int .i64 ax1, .int .i64 ay1], .bool true]) ∧ Below W.heap.size W w') (hB1 : ∀ W, Calls Try.prog 16 #[.agg #[.int .i64 q0, .int .i64 q1], .complex .f64 13830554455654793216 4607182418800017408] W fun e w' => e = .returned (.tuple #[.agg #[.int .i64 bx1, .int .i64 by1], .bool true]) ∧ Below W.heap.size W w')
    (hA2 : ∀ W, Calls Try.prog 16 #[.agg #[.int .i64 p0, .int .i64 p1], .complex .f64 0 4607182418800017408] W fun e w' => e = .returned (.tuple #[.agg #[.int .i64 ax2, .int .i64 ay2], .bool true]) ∧ Below W.heap.size W w') (hB2 : ∀ W, Calls Try.prog 16 #[.agg #[.int .i64 q0, .int .i64 q1], .complex .f64 0 4607182418800017408] W fun e w' => e = .returned (.tuple #[.agg #[.int .i64 bx2, .int .i64 by2], .bool true]) ∧ Below W.heap.size W w')
    (hA3 : ∀ W, Calls Try.prog 16 #[.agg #[.int .i64 p0, .int .i64 p1], .complex .f64 4607182418800017408 4607182418800017408] W fun e w' => e = .returned (.tuple #[.agg #[.int .i64 ax3, .int .i64 ay3], .bool true]) ∧ Below W.heap.size W w') (hB3 : ∀ W, Calls Try.prog 16 #[.agg #[.int .i64 q0, .int .i64 q1], .complex .f64 4607182418800017408 4607182418800017408] W fun e w' => e = .returned (.tuple #[.agg #[.int .i64 bx3, .int .i64 by3], .bool true]) ∧ Below W.heap.size W w')
    (hn : chainmanlaw23_CellOnce.hit ax0 ay0 q0 q1 + chainmanlaw23_CellOnce.hit bx0 by0 p0 p1 + chainmanlaw23_CellOnce.hit ax1 ay1 q0 q1 + chainmanlaw23_CellOnce.hit bx1 by1 p0 p1 + chainmanlaw23_CellOnce.hit ax2 ay2 q0 q1 + chainmanlaw23_CellOnce.hit bx2 by2 p0 p1 + chainmanlaw23_CellOnce.hit ax3 ay3 q0 q1 + chainmanlaw23_CellOnce.hit bx3 by3 p0 p1 = if bes = true then 1 else 0)
    (hS1 : ∀ W, Calls Try.prog 24 #[.agg #[.int .i64 p0, .int .i64 p1], .agg #[.int .i64 q0, .int .i64 q1]] W fun e w' => e = .returned (.bool bes) ∧ Below W.heap.size W w')
    (hS2 : ∀ W, Calls Try.prog 24 #[.agg #[.int .i64 q0, .int .i64 q1], .agg #[.int .i64 p0, .int .i64 p1]] W fun e w' => e = .returned (.bool bes) ∧ Below W.heap.size W w')
    (hL1 : ∀ W, Calls Try.prog 25 #[.agg #[.int .i64 p0, .int .i64 p1], .agg #[.int .i64 q0, .int .i64 q1]] W fun e w' => e = .returned (.bool l1) ∧ Below W.heap.size W w')
    (hL2 : ∀ W, Calls Try.prog 25 #[.agg #[.int .i64 q0, .int .i64 q1], .agg #[.int .i64 p0, .int .i64 p1]] W fun e w' => e = .returned (.bool l2) ∧ Below W.heap.size W w')
    (hl : bes = true → (l1 != l2) = true) :
    Calls Try.prog 5 #[.int .i32 a0, .int .i32 a1, .int .i8 a2, .int .i8 a3] w fun e w' => e = .returned (.bool true) ∧ Below w.heap.size w w' := by
  have HB := Aside0.mk (Below.refl w.heap.size w)
  have HN := Aside0.mk hn
  have HL := Aside0.mk hl
  clear hn hl
  have hWays := fun W => chainmanlaw23_awake.ways_calls W
  have hAw := fun W => chainmanlaw23_awake.calls true W rfl
  go_enter Try.func5, Try.ntmps5
  go_upto_region 1 with (fail)
  go_upto_region 2 with (first | ((with_reducible refine gate_dst (N := 9) rfl ?_); refine box_event ?hg (N := 9) ?hd (cs := #[.int .i64 0, .int .i64 0]) (t := 23) ?hr ?_; (case hd => rfl); (case hg => rfl); (case hr => first | (go_simp; done) | (go_simp; rfl)); intro gp hg wb hbox hb; have n0_ := Aside0.mk (below_step (by repeat (first | (with_reducible first | exact HB.out | apply below_alloc | apply pw_below_drewN | apply below_drew1) | exact HB.out)) hb); have n1_ := Aside0.mk hbox; have n3_ := Aside0.mk ((by rw [hg]; exact (below_size (by repeat (first | (with_reducible first | exact HB.out | apply below_alloc | apply pw_below_drewN | apply below_drew1) | exact HB.out))) : w.heap.size ≤ gp)); clear HB; have HB := n0_; have BKgp := n1_; have GEgp := n3_; clear n0_ n1_ n3_; clear hb hbox hg; have hz0 : World.cell? _ ⟨gp, 0, none⟩ = some (.int .i64 0) := (blk_cell BKgp.out 0).trans rfl; have hzf0 := blk_frozen BKgp.out 0; have hz1 : World.cell? _ ⟨gp, 1, none⟩ = some (.int .i64 0) := (blk_cell BKgp.out 1).trans rfl; have hzf1 := blk_frozen BKgp.out 1))
  obtain ⟨Wgp, hWgp⟩ : ∃ W_, W_ = ((wb.setCell ⟨gp, 0, none⟩ (.int .i64 p0)).setCell ⟨gp, 1, none⟩ (.int .i64 p1)) := ⟨_, rfl⟩
  have m0_ := Aside0.mk (by rw [hWgp]; exact (by refine blk_put (cs := #[.int .i64 p0, .int .i64 0]) ?_ 1 _ rfl; refine blk_put (cs := #[.int .i64 0, .int .i64 0]) ?_ 0 _ rfl; exact BKgp.out) : Wgp.heap[gp]? = some (.cells #[.int .i64 p0, .int .i64 p1] 23 (0, 0)))
  have mB_ := Aside0.mk (by rw [hWgp]; exact (by repeat (first | (with_reducible first | exact HB.out | apply below_alloc | apply pw_below_drewN | apply below_drew1 | refine below_set ?_ GEgp.out ) | exact HB.out)) : Below w.heap.size w Wgp)
  rw [← hWgp]
  clear hWgp BKgp HB
  have BKgp := m0_; have HB := mB_; clear m0_ mB_
  have hp0 : World.cell? _ ⟨gp, 0, none⟩ = some (.int .i64 p0) := (blk_cell BKgp.out 0).trans rfl; have hpf0 := blk_frozen BKgp.out 0; have hp1 : World.cell? _ ⟨gp, 1, none⟩ = some (.int .i64 p1) := (blk_cell BKgp.out 1).trans rfl; have hpf1 := blk_frozen BKgp.out 1
  go_upto_region 3 with (first | ((with_reducible refine gate_dst (N := 10) rfl ?_); refine box_event ?hg (N := 10) ?hd (cs := #[.int .i64 0, .int .i64 0]) (t := 23) ?hr ?_; (case hd => rfl); (case hg => rfl); (case hr => first | (go_simp; done) | (go_simp; rfl)); intro gq hg wb hbox hb; have n0_ := Aside0.mk (below_step (by repeat (first | (with_reducible first | exact HB.out | apply below_alloc | apply pw_below_drewN | apply below_drew1) | exact HB.out)) hb); have n1_ := Aside0.mk hbox; have n3_ := Aside0.mk ((by rw [hg]; exact (below_size (by repeat (first | (with_reducible first | exact HB.out | apply below_alloc | apply pw_below_drewN | apply below_drew1) | exact HB.out))) : w.heap.size ≤ gq)); have m0_ := Aside0.mk (blk_below (g := gp) (o := .cells #[.int .i64 p0, .int .i64 p1] 23 (0, 0)) (by (with_reducible repeat (first | refine blk_drewN ?_ _ | refine blk_drew ?_ | refine blk_alloc ?_ _)); exact BKgp.out) hb); have u0_ := Aside0.mk ((by rw [hg]; exact Nat.ne_of_lt (blk_lt (g := gp) (o := .cells #[.int .i64 p0, .int .i64 p1] 23 (0, 0)) (by (with_reducible repeat (first | refine blk_drewN ?_ _ | refine blk_drew ?_ | refine blk_alloc ?_ _)); exact BKgp.out)) : gp ≠ gq)); clear HB; clear BKgp; have BKgp := m0_; have NEgpgq := u0_; clear m0_ u0_; have HB := n0_; have BKgq := n1_; have GEgq := n3_; clear n0_ n1_ n3_; clear hb hbox hg; have hy0 : World.cell? _ ⟨gq, 0, none⟩ = some (.int .i64 0) := (blk_cell BKgq.out 0).trans rfl; have hyf0 := blk_frozen BKgq.out 0; have hy1 : World.cell? _ ⟨gq, 1, none⟩ = some (.int .i64 0) := (blk_cell BKgq.out 1).trans rfl; have hyf1 := blk_frozen BKgq.out 1))
  clear hp0 hpf0 hp1 hpf1
  obtain ⟨Wgq, hWgq⟩ : ∃ W_, W_ = ((wb.setCell ⟨gq, 0, none⟩ (.int .i64 q0)).setCell ⟨gq, 1, none⟩ (.int .i64 q1)) := ⟨_, rfl⟩
  have m0_ := Aside0.mk (by rw [hWgq]; exact (by refine blk_put (cs := #[.int .i64 q0, .int .i64 0]) ?_ 1 _ rfl; refine blk_put (cs := #[.int .i64 0, .int .i64 0]) ?_ 0 _ rfl; exact BKgq.out) : Wgq.heap[gq]? = some (.cells #[.int .i64 q0, .int .i64 q1] 23 (0, 0)))
  have m1_ := Aside0.mk (by rw [hWgq]; repeat (first | exact BKgp.out | refine blk_far ?_ NEgpgq.out _) : Wgq.heap[gp]? = some (.cells #[.int .i64 p0, .int .i64 p1] 23 (0, 0)))
  have mB_ := Aside0.mk (by rw [hWgq]; exact (by repeat (first | (with_reducible first | exact HB.out | apply below_alloc | apply pw_below_drewN | apply below_drew1 | refine below_set ?_ GEgq.out ) | exact HB.out)) : Below w.heap.size w Wgq)
  rw [← hWgq]
  clear hWgq BKgq HB BKgp
  have BKgq := m0_; have HB := mB_; clear m0_ mB_
  have BKgp := m1_; clear m1_
  go_upto_region 4 with (first | (go_at_call 15; with_reducible refine (hWays _).mono ?_; rintro e w' ⟨rfl, hb⟩; have k0_ := Aside0.mk (blk_below (g := gp) (o := .cells #[.int .i64 p0, .int .i64 p1] 23 (0, 0)) (by (with_reducible repeat (first | refine blk_drewN ?_ _ | refine blk_drew ?_ | refine blk_alloc ?_ _)); exact BKgp.out) hb); clear BKgp; have BKgp := k0_; clear k0_; have k1_ := Aside0.mk (blk_below (g := gq) (o := .cells #[.int .i64 q0, .int .i64 q1] 23 (0, 0)) (by (with_reducible repeat (first | refine blk_drewN ?_ _ | refine blk_drew ?_ | refine blk_alloc ?_ _)); exact BKgq.out) hb); clear BKgq; have BKgq := k1_; clear k1_; have n_ := Aside0.mk (below_step (by repeat (first | (with_reducible first | exact HB.out | apply below_alloc | apply pw_below_drewN | apply below_drew1) | exact HB.out)) hb); clear HB; have HB := n_; clear n_ hb; unfold chainmanlaw23_awake.ways) | ((with_reducible refine gate_dst (N := 11) rfl ?_); refine box_event ?hg (N := 11) ?hd (cs := #[.complex .f64 0 0, .complex .f64 0 0, .complex .f64 0 0, .complex .f64 0 0]) (t := 26) ?hr ?_; (case hd => rfl); (case hg => rfl); (case hr => first | (go_simp; done) | (go_simp; rfl)); intro gw hg wb hbox hb; have n0_ := Aside0.mk (below_step (by repeat (first | (with_reducible first | exact HB.out | apply below_alloc | apply pw_below_drewN | apply below_drew1) | exact HB.out)) hb); have n1_ := Aside0.mk hbox; have n3_ := Aside0.mk ((by rw [hg]; exact (below_size (by repeat (first | (with_reducible first | exact HB.out | apply below_alloc | apply pw_below_drewN | apply below_drew1) | exact HB.out))) : w.heap.size ≤ gw)); have m0_ := Aside0.mk (blk_below (g := gp) (o := .cells #[.int .i64 p0, .int .i64 p1] 23 (0, 0)) (by (with_reducible repeat (first | refine blk_drewN ?_ _ | refine blk_drew ?_ | refine blk_alloc ?_ _)); exact BKgp.out) hb); have u0_ := Aside0.mk ((by rw [hg]; exact Nat.ne_of_lt (blk_lt (g := gp) (o := .cells #[.int .i64 p0, .int .i64 p1] 23 (0, 0)) (by (with_reducible repeat (first | refine blk_drewN ?_ _ | refine blk_drew ?_ | refine blk_alloc ?_ _)); exact BKgp.out)) : gp ≠ gw)); have m1_ := Aside0.mk (blk_below (g := gq) (o := .cells #[.int .i64 q0, .int .i64 q1] 23 (0, 0)) (by (with_reducible repeat (first | refine blk_drewN ?_ _ | refine blk_drew ?_ | refine blk_alloc ?_ _)); exact BKgq.out) hb); have u1_ := Aside0.mk ((by rw [hg]; exact Nat.ne_of_lt (blk_lt (g := gq) (o := .cells #[.int .i64 q0, .int .i64 q1] 23 (0, 0)) (by (with_reducible repeat (first | refine blk_drewN ?_ _ | refine blk_drew ?_ | refine blk_alloc ?_ _)); exact BKgq.out)) : gq ≠ gw)); clear HB; clear BKgp; have BKgp := m0_; have NEgpgw := u0_; clear m0_ u0_; clear BKgq; have BKgq := m1_; have NEgqgw := u1_; clear m1_ u1_; have HB := n0_; have BKgw := n1_; have GEgw := n3_; clear n0_ n1_ n3_; clear hb hbox hg; have hx0 : World.cell? _ ⟨gw, 0, none⟩ = some (.complex .f64 0 0) := (blk_cell BKgw.out 0).trans rfl; have hxf0 := blk_frozen BKgw.out 0; have hx1 : World.cell? _ ⟨gw, 1, none⟩ = some (.complex .f64 0 0) := (blk_cell BKgw.out 1).trans rfl; have hxf1 := blk_frozen BKgw.out 1; have hx2 : World.cell? _ ⟨gw, 2, none⟩ = some (.complex .f64 0 0) := (blk_cell BKgw.out 2).trans rfl; have hxf2 := blk_frozen BKgw.out 2; have hx3 : World.cell? _ ⟨gw, 3, none⟩ = some (.complex .f64 0 0) := (blk_cell BKgw.out 3).trans rfl; have hxf3 := blk_frozen BKgw.out 3))
  obtain ⟨Wgw, hWgw⟩ : ∃ W_, W_ = ((((wb.setCell ⟨gw, 0, none⟩ (.complex .f64 4607182418800017408 0)).setCell ⟨gw, 1, none⟩ (.complex .f64 13830554455654793216 4607182418800017408)).setCell ⟨gw, 2, none⟩ (.complex .f64 0 4607182418800017408)).setCell ⟨gw, 3, none⟩ (.complex .f64 4607182418800017408 4607182418800017408)) := ⟨_, rfl⟩
  have m0_ := Aside0.mk (by rw [hWgw]; exact (by refine blk_put (cs := #[.complex .f64 4607182418800017408 0, .complex .f64 13830554455654793216 4607182418800017408, .complex .f64 0 4607182418800017408, .complex .f64 0 0]) ?_ 3 _ rfl; refine blk_put (cs := #[.complex .f64 4607182418800017408 0, .complex .f64 13830554455654793216 4607182418800017408, .complex .f64 0 0, .complex .f64 0 0]) ?_ 2 _ rfl; refine blk_put (cs := #[.complex .f64 4607182418800017408 0, .complex .f64 0 0, .complex .f64 0 0, .complex .f64 0 0]) ?_ 1 _ rfl; refine blk_put (cs := #[.complex .f64 0 0, .complex .f64 0 0, .complex .f64 0 0, .complex .f64 0 0]) ?_ 0 _ rfl; exact BKgw.out) : Wgw.heap[gw]? = some (.cells #[.complex .f64 4607182418800017408 0, .complex .f64 13830554455654793216 4607182418800017408, .complex .f64 0 4607182418800017408, .complex .f64 4607182418800017408 4607182418800017408] 26 (0, 0)))
  have m1_ := Aside0.mk (by rw [hWgw]; repeat (first | exact BKgp.out | refine blk_far ?_ NEgpgw.out _) : Wgw.heap[gp]? = some (.cells #[.int .i64 p0, .int .i64 p1] 23 (0, 0)))
  have m2_ := Aside0.mk (by rw [hWgw]; repeat (first | exact BKgq.out | refine blk_far ?_ NEgqgw.out _) : Wgw.heap[gq]? = some (.cells #[.int .i64 q0, .int .i64 q1] 23 (0, 0)))
  have mB_ := Aside0.mk (by rw [hWgw]; exact (by repeat (first | (with_reducible first | exact HB.out | apply below_alloc | apply pw_below_drewN | apply below_drew1 | refine below_set ?_ GEgw.out ) | exact HB.out)) : Below w.heap.size w Wgw)
  rw [← hWgw]
  clear hWgw BKgw HB BKgp BKgq
  have BKgw := m0_; have HB := mB_; clear m0_ mB_
  have BKgp := m1_; clear m1_
  have BKgq := m2_; clear m2_
  clear hc0 hc1 hc2 hc3 hp0 hp1 hq0 hq1
  go_wp2
  go_loopg [12, 13] 5 (fun gg s12 s13 wr => ∃ x n : Int, s13 = .int .i64 x ∧ s12 = .int .i64 n ∧ Aside0 ((x = 0 ∧ n = 0) ∨ (x = 1 ∧ n = chainmanlaw23_CellOnce.hit ax0 ay0 q0 q1 + chainmanlaw23_CellOnce.hit bx0 by0 p0 p1) ∨ (x = 2 ∧ n = chainmanlaw23_CellOnce.hit ax0 ay0 q0 q1 + chainmanlaw23_CellOnce.hit bx0 by0 p0 p1 + chainmanlaw23_CellOnce.hit ax1 ay1 q0 q1 + chainmanlaw23_CellOnce.hit bx1 by1 p0 p1) ∨ (x = 3 ∧ n = chainmanlaw23_CellOnce.hit ax0 ay0 q0 q1 + chainmanlaw23_CellOnce.hit bx0 by0 p0 p1 + chainmanlaw23_CellOnce.hit ax1 ay1 q0 q1 + chainmanlaw23_CellOnce.hit bx1 by1 p0 p1 + chainmanlaw23_CellOnce.hit ax2 ay2 q0 q1 + chainmanlaw23_CellOnce.hit bx2 by2 p0 p1) ∨ (x = 4 ∧ n = chainmanlaw23_CellOnce.hit ax0 ay0 q0 q1 + chainmanlaw23_CellOnce.hit bx0 by0 p0 p1 + chainmanlaw23_CellOnce.hit ax1 ay1 q0 q1 + chainmanlaw23_CellOnce.hit bx1 by1 p0 p1 + chainmanlaw23_CellOnce.hit ax2 ay2 q0 q1 + chainmanlaw23_CellOnce.hit bx2 by2 p0 p1 + chainmanlaw23_CellOnce.hit ax3 ay3 q0 q1 + chainmanlaw23_CellOnce.hit bx3 by3 p0 p1)) ∧ Aside0 (4 - x.toNat ≤ gg) ∧ Aside0 (Below w.heap.size w wr) ∧ Aside0 (wr.heap[gp]? = some (.cells #[.int .i64 p0, .int .i64 p1] 23 (0, 0))) ∧ Aside0 (wr.heap[gq]? = some (.cells #[.int .i64 q0, .int .i64 q1] 23 (0, 0))) ∧ Aside0 (wr.heap[gw]? = some (.cells #[.complex .f64 4607182418800017408 0, .complex .f64 13830554455654793216 4607182418800017408, .complex .f64 0 4607182418800017408, .complex .f64 4607182418800017408 4607182418800017408] 26 (0, 0))))
  case atStart => exact ⟨0, 0, rfl, rfl, ⟨.inl ⟨rfl, rfl⟩⟩, ⟨by decide⟩, HB, BKgp, BKgq, BKgw⟩
  case round =>
    clear HB BKgp BKgq BKgw
    have hb01 : ∀ x y u v : Int, 0 ≤ chainmanlaw23_CellOnce.hit x y u v ∧ chainmanlaw23_CellOnce.hit x y u v ≤ 1 := by intro x y u v; unfold chainmanlaw23_CellOnce.hit; split <;> omega
    obtain ⟨x, n, rfl, rfl, HX, HM, HB, BKgp, BKgq, BKgw⟩ := hrel
    rcases HX.out with ⟨rfl, hn⟩ | ⟨rfl, hn⟩ | ⟨rfl, hn⟩ | ⟨rfl, hn⟩ | ⟨rfl, hn⟩
    · have hbd : 0 ≤ n ∧ n ≤ 0 := by rw [hn]; constructor <;> omega
      have HNi := Aside0.mk hn
      clear hn hb01 HX
      have hw1 : IntKind.i64.wrap (n + 1) = n + 1 := by rw [i64_w]; unfold wrap64; omega
      have hw2 : IntKind.i64.wrap (n + 1 + 1) = n + 1 + 1 := by rw [i64_w]; unfold wrap64; omega
      clear hbd
      have HB0 := Below.refl wr.heap.size wr
      have L0 : gp < wr.heap.size := blk_lt BKgp.out
      have L1 : gw < wr.heap.size := blk_lt BKgw.out
      have c0 : wr.cell? ⟨gp, 0, none⟩ = some (.int .i64 p0) := (blk_cell BKgp.out 0).trans rfl
      have c1 : wr.cell? ⟨gp, 1, none⟩ = some (.int .i64 p1) := (blk_cell BKgp.out 1).trans rfl
      have c2 : wr.cell? ⟨gw, 0, none⟩ = some (.complex .f64 4607182418800017408 0) := (blk_cell BKgw.out 0).trans rfl
      go_upto_region 8 with (fail)
      go_cut [14, 15] (fun va vb wc => ∃ ga : Nat, va = .pointer (some ⟨ga, 0, none⟩) ∧ vb = .bool true ∧ Aside0 (Below wr.heap.size wr wc) ∧ Aside0 (wc.heap[ga]? = some (.cells #[.int .i64 ax0, .int .i64 ay0] 23 (0, 0))))
      case first =>
        go_region_held3 (fun w' => Below wr.heap.size wr w' ∧ w'.cell? ⟨gp, 0, none⟩ = some (.int .i64 p0) ∧ w'.cell? ⟨gp, 1, none⟩ = some (.int .i64 p1) ∧ w'.cell? ⟨gw, 0, none⟩ = some (.complex .f64 4607182418800017408 0)) (first | (refine chainmanlaw23_CellOnce.kb3 L0 L0 L1 c0 c1 c2 ?_; repeat (first | exact HB0 | exact (And.left (by assumption)) | exact below_step (And.left (by assumption)) hb | exact below_step (below_drew1 HB0) hb | exact below_step (below_drew1 (below_alloc HB0 _)) hb | refine below_set ?_ (Nat.le_refl _) | refine below_drew1 ?_ | refine below_alloc ?_ _))) (first | (go_at_call 16; with_reducible refine (hA0 _).mono ?_; rintro e w' ⟨rfl, hb⟩; (try have hz := chainmanlaw23_CellOnce.new hb); (try obtain ⟨hz0, hz1, hz2, hz3⟩ := hz)))
        · (try go_wp2)
          go_meet
          case rel => exact ⟨_, rfl, rfl, ⟨below_alloc (below_step (below_drew1 HB0) hb) _⟩, ⟨blk_new _ _⟩⟩
        · (try go_wp2)
          go_meet
          case rel => exact ⟨_, rfl, rfl, ⟨below_set (below_set (below_step (below_drew1 (below_alloc HB0 _)) hb) (Nat.le_refl _)) (Nat.le_refl _)⟩, ⟨blk_put (blk_put (blk_below (blk_drew (blk_new wr _)) hb) 0 _ rfl) 1 _ rfl⟩⟩
      case rest =>
        obtain ⟨ga, rfl, rfl, HC, BKga⟩ := hcut
        have k_ := Aside0.mk (blk_below (g := gp) (o := .cells #[.int .i64 p0, .int .i64 p1] 23 (0, 0)) BKgp.out HC.out); clear BKgp; have BKgp := k_; clear k_
        have k_ := Aside0.mk (blk_below (g := gq) (o := .cells #[.int .i64 q0, .int .i64 q1] 23 (0, 0)) BKgq.out HC.out); clear BKgq; have BKgq := k_; clear k_
        have k_ := Aside0.mk (blk_below (g := gw) (o := .cells #[.complex .f64 4607182418800017408 0, .complex .f64 13830554455654793216 4607182418800017408, .complex .f64 0 4607182418800017408, .complex .f64 4607182418800017408 4607182418800017408] 26 (0, 0)) BKgw.out HC.out); clear BKgw; have BKgw := k_; clear k_
        have k_ := Aside0.mk (below_step HB.out HC.out); clear HB; have HB := k_; clear k_ HC HB0 L0 L1 c0 c1 c2
        have HB0 := Below.refl wc.heap.size wc
        have L0 : gq < wc.heap.size := blk_lt BKgq.out
        have L1 : gw < wc.heap.size := blk_lt BKgw.out
        have c0 : wc.cell? ⟨gq, 0, none⟩ = some (.int .i64 q0) := (blk_cell BKgq.out 0).trans rfl
        have c1 : wc.cell? ⟨gq, 1, none⟩ = some (.int .i64 q1) := (blk_cell BKgq.out 1).trans rfl
        have c2 : wc.cell? ⟨gw, 0, none⟩ = some (.complex .f64 4607182418800017408 0) := (blk_cell BKgw.out 0).trans rfl
        go_upto_region 9 with (fail)
        go_cut [16, 17] (fun va vb wd => ∃ gb : Nat, va = .pointer (some ⟨gb, 0, none⟩) ∧ vb = .bool true ∧ Aside0 (Below wc.heap.size wc wd) ∧ Aside0 (wd.heap[gb]? = some (.cells #[.int .i64 bx0, .int .i64 by0] 23 (0, 0))))
        case first =>
          go_region_held3 (fun w' => Below wc.heap.size wc w' ∧ w'.cell? ⟨gq, 0, none⟩ = some (.int .i64 q0) ∧ w'.cell? ⟨gq, 1, none⟩ = some (.int .i64 q1) ∧ w'.cell? ⟨gw, 0, none⟩ = some (.complex .f64 4607182418800017408 0)) (first | (refine chainmanlaw23_CellOnce.kb3 L0 L0 L1 c0 c1 c2 ?_; repeat (first | exact HB0 | exact (And.left (by assumption)) | exact below_step (And.left (by assumption)) hb | exact below_step (below_drew1 HB0) hb | exact below_step (below_drew1 (below_alloc HB0 _)) hb | refine below_set ?_ (Nat.le_refl _) | refine below_drew1 ?_ | refine below_alloc ?_ _))) (first | (go_at_call 16; with_reducible refine (hB0 _).mono ?_; rintro e w' ⟨rfl, hb⟩; (try have hz := chainmanlaw23_CellOnce.new hb); (try obtain ⟨hz0, hz1, hz2, hz3⟩ := hz)))
          · (try go_wp2)
            go_meet
            case rel => exact ⟨_, rfl, rfl, ⟨below_alloc (below_step (below_drew1 HB0) hb) _⟩, ⟨blk_new _ _⟩⟩
          · (try go_wp2)
            go_meet
            case rel => exact ⟨_, rfl, rfl, ⟨below_set (below_set (below_step (below_drew1 (below_alloc HB0 _)) hb) (Nat.le_refl _)) (Nat.le_refl _)⟩, ⟨blk_put (blk_put (blk_below (blk_drew (blk_new wc _)) hb) 0 _ rfl) 1 _ rfl⟩⟩
        case rest =>
          obtain ⟨gb, rfl, rfl, HC, BKgb⟩ := hcut
          have k_ := Aside0.mk (blk_below (g := gp) (o := .cells #[.int .i64 p0, .int .i64 p1] 23 (0, 0)) BKgp.out HC.out); clear BKgp; have BKgp := k_; clear k_
          have k_ := Aside0.mk (blk_below (g := gq) (o := .cells #[.int .i64 q0, .int .i64 q1] 23 (0, 0)) BKgq.out HC.out); clear BKgq; have BKgq := k_; clear k_
          have k_ := Aside0.mk (blk_below (g := gw) (o := .cells #[.complex .f64 4607182418800017408 0, .complex .f64 13830554455654793216 4607182418800017408, .complex .f64 0 4607182418800017408, .complex .f64 4607182418800017408 4607182418800017408] 26 (0, 0)) BKgw.out HC.out); clear BKgw; have BKgw := k_; clear k_
          have k_ := Aside0.mk (blk_below (g := ga) (o := .cells #[.int .i64 ax0, .int .i64 ay0] 23 (0, 0)) BKga.out HC.out); clear BKga; have BKga := k_; clear k_
          have k_ := Aside0.mk (below_step HB.out HC.out); clear HB; have HB := k_; clear k_ HC HB0 L0 L1 c0 c1 c2
          have hp0 : World.cell? _ ⟨gp, 0, none⟩ = some (.int .i64 p0) := (blk_cell BKgp.out 0).trans rfl; have hpf0 := blk_frozen BKgp.out 0; have hp1 : World.cell? _ ⟨gp, 1, none⟩ = some (.int .i64 p1) := (blk_cell BKgp.out 1).trans rfl; have hpf1 := blk_frozen BKgp.out 1
          have hq0 : World.cell? _ ⟨gq, 0, none⟩ = some (.int .i64 q0) := (blk_cell BKgq.out 0).trans rfl; have hqf0 := blk_frozen BKgq.out 0; have hq1 : World.cell? _ ⟨gq, 1, none⟩ = some (.int .i64 q1) := (blk_cell BKgq.out 1).trans rfl; have hqf1 := blk_frozen BKgq.out 1
          have ha0 : World.cell? _ ⟨ga, 0, none⟩ = some (.int .i64 ax0) := (blk_cell BKga.out 0).trans rfl; have haf0 := blk_frozen BKga.out 0; have ha1 : World.cell? _ ⟨ga, 1, none⟩ = some (.int .i64 ay0) := (blk_cell BKga.out 1).trans rfl; have haf1 := blk_frozen BKga.out 1
          have hb0 : World.cell? _ ⟨gb, 0, none⟩ = some (.int .i64 bx0) := (blk_cell BKgb.out 0).trans rfl; have hbf0 := blk_frozen BKgb.out 0; have hb1 : World.cell? _ ⟨gb, 1, none⟩ = some (.int .i64 by0) := (blk_cell BKgb.out 1).trans rfl; have hbf1 := blk_frozen BKgb.out 1
          cases he1 : (ax0 == q0 && (ay0 == q1)) <;> cases he2 : (bx0 == p0 && (by0 == p1))
          · have k1 : chainmanlaw23_CellOnce.hit ax0 ay0 q0 q1 = 0 := by unfold chainmanlaw23_CellOnce.hit; rw [he1]; rfl
            have k2 : chainmanlaw23_CellOnce.hit bx0 by0 p0 p1 = 0 := by unfold chainmanlaw23_CellOnce.hit; rw [he2]; rfl
            have HK := Aside0.mk (show n = chainmanlaw23_CellOnce.hit ax0 ay0 q0 q1 + chainmanlaw23_CellOnce.hit bx0 by0 p0 p1 by have := HNi.out; omega)
            clear k1 k2
            go_wp2
            go_roundg 3
            case measure => have := HM.out; simp at this; omega
            case rel => exact ⟨1, n, rfl, by first | rfl | simp [hw1, hw2], ⟨.inr (.inl ⟨rfl, HK.out⟩)⟩, ⟨by decide⟩, ⟨by repeat (first | (with_reducible first | exact HB.out | apply below_alloc | apply pw_below_drewN | apply below_drew1) | exact HB.out)⟩, ⟨by (with_reducible repeat (first | refine blk_drewN ?_ _ | refine blk_drew ?_ | refine blk_alloc ?_ _)); exact BKgp.out⟩, ⟨by (with_reducible repeat (first | refine blk_drewN ?_ _ | refine blk_drew ?_ | refine blk_alloc ?_ _)); exact BKgq.out⟩, ⟨by (with_reducible repeat (first | refine blk_drewN ?_ _ | refine blk_drew ?_ | refine blk_alloc ?_ _)); exact BKgw.out⟩⟩
          · have k1 : chainmanlaw23_CellOnce.hit ax0 ay0 q0 q1 = 0 := by unfold chainmanlaw23_CellOnce.hit; rw [he1]; rfl
            have k2 : chainmanlaw23_CellOnce.hit bx0 by0 p0 p1 = 1 := by unfold chainmanlaw23_CellOnce.hit; rw [he2]; rfl
            have HK := Aside0.mk (show n + 1 = chainmanlaw23_CellOnce.hit ax0 ay0 q0 q1 + chainmanlaw23_CellOnce.hit bx0 by0 p0 p1 by have := HNi.out; omega)
            clear k1 k2
            go_wp2
            go_roundg 3
            case measure => have := HM.out; simp at this; omega
            case rel => exact ⟨1, n + 1, rfl, by first | rfl | simp [hw1, hw2], ⟨.inr (.inl ⟨rfl, HK.out⟩)⟩, ⟨by decide⟩, ⟨by repeat (first | (with_reducible first | exact HB.out | apply below_alloc | apply pw_below_drewN | apply below_drew1) | exact HB.out)⟩, ⟨by (with_reducible repeat (first | refine blk_drewN ?_ _ | refine blk_drew ?_ | refine blk_alloc ?_ _)); exact BKgp.out⟩, ⟨by (with_reducible repeat (first | refine blk_drewN ?_ _ | refine blk_drew ?_ | refine blk_alloc ?_ _)); exact BKgq.out⟩, ⟨by (with_reducible repeat (first | refine blk_drewN ?_ _ | refine blk_drew ?_ | refine blk_alloc ?_ _)); exact BKgw.out⟩⟩
          · have k1 : chainmanlaw23_CellOnce.hit ax0 ay0 q0 q1 = 1 := by unfold chainmanlaw23_CellOnce.hit; rw [he1]; rfl
            have k2 : chainmanlaw23_CellOnce.hit bx0 by0 p0 p1 = 0 := by unfold chainmanlaw23_CellOnce.hit; rw [he2]; rfl
            have HK := Aside0.mk (show n + 1 = chainmanlaw23_CellOnce.hit ax0 ay0 q0 q1 + chainmanlaw23_CellOnce.hit bx0 by0 p0 p1 by have := HNi.out; omega)
            clear k1 k2
            go_wp2
            go_roundg 3
            case measure => have := HM.out; simp at this; omega
            case rel => exact ⟨1, n + 1, rfl, by first | rfl | simp [hw1, hw2], ⟨.inr (.inl ⟨rfl, HK.out⟩)⟩, ⟨by decide⟩, ⟨by repeat (first | (with_reducible first | exact HB.out | apply below_alloc | apply pw_below_drewN | apply below_drew1) | exact HB.out)⟩, ⟨by (with_reducible repeat (first | refine blk_drewN ?_ _ | refine blk_drew ?_ | refine blk_alloc ?_ _)); exact BKgp.out⟩, ⟨by (with_reducible repeat (first | refine blk_drewN ?_ _ | refine blk_drew ?_ | refine blk_alloc ?_ _)); exact BKgq.out⟩, ⟨by (with_reducible repeat (first | refine blk_drewN ?_ _ | refine blk_drew ?_ | refine blk_alloc ?_ _)); exact BKgw.out⟩⟩
          · have k1 : chainmanlaw23_CellOnce.hit ax0 ay0 q0 q1 = 1 := by unfold chainmanlaw23_CellOnce.hit; rw [he1]; rfl
            have k2 : chainmanlaw23_CellOnce.hit bx0 by0 p0 p1 = 1 := by unfold chainmanlaw23_CellOnce.hit; rw [he2]; rfl
            have HK := Aside0.mk (show n + 1 + 1 = chainmanlaw23_CellOnce.hit ax0 ay0 q0 q1 + chainmanlaw23_CellOnce.hit bx0 by0 p0 p1 by have := HNi.out; omega)
            clear k1 k2
            go_wp2
            go_roundg 3
            case measure => have := HM.out; simp at this; omega
            case rel => exact ⟨1, n + 1 + 1, rfl, by first | rfl | simp [hw1, hw2], ⟨.inr (.inl ⟨rfl, HK.out⟩)⟩, ⟨by decide⟩, ⟨by repeat (first | (with_reducible first | exact HB.out | apply below_alloc | apply pw_below_drewN | apply below_drew1) | exact HB.out)⟩, ⟨by (with_reducible repeat (first | refine blk_drewN ?_ _ | refine blk_drew ?_ | refine blk_alloc ?_ _)); exact BKgp.out⟩, ⟨by (with_reducible repeat (first | refine blk_drewN ?_ _ | refine blk_drew ?_ | refine blk_alloc ?_ _)); exact BKgq.out⟩, ⟨by (with_reducible repeat (first | refine blk_drewN ?_ _ | refine blk_drew ?_ | refine blk_alloc ?_ _)); exact BKgw.out⟩⟩
    · have hbd : 0 ≤ n ∧ n ≤ 2 := by rw [hn]; have a0 := hb01 ax0 ay0 q0 q1; have b0 := hb01 bx0 by0 p0 p1; constructor <;> omega
      have HNi := Aside0.mk hn
      clear hn hb01 HX
      have hw1 : IntKind.i64.wrap (n + 1) = n + 1 := by rw [i64_w]; unfold wrap64; omega
      have hw2 : IntKind.i64.wrap (n + 1 + 1) = n + 1 + 1 := by rw [i64_w]; unfold wrap64; omega
      clear hbd
      have HB0 := Below.refl wr.heap.size wr
      have L0 : gp < wr.heap.size := blk_lt BKgp.out
      have L1 : gw < wr.heap.size := blk_lt BKgw.out
      have c0 : wr.cell? ⟨gp, 0, none⟩ = some (.int .i64 p0) := (blk_cell BKgp.out 0).trans rfl
      have c1 : wr.cell? ⟨gp, 1, none⟩ = some (.int .i64 p1) := (blk_cell BKgp.out 1).trans rfl
      have c2 : wr.cell? ⟨gw, 1, none⟩ = some (.complex .f64 13830554455654793216 4607182418800017408) := (blk_cell BKgw.out 1).trans rfl
      go_upto_region 8 with (fail)
      go_cut [14, 15] (fun va vb wc => ∃ ga : Nat, va = .pointer (some ⟨ga, 0, none⟩) ∧ vb = .bool true ∧ Aside0 (Below wr.heap.size wr wc) ∧ Aside0 (wc.heap[ga]? = some (.cells #[.int .i64 ax1, .int .i64 ay1] 23 (0, 0))))
      case first =>
        go_region_held3 (fun w' => Below wr.heap.size wr w' ∧ w'.cell? ⟨gp, 0, none⟩ = some (.int .i64 p0) ∧ w'.cell? ⟨gp, 1, none⟩ = some (.int .i64 p1) ∧ w'.cell? ⟨gw, 1, none⟩ = some (.complex .f64 13830554455654793216 4607182418800017408)) (first | (refine chainmanlaw23_CellOnce.kb3 L0 L0 L1 c0 c1 c2 ?_; repeat (first | exact HB0 | exact (And.left (by assumption)) | exact below_step (And.left (by assumption)) hb | exact below_step (below_drew1 HB0) hb | exact below_step (below_drew1 (below_alloc HB0 _)) hb | refine below_set ?_ (Nat.le_refl _) | refine below_drew1 ?_ | refine below_alloc ?_ _))) (first | (go_at_call 16; with_reducible refine (hA1 _).mono ?_; rintro e w' ⟨rfl, hb⟩; (try have hz := chainmanlaw23_CellOnce.new hb); (try obtain ⟨hz0, hz1, hz2, hz3⟩ := hz)))
        · (try go_wp2)
          go_meet
          case rel => exact ⟨_, rfl, rfl, ⟨below_alloc (below_step (below_drew1 HB0) hb) _⟩, ⟨blk_new _ _⟩⟩
        · (try go_wp2)
          go_meet
          case rel => exact ⟨_, rfl, rfl, ⟨below_set (below_set (below_step (below_drew1 (below_alloc HB0 _)) hb) (Nat.le_refl _)) (Nat.le_refl _)⟩, ⟨blk_put (blk_put (blk_below (blk_drew (blk_new wr _)) hb) 0 _ rfl) 1 _ rfl⟩⟩
      case rest =>
        obtain ⟨ga, rfl, rfl, HC, BKga⟩ := hcut
        have k_ := Aside0.mk (blk_below (g := gp) (o := .cells #[.int .i64 p0, .int .i64 p1] 23 (0, 0)) BKgp.out HC.out); clear BKgp; have BKgp := k_; clear k_
        have k_ := Aside0.mk (blk_below (g := gq) (o := .cells #[.int .i64 q0, .int .i64 q1] 23 (0, 0)) BKgq.out HC.out); clear BKgq; have BKgq := k_; clear k_
        have k_ := Aside0.mk (blk_below (g := gw) (o := .cells #[.complex .f64 4607182418800017408 0, .complex .f64 13830554455654793216 4607182418800017408, .complex .f64 0 4607182418800017408, .complex .f64 4607182418800017408 4607182418800017408] 26 (0, 0)) BKgw.out HC.out); clear BKgw; have BKgw := k_; clear k_
        have k_ := Aside0.mk (below_step HB.out HC.out); clear HB; have HB := k_; clear k_ HC HB0 L0 L1 c0 c1 c2
        have HB0 := Below.refl wc.heap.size wc
        have L0 : gq < wc.heap.size := blk_lt BKgq.out
        have L1 : gw < wc.heap.size := blk_lt BKgw.out
        have c0 : wc.cell? ⟨gq, 0, none⟩ = some (.int .i64 q0) := (blk_cell BKgq.out 0).trans rfl
        have c1 : wc.cell? ⟨gq, 1, none⟩ = some (.int .i64 q1) := (blk_cell BKgq.out 1).trans rfl
        have c2 : wc.cell? ⟨gw, 1, none⟩ = some (.complex .f64 13830554455654793216 4607182418800017408) := (blk_cell BKgw.out 1).trans rfl
        go_upto_region 9 with (fail)
        go_cut [16, 17] (fun va vb wd => ∃ gb : Nat, va = .pointer (some ⟨gb, 0, none⟩) ∧ vb = .bool true ∧ Aside0 (Below wc.heap.size wc wd) ∧ Aside0 (wd.heap[gb]? = some (.cells #[.int .i64 bx1, .int .i64 by1] 23 (0, 0))))
        case first =>
          go_region_held3 (fun w' => Below wc.heap.size wc w' ∧ w'.cell? ⟨gq, 0, none⟩ = some (.int .i64 q0) ∧ w'.cell? ⟨gq, 1, none⟩ = some (.int .i64 q1) ∧ w'.cell? ⟨gw, 1, none⟩ = some (.complex .f64 13830554455654793216 4607182418800017408)) (first | (refine chainmanlaw23_CellOnce.kb3 L0 L0 L1 c0 c1 c2 ?_; repeat (first | exact HB0 | exact (And.left (by assumption)) | exact below_step (And.left (by assumption)) hb | exact below_step (below_drew1 HB0) hb | exact below_step (below_drew1 (below_alloc HB0 _)) hb | refine below_set ?_ (Nat.le_refl _) | refine below_drew1 ?_ | refine below_alloc ?_ _))) (first | (go_at_call 16; with_reducible refine (hB1 _).mono ?_; rintro e w' ⟨rfl, hb⟩; (try have hz := chainmanlaw23_CellOnce.new hb); (try obtain ⟨hz0, hz1, hz2, hz3⟩ := hz)))
          · (try go_wp2)
            go_meet
            case rel => exact ⟨_, rfl, rfl, ⟨below_alloc (below_step (below_drew1 HB0) hb) _⟩, ⟨blk_new _ _⟩⟩
          · (try go_wp2)
            go_meet
            case rel => exact ⟨_, rfl, rfl, ⟨below_set (below_set (below_step (below_drew1 (below_alloc HB0 _)) hb) (Nat.le_refl _)) (Nat.le_refl _)⟩, ⟨blk_put (blk_put (blk_below (blk_drew (blk_new wc _)) hb) 0 _ rfl) 1 _ rfl⟩⟩
        case rest =>
          obtain ⟨gb, rfl, rfl, HC, BKgb⟩ := hcut
          have k_ := Aside0.mk (blk_below (g := gp) (o := .cells #[.int .i64 p0, .int .i64 p1] 23 (0, 0)) BKgp.out HC.out); clear BKgp; have BKgp := k_; clear k_
          have k_ := Aside0.mk (blk_below (g := gq) (o := .cells #[.int .i64 q0, .int .i64 q1] 23 (0, 0)) BKgq.out HC.out); clear BKgq; have BKgq := k_; clear k_
          have k_ := Aside0.mk (blk_below (g := gw) (o := .cells #[.complex .f64 4607182418800017408 0, .complex .f64 13830554455654793216 4607182418800017408, .complex .f64 0 4607182418800017408, .complex .f64 4607182418800017408 4607182418800017408] 26 (0, 0)) BKgw.out HC.out); clear BKgw; have BKgw := k_; clear k_
          have k_ := Aside0.mk (blk_below (g := ga) (o := .cells #[.int .i64 ax1, .int .i64 ay1] 23 (0, 0)) BKga.out HC.out); clear BKga; have BKga := k_; clear k_
          have k_ := Aside0.mk (below_step HB.out HC.out); clear HB; have HB := k_; clear k_ HC HB0 L0 L1 c0 c1 c2
          have hp0 : World.cell? _ ⟨gp, 0, none⟩ = some (.int .i64 p0) := (blk_cell BKgp.out 0).trans rfl; have hpf0 := blk_frozen BKgp.out 0; have hp1 : World.cell? _ ⟨gp, 1, none⟩ = some (.int .i64 p1) := (blk_cell BKgp.out 1).trans rfl; have hpf1 := blk_frozen BKgp.out 1
          have hq0 : World.cell? _ ⟨gq, 0, none⟩ = some (.int .i64 q0) := (blk_cell BKgq.out 0).trans rfl; have hqf0 := blk_frozen BKgq.out 0; have hq1 : World.cell? _ ⟨gq, 1, none⟩ = some (.int .i64 q1) := (blk_cell BKgq.out 1).trans rfl; have hqf1 := blk_frozen BKgq.out 1
          have ha0 : World.cell? _ ⟨ga, 0, none⟩ = some (.int .i64 ax1) := (blk_cell BKga.out 0).trans rfl; have haf0 := blk_frozen BKga.out 0; have ha1 : World.cell? _ ⟨ga, 1, none⟩ = some (.int .i64 ay1) := (blk_cell BKga.out 1).trans rfl; have haf1 := blk_frozen BKga.out 1
          have hb0 : World.cell? _ ⟨gb, 0, none⟩ = some (.int .i64 bx1) := (blk_cell BKgb.out 0).trans rfl; have hbf0 := blk_frozen BKgb.out 0; have hb1 : World.cell? _ ⟨gb, 1, none⟩ = some (.int .i64 by1) := (blk_cell BKgb.out 1).trans rfl; have hbf1 := blk_frozen BKgb.out 1
          cases he1 : (ax1 == q0 && (ay1 == q1)) <;> cases he2 : (bx1 == p0 && (by1 == p1))
          · have k1 : chainmanlaw23_CellOnce.hit ax1 ay1 q0 q1 = 0 := by unfold chainmanlaw23_CellOnce.hit; rw [he1]; rfl
            have k2 : chainmanlaw23_CellOnce.hit bx1 by1 p0 p1 = 0 := by unfold chainmanlaw23_CellOnce.hit; rw [he2]; rfl
            have HK := Aside0.mk (show n = chainmanlaw23_CellOnce.hit ax0 ay0 q0 q1 + chainmanlaw23_CellOnce.hit bx0 by0 p0 p1 + chainmanlaw23_CellOnce.hit ax1 ay1 q0 q1 + chainmanlaw23_CellOnce.hit bx1 by1 p0 p1 by have := HNi.out; omega)
            clear k1 k2
            go_wp2
            go_roundg 2
            case measure => have := HM.out; simp at this; omega
            case rel => exact ⟨2, n, rfl, by first | rfl | simp [hw1, hw2], ⟨.inr (.inr (.inl ⟨rfl, HK.out⟩))⟩, ⟨by decide⟩, ⟨by repeat (first | (with_reducible first | exact HB.out | apply below_alloc | apply pw_below_drewN | apply below_drew1) | exact HB.out)⟩, ⟨by (with_reducible repeat (first | refine blk_drewN ?_ _ | refine blk_drew ?_ | refine blk_alloc ?_ _)); exact BKgp.out⟩, ⟨by (with_reducible repeat (first | refine blk_drewN ?_ _ | refine blk_drew ?_ | refine blk_alloc ?_ _)); exact BKgq.out⟩, ⟨by (with_reducible repeat (first | refine blk_drewN ?_ _ | refine blk_drew ?_ | refine blk_alloc ?_ _)); exact BKgw.out⟩⟩
          · have k1 : chainmanlaw23_CellOnce.hit ax1 ay1 q0 q1 = 0 := by unfold chainmanlaw23_CellOnce.hit; rw [he1]; rfl
            have k2 : chainmanlaw23_CellOnce.hit bx1 by1 p0 p1 = 1 := by unfold chainmanlaw23_CellOnce.hit; rw [he2]; rfl
            have HK := Aside0.mk (show n + 1 = chainmanlaw23_CellOnce.hit ax0 ay0 q0 q1 + chainmanlaw23_CellOnce.hit bx0 by0 p0 p1 + chainmanlaw23_CellOnce.hit ax1 ay1 q0 q1 + chainmanlaw23_CellOnce.hit bx1 by1 p0 p1 by have := HNi.out; omega)
            clear k1 k2
            go_wp2
            go_roundg 2
            case measure => have := HM.out; simp at this; omega
            case rel => exact ⟨2, n + 1, rfl, by first | rfl | simp [hw1, hw2], ⟨.inr (.inr (.inl ⟨rfl, HK.out⟩))⟩, ⟨by decide⟩, ⟨by repeat (first | (with_reducible first | exact HB.out | apply below_alloc | apply pw_below_drewN | apply below_drew1) | exact HB.out)⟩, ⟨by (with_reducible repeat (first | refine blk_drewN ?_ _ | refine blk_drew ?_ | refine blk_alloc ?_ _)); exact BKgp.out⟩, ⟨by (with_reducible repeat (first | refine blk_drewN ?_ _ | refine blk_drew ?_ | refine blk_alloc ?_ _)); exact BKgq.out⟩, ⟨by (with_reducible repeat (first | refine blk_drewN ?_ _ | refine blk_drew ?_ | refine blk_alloc ?_ _)); exact BKgw.out⟩⟩
          · have k1 : chainmanlaw23_CellOnce.hit ax1 ay1 q0 q1 = 1 := by unfold chainmanlaw23_CellOnce.hit; rw [he1]; rfl
            have k2 : chainmanlaw23_CellOnce.hit bx1 by1 p0 p1 = 0 := by unfold chainmanlaw23_CellOnce.hit; rw [he2]; rfl
            have HK := Aside0.mk (show n + 1 = chainmanlaw23_CellOnce.hit ax0 ay0 q0 q1 + chainmanlaw23_CellOnce.hit bx0 by0 p0 p1 + chainmanlaw23_CellOnce.hit ax1 ay1 q0 q1 + chainmanlaw23_CellOnce.hit bx1 by1 p0 p1 by have := HNi.out; omega)
            clear k1 k2
            go_wp2
            go_roundg 2
            case measure => have := HM.out; simp at this; omega
            case rel => exact ⟨2, n + 1, rfl, by first | rfl | simp [hw1, hw2], ⟨.inr (.inr (.inl ⟨rfl, HK.out⟩))⟩, ⟨by decide⟩, ⟨by repeat (first | (with_reducible first | exact HB.out | apply below_alloc | apply pw_below_drewN | apply below_drew1) | exact HB.out)⟩, ⟨by (with_reducible repeat (first | refine blk_drewN ?_ _ | refine blk_drew ?_ | refine blk_alloc ?_ _)); exact BKgp.out⟩, ⟨by (with_reducible repeat (first | refine blk_drewN ?_ _ | refine blk_drew ?_ | refine blk_alloc ?_ _)); exact BKgq.out⟩, ⟨by (with_reducible repeat (first | refine blk_drewN ?_ _ | refine blk_drew ?_ | refine blk_alloc ?_ _)); exact BKgw.out⟩⟩
          · have k1 : chainmanlaw23_CellOnce.hit ax1 ay1 q0 q1 = 1 := by unfold chainmanlaw23_CellOnce.hit; rw [he1]; rfl
            have k2 : chainmanlaw23_CellOnce.hit bx1 by1 p0 p1 = 1 := by unfold chainmanlaw23_CellOnce.hit; rw [he2]; rfl
            have HK := Aside0.mk (show n + 1 + 1 = chainmanlaw23_CellOnce.hit ax0 ay0 q0 q1 + chainmanlaw23_CellOnce.hit bx0 by0 p0 p1 + chainmanlaw23_CellOnce.hit ax1 ay1 q0 q1 + chainmanlaw23_CellOnce.hit bx1 by1 p0 p1 by have := HNi.out; omega)
            clear k1 k2
            go_wp2
            go_roundg 2
            case measure => have := HM.out; simp at this; omega
            case rel => exact ⟨2, n + 1 + 1, rfl, by first | rfl | simp [hw1, hw2], ⟨.inr (.inr (.inl ⟨rfl, HK.out⟩))⟩, ⟨by decide⟩, ⟨by repeat (first | (with_reducible first | exact HB.out | apply below_alloc | apply pw_below_drewN | apply below_drew1) | exact HB.out)⟩, ⟨by (with_reducible repeat (first | refine blk_drewN ?_ _ | refine blk_drew ?_ | refine blk_alloc ?_ _)); exact BKgp.out⟩, ⟨by (with_reducible repeat (first | refine blk_drewN ?_ _ | refine blk_drew ?_ | refine blk_alloc ?_ _)); exact BKgq.out⟩, ⟨by (with_reducible repeat (first | refine blk_drewN ?_ _ | refine blk_drew ?_ | refine blk_alloc ?_ _)); exact BKgw.out⟩⟩
    · have hbd : 0 ≤ n ∧ n ≤ 4 := by rw [hn]; have a0 := hb01 ax0 ay0 q0 q1; have b0 := hb01 bx0 by0 p0 p1; have a1 := hb01 ax1 ay1 q0 q1; have b1 := hb01 bx1 by1 p0 p1; constructor <;> omega
      have HNi := Aside0.mk hn
      clear hn hb01 HX
      have hw1 : IntKind.i64.wrap (n + 1) = n + 1 := by rw [i64_w]; unfold wrap64; omega
      have hw2 : IntKind.i64.wrap (n + 1 + 1) = n + 1 + 1 := by rw [i64_w]; unfold wrap64; omega
      clear hbd
      have HB0 := Below.refl wr.heap.size wr
      have L0 : gp < wr.heap.size := blk_lt BKgp.out
      have L1 : gw < wr.heap.size := blk_lt BKgw.out
      have c0 : wr.cell? ⟨gp, 0, none⟩ = some (.int .i64 p0) := (blk_cell BKgp.out 0).trans rfl
      have c1 : wr.cell? ⟨gp, 1, none⟩ = some (.int .i64 p1) := (blk_cell BKgp.out 1).trans rfl
      have c2 : wr.cell? ⟨gw, 2, none⟩ = some (.complex .f64 0 4607182418800017408) := (blk_cell BKgw.out 2).trans rfl
      go_upto_region 8 with (fail)
      go_cut [14, 15] (fun va vb wc => ∃ ga : Nat, va = .pointer (some ⟨ga, 0, none⟩) ∧ vb = .bool true ∧ Aside0 (Below wr.heap.size wr wc) ∧ Aside0 (wc.heap[ga]? = some (.cells #[.int .i64 ax2, .int .i64 ay2] 23 (0, 0))))
      case first =>
        go_region_held3 (fun w' => Below wr.heap.size wr w' ∧ w'.cell? ⟨gp, 0, none⟩ = some (.int .i64 p0) ∧ w'.cell? ⟨gp, 1, none⟩ = some (.int .i64 p1) ∧ w'.cell? ⟨gw, 2, none⟩ = some (.complex .f64 0 4607182418800017408)) (first | (refine chainmanlaw23_CellOnce.kb3 L0 L0 L1 c0 c1 c2 ?_; repeat (first | exact HB0 | exact (And.left (by assumption)) | exact below_step (And.left (by assumption)) hb | exact below_step (below_drew1 HB0) hb | exact below_step (below_drew1 (below_alloc HB0 _)) hb | refine below_set ?_ (Nat.le_refl _) | refine below_drew1 ?_ | refine below_alloc ?_ _))) (first | (go_at_call 16; with_reducible refine (hA2 _).mono ?_; rintro e w' ⟨rfl, hb⟩; (try have hz := chainmanlaw23_CellOnce.new hb); (try obtain ⟨hz0, hz1, hz2, hz3⟩ := hz)))
        · (try go_wp2)
          go_meet
          case rel => exact ⟨_, rfl, rfl, ⟨below_alloc (below_step (below_drew1 HB0) hb) _⟩, ⟨blk_new _ _⟩⟩
        · (try go_wp2)
          go_meet
          case rel => exact ⟨_, rfl, rfl, ⟨below_set (below_set (below_step (below_drew1 (below_alloc HB0 _)) hb) (Nat.le_refl _)) (Nat.le_refl _)⟩, ⟨blk_put (blk_put (blk_below (blk_drew (blk_new wr _)) hb) 0 _ rfl) 1 _ rfl⟩⟩
      case rest =>
        obtain ⟨ga, rfl, rfl, HC, BKga⟩ := hcut
        have k_ := Aside0.mk (blk_below (g := gp) (o := .cells #[.int .i64 p0, .int .i64 p1] 23 (0, 0)) BKgp.out HC.out); clear BKgp; have BKgp := k_; clear k_
        have k_ := Aside0.mk (blk_below (g := gq) (o := .cells #[.int .i64 q0, .int .i64 q1] 23 (0, 0)) BKgq.out HC.out); clear BKgq; have BKgq := k_; clear k_
        have k_ := Aside0.mk (blk_below (g := gw) (o := .cells #[.complex .f64 4607182418800017408 0, .complex .f64 13830554455654793216 4607182418800017408, .complex .f64 0 4607182418800017408, .complex .f64 4607182418800017408 4607182418800017408] 26 (0, 0)) BKgw.out HC.out); clear BKgw; have BKgw := k_; clear k_
        have k_ := Aside0.mk (below_step HB.out HC.out); clear HB; have HB := k_; clear k_ HC HB0 L0 L1 c0 c1 c2
        have HB0 := Below.refl wc.heap.size wc
        have L0 : gq < wc.heap.size := blk_lt BKgq.out
        have L1 : gw < wc.heap.size := blk_lt BKgw.out
        have c0 : wc.cell? ⟨gq, 0, none⟩ = some (.int .i64 q0) := (blk_cell BKgq.out 0).trans rfl
        have c1 : wc.cell? ⟨gq, 1, none⟩ = some (.int .i64 q1) := (blk_cell BKgq.out 1).trans rfl
        have c2 : wc.cell? ⟨gw, 2, none⟩ = some (.complex .f64 0 4607182418800017408) := (blk_cell BKgw.out 2).trans rfl
        go_upto_region 9 with (fail)
        go_cut [16, 17] (fun va vb wd => ∃ gb : Nat, va = .pointer (some ⟨gb, 0, none⟩) ∧ vb = .bool true ∧ Aside0 (Below wc.heap.size wc wd) ∧ Aside0 (wd.heap[gb]? = some (.cells #[.int .i64 bx2, .int .i64 by2] 23 (0, 0))))
        case first =>
          go_region_held3 (fun w' => Below wc.heap.size wc w' ∧ w'.cell? ⟨gq, 0, none⟩ = some (.int .i64 q0) ∧ w'.cell? ⟨gq, 1, none⟩ = some (.int .i64 q1) ∧ w'.cell? ⟨gw, 2, none⟩ = some (.complex .f64 0 4607182418800017408)) (first | (refine chainmanlaw23_CellOnce.kb3 L0 L0 L1 c0 c1 c2 ?_; repeat (first | exact HB0 | exact (And.left (by assumption)) | exact below_step (And.left (by assumption)) hb | exact below_step (below_drew1 HB0) hb | exact below_step (below_drew1 (below_alloc HB0 _)) hb | refine below_set ?_ (Nat.le_refl _) | refine below_drew1 ?_ | refine below_alloc ?_ _))) (first | (go_at_call 16; with_reducible refine (hB2 _).mono ?_; rintro e w' ⟨rfl, hb⟩; (try have hz := chainmanlaw23_CellOnce.new hb); (try obtain ⟨hz0, hz1, hz2, hz3⟩ := hz)))
          · (try go_wp2)
            go_meet
            case rel => exact ⟨_, rfl, rfl, ⟨below_alloc (below_step (below_drew1 HB0) hb) _⟩, ⟨blk_new _ _⟩⟩
          · (try go_wp2)
            go_meet
            case rel => exact ⟨_, rfl, rfl, ⟨below_set (below_set (below_step (below_drew1 (below_alloc HB0 _)) hb) (Nat.le_refl _)) (Nat.le_refl _)⟩, ⟨blk_put (blk_put (blk_below (blk_drew (blk_new wc _)) hb) 0 _ rfl) 1 _ rfl⟩⟩
        case rest =>
          obtain ⟨gb, rfl, rfl, HC, BKgb⟩ := hcut
          have k_ := Aside0.mk (blk_below (g := gp) (o := .cells #[.int .i64 p0, .int .i64 p1] 23 (0, 0)) BKgp.out HC.out); clear BKgp; have BKgp := k_; clear k_
          have k_ := Aside0.mk (blk_below (g := gq) (o := .cells #[.int .i64 q0, .int .i64 q1] 23 (0, 0)) BKgq.out HC.out); clear BKgq; have BKgq := k_; clear k_
          have k_ := Aside0.mk (blk_below (g := gw) (o := .cells #[.complex .f64 4607182418800017408 0, .complex .f64 13830554455654793216 4607182418800017408, .complex .f64 0 4607182418800017408, .complex .f64 4607182418800017408 4607182418800017408] 26 (0, 0)) BKgw.out HC.out); clear BKgw; have BKgw := k_; clear k_
          have k_ := Aside0.mk (blk_below (g := ga) (o := .cells #[.int .i64 ax2, .int .i64 ay2] 23 (0, 0)) BKga.out HC.out); clear BKga; have BKga := k_; clear k_
          have k_ := Aside0.mk (below_step HB.out HC.out); clear HB; have HB := k_; clear k_ HC HB0 L0 L1 c0 c1 c2
          have hp0 : World.cell? _ ⟨gp, 0, none⟩ = some (.int .i64 p0) := (blk_cell BKgp.out 0).trans rfl; have hpf0 := blk_frozen BKgp.out 0; have hp1 : World.cell? _ ⟨gp, 1, none⟩ = some (.int .i64 p1) := (blk_cell BKgp.out 1).trans rfl; have hpf1 := blk_frozen BKgp.out 1
          have hq0 : World.cell? _ ⟨gq, 0, none⟩ = some (.int .i64 q0) := (blk_cell BKgq.out 0).trans rfl; have hqf0 := blk_frozen BKgq.out 0; have hq1 : World.cell? _ ⟨gq, 1, none⟩ = some (.int .i64 q1) := (blk_cell BKgq.out 1).trans rfl; have hqf1 := blk_frozen BKgq.out 1
          have ha0 : World.cell? _ ⟨ga, 0, none⟩ = some (.int .i64 ax2) := (blk_cell BKga.out 0).trans rfl; have haf0 := blk_frozen BKga.out 0; have ha1 : World.cell? _ ⟨ga, 1, none⟩ = some (.int .i64 ay2) := (blk_cell BKga.out 1).trans rfl; have haf1 := blk_frozen BKga.out 1
          have hb0 : World.cell? _ ⟨gb, 0, none⟩ = some (.int .i64 bx2) := (blk_cell BKgb.out 0).trans rfl; have hbf0 := blk_frozen BKgb.out 0; have hb1 : World.cell? _ ⟨gb, 1, none⟩ = some (.int .i64 by2) := (blk_cell BKgb.out 1).trans rfl; have hbf1 := blk_frozen BKgb.out 1
          cases he1 : (ax2 == q0 && (ay2 == q1)) <;> cases he2 : (bx2 == p0 && (by2 == p1))
          · have k1 : chainmanlaw23_CellOnce.hit ax2 ay2 q0 q1 = 0 := by unfold chainmanlaw23_CellOnce.hit; rw [he1]; rfl
            have k2 : chainmanlaw23_CellOnce.hit bx2 by2 p0 p1 = 0 := by unfold chainmanlaw23_CellOnce.hit; rw [he2]; rfl
            have HK := Aside0.mk (show n = chainmanlaw23_CellOnce.hit ax0 ay0 q0 q1 + chainmanlaw23_CellOnce.hit bx0 by0 p0 p1 + chainmanlaw23_CellOnce.hit ax1 ay1 q0 q1 + chainmanlaw23_CellOnce.hit bx1 by1 p0 p1 + chainmanlaw23_CellOnce.hit ax2 ay2 q0 q1 + chainmanlaw23_CellOnce.hit bx2 by2 p0 p1 by have := HNi.out; omega)
            clear k1 k2
            go_wp2
            go_roundg 1
            case measure => have := HM.out; simp at this; omega
            case rel => exact ⟨3, n, rfl, by first | rfl | simp [hw1, hw2], ⟨.inr (.inr (.inr (.inl ⟨rfl, HK.out⟩)))⟩, ⟨by decide⟩, ⟨by repeat (first | (with_reducible first | exact HB.out | apply below_alloc | apply pw_below_drewN | apply below_drew1) | exact HB.out)⟩, ⟨by (with_reducible repeat (first | refine blk_drewN ?_ _ | refine blk_drew ?_ | refine blk_alloc ?_ _)); exact BKgp.out⟩, ⟨by (with_reducible repeat (first | refine blk_drewN ?_ _ | refine blk_drew ?_ | refine blk_alloc ?_ _)); exact BKgq.out⟩, ⟨by (with_reducible repeat (first | refine blk_drewN ?_ _ | refine blk_drew ?_ | refine blk_alloc ?_ _)); exact BKgw.out⟩⟩
          · have k1 : chainmanlaw23_CellOnce.hit ax2 ay2 q0 q1 = 0 := by unfold chainmanlaw23_CellOnce.hit; rw [he1]; rfl
            have k2 : chainmanlaw23_CellOnce.hit bx2 by2 p0 p1 = 1 := by unfold chainmanlaw23_CellOnce.hit; rw [he2]; rfl
            have HK := Aside0.mk (show n + 1 = chainmanlaw23_CellOnce.hit ax0 ay0 q0 q1 + chainmanlaw23_CellOnce.hit bx0 by0 p0 p1 + chainmanlaw23_CellOnce.hit ax1 ay1 q0 q1 + chainmanlaw23_CellOnce.hit bx1 by1 p0 p1 + chainmanlaw23_CellOnce.hit ax2 ay2 q0 q1 + chainmanlaw23_CellOnce.hit bx2 by2 p0 p1 by have := HNi.out; omega)
            clear k1 k2
            go_wp2
            go_roundg 1
            case measure => have := HM.out; simp at this; omega
            case rel => exact ⟨3, n + 1, rfl, by first | rfl | simp [hw1, hw2], ⟨.inr (.inr (.inr (.inl ⟨rfl, HK.out⟩)))⟩, ⟨by decide⟩, ⟨by repeat (first | (with_reducible first | exact HB.out | apply below_alloc | apply pw_below_drewN | apply below_drew1) | exact HB.out)⟩, ⟨by (with_reducible repeat (first | refine blk_drewN ?_ _ | refine blk_drew ?_ | refine blk_alloc ?_ _)); exact BKgp.out⟩, ⟨by (with_reducible repeat (first | refine blk_drewN ?_ _ | refine blk_drew ?_ | refine blk_alloc ?_ _)); exact BKgq.out⟩, ⟨by (with_reducible repeat (first | refine blk_drewN ?_ _ | refine blk_drew ?_ | refine blk_alloc ?_ _)); exact BKgw.out⟩⟩
          · have k1 : chainmanlaw23_CellOnce.hit ax2 ay2 q0 q1 = 1 := by unfold chainmanlaw23_CellOnce.hit; rw [he1]; rfl
            have k2 : chainmanlaw23_CellOnce.hit bx2 by2 p0 p1 = 0 := by unfold chainmanlaw23_CellOnce.hit; rw [he2]; rfl
            have HK := Aside0.mk (show n + 1 = chainmanlaw23_CellOnce.hit ax0 ay0 q0 q1 + chainmanlaw23_CellOnce.hit bx0 by0 p0 p1 + chainmanlaw23_CellOnce.hit ax1 ay1 q0 q1 + chainmanlaw23_CellOnce.hit bx1 by1 p0 p1 + chainmanlaw23_CellOnce.hit ax2 ay2 q0 q1 + chainmanlaw23_CellOnce.hit bx2 by2 p0 p1 by have := HNi.out; omega)
            clear k1 k2
            go_wp2
            go_roundg 1
            case measure => have := HM.out; simp at this; omega
            case rel => exact ⟨3, n + 1, rfl, by first | rfl | simp [hw1, hw2], ⟨.inr (.inr (.inr (.inl ⟨rfl, HK.out⟩)))⟩, ⟨by decide⟩, ⟨by repeat (first | (with_reducible first | exact HB.out | apply below_alloc | apply pw_below_drewN | apply below_drew1) | exact HB.out)⟩, ⟨by (with_reducible repeat (first | refine blk_drewN ?_ _ | refine blk_drew ?_ | refine blk_alloc ?_ _)); exact BKgp.out⟩, ⟨by (with_reducible repeat (first | refine blk_drewN ?_ _ | refine blk_drew ?_ | refine blk_alloc ?_ _)); exact BKgq.out⟩, ⟨by (with_reducible repeat (first | refine blk_drewN ?_ _ | refine blk_drew ?_ | refine blk_alloc ?_ _)); exact BKgw.out⟩⟩
          · have k1 : chainmanlaw23_CellOnce.hit ax2 ay2 q0 q1 = 1 := by unfold chainmanlaw23_CellOnce.hit; rw [he1]; rfl
            have k2 : chainmanlaw23_CellOnce.hit bx2 by2 p0 p1 = 1 := by unfold chainmanlaw23_CellOnce.hit; rw [he2]; rfl
            have HK := Aside0.mk (show n + 1 + 1 = chainmanlaw23_CellOnce.hit ax0 ay0 q0 q1 + chainmanlaw23_CellOnce.hit bx0 by0 p0 p1 + chainmanlaw23_CellOnce.hit ax1 ay1 q0 q1 + chainmanlaw23_CellOnce.hit bx1 by1 p0 p1 + chainmanlaw23_CellOnce.hit ax2 ay2 q0 q1 + chainmanlaw23_CellOnce.hit bx2 by2 p0 p1 by have := HNi.out; omega)
            clear k1 k2
            go_wp2
            go_roundg 1
            case measure => have := HM.out; simp at this; omega
            case rel => exact ⟨3, n + 1 + 1, rfl, by first | rfl | simp [hw1, hw2], ⟨.inr (.inr (.inr (.inl ⟨rfl, HK.out⟩)))⟩, ⟨by decide⟩, ⟨by repeat (first | (with_reducible first | exact HB.out | apply below_alloc | apply pw_below_drewN | apply below_drew1) | exact HB.out)⟩, ⟨by (with_reducible repeat (first | refine blk_drewN ?_ _ | refine blk_drew ?_ | refine blk_alloc ?_ _)); exact BKgp.out⟩, ⟨by (with_reducible repeat (first | refine blk_drewN ?_ _ | refine blk_drew ?_ | refine blk_alloc ?_ _)); exact BKgq.out⟩, ⟨by (with_reducible repeat (first | refine blk_drewN ?_ _ | refine blk_drew ?_ | refine blk_alloc ?_ _)); exact BKgw.out⟩⟩
    · have hbd : 0 ≤ n ∧ n ≤ 6 := by rw [hn]; have a0 := hb01 ax0 ay0 q0 q1; have b0 := hb01 bx0 by0 p0 p1; have a1 := hb01 ax1 ay1 q0 q1; have b1 := hb01 bx1 by1 p0 p1; have a2 := hb01 ax2 ay2 q0 q1; have b2 := hb01 bx2 by2 p0 p1; constructor <;> omega
      have HNi := Aside0.mk hn
      clear hn hb01 HX
      have hw1 : IntKind.i64.wrap (n + 1) = n + 1 := by rw [i64_w]; unfold wrap64; omega
      have hw2 : IntKind.i64.wrap (n + 1 + 1) = n + 1 + 1 := by rw [i64_w]; unfold wrap64; omega
      clear hbd
      have HB0 := Below.refl wr.heap.size wr
      have L0 : gp < wr.heap.size := blk_lt BKgp.out
      have L1 : gw < wr.heap.size := blk_lt BKgw.out
      have c0 : wr.cell? ⟨gp, 0, none⟩ = some (.int .i64 p0) := (blk_cell BKgp.out 0).trans rfl
      have c1 : wr.cell? ⟨gp, 1, none⟩ = some (.int .i64 p1) := (blk_cell BKgp.out 1).trans rfl
      have c2 : wr.cell? ⟨gw, 3, none⟩ = some (.complex .f64 4607182418800017408 4607182418800017408) := (blk_cell BKgw.out 3).trans rfl
      go_upto_region 8 with (fail)
      go_cut [14, 15] (fun va vb wc => ∃ ga : Nat, va = .pointer (some ⟨ga, 0, none⟩) ∧ vb = .bool true ∧ Aside0 (Below wr.heap.size wr wc) ∧ Aside0 (wc.heap[ga]? = some (.cells #[.int .i64 ax3, .int .i64 ay3] 23 (0, 0))))
      case first =>
        go_region_held3 (fun w' => Below wr.heap.size wr w' ∧ w'.cell? ⟨gp, 0, none⟩ = some (.int .i64 p0) ∧ w'.cell? ⟨gp, 1, none⟩ = some (.int .i64 p1) ∧ w'.cell? ⟨gw, 3, none⟩ = some (.complex .f64 4607182418800017408 4607182418800017408)) (first | (refine chainmanlaw23_CellOnce.kb3 L0 L0 L1 c0 c1 c2 ?_; repeat (first | exact HB0 | exact (And.left (by assumption)) | exact below_step (And.left (by assumption)) hb | exact below_step (below_drew1 HB0) hb | exact below_step (below_drew1 (below_alloc HB0 _)) hb | refine below_set ?_ (Nat.le_refl _) | refine below_drew1 ?_ | refine below_alloc ?_ _))) (first | (go_at_call 16; with_reducible refine (hA3 _).mono ?_; rintro e w' ⟨rfl, hb⟩; (try have hz := chainmanlaw23_CellOnce.new hb); (try obtain ⟨hz0, hz1, hz2, hz3⟩ := hz)))
        · (try go_wp2)
          go_meet
          case rel => exact ⟨_, rfl, rfl, ⟨below_alloc (below_step (below_drew1 HB0) hb) _⟩, ⟨blk_new _ _⟩⟩
        · (try go_wp2)
          go_meet
          case rel => exact ⟨_, rfl, rfl, ⟨below_set (below_set (below_step (below_drew1 (below_alloc HB0 _)) hb) (Nat.le_refl _)) (Nat.le_refl _)⟩, ⟨blk_put (blk_put (blk_below (blk_drew (blk_new wr _)) hb) 0 _ rfl) 1 _ rfl⟩⟩
      case rest =>
        obtain ⟨ga, rfl, rfl, HC, BKga⟩ := hcut
        have k_ := Aside0.mk (blk_below (g := gp) (o := .cells #[.int .i64 p0, .int .i64 p1] 23 (0, 0)) BKgp.out HC.out); clear BKgp; have BKgp := k_; clear k_
        have k_ := Aside0.mk (blk_below (g := gq) (o := .cells #[.int .i64 q0, .int .i64 q1] 23 (0, 0)) BKgq.out HC.out); clear BKgq; have BKgq := k_; clear k_
        have k_ := Aside0.mk (blk_below (g := gw) (o := .cells #[.complex .f64 4607182418800017408 0, .complex .f64 13830554455654793216 4607182418800017408, .complex .f64 0 4607182418800017408, .complex .f64 4607182418800017408 4607182418800017408] 26 (0, 0)) BKgw.out HC.out); clear BKgw; have BKgw := k_; clear k_
        have k_ := Aside0.mk (below_step HB.out HC.out); clear HB; have HB := k_; clear k_ HC HB0 L0 L1 c0 c1 c2
        have HB0 := Below.refl wc.heap.size wc
        have L0 : gq < wc.heap.size := blk_lt BKgq.out
        have L1 : gw < wc.heap.size := blk_lt BKgw.out
        have c0 : wc.cell? ⟨gq, 0, none⟩ = some (.int .i64 q0) := (blk_cell BKgq.out 0).trans rfl
        have c1 : wc.cell? ⟨gq, 1, none⟩ = some (.int .i64 q1) := (blk_cell BKgq.out 1).trans rfl
        have c2 : wc.cell? ⟨gw, 3, none⟩ = some (.complex .f64 4607182418800017408 4607182418800017408) := (blk_cell BKgw.out 3).trans rfl
        go_upto_region 9 with (fail)
        go_cut [16, 17] (fun va vb wd => ∃ gb : Nat, va = .pointer (some ⟨gb, 0, none⟩) ∧ vb = .bool true ∧ Aside0 (Below wc.heap.size wc wd) ∧ Aside0 (wd.heap[gb]? = some (.cells #[.int .i64 bx3, .int .i64 by3] 23 (0, 0))))
        case first =>
          go_region_held3 (fun w' => Below wc.heap.size wc w' ∧ w'.cell? ⟨gq, 0, none⟩ = some (.int .i64 q0) ∧ w'.cell? ⟨gq, 1, none⟩ = some (.int .i64 q1) ∧ w'.cell? ⟨gw, 3, none⟩ = some (.complex .f64 4607182418800017408 4607182418800017408)) (first | (refine chainmanlaw23_CellOnce.kb3 L0 L0 L1 c0 c1 c2 ?_; repeat (first | exact HB0 | exact (And.left (by assumption)) | exact below_step (And.left (by assumption)) hb | exact below_step (below_drew1 HB0) hb | exact below_step (below_drew1 (below_alloc HB0 _)) hb | refine below_set ?_ (Nat.le_refl _) | refine below_drew1 ?_ | refine below_alloc ?_ _))) (first | (go_at_call 16; with_reducible refine (hB3 _).mono ?_; rintro e w' ⟨rfl, hb⟩; (try have hz := chainmanlaw23_CellOnce.new hb); (try obtain ⟨hz0, hz1, hz2, hz3⟩ := hz)))
          · (try go_wp2)
            go_meet
            case rel => exact ⟨_, rfl, rfl, ⟨below_alloc (below_step (below_drew1 HB0) hb) _⟩, ⟨blk_new _ _⟩⟩
          · (try go_wp2)
            go_meet
            case rel => exact ⟨_, rfl, rfl, ⟨below_set (below_set (below_step (below_drew1 (below_alloc HB0 _)) hb) (Nat.le_refl _)) (Nat.le_refl _)⟩, ⟨blk_put (blk_put (blk_below (blk_drew (blk_new wc _)) hb) 0 _ rfl) 1 _ rfl⟩⟩
        case rest =>
          obtain ⟨gb, rfl, rfl, HC, BKgb⟩ := hcut
          have k_ := Aside0.mk (blk_below (g := gp) (o := .cells #[.int .i64 p0, .int .i64 p1] 23 (0, 0)) BKgp.out HC.out); clear BKgp; have BKgp := k_; clear k_
          have k_ := Aside0.mk (blk_below (g := gq) (o := .cells #[.int .i64 q0, .int .i64 q1] 23 (0, 0)) BKgq.out HC.out); clear BKgq; have BKgq := k_; clear k_
          have k_ := Aside0.mk (blk_below (g := gw) (o := .cells #[.complex .f64 4607182418800017408 0, .complex .f64 13830554455654793216 4607182418800017408, .complex .f64 0 4607182418800017408, .complex .f64 4607182418800017408 4607182418800017408] 26 (0, 0)) BKgw.out HC.out); clear BKgw; have BKgw := k_; clear k_
          have k_ := Aside0.mk (blk_below (g := ga) (o := .cells #[.int .i64 ax3, .int .i64 ay3] 23 (0, 0)) BKga.out HC.out); clear BKga; have BKga := k_; clear k_
          have k_ := Aside0.mk (below_step HB.out HC.out); clear HB; have HB := k_; clear k_ HC HB0 L0 L1 c0 c1 c2
          have hp0 : World.cell? _ ⟨gp, 0, none⟩ = some (.int .i64 p0) := (blk_cell BKgp.out 0).trans rfl; have hpf0 := blk_frozen BKgp.out 0; have hp1 : World.cell? _ ⟨gp, 1, none⟩ = some (.int .i64 p1) := (blk_cell BKgp.out 1).trans rfl; have hpf1 := blk_frozen BKgp.out 1
          have hq0 : World.cell? _ ⟨gq, 0, none⟩ = some (.int .i64 q0) := (blk_cell BKgq.out 0).trans rfl; have hqf0 := blk_frozen BKgq.out 0; have hq1 : World.cell? _ ⟨gq, 1, none⟩ = some (.int .i64 q1) := (blk_cell BKgq.out 1).trans rfl; have hqf1 := blk_frozen BKgq.out 1
          have ha0 : World.cell? _ ⟨ga, 0, none⟩ = some (.int .i64 ax3) := (blk_cell BKga.out 0).trans rfl; have haf0 := blk_frozen BKga.out 0; have ha1 : World.cell? _ ⟨ga, 1, none⟩ = some (.int .i64 ay3) := (blk_cell BKga.out 1).trans rfl; have haf1 := blk_frozen BKga.out 1
          have hb0 : World.cell? _ ⟨gb, 0, none⟩ = some (.int .i64 bx3) := (blk_cell BKgb.out 0).trans rfl; have hbf0 := blk_frozen BKgb.out 0; have hb1 : World.cell? _ ⟨gb, 1, none⟩ = some (.int .i64 by3) := (blk_cell BKgb.out 1).trans rfl; have hbf1 := blk_frozen BKgb.out 1
          cases he1 : (ax3 == q0 && (ay3 == q1)) <;> cases he2 : (bx3 == p0 && (by3 == p1))
          · have k1 : chainmanlaw23_CellOnce.hit ax3 ay3 q0 q1 = 0 := by unfold chainmanlaw23_CellOnce.hit; rw [he1]; rfl
            have k2 : chainmanlaw23_CellOnce.hit bx3 by3 p0 p1 = 0 := by unfold chainmanlaw23_CellOnce.hit; rw [he2]; rfl
            have HK := Aside0.mk (show n = chainmanlaw23_CellOnce.hit ax0 ay0 q0 q1 + chainmanlaw23_CellOnce.hit bx0 by0 p0 p1 + chainmanlaw23_CellOnce.hit ax1 ay1 q0 q1 + chainmanlaw23_CellOnce.hit bx1 by1 p0 p1 + chainmanlaw23_CellOnce.hit ax2 ay2 q0 q1 + chainmanlaw23_CellOnce.hit bx2 by2 p0 p1 + chainmanlaw23_CellOnce.hit ax3 ay3 q0 q1 + chainmanlaw23_CellOnce.hit bx3 by3 p0 p1 by have := HNi.out; omega)
            clear k1 k2
            go_wp2
            go_roundg 0
            case measure => have := HM.out; simp at this; omega
            case rel => exact ⟨4, n, rfl, by first | rfl | simp [hw1, hw2], ⟨.inr (.inr (.inr (.inr (⟨rfl, HK.out⟩))))⟩, ⟨by decide⟩, ⟨by repeat (first | (with_reducible first | exact HB.out | apply below_alloc | apply pw_below_drewN | apply below_drew1) | exact HB.out)⟩, ⟨by (with_reducible repeat (first | refine blk_drewN ?_ _ | refine blk_drew ?_ | refine blk_alloc ?_ _)); exact BKgp.out⟩, ⟨by (with_reducible repeat (first | refine blk_drewN ?_ _ | refine blk_drew ?_ | refine blk_alloc ?_ _)); exact BKgq.out⟩, ⟨by (with_reducible repeat (first | refine blk_drewN ?_ _ | refine blk_drew ?_ | refine blk_alloc ?_ _)); exact BKgw.out⟩⟩
          · have k1 : chainmanlaw23_CellOnce.hit ax3 ay3 q0 q1 = 0 := by unfold chainmanlaw23_CellOnce.hit; rw [he1]; rfl
            have k2 : chainmanlaw23_CellOnce.hit bx3 by3 p0 p1 = 1 := by unfold chainmanlaw23_CellOnce.hit; rw [he2]; rfl
            have HK := Aside0.mk (show n + 1 = chainmanlaw23_CellOnce.hit ax0 ay0 q0 q1 + chainmanlaw23_CellOnce.hit bx0 by0 p0 p1 + chainmanlaw23_CellOnce.hit ax1 ay1 q0 q1 + chainmanlaw23_CellOnce.hit bx1 by1 p0 p1 + chainmanlaw23_CellOnce.hit ax2 ay2 q0 q1 + chainmanlaw23_CellOnce.hit bx2 by2 p0 p1 + chainmanlaw23_CellOnce.hit ax3 ay3 q0 q1 + chainmanlaw23_CellOnce.hit bx3 by3 p0 p1 by have := HNi.out; omega)
            clear k1 k2
            go_wp2
            go_roundg 0
            case measure => have := HM.out; simp at this; omega
            case rel => exact ⟨4, n + 1, rfl, by first | rfl | simp [hw1, hw2], ⟨.inr (.inr (.inr (.inr (⟨rfl, HK.out⟩))))⟩, ⟨by decide⟩, ⟨by repeat (first | (with_reducible first | exact HB.out | apply below_alloc | apply pw_below_drewN | apply below_drew1) | exact HB.out)⟩, ⟨by (with_reducible repeat (first | refine blk_drewN ?_ _ | refine blk_drew ?_ | refine blk_alloc ?_ _)); exact BKgp.out⟩, ⟨by (with_reducible repeat (first | refine blk_drewN ?_ _ | refine blk_drew ?_ | refine blk_alloc ?_ _)); exact BKgq.out⟩, ⟨by (with_reducible repeat (first | refine blk_drewN ?_ _ | refine blk_drew ?_ | refine blk_alloc ?_ _)); exact BKgw.out⟩⟩
          · have k1 : chainmanlaw23_CellOnce.hit ax3 ay3 q0 q1 = 1 := by unfold chainmanlaw23_CellOnce.hit; rw [he1]; rfl
            have k2 : chainmanlaw23_CellOnce.hit bx3 by3 p0 p1 = 0 := by unfold chainmanlaw23_CellOnce.hit; rw [he2]; rfl
            have HK := Aside0.mk (show n + 1 = chainmanlaw23_CellOnce.hit ax0 ay0 q0 q1 + chainmanlaw23_CellOnce.hit bx0 by0 p0 p1 + chainmanlaw23_CellOnce.hit ax1 ay1 q0 q1 + chainmanlaw23_CellOnce.hit bx1 by1 p0 p1 + chainmanlaw23_CellOnce.hit ax2 ay2 q0 q1 + chainmanlaw23_CellOnce.hit bx2 by2 p0 p1 + chainmanlaw23_CellOnce.hit ax3 ay3 q0 q1 + chainmanlaw23_CellOnce.hit bx3 by3 p0 p1 by have := HNi.out; omega)
            clear k1 k2
            go_wp2
            go_roundg 0
            case measure => have := HM.out; simp at this; omega
            case rel => exact ⟨4, n + 1, rfl, by first | rfl | simp [hw1, hw2], ⟨.inr (.inr (.inr (.inr (⟨rfl, HK.out⟩))))⟩, ⟨by decide⟩, ⟨by repeat (first | (with_reducible first | exact HB.out | apply below_alloc | apply pw_below_drewN | apply below_drew1) | exact HB.out)⟩, ⟨by (with_reducible repeat (first | refine blk_drewN ?_ _ | refine blk_drew ?_ | refine blk_alloc ?_ _)); exact BKgp.out⟩, ⟨by (with_reducible repeat (first | refine blk_drewN ?_ _ | refine blk_drew ?_ | refine blk_alloc ?_ _)); exact BKgq.out⟩, ⟨by (with_reducible repeat (first | refine blk_drewN ?_ _ | refine blk_drew ?_ | refine blk_alloc ?_ _)); exact BKgw.out⟩⟩
          · have k1 : chainmanlaw23_CellOnce.hit ax3 ay3 q0 q1 = 1 := by unfold chainmanlaw23_CellOnce.hit; rw [he1]; rfl
            have k2 : chainmanlaw23_CellOnce.hit bx3 by3 p0 p1 = 1 := by unfold chainmanlaw23_CellOnce.hit; rw [he2]; rfl
            have HK := Aside0.mk (show n + 1 + 1 = chainmanlaw23_CellOnce.hit ax0 ay0 q0 q1 + chainmanlaw23_CellOnce.hit bx0 by0 p0 p1 + chainmanlaw23_CellOnce.hit ax1 ay1 q0 q1 + chainmanlaw23_CellOnce.hit bx1 by1 p0 p1 + chainmanlaw23_CellOnce.hit ax2 ay2 q0 q1 + chainmanlaw23_CellOnce.hit bx2 by2 p0 p1 + chainmanlaw23_CellOnce.hit ax3 ay3 q0 q1 + chainmanlaw23_CellOnce.hit bx3 by3 p0 p1 by have := HNi.out; omega)
            clear k1 k2
            go_wp2
            go_roundg 0
            case measure => have := HM.out; simp at this; omega
            case rel => exact ⟨4, n + 1 + 1, rfl, by first | rfl | simp [hw1, hw2], ⟨.inr (.inr (.inr (.inr (⟨rfl, HK.out⟩))))⟩, ⟨by decide⟩, ⟨by repeat (first | (with_reducible first | exact HB.out | apply below_alloc | apply pw_below_drewN | apply below_drew1) | exact HB.out)⟩, ⟨by (with_reducible repeat (first | refine blk_drewN ?_ _ | refine blk_drew ?_ | refine blk_alloc ?_ _)); exact BKgp.out⟩, ⟨by (with_reducible repeat (first | refine blk_drewN ?_ _ | refine blk_drew ?_ | refine blk_alloc ?_ _)); exact BKgq.out⟩, ⟨by (with_reducible repeat (first | refine blk_drewN ?_ _ | refine blk_drew ?_ | refine blk_alloc ?_ _)); exact BKgw.out⟩⟩
    · have hn4 : n = if bes = true then 1 else 0 := by rw [hn]; exact HN.out
      clear hn HN HX hb01
      have hp0 : World.cell? _ ⟨gp, 0, none⟩ = some (.int .i64 p0) := (blk_cell BKgp.out 0).trans rfl; have hpf0 := blk_frozen BKgp.out 0; have hp1 : World.cell? _ ⟨gp, 1, none⟩ = some (.int .i64 p1) := (blk_cell BKgp.out 1).trans rfl; have hpf1 := blk_frozen BKgp.out 1
      have hq0 : World.cell? _ ⟨gq, 0, none⟩ = some (.int .i64 q0) := (blk_cell BKgq.out 0).trans rfl; have hqf0 := blk_frozen BKgq.out 0; have hq1 : World.cell? _ ⟨gq, 1, none⟩ = some (.int .i64 q1) := (blk_cell BKgq.out 1).trans rfl; have hqf1 := blk_frozen BKgq.out 1
      cases bes with
      | false =>
        rw [if_neg (by simp)] at hn4
        subst hn4
        go_wp2_with (first | (go_at_call 24; with_reducible refine (hS1 _).mono ?_; rintro e w' ⟨rfl, hb⟩; have k0_ := Aside0.mk (blk_below (g := gp) (o := .cells #[.int .i64 p0, .int .i64 p1] 23 (0, 0)) (by (with_reducible repeat (first | refine blk_drewN ?_ _ | refine blk_drew ?_ | refine blk_alloc ?_ _)); exact BKgp.out) hb); clear BKgp; have BKgp := k0_; clear k0_; have k1_ := Aside0.mk (blk_below (g := gq) (o := .cells #[.int .i64 q0, .int .i64 q1] 23 (0, 0)) (by (with_reducible repeat (first | refine blk_drewN ?_ _ | refine blk_drew ?_ | refine blk_alloc ?_ _)); exact BKgq.out) hb); clear BKgq; have BKgq := k1_; clear k1_; have n_ := Aside0.mk (below_step (by repeat (first | (with_reducible first | exact HB.out | apply below_alloc | apply pw_below_drewN | apply below_drew1) | exact HB.out)) hb); clear HB; have HB := n_; clear n_ hb) | (go_at_call 19; with_reducible refine (hAw _).mono ?_; rintro e w' ⟨rfl, hb⟩; have n_ := Aside0.mk (below_step (by repeat (first | (with_reducible first | exact HB.out | apply below_alloc | apply pw_below_drewN | apply below_drew1) | exact HB.out)) hb); clear HB; have HB := n_; clear n_ hb))
        go_ret
        exact ⟨rfl, by repeat (first | (with_reducible first | exact HB.out | apply below_alloc | apply pw_below_drewN | apply below_drew1) | exact HB.out)⟩
      | true =>
        rw [if_pos rfl] at hn4
        subst hn4
        have hll := HL.out rfl
        go_upto_region 17 with (first | (go_at_call 24; with_reducible refine (hS1 _).mono ?_; rintro e w' ⟨rfl, hb⟩; have k0_ := Aside0.mk (blk_below (g := gp) (o := .cells #[.int .i64 p0, .int .i64 p1] 23 (0, 0)) (by (with_reducible repeat (first | refine blk_drewN ?_ _ | refine blk_drew ?_ | refine blk_alloc ?_ _)); exact BKgp.out) hb); clear BKgp; have BKgp := k0_; clear k0_; have k1_ := Aside0.mk (blk_below (g := gq) (o := .cells #[.int .i64 q0, .int .i64 q1] 23 (0, 0)) (by (with_reducible repeat (first | refine blk_drewN ?_ _ | refine blk_drew ?_ | refine blk_alloc ?_ _)); exact BKgq.out) hb); clear BKgq; have BKgq := k1_; clear k1_; have n_ := Aside0.mk (below_step (by repeat (first | (with_reducible first | exact HB.out | apply below_alloc | apply pw_below_drewN | apply below_drew1) | exact HB.out)) hb); clear HB; have HB := n_; clear n_ hb))
        have HB0 := Below.refl w'.heap.size w'
        have L0 : gp < w'.heap.size := blk_lt BKgp.out
        have L1 : gq < w'.heap.size := blk_lt BKgq.out
        have c0 : w'.cell? ⟨gp, 0, none⟩ = some (.int .i64 p0) := (blk_cell BKgp.out 0).trans rfl
        have c1 : w'.cell? ⟨gp, 1, none⟩ = some (.int .i64 p1) := (blk_cell BKgp.out 1).trans rfl
        have c2 : w'.cell? ⟨gq, 0, none⟩ = some (.int .i64 q0) := (blk_cell BKgq.out 0).trans rfl
        have c3 : w'.cell? ⟨gq, 1, none⟩ = some (.int .i64 q1) := (blk_cell BKgq.out 1).trans rfl
        cases l1 <;> cases l2 <;> simp at hll
        all_goals
          go_region_held3 (fun v' => Below w'.heap.size w' v' ∧ v'.cell? ⟨gp, 0, none⟩ = some (.int .i64 p0) ∧ v'.cell? ⟨gp, 1, none⟩ = some (.int .i64 p1) ∧ v'.cell? ⟨gq, 0, none⟩ = some (.int .i64 q0) ∧ v'.cell? ⟨gq, 1, none⟩ = some (.int .i64 q1)) (first | (refine chainmanlaw23_CellOnce.kb4 L0 L1 c0 c1 c2 c3 ?_; repeat (first | exact HB0 | exact (And.left (by assumption)) | exact below_step (And.left (by assumption)) hb | exact below_step (below_drew1 HB0) hb | refine below_drew1 ?_))) (first | (go_at_call 24; with_reducible refine (hS2 _).mono ?_; rintro e w2 ⟨rfl, hb⟩) | (go_at_call 25; with_reducible refine (hL1 _).mono ?_; rintro e w2 ⟨rfl, hb⟩) | (go_at_call 25; with_reducible refine (hL2 _).mono ?_; rintro e w2 ⟨rfl, hb⟩) | (go_at_call 19; with_reducible refine (hAw _).mono ?_; rintro e w2 ⟨rfl, hb⟩))
          all_goals
            (try go_wp2)
            go_ret
            exact ⟨rfl, below_step HB.out (And.left (by assumption))⟩

theorem chainmanlaw23_CellOnce.sum1 (p c : Int) (b : Nat) (hb : FloatKind.f64.nearest c = b) (hp : p.natAbs < 2 ^ 52) (hc : c.natAbs < 2 ^ 52) : floatBits .add .f64 (floatOfInt .f64 p) b = some (FloatKind.f64.nearest (p + c)) := by
  subst hb; exact Fl.add_int p c hp hc
theorem chainmanlaw23_CellOnce.back (n : Int) (h : n.natAbs < 2 ^ 53) : floatToIntVal .f64 (FloatKind.f64.nearest n) .i64 = some n := by
  unfold floatToIntVal
  rw [Fl.back_int n h]
  exact if_pos ⟨show (-9223372036854775808 : Int) ≤ n by omega, show n ≤ (9223372036854775807 : Int) by omega⟩
theorem chainmanlaw23_CellOnce.inn (p : Int) (h : p.natAbs < 2147483646) : cell_inner.f p = some true := by
  unfold cell_inner.f
  rw [if_pos (by omega)]
  exact congrArg some (decide_eq_true (by omega))
theorem chainmanlaw23_CellOnce.step (p0 p1 c0 c1 : Int) (a b : Nat) (ha : FloatKind.f64.nearest c0 = a) (hb : FloatKind.f64.nearest c1 = b) (e0 : chainmanlaw23_awake.ceq a b 0 0 = false) (hk : chainmanlaw23_awake.known a b = true) (h0 : p0.natAbs < 2147483646) (h1 : p1.natAbs < 2147483646) (hc0 : c0.natAbs ≤ 1) (hc1 : c1.natAbs ≤ 1) (W : World) :
    Calls Try.prog 16 #[.agg #[.int .i64 p0, .int .i64 p1], .complex .f64 a b] W fun e w' => e = .returned (.tuple #[.agg #[.int .i64 (p0 + c0), .int .i64 (p1 + c1)], .bool true]) ∧ Below W.heap.size W w' := by
  refine chainmanlaw23_awake.moved p0 p1 a b W e0 (fun g W hW => by have := chainmanlaw23_awake.contains g a b W hW; rw [hk] at this; exact this) (fun W => cell_inner.calls p0 true W (chainmanlaw23_CellOnce.inn p0 h0)) (fun W => cell_inner.calls p1 true W (chainmanlaw23_CellOnce.inn p1 h1)) (FloatKind.f64.nearest (p0 + c0)) (FloatKind.f64.nearest (p1 + c1)) (p0 + c0) (p1 + c1) ?_ (chainmanlaw23_CellOnce.back _ (by omega)) (chainmanlaw23_CellOnce.back _ (by omega))
  unfold cSumBits
  rw [chainmanlaw23_CellOnce.sum1 p0 c0 a ha (by omega) (by omega), chainmanlaw23_CellOnce.sum1 p1 c1 b hb (by omega) (by omega)]
  rfl
theorem chainmanlaw23_CellOnce.hit_eq (x y u v d e : Int) (h0 : x - u = d) (h1 : y - v = e) : chainmanlaw23_CellOnce.hit x y u v = chainmanlaw23_CellOnce.hit d e 0 0 := by
  have k : (x == u && (y == v)) = (d == 0 && (e == 0)) := by
    have k0 : (x == u) = (d == 0) := by rw [Bool.eq_iff_iff]; simp only [beq_iff_eq]; omega
    have k1 : (y == v) = (e == 0) := by rw [Bool.eq_iff_iff]; simp only [beq_iff_eq]; omega
    rw [k0, k1]
  unfold chainmanlaw23_CellOnce.hit; rw [k]
def chainmanlaw23_CellOnce.bes (d e : Int) : Bool := (!(d == 0) || !(e == 0)) && (decide (-1 ≤ d ∧ d ≤ 1) && decide (-1 ≤ e ∧ e ≤ 1))
theorem chainmanlaw23_CellOnce.apart (a b : Int) (ha : a.natAbs < 2147483646) (hb : b.natAbs < 2147483646) : cell_apart.f a b = some (decide (-1 ≤ b - a ∧ b - a ≤ 1)) := by
  unfold cell_apart.f
  have hw : wrap64 (mx a b - 1) = mx a b - 1 := by unfold wrap64 mx; split <;> omega
  rw [hw]
  by_cases h : mn a b = mx a b
  · rw [if_pos h]; unfold mn mx at h; exact congrArg some (Eq.symm (decide_eq_true (by revert h; split <;> split <;> omega)))
  · rw [if_neg h]; unfold mn mx at h ⊢
    refine congrArg some ?_
    rw [Bool.eq_iff_iff]; simp only [beq_iff_eq, decide_eq_true_eq]
    revert h; split <;> split <;> omega
theorem chainmanlaw23_CellOnce.beside (p0 p1 q0 q1 d e : Int) (h0 : q0 - p0 = d) (h1 : q1 - p1 = e) (hp0 : p0.natAbs < 2147483646) (hp1 : p1.natAbs < 2147483646) (hq0 : q0.natAbs < 2147483646) (hq1 : q1.natAbs < 2147483646) : cell_Beside.f p0 p1 q0 q1 = some (chainmanlaw23_CellOnce.bes d e) := by
  unfold cell_Beside.f chainmanlaw23_CellOnce.bes
  rw [chainmanlaw23_CellOnce.apart p0 q0 hp0 hq0, chainmanlaw23_CellOnce.apart p1 q1 hp1 hq1]
  have k0 : (p0 == q0) = (d == 0) := by rw [Bool.eq_iff_iff]; simp only [beq_iff_eq]; omega
  have k1 : (p1 == q1) = (e == 0) := by rw [Bool.eq_iff_iff]; simp only [beq_iff_eq]; omega
  rw [k0, k1, h0, h1]
  simp only [Option.bind_some]
  cases (!(d == 0) || !(e == 0)) <;> cases decide (-1 ≤ d ∧ d ≤ 1) <;> rfl
theorem chainmanlaw23_CellOnce.less (p0 p1 q0 q1 : Int) : cell_Less.f 10 p0 p1 q0 q1 = some (decide (p0 < q0 ∨ p0 = q0 ∧ p1 < q1)) := by
  have hc : ∀ a b : Int, cmp_Compare_int.f a b = some (if a < b then -1 else if a > b then 1 else 0) := by
    intro a b
    unfold cmp_Compare_int.f cmp_isNaN_int.f
    simp only [Option.bind_some]
    rw [show (a != a) = false by simp, show (b != b) = false by simp]
    simp only [Bool.false_eq_true, if_false]
    split <;> first | rfl | (split <;> rfl)
  unfold cell_Less.f
  rw [hc, hc]
  simp only [Option.bind_some]
  have ho : ∀ a b : Int, cmp_Or_int.f 10 [a, b] = some (if a = 0 then b else a) := by
    intro a b
    unfold cmp_Or_int.f
    by_cases ha : a = 0
    · subst ha
      by_cases hb : b = 0
      · subst hb; simp [cmp_Or_int.l0, rd, wrap64]
      · simp [cmp_Or_int.l0, rd, wrap64, hb]
    · simp [cmp_Or_int.l0, rd, ha]
  rw [ho]
  simp only [Option.bind_some]
  refine congrArg some ?_
  rw [Bool.eq_iff_iff]; simp only [decide_eq_true_eq]
  repeat' split
  all_goals omega
theorem chainmanlaw23_CellOnce.tm (a : Int) : -3 ≤ Int.tmod a 4 ∧ Int.tmod a 4 ≤ 3 := by
  rcases Int.le_total 0 a with h | h
  · rw [Int.tmod_eq_emod_of_nonneg h]; omega
  · have e : Int.tmod a 4 = -Int.tmod (-a) 4 := by rw [Int.neg_tmod]; omega
    rw [e, Int.tmod_eq_emod_of_nonneg (by omega)]; omega
theorem chainmanlaw23_CellOnce.td (a : Int) (hb : -2147483648 ≤ a ∧ a ≤ 2147483647) : (Int.tdiv a 2).natAbs ≤ 1073741824 := by
  rcases Int.le_total 0 a with h | h
  · rw [Int.tdiv_eq_ediv_of_nonneg h]; omega
  · have e : Int.tdiv a 2 = -Int.tdiv (-a) 2 := by rw [Int.neg_tdiv]; omega
    rw [e, Int.tdiv_eq_ediv_of_nonneg (by omega)]; omega
theorem chainmanlaw23_CellOnce.seven (d : Int) (h : -3 ≤ d ∧ d ≤ 3) : d ∈ [-3, -2, -1, 0, 1, 2, (3 : Int)] := by
  simp only [List.mem_cons, List.mem_nil_iff, or_false]; omega
theorem chainmanlaw23_CellOnce.law : ∀ d ∈ [-3, -2, -1, 0, 1, 2, (3 : Int)], ∀ e ∈ [-3, -2, -1, 0, 1, 2, (3 : Int)], chainmanlaw23_CellOnce.hit (1 - d) (0 - e) 0 0 + chainmanlaw23_CellOnce.hit (d + 1) (e + 0) 0 0 + chainmanlaw23_CellOnce.hit ((-1) - d) (1 - e) 0 0 + chainmanlaw23_CellOnce.hit (d + (-1)) (e + 1) 0 0 + chainmanlaw23_CellOnce.hit (0 - d) (1 - e) 0 0 + chainmanlaw23_CellOnce.hit (d + 0) (e + 1) 0 0 + chainmanlaw23_CellOnce.hit (1 - d) (1 - e) 0 0 + chainmanlaw23_CellOnce.hit (d + 1) (e + 1) 0 0 = (if chainmanlaw23_CellOnce.bes d e = true then (1 : Int) else 0) := by decide
theorem chainmanlaw23_CellOnce.besn (d e : Int) : chainmanlaw23_CellOnce.bes (-d) (-e) = chainmanlaw23_CellOnce.bes d e := by
  unfold chainmanlaw23_CellOnce.bes
  have k0 : (-d == 0) = (d == 0) := by rw [Bool.eq_iff_iff]; simp only [beq_iff_eq]; omega
  have k1 : (-e == 0) = (e == 0) := by rw [Bool.eq_iff_iff]; simp only [beq_iff_eq]; omega
  have k2 : decide (-1 ≤ -d ∧ -d ≤ 1) = decide (-1 ≤ d ∧ d ≤ 1) := by rw [Bool.eq_iff_iff]; simp only [decide_eq_true_eq]; omega
  have k3 : decide (-1 ≤ -e ∧ -e ≤ 1) = decide (-1 ≤ e ∧ e ≤ 1) := by rw [Bool.eq_iff_iff]; simp only [decide_eq_true_eq]; omega
  rw [k0, k1, k2, k3]
theorem chainmanlaw23_CellOnce.calls (a0 a1 a2 a3 : Int) (r : Bool) (w : World) (h : chainmanlaw23_CellOnce.f a0 a1 a2 a3 = some r) :
    Calls Try.prog 5 #[.int .i32 a0, .int .i32 a1, .int .i8 a2, .int .i8 a3] w fun e w' => e = .returned (.bool r) ∧ Below w.heap.size w w' := by
  unfold chainmanlaw23_CellOnce.f at h
  split at h
  case isFalse => cases h
  case isTrue hb =>
    obtain rfl := Option.some.inj h
    clear h
    obtain ⟨b0, b1, b2, b3⟩ := hb
    obtain ⟨d, hd, hd3⟩ : ∃ d : Int, Int.tmod a2 4 = d ∧ (-3 ≤ d ∧ d ≤ 3) := ⟨_, rfl, chainmanlaw23_CellOnce.tm a2⟩
    obtain ⟨e, he, he3⟩ : ∃ e : Int, Int.tmod a3 4 = e ∧ (-3 ≤ e ∧ e ≤ 3) := ⟨_, rfl, chainmanlaw23_CellOnce.tm a3⟩
    obtain ⟨p0, hp0, hp03⟩ : ∃ p : Int, Int.tdiv a0 2 = p ∧ p.natAbs ≤ 1073741824 := ⟨_, rfl, chainmanlaw23_CellOnce.td a0 b0⟩
    obtain ⟨p1, hp1, hp13⟩ : ∃ p : Int, Int.tdiv a1 2 = p ∧ p.natAbs ≤ 1073741824 := ⟨_, rfl, chainmanlaw23_CellOnce.td a1 b1⟩
    have ww : ∀ n : Int, n.natAbs < 4294967296 → wrap64 n = n := by intro n hn; unfold wrap64; omega
    have wi : ∀ n : Int, n.natAbs < 4294967296 → IntKind.i64.wrap n = n := by intro n hn; rw [i64_w]; exact ww n hn
    refine chainmanlaw23_CellOnce.goes a0 a1 a2 a3 p0 p1 (p0 + d) (p1 + e) (p0 + 1) (p1 + 0) (p0 + d + 1) (p1 + e + 0) (p0 + (-1)) (p1 + 1) (p0 + d + (-1)) (p1 + e + 1) (p0 + 0) (p1 + 1) (p0 + d + 0) (p1 + e + 1) (p0 + 1) (p1 + 1) (p0 + d + 1) (p1 + e + 1) (chainmanlaw23_CellOnce.bes d e) (decide (p0 < p0 + d ∨ p0 = p0 + d ∧ p1 < p1 + e)) (decide (p0 + d < p0 ∨ p0 + d = p0 ∧ p1 + e < p1)) w (by rw [hp0]; exact wi _ (by omega)) (by rw [hp1]; exact wi _ (by omega)) (by rw [hd]; exact ww _ (by omega)) (by rw [he]; exact ww _ (by omega)) (wi _ (by omega)) (wi _ (by omega)) (wi _ (by omega)) (wi _ (by omega))
      (fun W => chainmanlaw23_CellOnce.step p0 p1 1 0 4607182418800017408 0 Fl.one_bits Fl.zero_bits (by decide +kernel) (by decide +kernel) (by omega) (by omega) (by decide) (by decide) W) (fun W => chainmanlaw23_CellOnce.step (p0 + d) (p1 + e) 1 0 4607182418800017408 0 Fl.one_bits Fl.zero_bits (by decide +kernel) (by decide +kernel) (by omega) (by omega) (by decide) (by decide) W) (fun W => chainmanlaw23_CellOnce.step p0 p1 (-1) 1 13830554455654793216 4607182418800017408 Fl.neg_bits Fl.one_bits (by decide +kernel) (by decide +kernel) (by omega) (by omega) (by decide) (by decide) W) (fun W => chainmanlaw23_CellOnce.step (p0 + d) (p1 + e) (-1) 1 13830554455654793216 4607182418800017408 Fl.neg_bits Fl.one_bits (by decide +kernel) (by decide +kernel) (by omega) (by omega) (by decide) (by decide) W) (fun W => chainmanlaw23_CellOnce.step p0 p1 0 1 0 4607182418800017408 Fl.zero_bits Fl.one_bits (by decide +kernel) (by decide +kernel) (by omega) (by omega) (by decide) (by decide) W) (fun W => chainmanlaw23_CellOnce.step (p0 + d) (p1 + e) 0 1 0 4607182418800017408 Fl.zero_bits Fl.one_bits (by decide +kernel) (by decide +kernel) (by omega) (by omega) (by decide) (by decide) W) (fun W => chainmanlaw23_CellOnce.step p0 p1 1 1 4607182418800017408 4607182418800017408 Fl.one_bits Fl.one_bits (by decide +kernel) (by decide +kernel) (by omega) (by omega) (by decide) (by decide) W) (fun W => chainmanlaw23_CellOnce.step (p0 + d) (p1 + e) 1 1 4607182418800017408 4607182418800017408 Fl.one_bits Fl.one_bits (by decide +kernel) (by decide +kernel) (by omega) (by omega) (by decide) (by decide) W)
      ?_ (fun W => cell_Beside.calls _ _ _ _ _ W (chainmanlaw23_CellOnce.beside p0 p1 (p0 + d) (p1 + e) d e (by omega) (by omega) (by omega) (by omega) (by omega) (by omega))) (fun W => cell_Beside.calls _ _ _ _ _ W ((chainmanlaw23_CellOnce.beside (p0 + d) (p1 + e) p0 p1 (-d) (-e) (by omega) (by omega) (by omega) (by omega) (by omega) (by omega)).trans (congrArg some (chainmanlaw23_CellOnce.besn d e)))) (fun W => cell_Less.calls 10 _ _ _ _ _ W (chainmanlaw23_CellOnce.less _ _ _ _)) (fun W => cell_Less.calls 10 _ _ _ _ _ W (chainmanlaw23_CellOnce.less _ _ _ _)) ?_
    · rw [chainmanlaw23_CellOnce.hit_eq (p0 + 1) (p1 + 0) (p0 + d) (p1 + e) (1 - d) (0 - e) (by omega) (by omega), chainmanlaw23_CellOnce.hit_eq (p0 + d + 1) (p1 + e + 0) p0 p1 (d + 1) (e + 0) (by omega) (by omega), chainmanlaw23_CellOnce.hit_eq (p0 + (-1)) (p1 + 1) (p0 + d) (p1 + e) ((-1) - d) (1 - e) (by omega) (by omega), chainmanlaw23_CellOnce.hit_eq (p0 + d + (-1)) (p1 + e + 1) p0 p1 (d + (-1)) (e + 1) (by omega) (by omega), chainmanlaw23_CellOnce.hit_eq (p0 + 0) (p1 + 1) (p0 + d) (p1 + e) (0 - d) (1 - e) (by omega) (by omega), chainmanlaw23_CellOnce.hit_eq (p0 + d + 0) (p1 + e + 1) p0 p1 (d + 0) (e + 1) (by omega) (by omega), chainmanlaw23_CellOnce.hit_eq (p0 + 1) (p1 + 1) (p0 + d) (p1 + e) (1 - d) (1 - e) (by omega) (by omega), chainmanlaw23_CellOnce.hit_eq (p0 + d + 1) (p1 + e + 1) p0 p1 (d + 1) (e + 1) (by omega) (by omega)]
      exact chainmanlaw23_CellOnce.law d (chainmanlaw23_CellOnce.seven d hd3) e (chainmanlaw23_CellOnce.seven e he3)
    · unfold chainmanlaw23_CellOnce.bes
      intro hk
      rw [bne_iff_ne, Ne, Bool.eq_iff_iff]
      simp only [Bool.and_eq_true, Bool.or_eq_true, Bool.not_eq_true', beq_eq_false_iff_ne, ne_eq, decide_eq_true_eq] at hk ⊢
      omega



/-- THE ONE PURE STATEMENT of chainmanlaw23_CellOnce. -/
def chainmanlaw23_CellOnce.Pure : Prop := ∀ (a0 : Int) (a1 : Int) (a2 : Int) (a3 : Int), (Lit.int .i32 a0).wf = true → (Lit.int .i32 a1).wf = true → (Lit.int .i8 a2).wf = true → (Lit.int .i8 a3).wf = true → chainmanlaw23_CellOnce.f a0 a1 a2 a3 = some true
theorem chainmanlaw23_CellOnce.walk (P : chainmanlaw23_CellOnce.Pure) (a0 : Int) (a1 : Int) (a2 : Int) (a3 : Int) (w : World) (w0 : (Lit.int .i32 a0).wf = true) (w1 : (Lit.int .i32 a1).wf = true) (w2 : (Lit.int .i8 a2).wf = true) (w3 : (Lit.int .i8 a3).wf = true) :
    Calls Try.prog 5 #[.int .i32 a0, .int .i32 a1, .int .i8 a2, .int .i8 a3] w fun e w' => e = .returned (.bool true) ∧ Below w.heap.size w w' := by
  have h := P a0 a1 a2 a3 w0 w1 w2 w3
  refine (chainmanlaw23_CellOnce.calls a0 a1 a2 a3 true w     h).mono ?_
  rintro e w' ⟨rfl, hd⟩
  exact ⟨rfl, hd⟩

end Go.Proofs.Ytgpgekjhpkakbaa.PCellOnce
