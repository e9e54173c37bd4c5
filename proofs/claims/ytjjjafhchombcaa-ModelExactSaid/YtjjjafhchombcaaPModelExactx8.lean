/- The Go functions that the law reaches, and walks to them; printed by wip/tool/mkprint.py. -/
import Derived.Test.YtjjjafhchombcaaPModelExactx0
import Derived.Test.YtjjjafhchombcaaPModelExactx6
import Derived.Test.YtjjjafhchombcaaPModelExactx7
namespace Go.Proofs.Ytjjjafhchombcaa.PModelExact
open Go.RowKit Go.Proofs.YtjjjafhchombcaaW.PrintWords Go.Proofs.YtjjjafhchombcaaW.PrintLast Go.Proofs.YtjjjafhchombcaaW.PrintMore
attribute [local go_sem] max2_int min2_int max_two min_two max_three min_three max_four min_four   -- for this text's walks alone
set_option linter.unusedVariables false
set_option linter.unusedSimpArgs false

/-! ### api_Near_150: function 150 -/
/-- Where one would stand, between two places. -/
def api_Near_150.bs (l : List S74) (x : S74) : Nat → Nat → Nat → Nat
 | 0, i, _ => i
 | d + 1, i, j => if i < j then (if topk_Right.ord (l.getD ((i + j) / 2) z74) x < 0 then api_Near_150.bs l x d ((i + j) / 2 + 1) j else api_Near_150.bs l x d i ((i + j) / 2)) else i
def api_Near_150.at (l : List S74) (x : S74) : Nat := api_Near_150.bs l x (l.length + 1) 0 l.length
def api_Near_150.f (l0 : List S74) (a1_0 : Int) (a1_1 : Int) (a1_2 : Bool) (_ : Unit) : Option (Int × Bool) := if l0.length ≤ 1000000000 then some ((api_Near_150.at l0 ⟨a1_0, a1_1, a1_2⟩ : Int), decide (api_Near_150.at l0 ⟨a1_0, a1_1, a1_2⟩ < l0.length) && decide (topk_Right.ord (l0.getD (api_Near_150.at l0 ⟨a1_0, a1_1, a1_2⟩) z74) ⟨a1_0, a1_1, a1_2⟩ = 0)) else none
/-- A call of a function that lies in a slot. -/
theorem api_Near_150.goesv {P : Program} {ops : Array Oper} {Q : Exit → Act → World → Prop} {oi : Oper} {N : Option Tmp} {a : Act} {w : World} {K : Act → World → Prop} {f : FuncId} {fn : Func} {xs : Array Operand} {ts : Array TypeId} {c : Operand} (hf : P.funcs[f]? = some fn) (hname : (fn.name == "runtime.NumGoroutine") = false) (hb : fn.body.isSome = true) (args : Array Value)
  (hw : Region.wanted oi (yielded ops a.tmps) = true) (hN : oi.dst = N) (hop : oi.op = .call { callee := .value c, args := xs, argTypes := ts }) (hc : a.eval c = .func (.func f) #[] #[]) (hargs : xs.map a.eval = args)
  (h : Calls P f args w fun e w' => ∃ v, e = .returned v ∧ K (a.put N v) w') : if Region.wanted oi (yielded ops a.tmps) = true then Oper.wp P oi a w K Q else K (a.put N undef) w := by
 refine call_ f args hw hN ?_ h
 have he := enters_ hf hname hb args w
 unfold execOp
 simp [hop, resolve, Deferred.ofValue, invoke, hc, hargs, he]
set_option maxHeartbeats 4000000 in
set_option maxRecDepth 100000 in
theorem api_Near_150.calls (A0 : Option Addr) (c0 : Nat) (l0 : List S74) (a1_0 : Int) (a1_1 : Int) (a1_2 : Bool) (u : Unit) (r1 : Int) (r2 : Bool) (w : World) (hr0 : Kd.C k74 w A0 l0.length l0) (hc0 : l0.length ≤ c0) (h : api_Near_150.f l0 a1_0 a1_1 a1_2 u = some (r1, r2)) :
  Calls Try.prog 150 #[.slice A0 l0.length c0, .agg #[.int .i64 a1_0, .int .i64 a1_1, .bool a1_2], .func (.func 151) #[] #[]] w fun e w' => e = .returned (.tuple #[.int .i64 r1, .bool r2]) ∧ Below w.heap.size w w' := by
 obtain ⟨x, hx0⟩ : ∃ x : S74, x = ⟨a1_0, a1_1, a1_2⟩ := ⟨_, rfl⟩
 obtain ⟨rfl, rfl, rfl⟩ : a1_0 = x.f0 ∧ a1_1 = x.f1 ∧ a1_2 = x.f2 := by rw [hx0]; exact ⟨rfl, rfl, rfl⟩
 clear hx0
 unfold api_Near_150.f at h
 split at h
 case isFalse => cases h
 case isTrue hl =>
 obtain ⟨e1, e2⟩ := Prod.mk.inj (Option.some.inj h)
 clear h
 have HE := Aside0.mk (And.intro e1 e2)
 clear e1 e2
 have hu26 := Try.underlying74
 obtain ⟨W1, hW1⟩ : ∃ W1, w.alloc (.cells #[.int .i64 x.f0, .int .i64 x.f1, .bool x.f2] 74) = W1 := ⟨_, rfl⟩
 have HX1 := Aside0.mk (show Below w.heap.size w W1 by rw [← hW1]; exact below_alloc (Below.refl _ _) _)
 have HK := Aside0.mk (show W1.heap[w.heap.size]? = some (.cells #[.int .i64 x.f0, .int .i64 x.f1, .bool x.f2] 74) by rw [← hW1]; exact blk_new _ _)
 have HR := Aside0.mk hr0
 clear hr0
 go_enter Try.func150, Try.ntmps150
 go_wp2
 try rw [hW1]
 clear hW1
 go_loopw [9, 10] (fun vi vj wr => ∃ (i j d : Nat), vi = .int .i64 (i : Int) ∧ vj = .int .i64 (j : Int) ∧ Aside0 (i ≤ j ∧ j ≤ l0.length ∧ j - i < d ∧ api_Near_150.bs l0 x d i j = api_Near_150.at l0 x) ∧ Aside0 (Below W1.heap.size W1 wr)) (fun vi vj _ => (intOf vj).toNat - (intOf vi).toNat)
 case atStart => exact ⟨0, l0.length, l0.length + 1, rfl, rfl, ⟨Nat.zero_le _, Nat.le_refl _, by omega, rfl⟩, ⟨Below.refl _ _⟩⟩
 case round =>
  obtain ⟨i, j, d, rfl, rfl, HQ, HB⟩ := hrel
  obtain ⟨q1, q2, q3, q4⟩ := HQ.out
  cases d with
  | zero => omega
  | succ d =>
  by_cases hlt : i < j
  ·have b1 : decide ((i : Int) < (j : Int)) = true := decide_eq_true (by omega)
   obtain ⟨m, hm⟩ : ∃ m, (i + j) / 2 = m := ⟨_, rfl⟩
   have HL := Aside0.mk (show m < l0.length ∧ i ≤ m ∧ m < j by omega)
   obtain ⟨z, hz⟩ : ∃ z, l0[m]'(HL.out.1) = z := ⟨_, rfl⟩
   have hq : api_Near_150.bs l0 x (d + 1) i j = if topk_Right.ord z x < 0 then api_Near_150.bs l0 x d (m + 1) j else api_Near_150.bs l0 x d i m := by
    rw [api_Near_150.bs, if_pos hlt, hm, topk_Right.at l0 _ HL.out.1, hz]
   rw [q4] at hq
   have HQ := Aside0.mk (And.intro q1 (And.intro q2 (And.intro q3 hq)))
   have hh := Aside0.mk (show wrap64 (IntKind.u64.wrap ((i : Int) + (j : Int)) / 2) = (m : Int) by rw [IntKind.wrap_u64]; unfold wrap64; omega)
   have hw1 : IntKind.i64.wrap ((i : Int) + (j : Int)) = (i : Int) + (j : Int) := by rw [i64_w]; unfold wrap64; omega
   obtain ⟨ad, ead, _⟩ := at_T74 HR.out (m : Int) (by omega) (by have := HL.out; omega)
   cases ead
   clear q1 q2 q3 q4 hq hm
   go_upto_region 5 with (fail)
   rw [hh.out]
   clear b1
   have d2 : ((0 : Int) ≤ (m : Int)) = True := eq_true (by omega)
   have d3 : ((m : Int) < (l0.length : Int)) = True := eq_true (by have := HL.out; omega)
   have d4 : IntKind.i64.wrap ((m : Int) + 1) = ((m + 1 : Nat) : Int) := by rw [i64_w]; unfold wrap64; have := HL.out; omega
   by_cases ho : topk_Right.ord z x < 0
   ·have hOrd := fun W => topk_order.calls 4 z.f0 z.f1 z.f2 x.f0 x.f1 x.f2 _ W (topk_Right.ord_f z x)
    have g5 : decide (topk_Right.ord z x < 0) = true := decide_eq_true ho
    have HN := Aside0.mk ho
    clear ho
    refine start_ (ds := []) (n := 8) (S := fun W => Below wr.heap.size wr W) #[false, false, false, false, false, false, false, false] (by kernel_rfl) rfl (by rfl) (below_drew (Below.refl _ _)) (fun hHeld => ?_)
    refine pure_ (i := 0) (N := (some 24)) (v := ?_) (a' := ?_) #[true, false, false, false, false, false, false, false] rfl rfl (by kernel_rfl) (fun _ _ _ h => h) (Or.inl ⟨by rfl, ?_⟩) ?_ ?_
    rotate_left
    ·intro w'
     go_simp
     first | with_reducible rfl | rfl
    rotate_left
    ·simp only [Act.put, List.setIfInBounds_toArray, List.set_cons_zero, List.set_cons_succ, i64_w, i32_w]
     rfl
    refine pure_ (i := 1) (N := (some 25)) (v := ?_) (a' := ?_) #[true, true, false, false, false, false, false, false] rfl rfl (by kernel_rfl) (fun _ _ _ h => h) (Or.inl ⟨by rfl, ?_⟩) ?_ ?_
    rotate_left
    ·intro w'
     go_simp
     first | with_reducible rfl | rfl
    rotate_left
    ·simp only [Act.put, List.setIfInBounds_toArray, List.set_cons_zero, List.set_cons_succ, i64_w, i32_w]
     rfl
    refine pure_ (i := 2) (N := (some 26)) (v := ?_) (a' := ?_) #[true, true, true, false, false, false, false, false] rfl rfl (by kernel_rfl) (fun _ _ _ h => h) (Or.inl ⟨by rfl, ?_⟩) ?_ ?_
    rotate_left
    ·intro w'
     go_simp
     first | with_reducible rfl | rfl
    rotate_left
    ·simp only [Act.put, List.setIfInBounds_toArray, List.set_cons_zero, List.set_cons_succ, i64_w, i32_w]
     rfl
    refine pure_ (i := 3) (N := (some 27)) (v := ?_) (a' := ?_) #[true, true, true, true, false, false, false, false] rfl rfl (by kernel_rfl) (fun _ _ _ h => h) (Or.inl ⟨by rfl, ?_⟩) ?_ ?_
    rotate_left
    ·intro w'
     go_simp
     first | with_reducible rfl | rfl
    rotate_left
    ·simp only [Act.put, List.setIfInBounds_toArray, List.set_cons_zero, List.set_cons_succ, i64_w, i32_w]
     rfl
    refine take_ (i := 4) (N := (some 28)) (v := ?_) (a' := ?_) #[true, true, true, true, true, false, false, false] rfl rfl (by kernel_rfl) (fun _ _ _ h => h) (Or.inl ⟨by rfl, ?_⟩) hHeld ?_ ?_
    rotate_left
    ·intro w' hw'
     obtain ⟨ad2, ead2, g0, g1, g2⟩ := at_T74 (Kd.C_below HR.out (below_step HX1.out (below_step HB.out hw'))) ((m : Nat) : Int) (by have := HL.out; omega) (by have := HL.out; omega)
     cases ead2
     rw [api_Near_139.rd l0 (m) (by have := HL.out; omega)] at g0 g1 g2
     rw [Int.toNat_natCast] at g0 g1 g2
     rw [hz] at g0 g1 g2
     go_simp
     first | done | with_reducible rfl | rfl
    rotate_left
    ·simp only [Act.put, List.setIfInBounds_toArray, List.set_cons_zero, List.set_cons_succ, i64_w, i32_w]
     rfl
    refine take_ (i := 5) (N := (some 29)) (v := ?_) (a' := ?_) #[true, true, true, true, true, true, false, false] rfl rfl (by kernel_rfl) (fun _ _ _ h => h) (Or.inl ⟨by rfl, ?_⟩) hHeld ?_ ?_
    rotate_left
    ·intro w' hw'
     have k0 := blk_below HK.out (below_step HB.out hw')
     have e0 : w'.cell? ⟨w.heap.size, 0, none⟩ = some (.int .i64 x.f0) := (blk_cell k0 0).trans rfl
     have e1 : w'.cell? ⟨w.heap.size, 1, none⟩ = some (.int .i64 x.f1) := (blk_cell k0 1).trans rfl
     have e2 : w'.cell? ⟨w.heap.size, 2, none⟩ = some (.bool x.f2) := (blk_cell k0 2).trans rfl
     go_simp
     first | done | with_reducible rfl | rfl
    rotate_left
    ·simp only [Act.put, List.setIfInBounds_toArray, List.set_cons_zero, List.set_cons_succ, i64_w, i32_w]
     rfl
    refine one_ (i := 6) (N := (some 30)) #[true, true, true, true, true, true, true, false] rfl rfl (by kernel_rfl) (by decide) (fun K hK => ?_)
    refine api_Near_150.goesv Try.func151 (by kernel_rfl) rfl #[.agg #[.int .i64 z.f0, .int .i64 z.f1, .bool z.f2], .agg #[.int .i64 x.f0, .int .i64 x.f1, .bool x.f2]] (by rfl) rfl rfl (by rfl) (by (try simp only [List.map_toArray, List.map_cons, List.map_nil]); first | done | rfl) ?_
    with_reducible refine (hOrd _).mono ?_
    rintro e wO ⟨rfl, hbO⟩
    refine ⟨_, rfl, ?_⟩
    refine hK.out _ _ (below_step hHeld hbO) (fun hHeld => ?_)
    clear hK K
    refine norm_ (a' := ?_) ?_ ?_
    rotate_left
    ·show Act.put _ (some 30) _ = _
     simp only [Act.put, List.setIfInBounds_toArray, List.set_cons_zero, List.set_cons_succ, i64_w, i32_w]
     rfl
    refine pure_ (i := 7) (N := (some 31)) (v := ?_) (a' := ?_) #[true, true, true, true, true, true, true, true] rfl rfl (by kernel_rfl) (fun _ _ _ h => h) (Or.inl ⟨by rfl, ?_⟩) ?_ ?_
    rotate_left
    ·intro w'
     go_simp
     first | with_reducible rfl | rfl
    rotate_left
    ·simp only [Act.put, List.setIfInBounds_toArray, List.set_cons_zero, List.set_cons_succ, i64_w, i32_w]
     rfl
    refine done_ (by kernel_rfl) ?_
    have HB2 := Aside0.mk (below_step HB.out hHeld)
    clear hHeld hbO
    go_wp2
    go_roundw
    case rel => exact ⟨m + 1, j, d, by first | rfl | go_num, rfl, ⟨by have := HL.out; omega, HQ.out.2.1, by have := HQ.out.2.2.1; have := HL.out; omega, by rw [HQ.out.2.2.2, if_pos HN.out]⟩, HB2⟩
    case measure => have := HL.out; simp [intOf]; omega
   ·have hOrd := fun W => topk_order.calls 4 z.f0 z.f1 z.f2 x.f0 x.f1 x.f2 _ W (topk_Right.ord_f z x)
    have g5 : decide (topk_Right.ord z x < 0) = false := decide_eq_false ho
    have HN := Aside0.mk ho
    clear ho
    refine start_ (ds := []) (n := 8) (S := fun W => Below wr.heap.size wr W) #[false, false, false, false, false, false, false, false] (by kernel_rfl) rfl (by rfl) (below_drew (Below.refl _ _)) (fun hHeld => ?_)
    refine pure_ (i := 0) (N := (some 24)) (v := ?_) (a' := ?_) #[true, false, false, false, false, false, false, false] rfl rfl (by kernel_rfl) (fun _ _ _ h => h) (Or.inl ⟨by rfl, ?_⟩) ?_ ?_
    rotate_left
    ·intro w'
     go_simp
     first | with_reducible rfl | rfl
    rotate_left
    ·simp only [Act.put, List.setIfInBounds_toArray, List.set_cons_zero, List.set_cons_succ, i64_w, i32_w]
     rfl
    refine pure_ (i := 1) (N := (some 25)) (v := ?_) (a' := ?_) #[true, true, false, false, false, false, false, false] rfl rfl (by kernel_rfl) (fun _ _ _ h => h) (Or.inl ⟨by rfl, ?_⟩) ?_ ?_
    rotate_left
    ·intro w'
     go_simp
     first | with_reducible rfl | rfl
    rotate_left
    ·simp only [Act.put, List.setIfInBounds_toArray, List.set_cons_zero, List.set_cons_succ, i64_w, i32_w]
     rfl
    refine pure_ (i := 2) (N := (some 26)) (v := ?_) (a' := ?_) #[true, true, true, false, false, false, false, false] rfl rfl (by kernel_rfl) (fun _ _ _ h => h) (Or.inl ⟨by rfl, ?_⟩) ?_ ?_
    rotate_left
    ·intro w'
     go_simp
     first | with_reducible rfl | rfl
    rotate_left
    ·simp only [Act.put, List.setIfInBounds_toArray, List.set_cons_zero, List.set_cons_succ, i64_w, i32_w]
     rfl
    refine pure_ (i := 3) (N := (some 27)) (v := ?_) (a' := ?_) #[true, true, true, true, false, false, false, false] rfl rfl (by kernel_rfl) (fun _ _ _ h => h) (Or.inl ⟨by rfl, ?_⟩) ?_ ?_
    rotate_left
    ·intro w'
     go_simp
     first | with_reducible rfl | rfl
    rotate_left
    ·simp only [Act.put, List.setIfInBounds_toArray, List.set_cons_zero, List.set_cons_succ, i64_w, i32_w]
     rfl
    refine take_ (i := 4) (N := (some 28)) (v := ?_) (a' := ?_) #[true, true, true, true, true, false, false, false] rfl rfl (by kernel_rfl) (fun _ _ _ h => h) (Or.inl ⟨by rfl, ?_⟩) hHeld ?_ ?_
    rotate_left
    ·intro w' hw'
     obtain ⟨ad2, ead2, g0, g1, g2⟩ := at_T74 (Kd.C_below HR.out (below_step HX1.out (below_step HB.out hw'))) ((m : Nat) : Int) (by have := HL.out; omega) (by have := HL.out; omega)
     cases ead2
     rw [api_Near_139.rd l0 (m) (by have := HL.out; omega)] at g0 g1 g2
     rw [Int.toNat_natCast] at g0 g1 g2
     rw [hz] at g0 g1 g2
     go_simp
     first | done | with_reducible rfl | rfl
    rotate_left
    ·simp only [Act.put, List.setIfInBounds_toArray, List.set_cons_zero, List.set_cons_succ, i64_w, i32_w]
     rfl
    refine take_ (i := 5) (N := (some 29)) (v := ?_) (a' := ?_) #[true, true, true, true, true, true, false, false] rfl rfl (by kernel_rfl) (fun _ _ _ h => h) (Or.inl ⟨by rfl, ?_⟩) hHeld ?_ ?_
    rotate_left
    ·intro w' hw'
     have k0 := blk_below HK.out (below_step HB.out hw')
     have e0 : w'.cell? ⟨w.heap.size, 0, none⟩ = some (.int .i64 x.f0) := (blk_cell k0 0).trans rfl
     have e1 : w'.cell? ⟨w.heap.size, 1, none⟩ = some (.int .i64 x.f1) := (blk_cell k0 1).trans rfl
     have e2 : w'.cell? ⟨w.heap.size, 2, none⟩ = some (.bool x.f2) := (blk_cell k0 2).trans rfl
     go_simp
     first | done | with_reducible rfl | rfl
    rotate_left
    ·simp only [Act.put, List.setIfInBounds_toArray, List.set_cons_zero, List.set_cons_succ, i64_w, i32_w]
     rfl
    refine one_ (i := 6) (N := (some 30)) #[true, true, true, true, true, true, true, false] rfl rfl (by kernel_rfl) (by decide) (fun K hK => ?_)
    refine api_Near_150.goesv Try.func151 (by kernel_rfl) rfl #[.agg #[.int .i64 z.f0, .int .i64 z.f1, .bool z.f2], .agg #[.int .i64 x.f0, .int .i64 x.f1, .bool x.f2]] (by rfl) rfl rfl (by rfl) (by (try simp only [List.map_toArray, List.map_cons, List.map_nil]); first | done | rfl) ?_
    with_reducible refine (hOrd _).mono ?_
    rintro e wO ⟨rfl, hbO⟩
    refine ⟨_, rfl, ?_⟩
    refine hK.out _ _ (below_step hHeld hbO) (fun hHeld => ?_)
    clear hK K
    refine norm_ (a' := ?_) ?_ ?_
    rotate_left
    ·show Act.put _ (some 30) _ = _
     simp only [Act.put, List.setIfInBounds_toArray, List.set_cons_zero, List.set_cons_succ, i64_w, i32_w]
     rfl
    refine pure_ (i := 7) (N := (some 31)) (v := ?_) (a' := ?_) #[true, true, true, true, true, true, true, true] rfl rfl (by kernel_rfl) (fun _ _ _ h => h) (Or.inl ⟨by rfl, ?_⟩) ?_ ?_
    rotate_left
    ·intro w'
     go_simp
     first | with_reducible rfl | rfl
    rotate_left
    ·simp only [Act.put, List.setIfInBounds_toArray, List.set_cons_zero, List.set_cons_succ, i64_w, i32_w]
     rfl
    refine done_ (by kernel_rfl) ?_
    have HB2 := Aside0.mk (below_step HB.out hHeld)
    clear hHeld hbO
    go_wp2
    go_roundw
    case rel => exact ⟨i, m, d, rfl, rfl, ⟨HL.out.2.1, by have := HL.out; omega, by have := HQ.out.2.2.1; have := HL.out; omega, by rw [HQ.out.2.2.2, if_neg HN.out]⟩, HB2⟩
    case measure => have := HL.out; simp [intOf]; omega
  ·obtain rfl : i = j := by omega
   have b1 : decide ((i : Int) < (i : Int)) = false := decide_eq_false (by omega)
   have hi : api_Near_150.at l0 x = i := by rw [← q4, api_Near_150.bs, if_neg (by omega)]
   rw [hi] at HE
   have HE := HE
   clear hi
   go_upto_region 8 with (fail)
   by_cases hn : i < l0.length
   ·have HL := Aside0.mk hn
    obtain ⟨z, hz⟩ : ∃ z, l0[i]'(HL.out) = z := ⟨_, rfl⟩
    obtain ⟨ad, ead, _⟩ := at_T74 HR.out (i : Int) (by omega) (by omega)
    cases ead
    have hOrd := fun W => topk_order.calls 4 z.f0 z.f1 z.f2 x.f0 x.f1 x.f2 _ W (topk_Right.ord_f z x)
    have b2 : decide ((i : Int) < (l0.length : Int)) = true := decide_eq_true (by omega)
    have b5 : (i < l0.length) = True := eq_true hn
    have d2 : ((0 : Int) ≤ (i : Int)) = True := eq_true (by omega)
    have d3 : ((i : Int) < (l0.length : Int)) = True := eq_true (by omega)
    refine start_ (ds := []) (n := 16) (S := fun W => Below wr.heap.size wr W) #[false, false, false, false, false, false, false, false, false, false, false, false, false, false, false, false] (by kernel_rfl) rfl (by rfl) (below_drew (Below.refl _ _)) (fun hHeld => ?_)
    refine pure_ (i := 0) (N := (some 35)) (v := ?_) (a' := ?_) #[true, false, false, false, false, false, false, false, false, false, false, false, false, false, false, false] rfl rfl (by kernel_rfl) (fun _ _ _ h => h) (Or.inl ⟨by rfl, ?_⟩) ?_ ?_
    rotate_left
    ·intro w'
     go_simp
     first | with_reducible rfl | rfl
    rotate_left
    ·simp only [Act.put, List.setIfInBounds_toArray, List.set_cons_zero, List.set_cons_succ, i64_w, i32_w]
     rfl
    refine pure_ (i := 1) (N := (some 36)) (v := ?_) (a' := ?_) #[true, true, false, false, false, false, false, false, false, false, false, false, false, false, false, false] rfl rfl (by kernel_rfl) (fun _ _ _ h => h) (Or.inl ⟨by rfl, ?_⟩) ?_ ?_
    rotate_left
    ·intro w'
     go_simp
     first | with_reducible rfl | rfl
    rotate_left
    ·simp only [Act.put, List.setIfInBounds_toArray, List.set_cons_zero, List.set_cons_succ, i64_w, i32_w]
     rfl
    refine pure_ (i := 2) (N := (some 37)) (v := ?_) (a' := ?_) #[true, true, true, false, false, false, false, false, false, false, false, false, false, false, false, false] rfl rfl (by kernel_rfl) (fun _ _ _ h => h) (Or.inl ⟨by rfl, ?_⟩) ?_ ?_
    rotate_left
    ·intro w'
     go_simp
     first | with_reducible rfl | rfl
    rotate_left
    ·simp only [Act.put, List.setIfInBounds_toArray, List.set_cons_zero, List.set_cons_succ, i64_w, i32_w]
     rfl
    refine pure_ (i := 3) (N := (some 38)) (v := ?_) (a' := ?_) #[true, true, true, true, false, false, false, false, false, false, false, false, false, false, false, false] rfl rfl (by kernel_rfl) (fun _ _ _ h => h) (Or.inl ⟨by rfl, ?_⟩) ?_ ?_
    rotate_left
    ·intro w'
     go_simp
     first | with_reducible rfl | rfl
    rotate_left
    ·simp only [Act.put, List.setIfInBounds_toArray, List.set_cons_zero, List.set_cons_succ, i64_w, i32_w]
     rfl
    refine pure_ (i := 4) (N := (some 39)) (v := ?_) (a' := ?_) #[true, true, true, true, true, false, false, false, false, false, false, false, false, false, false, false] rfl rfl (by kernel_rfl) (fun _ _ _ h => h) (Or.inl ⟨by rfl, ?_⟩) ?_ ?_
    rotate_left
    ·intro w'
     go_simp
     first | with_reducible rfl | rfl
    rotate_left
    ·simp only [Act.put, List.setIfInBounds_toArray, List.set_cons_zero, List.set_cons_succ, i64_w, i32_w]
     rfl
    refine pure_ (i := 5) (N := (some 40)) (v := ?_) (a' := ?_) #[true, true, true, true, true, true, false, false, false, false, false, false, false, false, false, false] rfl rfl (by kernel_rfl) (fun _ _ _ h => h) (Or.inl ⟨by rfl, ?_⟩) ?_ ?_
    rotate_left
    ·intro w'
     go_simp
     first | with_reducible rfl | rfl
    rotate_left
    ·simp only [Act.put, List.setIfInBounds_toArray, List.set_cons_zero, List.set_cons_succ, i64_w, i32_w]
     rfl
    refine pure_ (i := 6) (N := (some 41)) (v := ?_) (a' := ?_) #[true, true, true, true, true, true, true, false, false, false, false, false, false, false, false, false] rfl rfl (by kernel_rfl) (fun _ _ _ h => h) (Or.inl ⟨by rfl, ?_⟩) ?_ ?_
    rotate_left
    ·intro w'
     go_simp
     first | with_reducible rfl | rfl
    rotate_left
    ·simp only [Act.put, List.setIfInBounds_toArray, List.set_cons_zero, List.set_cons_succ, i64_w, i32_w]
     rfl
    refine pure_ (i := 7) (N := (some 42)) (v := ?_) (a' := ?_) #[true, true, true, true, true, true, true, true, false, false, false, false, false, false, false, false] rfl rfl (by kernel_rfl) (fun _ _ _ h => h) (Or.inl ⟨by rfl, ?_⟩) ?_ ?_
    rotate_left
    ·intro w'
     go_simp
     first | with_reducible rfl | rfl
    rotate_left
    ·simp only [Act.put, List.setIfInBounds_toArray, List.set_cons_zero, List.set_cons_succ, i64_w, i32_w]
     rfl
    refine pure_ (i := 8) (N := (some 43)) (v := ?_) (a' := ?_) #[true, true, true, true, true, true, true, true, true, false, false, false, false, false, false, false] rfl rfl (by kernel_rfl) (fun _ _ _ h => h) (Or.inl ⟨by rfl, ?_⟩) ?_ ?_
    rotate_left
    ·intro w'
     go_simp
     first | with_reducible rfl | rfl
    rotate_left
    ·simp only [Act.put, List.setIfInBounds_toArray, List.set_cons_zero, List.set_cons_succ, i64_w, i32_w]
     rfl
    refine take_ (i := 9) (N := (some 44)) (v := ?_) (a' := ?_) #[true, true, true, true, true, true, true, true, true, true, false, false, false, false, false, false] rfl rfl (by kernel_rfl) (fun _ _ _ h => h) (Or.inl ⟨by rfl, ?_⟩) hHeld ?_ ?_
    rotate_left
    ·intro w' hw'
     obtain ⟨ad2, ead2, g0, g1, g2⟩ := at_T74 (Kd.C_below HR.out (below_step HX1.out (below_step HB.out hw'))) ((i : Nat) : Int) (by have := HL.out; omega) (by have := HL.out; omega)
     cases ead2
     rw [api_Near_139.rd l0 (i) (by have := HL.out; omega)] at g0 g1 g2
     rw [Int.toNat_natCast] at g0 g1 g2
     rw [hz] at g0 g1 g2
     go_simp
     first | done | with_reducible rfl | rfl
    rotate_left
    ·simp only [Act.put, List.setIfInBounds_toArray, List.set_cons_zero, List.set_cons_succ, i64_w, i32_w]
     rfl
    refine take_ (i := 10) (N := (some 45)) (v := ?_) (a' := ?_) #[true, true, true, true, true, true, true, true, true, true, true, false, false, false, false, false] rfl rfl (by kernel_rfl) (fun _ _ _ h => h) (Or.inl ⟨by rfl, ?_⟩) hHeld ?_ ?_
    rotate_left
    ·intro w' hw'
     have k0 := blk_below HK.out (below_step HB.out hw')
     have e0 : w'.cell? ⟨w.heap.size, 0, none⟩ = some (.int .i64 x.f0) := (blk_cell k0 0).trans rfl
     have e1 : w'.cell? ⟨w.heap.size, 1, none⟩ = some (.int .i64 x.f1) := (blk_cell k0 1).trans rfl
     have e2 : w'.cell? ⟨w.heap.size, 2, none⟩ = some (.bool x.f2) := (blk_cell k0 2).trans rfl
     go_simp
     first | done | with_reducible rfl | rfl
    rotate_left
    ·simp only [Act.put, List.setIfInBounds_toArray, List.set_cons_zero, List.set_cons_succ, i64_w, i32_w]
     rfl
    refine one_ (i := 11) (N := (some 46)) #[true, true, true, true, true, true, true, true, true, true, true, true, false, false, false, false] rfl rfl (by kernel_rfl) (by decide) (fun K hK => ?_)
    refine api_Near_150.goesv Try.func151 (by kernel_rfl) rfl #[.agg #[.int .i64 z.f0, .int .i64 z.f1, .bool z.f2], .agg #[.int .i64 x.f0, .int .i64 x.f1, .bool x.f2]] (by rfl) rfl rfl (by rfl) (by (try simp only [List.map_toArray, List.map_cons, List.map_nil]); first | done | rfl) ?_
    with_reducible refine (hOrd _).mono ?_
    rintro e wO ⟨rfl, hbO⟩
    refine ⟨_, rfl, ?_⟩
    refine hK.out _ _ (below_step hHeld hbO) (fun hHeld => ?_)
    clear hK K
    refine norm_ (a' := ?_) ?_ ?_
    rotate_left
    ·show Act.put _ (some 46) _ = _
     simp only [Act.put, List.setIfInBounds_toArray, List.set_cons_zero, List.set_cons_succ, i64_w, i32_w]
     rfl
    refine pure_ (i := 12) (N := (some 47)) (v := ?_) (a' := ?_) #[true, true, true, true, true, true, true, true, true, true, true, true, true, false, false, false] rfl rfl (by kernel_rfl) (fun _ _ _ h => h) (Or.inl ⟨by rfl, ?_⟩) ?_ ?_
    rotate_left
    ·intro w'
     go_simp
     first | with_reducible rfl | rfl
    rotate_left
    ·simp only [Act.put, List.setIfInBounds_toArray, List.set_cons_zero, List.set_cons_succ, i64_w, i32_w]
     rfl
    refine pure_ (i := 13) (N := (some 48)) (v := ?_) (a' := ?_) #[true, true, true, true, true, true, true, true, true, true, true, true, true, true, false, false] rfl rfl (by kernel_rfl) (fun _ _ _ h => h) (Or.inl ⟨by rfl, ?_⟩) ?_ ?_
    rotate_left
    ·intro w'
     go_simp
     first | with_reducible rfl | rfl
    rotate_left
    ·simp only [Act.put, List.setIfInBounds_toArray, List.set_cons_zero, List.set_cons_succ, i64_w, i32_w]
     rfl
    refine pure_ (i := 14) (N := (some 6)) (v := ?_) (a' := ?_) #[true, true, true, true, true, true, true, true, true, true, true, true, true, true, true, false] rfl rfl (by kernel_rfl) (fun _ _ _ h => h) (Or.inl ⟨by rfl, ?_⟩) ?_ ?_
    rotate_left
    ·intro w'
     go_simp
     first | with_reducible rfl | rfl
    rotate_left
    ·simp only [Act.put, List.setIfInBounds_toArray, List.set_cons_zero, List.set_cons_succ, i64_w, i32_w]
     rfl
    refine pure_ (i := 15) (N := (some 7)) (v := ?_) (a' := ?_) #[true, true, true, true, true, true, true, true, true, true, true, true, true, true, true, true] rfl rfl (by kernel_rfl) (fun _ _ _ h => h) (Or.inl ⟨by rfl, ?_⟩) ?_ ?_
    rotate_left
    ·intro w'
     go_simp
     first | with_reducible rfl | rfl
    rotate_left
    ·simp only [Act.put, List.setIfInBounds_toArray, List.set_cons_zero, List.set_cons_succ, i64_w, i32_w]
     rfl
    refine done_ (by kernel_rfl) ?_
    have HB2 := Aside0.mk (below_step HB.out hHeld)
    clear hHeld hbO
    go_wp2
    go_ret2
    refine ⟨?_, below_step HX1.out HB2.out⟩
    rw [← HE.out.1, ← HE.out.2, decide_eq_true HL.out, topk_Right.at l0 i HL.out, hz]
    rfl
   ·have b2 : decide ((i : Int) < (l0.length : Int)) = false := decide_eq_false (by omega)
    have b5 : (i < l0.length) = False := eq_false hn
    have HN := Aside0.mk hn
    clear hn
    refine start_ (ds := []) (n := 16) (S := fun W => Below wr.heap.size wr W) #[false, false, false, false, false, false, false, false, false, false, false, false, false, false, false, false] (by kernel_rfl) rfl (by rfl) (below_drew (Below.refl _ _)) (fun hHeld => ?_)
    refine pure_ (i := 0) (N := (some 35)) (v := ?_) (a' := ?_) #[true, false, false, false, false, false, false, false, false, false, false, false, false, false, false, false] rfl rfl (by kernel_rfl) (fun _ _ _ h => h) (Or.inl ⟨by rfl, ?_⟩) ?_ ?_
    rotate_left
    ·intro w'
     go_simp
     first | with_reducible rfl | rfl
    rotate_left
    ·simp only [Act.put, List.setIfInBounds_toArray, List.set_cons_zero, List.set_cons_succ, i64_w, i32_w]
     rfl
    refine pure_ (i := 1) (N := (some 36)) (v := ?_) (a' := ?_) #[true, true, false, false, false, false, false, false, false, false, false, false, false, false, false, false] rfl rfl (by kernel_rfl) (fun _ _ _ h => h) (Or.inl ⟨by rfl, ?_⟩) ?_ ?_
    rotate_left
    ·intro w'
     go_simp
     first | with_reducible rfl | rfl
    rotate_left
    ·simp only [Act.put, List.setIfInBounds_toArray, List.set_cons_zero, List.set_cons_succ, i64_w, i32_w]
     rfl
    refine pure_ (i := 2) (N := (some 37)) (v := ?_) (a' := ?_) #[true, true, true, false, false, false, false, false, false, false, false, false, false, false, false, false] rfl rfl (by kernel_rfl) (fun _ _ _ h => h) (Or.inl ⟨by rfl, ?_⟩) ?_ ?_
    rotate_left
    ·intro w'
     go_simp
     first | with_reducible rfl | rfl
    rotate_left
    ·simp only [Act.put, List.setIfInBounds_toArray, List.set_cons_zero, List.set_cons_succ, i64_w, i32_w]
     rfl
    refine pure_ (i := 3) (N := (some 38)) (v := ?_) (a' := ?_) #[true, true, true, true, false, false, false, false, false, false, false, false, false, false, false, false] rfl rfl (by kernel_rfl) (fun _ _ _ h => h) (Or.inl ⟨by rfl, ?_⟩) ?_ ?_
    rotate_left
    ·intro w'
     go_simp
     first | with_reducible rfl | rfl
    rotate_left
    ·simp only [Act.put, List.setIfInBounds_toArray, List.set_cons_zero, List.set_cons_succ, i64_w, i32_w]
     rfl
    refine pure_ (i := 4) (N := (some 39)) (v := ?_) (a' := ?_) #[true, true, true, true, true, false, false, false, false, false, false, false, false, false, false, false] rfl rfl (by kernel_rfl) (fun _ _ _ h => h) (Or.inl ⟨by rfl, ?_⟩) ?_ ?_
    rotate_left
    ·intro w'
     go_simp
     first | with_reducible rfl | rfl
    rotate_left
    ·simp only [Act.put, List.setIfInBounds_toArray, List.set_cons_zero, List.set_cons_succ, i64_w, i32_w]
     rfl
    refine pure_ (i := 5) (N := (some 40)) (v := undef) (a' := ?_) #[true, true, true, true, true, true, false, false, false, false, false, false, false, false, false, false] rfl rfl (by kernel_rfl) (fun _ _ _ h => h) (Or.inr ⟨by rfl, rfl⟩) ?_ ?_
    rotate_left
    ·simp only [Act.put, List.setIfInBounds_toArray, List.set_cons_zero, List.set_cons_succ, i64_w, i32_w]
     rfl
    refine pure_ (i := 6) (N := (some 41)) (v := undef) (a' := ?_) #[true, true, true, true, true, true, true, false, false, false, false, false, false, false, false, false] rfl rfl (by kernel_rfl) (fun _ _ _ h => h) (Or.inr ⟨by rfl, rfl⟩) ?_ ?_
    rotate_left
    ·simp only [Act.put, List.setIfInBounds_toArray, List.set_cons_zero, List.set_cons_succ, i64_w, i32_w]
     rfl
    refine pure_ (i := 7) (N := (some 42)) (v := undef) (a' := ?_) #[true, true, true, true, true, true, true, true, false, false, false, false, false, false, false, false] rfl rfl (by kernel_rfl) (fun _ _ _ h => h) (Or.inr ⟨by rfl, rfl⟩) ?_ ?_
    rotate_left
    ·simp only [Act.put, List.setIfInBounds_toArray, List.set_cons_zero, List.set_cons_succ, i64_w, i32_w]
     rfl
    refine pure_ (i := 8) (N := (some 43)) (v := undef) (a' := ?_) #[true, true, true, true, true, true, true, true, true, false, false, false, false, false, false, false] rfl rfl (by kernel_rfl) (fun _ _ _ h => h) (Or.inr ⟨by rfl, rfl⟩) ?_ ?_
    rotate_left
    ·simp only [Act.put, List.setIfInBounds_toArray, List.set_cons_zero, List.set_cons_succ, i64_w, i32_w]
     rfl
    refine pure_ (i := 9) (N := (some 44)) (v := undef) (a' := ?_) #[true, true, true, true, true, true, true, true, true, true, false, false, false, false, false, false] rfl rfl (by kernel_rfl) (fun _ _ _ h => h) (Or.inr ⟨by rfl, rfl⟩) ?_ ?_
    rotate_left
    ·simp only [Act.put, List.setIfInBounds_toArray, List.set_cons_zero, List.set_cons_succ, i64_w, i32_w]
     rfl
    refine pure_ (i := 10) (N := (some 45)) (v := undef) (a' := ?_) #[true, true, true, true, true, true, true, true, true, true, true, false, false, false, false, false] rfl rfl (by kernel_rfl) (fun _ _ _ h => h) (Or.inr ⟨by rfl, rfl⟩) ?_ ?_
    rotate_left
    ·simp only [Act.put, List.setIfInBounds_toArray, List.set_cons_zero, List.set_cons_succ, i64_w, i32_w]
     rfl
    refine pure_ (i := 11) (N := (some 46)) (v := undef) (a' := ?_) #[true, true, true, true, true, true, true, true, true, true, true, true, false, false, false, false] rfl rfl (by kernel_rfl) (fun _ _ _ h => h) (Or.inr ⟨by rfl, rfl⟩) ?_ ?_
    rotate_left
    ·simp only [Act.put, List.setIfInBounds_toArray, List.set_cons_zero, List.set_cons_succ, i64_w, i32_w]
     rfl
    refine pure_ (i := 12) (N := (some 47)) (v := undef) (a' := ?_) #[true, true, true, true, true, true, true, true, true, true, true, true, true, false, false, false] rfl rfl (by kernel_rfl) (fun _ _ _ h => h) (Or.inr ⟨by rfl, rfl⟩) ?_ ?_
    rotate_left
    ·simp only [Act.put, List.setIfInBounds_toArray, List.set_cons_zero, List.set_cons_succ, i64_w, i32_w]
     rfl
    refine pure_ (i := 13) (N := (some 48)) (v := ?_) (a' := ?_) #[true, true, true, true, true, true, true, true, true, true, true, true, true, true, false, false] rfl rfl (by kernel_rfl) (fun _ _ _ h => h) (Or.inl ⟨by rfl, ?_⟩) ?_ ?_
    rotate_left
    ·intro w'
     go_simp
     first | with_reducible rfl | rfl
    rotate_left
    ·simp only [Act.put, List.setIfInBounds_toArray, List.set_cons_zero, List.set_cons_succ, i64_w, i32_w]
     rfl
    refine pure_ (i := 14) (N := (some 6)) (v := ?_) (a' := ?_) #[true, true, true, true, true, true, true, true, true, true, true, true, true, true, true, false] rfl rfl (by kernel_rfl) (fun _ _ _ h => h) (Or.inl ⟨by rfl, ?_⟩) ?_ ?_
    rotate_left
    ·intro w'
     go_simp
     first | with_reducible rfl | rfl
    rotate_left
    ·simp only [Act.put, List.setIfInBounds_toArray, List.set_cons_zero, List.set_cons_succ, i64_w, i32_w]
     rfl
    refine pure_ (i := 15) (N := (some 7)) (v := ?_) (a' := ?_) #[true, true, true, true, true, true, true, true, true, true, true, true, true, true, true, true] rfl rfl (by kernel_rfl) (fun _ _ _ h => h) (Or.inl ⟨by rfl, ?_⟩) ?_ ?_
    rotate_left
    ·intro w'
     go_simp
     first | with_reducible rfl | rfl
    rotate_left
    ·simp only [Act.put, List.setIfInBounds_toArray, List.set_cons_zero, List.set_cons_succ, i64_w, i32_w]
     rfl
    refine done_ (by kernel_rfl) ?_
    have HB2 := Aside0.mk (below_step HB.out hHeld)
    clear hHeld
    go_wp2
    go_ret2
    refine ⟨?_, below_step HX1.out HB2.out⟩
    rw [← HE.out.1, ← HE.out.2, decide_eq_false HN.out, Bool.false_and]
    rfl

/-! ### api_Near_152: function 152 -/
/-- The cells of near ones, one behind the other. -/
def api_Near_152.enc (x : S74) : List Value := [.int .i64 x.f0, .int .i64 x.f1, .bool x.f2]
def api_Near_152.cs (l : List S74) : List Value := (l.map api_Near_152.enc).flatten
theorem api_Near_152.cs_cons (x : S74) (l : List S74) : api_Near_152.cs (x :: l) = api_Near_152.enc x ++ api_Near_152.cs l := by simp [api_Near_152.cs]
theorem api_Near_152.cs_append (l m : List S74) : api_Near_152.cs (l ++ m) = api_Near_152.cs l ++ api_Near_152.cs m := by simp [api_Near_152.cs]
theorem api_Near_152.cs_len (l : List S74) : (api_Near_152.cs l).length = l.length * 3 := by
 induction l with
 | nil => rfl
 | cons x l ih => rw [api_Near_152.cs_cons, List.length_append, ih, List.length_cons]; show 3 + _ = _; omega
theorem api_Near_152.cs_one (l : List S74) : ∀ u ∈ api_Near_152.cs l, u.oneCell' = true := by
 induction l with
 | nil => intro u hu; cases hu
 | cons x l ih =>
  intro u hu
  rw [api_Near_152.cs_cons] at hu
  rcases List.mem_append.mp hu with hu | hu
  ·simp only [api_Near_152.enc, List.mem_cons, List.not_mem_nil, or_false] at hu
   rcases hu with rfl | rfl | rfl <;> rfl
  ·exact ih u hu
theorem api_Near_152.cs_drop (l : List S74) : ∀ q : Nat, (api_Near_152.cs l).drop (q * 3) = api_Near_152.cs (l.drop q) := by
 induction l with
 | nil => intro q; simp [api_Near_152.cs]
 | cons x l ih =>
  intro q
  cases q with
  | zero => rw [Nat.zero_mul]; rfl
  | succ q =>
   rw [api_Near_152.cs_cons, List.drop_succ_cons, ← ih q, show (q + 1) * 3 = (api_Near_152.enc x).length + q * 3 by show _ = 3 + q * 3; omega, ← List.drop_drop, List.drop_left]
theorem api_Near_152.cs_reps (l : List S74) (w : World) (base : Nat) (ok : Nat → Prop) : Reps (k74.M w base ok) 3 l (api_Near_152.cs l) := by
 refine ⟨api_Near_152.cs_len l, fun j p hj => ?_⟩
 obtain ⟨hl, hp⟩ := List.getElem?_eq_some_iff.1 hj
 rw [api_Near_152.cs_drop, List.drop_eq_getElem_cons hl, hp, api_Near_152.cs_cons]
 exact k74_mkM w base _ p
theorem api_Near_152.R_own {w : World} {base : Nat} {v : Value} {l : List S74} (h : w.ownsRow base 74 3 v l.length (api_Near_152.cs l)) : Kd.R k74 74 w base (fun _ => True) v l := ⟨fun _ _ => trivial, _, h, api_Near_152.cs_reps l _ _ _⟩
theorem api_Near_152.cs_read {w : World} {A : Option Addr} {l : List S74} (h : Kd.C k74 w A l.length l) {ad : Addr} (hA : A = some ad) : ∀ (j : Nat) (u : Value), (api_Near_152.cs l)[j]? = some u → w.cell? (ad.add j) = some u := by
 intro j u hu
 obtain ⟨hj, _⟩ := List.getElem?_eq_some_iff.1 hu
 rw [api_Near_152.cs_len] at hj
 have hq : j / 3 < l.length := by omega
 obtain ⟨ad2, c, e, _, hK, hc0⟩ := Kd.C_get h z74 ((j / 3 : Nat) : Int) (by omega) (by omega)
 rw [hA] at e
 cases e
 have hc : ∀ r v, c[r]? = some v → w.cell? (ad.add (((j / 3 : Nat) : Int).toNat * 3 + r)) = some v := hc0
 rw [Int.toNat_natCast] at hc hK
 have hg : l.getD (j / 3) z74 = l[j / 3] := topk_Right.at l _ hq
 rw [hg] at hK
 have hce := k74_open hK
 subst hce
 have hd : (api_Near_152.cs l)[j]? = (api_Near_152.enc l[j / 3])[j % 3]? := by
  have h1 : (api_Near_152.cs l)[j]? = ((api_Near_152.cs l).drop (j / 3 * 3))[j % 3]? := by rw [List.getElem?_drop]; congr 1; omega
  rw [h1, api_Near_152.cs_drop, List.drop_eq_getElem_cons hq, api_Near_152.cs_cons, List.getElem?_append_left (by show j % 3 < 3; omega)]
 rw [hd] at hu
 have := hc (j % 3) u hu
 rwa [show j / 3 * 3 + j % 3 = j by omega] at this
theorem api_Near_152.info : (Try.prog.info? 74).map (fun i => (i.zero, i.size, i.bytes)) = some (some (.agg #[.int .i64 0, .int .i64 0, .bool false]), 3, 24) := by kernel_rfl
theorem api_Near_152.grow (n : Nat) (hn : n ≤ 1000000000) (w : World) : Calls Try.prog 176 #[.slice none 0 0, .int .i64 (n : Int)] w fun e w' => ∃ v, e = .returned v ∧ w'.ownsRow w.heap.size 74 3 v 0 [] ∧ Below w.heap.size w w' := by
 by_cases h0 : n = 0
 ·subst h0
  refine (Go.Proofs.Any8.slices_Grow_room Go.Proofs.YtjjjafhchombcaaG.layn4_f0 none 0 0 0 w (by omega) (by omega) (by omega) (by omega)).mono ?_
  rintro e w' ⟨rfl, rfl⟩
  exact ⟨_, rfl, own_nil _ _ _ _, Below.refl _ _⟩
 ·obtain ⟨i0, hi, hz0, hz1, hz2⟩ := info_parts api_Near_152.info
  have hg63 := grownCap_le_maxLen w (0 + n) 0 74 (by unfold maxLen; omega)
  have hge := grownCap_ge w (0 + n) 0 74
  refine (Go.Proofs.Any8.slices_Grow_grow Go.Proofs.YtjjjafhchombcaaG.layn4_f0 i0 _ hi hz0 (by omega) none 0 0 n [] w (by omega) (by omega) (by rw [hz2]; omega) (by omega) (by simp) (fun _ => rfl) (fun a h => by cases h)).mono ?_
  rintro e w' ⟨rfl, rfl⟩
  refine ⟨_, rfl, ⟨rfl, .inr ⟨w.heap.size, grownCap w (0 + n) 0 74, _, rfl, Nat.le_refl _, blk_new w.drew _, Nat.zero_le _, hg63, ?_, ?_⟩⟩, below_alloc (below_drew (Below.refl _ _)) _⟩
  ·rw [Array.size_append, Array.size_append, size_zeroCells, size_zeroCells]
   show 0 + (0 + n - 0) * 3 + (grownCap w (0 + n) 0 74 - (0 + n)) * 3 = grownCap w (0 + n) 0 74 * 3
   omega
  ·simp
theorem api_Near_152.app_none {w : World} (ty : TypeId) (c base : Nat) (v : Value) (n : Nat) (xs : List Value) (hown : w.ownsRow base 74 3 v n xs) : (Builtin.append_ #[26, 26] ty #[v, .slice none 0 c]).run Try.prog w = .ok v w := by
 obtain ⟨i0, hi, hz0, hz1, hz2⟩ := info_parts api_Near_152.info
 rcases hown.2 with ⟨rfl, rfl⟩ | ⟨g, cap, cur, rfl, _, _, hnc, _⟩
 ·simp [Builtin.append_, run_underlying Try.underlying26, sizeOf, typeInfo, hi, Builtin.lenOf, Builtin.firstCells]
 ·simp [Builtin.append_, run_underlying Try.underlying26, sizeOf, typeInfo, hi, Builtin.lenOf, Builtin.firstCells, hnc, storeCells]
/-- An append of a row that is read, whatever it is. -/
theorem api_Near_152.app {ops : Array Oper} {rest : List Oper} {o : Oper} {a : Act} {Q : Exit → Act → World → Prop} {w : World} (hgd : o.guard = none) (s x : Operand) (ho : o.op = .call { callee := .builtin .append, args := #[s, x], argTypes := #[26, 26] })
  (base : Nat) (v : Value) (l q : List S74) (hs : a.eval s = v) (hown : w.ownsRow base 74 3 v l.length (api_Near_152.cs l)) (A : Option Addr) (c : Nat) (hx : a.eval x = .slice A q.length c) (hC : Kd.C k74 w A q.length q) (hbig : l.length + q.length ≤ 1000000000) (hbase : base ≤ w.heap.size)
  (h : ∀ v' w', w'.ownsRow base 74 3 v' (l ++ q).length (api_Near_152.cs (l ++ q)) → w.grownBy w' v.ownBlock → (v'.ownBlock = v.ownBlock ∨ v'.ownBlock = some w.heap.size) → wpList Try.prog ops Q rest (a.put o.dst v') w') :
  wpList Try.prog ops Q (o :: rest) a w := by
 obtain ⟨i0, hi, hz0, hz1, hz2⟩ := info_parts api_Near_152.info
 cases A with
 | some ad =>
  refine wpList_append_own_at w hgd s x 26 ho base 74 i0 _ 3 24 Try.underlying26 hi hz0 hz1 hz2 rfl (by decide) v l.length (api_Near_152.cs l) hs hown ad q.length c (api_Near_152.cs q) hx (api_Near_152.cs_len q) (api_Near_152.cs_read hC rfl) (api_Near_152.cs_one q) (by unfold maxLen; omega) (by omega) hbase ?_
  intro v' w' h1 h2 _ h4
  refine h v' w' ?_ h2 h4
  rw [List.length_append, api_Near_152.cs_append]; exact h1
 | none =>
  have hq : q = [] := by
   rcases Nat.eq_zero_or_pos q.length with h0 | hp
   ·exact List.eq_nil_of_length_eq_zero h0
   ·obtain ⟨ad, c2, e, _⟩ := Kd.C_get hC z74 0 (by omega) (by omega)
    cases e
  subst hq
  refine wpList_plain hgd fun K hK => ?_
  have hr := api_Near_152.app_none o.type c base v l.length _ hown
  have hx' : a.eval x = .slice none 0 c := hx
  unfold Oper.wp execOp
  simp only [ho, resolve, invoke, builtin, Sem.run_bind, Sem.run_pure, Result.andThen_ok, List.map_toArray, List.map_cons, List.map_nil, hs, hx', hr]
  exact hK _ _ (h v w (by rw [List.append_nil]; exact hown) (World.grownBy.refl w _) (.inl rfl))
set_option maxHeartbeats 4000000 in
set_option maxRecDepth 100000 in
theorem api_Near_152.runs (ad : Addr) (cap : Nat) (rows : List (List S74)) (vals : List Value) (w : World) (hb : ad.block < w.heap.size) (hcells : ∀ (x : Nat) (u : Value), vals[x]? = some u → w.cell? (ad.add x) = some u)
  (hr : ∀ (x : Nat) (h : x < rows.length), ∃ A c, vals[x]? = some (.slice A (rows[x]).length c) ∧ Kd.C k74 w A (rows[x]).length rows[x]) (hm : rows.flatten.length ≤ 1000000) (hm2 : rows.length ≤ 1000) :
  Calls Try.prog 152 #[.slice (some ad) rows.length cap] w fun e w' => ∃ v, e = .returned v ∧ Kd.R k74 74 w' w.heap.size (fun _ => True) v rows.flatten ∧ Below w.heap.size w w' := by
 have HC := Aside0.mk hcells
 have HR := Aside0.mk hr
 have HM := Aside0.mk hm
 have HM2 := Aside0.mk hm2
 have HBK := Aside0.mk hb
 clear hcells hr hm hm2 hb
 have hfl : ∀ x (h : x < rows.length), (rows.take (x + 1)).flatten = (rows.take x).flatten ++ rows[x] := fun x h => by rw [List.take_succ_eq_append_getElem h, List.flatten_append]; simp
 have hle : ∀ x, (rows.take x).flatten.length ≤ rows.flatten.length := fun x => by
  have : rows.flatten = (rows.take x).flatten ++ (rows.drop x).flatten := by rw [← List.flatten_append, List.take_append_drop]
  rw [this, List.length_append]; omega
 have HF := Aside0.mk (And.intro hfl hle)
 clear hfl hle
 go_enter Try.func152, Try.ntmps152
 go_wp2
 go_loopw [3, 11] (fun v3 v11 wr => ∃ x : Nat, v3 = .int .i64 ((rows.take x).flatten.length : Int) ∧ v11 = .int .i64 (x : Int) ∧ x ≤ rows.length ∧ Aside0 (wr = w)) (fun _ v11 _ => rows.length - (intOf v11).toNat)
 case atStart => exact ⟨0, rfl, rfl, Nat.zero_le _, ⟨rfl⟩⟩
 case round =>
  obtain ⟨x, rfl, rfl, hx, HW⟩ := hrel
  have ew := HW.out.symm
  subst ew
  clear HW
  by_cases hlt : x < rows.length
  ·obtain ⟨A, c, hv, _⟩ := HR.out x hlt
   have hcell := HC.out x _ hv
   have hz1 := HF.out.1 x hlt
   have hz2 := HF.out.2 (x + 1)
   rw [hz1, List.length_append] at hz2
   have HZ := Aside0.mk (show (rows.take (x + 1)).flatten.length = (rows.take x).flatten.length + (rows[x]).length by rw [hz1, List.length_append])
   have hmm := HM.out
   have h2 := HM2.out
   generalize hs : (rows.take x).flatten.length = s at hz2 HZ
   generalize hn : (rows[x]).length = n at hz2 HZ hcell
   clear hv hz1 hs hn
   have b1 : decide ((x : Int) < (rows.length : Int)) = true := decide_eq_true (by omega)
   have b2 : ((0 : Int) ≤ (x : Int)) = True := eq_true (by omega)
   have b3 : ((x : Int) < (rows.length : Int)) = True := eq_true (by omega)
   have hw1 : IntKind.i64.wrap ((s : Int) + (n : Int)) = ((s + n : Nat) : Int) := by rw [i64_w]; unfold wrap64; omega
   have hw2 : IntKind.i64.wrap ((x : Int) + 1) = ((x + 1 : Nat) : Int) := by rw [i64_w]; unfold wrap64; omega
   have b4 : decide (((s + n : Nat) : Int) < 0) = false := decide_eq_false (by omega)
   have HX := Aside0.mk hlt
   go_wp2
   go_roundw
   case rel => exact ⟨x + 1, by rw [HZ.out]; first | rfl | go_num, by first | rfl | go_num, HX.out, ⟨by first | rfl | trivial⟩⟩
   case measure => have := HX.out; simp [intOf]; omega
  ·obtain rfl : x = rows.length := by omega
   have b1 : decide ((rows.length : Int) < (rows.length : Int)) = false := decide_eq_false (by omega)
   have e1 : (rows.take rows.length).flatten.length = rows.flatten.length := by rw [List.take_length]
   rw [e1]
   have hmm := HM.out
   have hG := api_Near_152.grow rows.flatten.length (by omega) w
   generalize hs : rows.flatten.length = s at hG
   have HS := Aside0.mk hs
   clear hs e1
   go_wp2_with (first | (go_at_call 176; refine hG.mono ?_; rintro e w0 ⟨v0, rfl, ho0, hb0⟩; have HO0 := Aside0.mk ho0; have HB0 := Aside0.mk hb0; clear ho0 hb0))
   clear hG b1
   go_loopw [6, 27] (fun v i wq => ∃ x : Nat, i = .int .i64 (x : Int) ∧ x ≤ rows.length ∧ Aside0 (wq.ownsRow w.heap.size 74 3 v (rows.take x).flatten.length (api_Near_152.cs (rows.take x).flatten)) ∧ Aside0 (Below w.heap.size w wq)) (fun _ i _ => rows.length - (intOf i).toNat)
   case atStart => exact ⟨0, rfl, Nat.zero_le _, HO0, HB0⟩
   case round =>
    obtain ⟨x, rfl, hx, HO, HB⟩ := hrel
    by_cases hlt : x < rows.length
    ·obtain ⟨A, c, hv, hC⟩ := HR.out x hlt
     have hcell0 := HC.out x _ hv
     have hcell := (HB.out.cell (World.block_lt_of_cell? w _ hcell0)).trans hcell0
     have hz1 := HF.out.1 x hlt
     have hz2 := HF.out.2 (x + 1)
     rw [hz1] at hz2
     have HCq := Aside0.mk (Kd.C_below hC HB.out)
     have hbig : (rows.take x).flatten.length + (rows[x]).length ≤ 1000000000 := by rw [List.length_append] at hz2; have := HM.out; have := HS.out; omega
     have HBIG := Aside0.mk hbig
     have HZ := Aside0.mk hz1
     generalize hq : rows[x] = q at HCq HBIG HZ hcell
     clear hv hC hz1 hz2 hcell0 hbig hq
     have h2 := HM2.out
     have b1 : decide ((x : Int) < (rows.length : Int)) = true := decide_eq_true (by omega)
     have b2 : ((0 : Int) ≤ (x : Int)) = True := eq_true (by omega)
     have b3 : ((x : Int) < (rows.length : Int)) = True := eq_true (by omega)
     have hw2 : IntKind.i64.wrap ((x : Int) + 1) = ((x + 1 : Nat) : Int) := by rw [i64_w]; unfold wrap64; omega
     have HX := Aside0.mk hlt
     go_wp2_with (first | (at_builtin; refine api_Near_152.app rfl (.tmp 31) (.tmp 32) rfl w.heap.size _ (rows.take x).flatten q rfl HO.out A c rfl HCq.out HBIG.out HB.out.size ?_; intro v' w' h1 h3 h4; have HO1 := Aside0.mk h1; have HB1 := Aside0.mk (HB.out.grown h3 HB.out.size (fun k e => own_base HO.out k e)); clear h1 h3 h4))
     go_roundw
     case rel => exact ⟨x + 1, by first | rfl | go_num, HX.out, by rw [HZ.out]; exact HO1, HB1⟩
     case measure => have := HX.out; simp [intOf]; omega
    ·obtain rfl : x = rows.length := by omega
     have b1 : decide ((rows.length : Int) < (rows.length : Int)) = false := decide_eq_false (by omega)
     go_wp2
     go_ret
     refine ⟨_, rfl, ?_, HB.out⟩
     have := HO.out
     rw [List.take_length] at this
     exact api_Near_152.R_own this

end Go.Proofs.Ytjjjafhchombcaa.PModelExact
