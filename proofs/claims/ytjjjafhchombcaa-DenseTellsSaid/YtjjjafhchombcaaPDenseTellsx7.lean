/- The Go functions that the law reaches, and walks to them; printed by wip/tool/mkprint.py. -/
import Derived.Test.YtjjjafhchombcaaPDenseTellsx0
import Derived.Test.YtjjjafhchombcaaPDenseTellsx4
import Derived.Test.YtjjjafhchombcaaPDenseTellsx6
namespace Go.Proofs.Ytjjjafhchombcaa.PDenseTells
open Go.RowKit Go.Proofs.YtjjjafhchombcaaW.PrintWords Go.Proofs.YtjjjafhchombcaaW.PrintLast Go.Proofs.YtjjjafhchombcaaW.PrintMore
attribute [local go_sem] max2_int min2_int max_two min_two max_three min_three max_four min_four   -- for this text's walks alone
set_option linter.unusedVariables false
set_option linter.unusedSimpArgs false

/-! ### dense_Sizes: function 23 -/
/-- How often g is among the first x. -/
def dense_Sizes.cnt (l : List Int) (x : Nat) (g : Int) : Nat := (l.take x).countP (fun y => decide (0 ≤ y) && y == g)
/-- Who is there, in order, each once. -/
def dense_Sizes.who : List Int → List Int
 | [] => []
 | y :: l => if 0 ≤ y ∧ y ∉ dense_Sizes.who l then y :: dense_Sizes.who l else dense_Sizes.who l
def dense_Sizes.keysOf (l : List Int) : List Int := (dense_Sizes.who l).mergeSort (fun x y => decide (x ≤ y))
def dense_Sizes.f (k : Nat) (l0 : List Int) : Option (List Int) := if 8 ≤ k ∧ l0.length ≤ 1000000 ∧ (l0.all fun g => decide (g ≤ 9223372036854775807)) = true then some ((dense_Sizes.keysOf l0).map fun g => (dense_Sizes.cnt l0 l0.length g : Int)) else none
theorem dense_Sizes.mono : ∀ a0 k, LeO (dense_Sizes.f k a0) (dense_Sizes.f (k + 1) a0) := by
 intro l0 k r h
 unfold dense_Sizes.f at h ⊢
 split at h
 case isFalse => cases h
 case isTrue hc => rw [if_pos ⟨by omega, hc.2⟩]; exact h
theorem dense_Sizes.cnt_succ (l : List Int) (x : Nat) (hx : x < l.length) (g : Int) : dense_Sizes.cnt l (x + 1) g = dense_Sizes.cnt l x g + if (decide (0 ≤ l[x]) && l[x] == g) = true then 1 else 0 := by
 unfold dense_Sizes.cnt
 rw [List.take_succ_eq_append_getElem hx, List.countP_append, List.countP_singleton]
theorem dense_Sizes.cnt_le (l : List Int) (x : Nat) (g : Int) : dense_Sizes.cnt l x g ≤ x := by
 unfold dense_Sizes.cnt
 exact Nat.le_trans List.countP_le_length (by rw [List.length_take]; omega)
theorem dense_Sizes.who_mem (l : List Int) (g : Int) : g ∈ dense_Sizes.who l ↔ g ∈ l ∧ 0 ≤ g := by
 induction l with
 | nil => simp [dense_Sizes.who]
 | cons y l ih =>
  rw [dense_Sizes.who]
  split
  ·rename_i h
   rw [List.mem_cons, List.mem_cons, ih]
   constructor
   ·rintro (rfl | ⟨h1, h2⟩)
    ·exact ⟨.inl rfl, h.1⟩
    ·exact ⟨.inr h1, h2⟩
   ·rintro ⟨rfl | h1, h2⟩
    ·exact .inl rfl
    ·exact .inr ⟨h1, h2⟩
  ·rename_i h
   rw [List.mem_cons, ih]
   constructor
   ·rintro ⟨h1, h2⟩; exact ⟨.inr h1, h2⟩
   ·rintro ⟨rfl | h1, h2⟩
    ·exact ih.mp (Decidable.not_not.mp (fun hn => h ⟨h2, hn⟩))
    ·exact ⟨h1, h2⟩
theorem dense_Sizes.who_nodup (l : List Int) : (dense_Sizes.who l).Nodup := by
 induction l with
 | nil => exact List.nodup_nil
 | cons y l ih =>
  rw [dense_Sizes.who]
  split
  ·rename_i h; exact List.nodup_cons.mpr ⟨h.2, ih⟩
  ·exact ih
theorem dense_Sizes.cnt_pos (l : List Int) (g : Int) : 0 < dense_Sizes.cnt l l.length g ↔ g ∈ dense_Sizes.who l := by
 rw [dense_Sizes.who_mem]
 unfold dense_Sizes.cnt
 rw [List.take_length, List.countP_pos_iff]
 constructor
 ·rintro ⟨y, hy, h⟩
  simp only [Bool.and_eq_true, decide_eq_true_eq, beq_iff_eq] at h
  obtain ⟨h1, rfl⟩ := h
  exact ⟨hy, h1⟩
 ·rintro ⟨h1, h2⟩
  exact ⟨g, h1, by simp [h2]⟩
theorem dense_Sizes.sorted_eq {a b : List Int} (h : a.Perm b) : a.mergeSort (fun x y => decide (x ≤ y)) = b.mergeSort (fun x y => decide (x ≤ y)) := by
 have hs : ∀ l : List Int, (l.mergeSort (fun x y => decide (x ≤ y))).Pairwise (fun x y => x ≤ y) := fun l =>
  (List.pairwise_mergeSort (le := fun x y : Int => decide (x ≤ y)) (fun x y z h1 h2 => by simp only [decide_eq_true_eq] at *; omega) (fun x y => by simp only [Bool.or_eq_true, decide_eq_true_eq]; omega) l).imp (fun h => by simpa using h)
 exact List.Perm.eq_of_pairwise (le := fun x y : Int => x ≤ y) (fun x y _ _ h1 h2 => Int.le_antisymm h1 h2) (hs a) (hs b) ((List.mergeSort_perm _ _).trans (h.trans (List.mergeSort_perm _ _).symm))
/-! ### the map of how many -/
/-- Block b is a map that tells how many of each. -/
def dense_Sizes.Many (w : World) (b n : Nat) (c : Int → Nat) : Prop := ∃ D : DataW Unit, w.ownsMap Try.prog 3 (plainElem Try.prog 3) b n D ∧ ∀ i : Int, D.atKey (.int .i64 i) (.lit (.int .i64 0)) = .lit (.int .i64 (c i)) ∧ (Maps.has D (.int .i64 i) = true ↔ 0 < c i)
theorem dense_Sizes.Many.same {w w' : World} {b n : Nat} {c : Int → Nat} (h : dense_Sizes.Many w b n c) (hb : w'.heap[b]? = w.heap[b]?) : dense_Sizes.Many w' b n c := by
 obtain ⟨D, ⟨es, clock, h1, h2⟩, hD⟩ := h
 exact ⟨D, ⟨es, clock, hb.trans h1, h2⟩, hD⟩
theorem dense_Sizes.Many.lt {w : World} {b n : Nat} {c : Int → Nat} (h : dense_Sizes.Many w b n c) : b < w.heap.size := by
 obtain ⟨D, h, _⟩ := h
 exact h.lt
theorem dense_Sizes.Many.below {w w' : World} {b n : Nat} {c : Int → Nat} (h : dense_Sizes.Many w b n c) (hb : Below w.heap.size w w') : dense_Sizes.Many w' b n c := h.same (hb.block b h.lt)
theorem dense_Sizes.Many.made (w : World) : dense_Sizes.Many (w.alloc (.map #[] 0)) w.heap.size 0 (fun _ => 0) :=
 ⟨_, World.ownsMap_made w Try.prog 3 _, fun i => ⟨rfl, by simp [Maps.has]⟩⟩
set_option maxRecDepth 100000 in
theorem dense_Sizes.elem_inv {v : Value} {x : Int} {ps : List MemPlace} (h : plainElem (H := Unit) Try.prog 3 v = some (.lit (.int .i64 x), ps)) : v = .int .i64 x := by
 obtain ⟨a, rfl, hz, _⟩ := plainElem_int_inv Try.underlying3 h
 injection hz with h1 _
 injection h1 with h1
 injection h1 with _ h1
 rw [h1]
theorem dense_Sizes.Many.look {w : World} {b n : Nat} {c : Int → Nat} (h : dense_Sizes.Many w b n c) (i : Int) (hi : (Lit.int .i64 i).wf = true) : (Instr.lookup 94 (.map (some b)) (.int .i64 i) false).run Try.prog w = .ok (.int .i64 (c i)) w := by
 obtain ⟨D, ho, hD⟩ := h
 obtain ⟨v, ps, hrun, hv⟩ := ho.lookup (Maps.int_keyed Try.underlying3) Try.underlying94 (Try.zeroValue3 w) (plainElem_int Try.underlying3 (a := 0) (by decide)) (Maps.keyOf_int_mk Try.underlying3 hi)
 rw [(hD i).1] at hv
 rw [hrun, dense_Sizes.elem_inv hv]
theorem dense_Sizes.Many.put {w : World} {b n : Nat} {c : Int → Nat} (h : dense_Sizes.Many w b n c) (hn : n < maxLen) (i : Int) (hi : (Lit.int .i64 i).wf = true) (m : Nat) (hm : 0 < m) (hm2 : (Lit.int .i64 (m : Int)).wf = true) :
  ∃ w', (Instr.mapUpdate 94 (.map (some b)) (.int .i64 i) (.int .i64 (m : Int))).run Try.prog w = .ok () w' ∧ dense_Sizes.Many w' b (n + 1) (fun j => if j = i then m else c j) ∧ w.grownBy w' (some b) := by
 obtain ⟨D, ho, hD⟩ := h
 obtain ⟨w', h1, h2, h3⟩ := ho.update (Maps.int_keyed Try.underlying3) Try.underlying94 hn (Maps.keyOf_int_mk Try.underlying3 hi) (plainElem_int Try.underlying3 hm2)
 refine ⟨w', h1, ⟨_, h2, fun j => ?_⟩, h3⟩
 show _ = DataW.lit (.int .i64 ((if j = i then m else c j : Nat) : Int)) ∧ (_ ↔ 0 < (if j = i then m else c j))
 by_cases hj : j = i
 ·subst hj
  rw [Maps.atKey_put_same ho.isMap (show WideAt.IsKeyLit (.int .i64 j) from trivial), Maps.has_put_same ho.isMap (show WideAt.IsKeyLit (.int .i64 j) from trivial), if_pos rfl]
  exact ⟨rfl, by simp [hm]⟩
 ·rw [Maps.atKey_put_other (by simpa using hj), Maps.has_put_other (by simpa using hj), if_neg hj]
  exact hD j
theorem dense_Sizes.add (c n : Nat) (h : c < n) (hn : n ≤ 1000000) : num_Add.f 8 (c : Int) 1 (n : Int) = some ((c + 1 : Nat) : Int) := by
 have u : ∀ x : Int, 0 ≤ x → x < 18446744073709551616 → IntKind.u64.wrap x = x := fun x h0 h1 => by rw [IntKind.wrap_u64]; omega
 have m1 : num_natural.f 8 [(c : Int), 1, (n : Int)] = some true := by
  have e1 : mn 0 (c : Int) = 0 := by unfold mn; split <;> omega
  have e2 : mn 0 1 = 0 := by decide
  have e3 : mn 0 (n : Int) = 0 := by unfold mn; split <;> omega
  have w1 : wrap64 1 = 1 := by unfold wrap64; omega
  have w2 : wrap64 2 = 2 := by unfold wrap64; omega
  have w3 : wrap64 3 = 3 := by unfold wrap64; omega
  simp [num_natural.f, num_least.f, num_least.l0, rd, e1, e2, e3, w1, w2, w3]
 unfold num_Add.f
 rw [m1, Option.bind_some, if_pos rfl, u (c : Int) (by omega) (by omega), u 1 (by omega) (by omega), u (n : Int) (by omega) (by omega)]
 unfold bits_Add64.f
 rw [if_pos (by omega), Option.bind_some, if_neg (by omega), if_neg (by omega)]
 refine congrArg some ?_
 rw [show ((c : Int) + 1 + 0) % 18446744073709551616 = ((c + 1 : Nat) : Int) by omega]
 unfold wrap64
 omega
theorem dense_Sizes.perm_who {l : List Int} {w : World} {b n : Nat} (D : DataW Unit) (ho : w.ownsMap Try.prog 3 (plainElem Try.prog 3) b n D) (h : ∀ i, Maps.has D (.int .i64 i) = true ↔ i ∈ dense_Sizes.who l) : (dense_Sizes.who l).Perm (intKeys D) :=
 CollectedI.perm (left := fun _ => false) ⟨dense_Sizes.who_nodup l, fun x => by rw [h x]; simp⟩ ho (Maps.int_keyed Try.underlying3) Try.underlying3 (fun _ => rfl)
theorem dense_Sizes.keys_le (l : List Int) : (dense_Sizes.keysOf l).length ≤ l.length := by
 unfold dense_Sizes.keysOf
 rw [List.length_mergeSort]
 induction l with
 | nil => exact Nat.le_refl _
 | cons y l ih =>
  rw [dense_Sizes.who]
  split
  ·rw [List.length_cons, List.length_cons]; omega
  ·rw [List.length_cons]; omega
theorem dense_Sizes.row_of {l ss : List Int} {w : World} {base : Nat} {v : Value} (hp : ss.Perm (dense_Sizes.who l)) (h : w.ownsRow base 3 1 v ss.length ((ss.mergeSort (fun x y => decide (x ≤ y))).map (Value.int .i64))) : Kd.R (Kd.int .i64) 3 w base (fun _ => True) v (dense_Sizes.keysOf l) := by
 have e : ss.mergeSort (fun x y => decide (x ≤ y)) = dense_Sizes.keysOf l := dense_Sizes.sorted_eq hp
 have el : ss.length = (dense_Sizes.keysOf l).length := by rw [← e, List.length_mergeSort]
 rw [e, el] at h
 exact Kd.R_of_own h (fun _ _ => trivial)
theorem dense_Sizes.wf_of (g : Int) (h0 : 0 ≤ g) (h1 : g ≤ 9223372036854775807) : (Lit.int .i64 g).wf = true := by
 simp [Lit.wf, IntKind.min, IntKind.max, IntKind.signed, IntKind.bits]; omega
set_option maxHeartbeats 8000000 in
set_option maxRecDepth 100000 in
theorem dense_Sizes.calls (k : Nat) (A0 : Option Addr) (c0 : Nat) (l0 : List Int) (r : List Int) (w : World) (hr0 : Kd.C (Kd.int .i64) w A0 l0.length l0) (hc0 : l0.length ≤ c0) (h : dense_Sizes.f k l0 = some r) :
  Calls Try.prog 23 #[.slice A0 l0.length c0] w fun e w' => ∃ v0_ : Value, e = .returned (v0_) ∧ Kd.R (Kd.int .i64) 3 w' w.heap.size (fun _ => True) v0_ r ∧ Below w.heap.size w w' := by
 unfold dense_Sizes.f at h
 split at h
 case isFalse => cases h
 case isTrue hc =>
 obtain ⟨hk, hl, hall⟩ := hc
 obtain rfl := Option.some.inj h
 clear h
 have HA0 := True.intro
 have HA := Aside0.mk (fun g (hg : g ∈ l0) => of_decide_eq_true (List.all_eq_true.mp hall g hg))
 have HR := Aside0.mk hr0
 clear hr0 hall
 have HM0 := Aside0.mk (dense_Sizes.Many.made w)
 have hmm := @run_makeMap Try.prog
 go_enter Try.func23, Try.ntmps23
 go_wp2
 go_loopg [12] l0.length (fun gq v12 w' => ∃ x : Nat, v12 = .int .i64 x ∧ x ≤ l0.length ∧ l0.length - x ≤ gq ∧ Aside0 (dense_Sizes.Many w' w.heap.size x (dense_Sizes.cnt l0 x)) ∧ Aside0 (Below w.heap.size w w'))
 case atStart => exact ⟨0, rfl, Nat.zero_le _, by omega, HM0, ⟨below_alloc (Below.refl _ _) _⟩⟩
 case round =>
  clear HM0 hmm
  obtain ⟨x, rfl, hx, hg, HM, HB⟩ := hrel
  by_cases hlt : x < l0.length
  ·obtain ⟨ad, ead, h0'⟩ := Kd.at_int HR.out (x : Int) (by omega) (by omega)
   cases ead
   have h0 := (HB.out.cell (World.block_lt_of_cell? w _ h0')).trans h0'
   rw [Int.toNat_natCast] at h0
   have hrd : rd l0 (x : Int) = l0[x] := by unfold rd; rw [Int.toNat_natCast, List.getD_eq_getElem?_getD, List.getElem?_eq_getElem hlt]; rfl
   rw [hrd] at h0
   have HG := Aside0.mk (HA.out l0[x] (List.getElem_mem hlt))
   have HCS := Aside0.mk (fun g => dense_Sizes.cnt_succ l0 x hlt g)
   have HCL := Aside0.mk (dense_Sizes.cnt_le l0 x l0[x])
   have HLT := Aside0.mk hlt
   clear h0' hrd
   generalize hz : l0[x] = z at h0 HG HCS HCL
   clear hz
   have b1 : decide ((x : Int) < (l0.length : Int)) = true := decide_eq_true (by omega)
   have b2 : ((0 : Int) ≤ (x : Int)) = True := eq_true (by omega)
   have b3 : ((x : Int) < (l0.length : Int)) = True := eq_true (by omega)
   by_cases hz : 0 ≤ z
   ·have b4 : decide ((0 : Int) ≤ z) = true := decide_eq_true hz
    have hwf := dense_Sizes.wf_of z hz HG.out
    have hlook := HM.out.look z hwf
    have HADD := Aside0.mk (fun W => num_Add.calls 8 _ 1 _ _ W (dense_Sizes.add (dense_Sizes.cnt l0 x z) l0.length (by have := HCL.out; omega) hl))
    have HZ := Aside0.mk (And.intro hz hwf)
    obtain ⟨cz, hcz⟩ : ∃ cz, dense_Sizes.cnt l0 x z = cz := ⟨_, rfl⟩
    rw [hcz] at hlook HADD
    have HCZ := Aside0.mk hcz
    clear hz hwf hcz
    go_wp2_with (first
     | (go_at_call 70; refine (HADD.out _).mono ?_; rintro e w1 ⟨rfl, hb1⟩; obtain ⟨w2, hu2, hm2, hg2⟩ := (HM.out.below hb1).put (by have := HLT.out; simp [maxLen]; omega) z HZ.out.2 (cz + 1) (Nat.succ_pos _) (by have := HCL.out; rw [HCZ.out] at this; exact dense_Sizes.wf_of _ (by omega) (by have := HLT.out; omega)); simp only [Int.natCast_add, Int.natCast_one] at hu2; have HM2 := Aside0.mk hm2; have HB2 := Aside0.mk ((below_step HB.out hb1).grown hg2 (Nat.le_trans HB.out.size hb1.size) (fun j hj => by injection hj with hj; omega)); clear hlook hm2 hg2 hb1))
    go_roundg (l0.length - (x + 1))
    case measure => omega
    case rel => exact ⟨x + 1, by go_num, by omega, Nat.le_refl _, ⟨by
     refine (show (fun j => if j = z then cz + 1 else dense_Sizes.cnt l0 x j) = dense_Sizes.cnt l0 (x + 1) from funext fun j => ?_) ▸ HM2.out
     rw [HCS.out j]
     by_cases hj : j = z
     ·rw [if_pos hj, hj, HCZ.out, if_pos (by simp [HZ.out.1])]
     ·rw [if_neg hj, if_neg (by simp; exact fun _ => Ne.symm hj), Nat.add_zero]⟩, HB2⟩
   ·have b4 : decide ((0 : Int) ≤ z) = false := decide_eq_false hz
    have HZ := Aside0.mk hz
    clear hz
    go_wp2
    go_roundg (l0.length - (x + 1))
    case measure => omega
    case rel => exact ⟨x + 1, by go_num, by omega, Nat.le_refl _, ⟨by
     refine (show dense_Sizes.cnt l0 x = dense_Sizes.cnt l0 (x + 1) from funext fun j => ?_) ▸ (show dense_Sizes.Many _ _ (x + 1) _ from ?_)
     ·rw [HCS.out j, if_neg (by have h_ := HZ.out; simp; intro h; omega)]; rfl
     ·obtain ⟨D, ho, hD⟩ := HM.out
      exact ⟨D, ho.mono (Nat.le_succ _), hD⟩⟩, HB⟩
  ·obtain rfl : x = l0.length := by omega
   have b1 : decide ((l0.length : Int) < (l0.length : Int)) = false := decide_eq_false (by omega)
   clear HR HA0
   obtain ⟨D, ho, hD⟩ := HM.out
   have hsz := ho.size_le
   have hS := YtjjjafhchombcaaK.sorted w.heap.size l0.length D _ _ ho (by simp [maxLen]; omega) (by omega)
   have hW := dense_Sizes.perm_who D ho (fun i => by rw [(hD i).2, dense_Sizes.cnt_pos])
   clear ho hD hsz
   go_wp2_with (first
    | (go_at_call 72; refine (YtjjjafhchombcaaK.keys _ _).mono ?_; rintro e w1 ⟨rfl, rfl⟩)
    | (go_at_call 71; refine hS.mono ?_; rintro e w2 ⟨v, ss, rfl, hp, hrow, hb2⟩; obtain ⟨A5, c5, hv5, hc5, hC5⟩ := Kd.R_reads (dense_Sizes.row_of (hp.trans hW.symm) hrow); subst hv5; have HC5 := Aside0.mk hC5; have HM2 := Aside0.mk (HM.out.below (below_step (below_alloc (Below.refl _ _) _) hb2)); have HB2 := Aside0.mk (below_step HB.out (below_step (below_alloc (Below.refl _ _) _) hb2)); clear hrow hb2 hp hC5 hS hW))
   have HKM := Aside0.mk (fun g (hg : g ∈ dense_Sizes.keysOf l0) => (dense_Sizes.who_mem l0 g).mp ((List.mem_mergeSort).mp hg))
   have hkl : (dense_Sizes.keysOf l0).length ≤ l0.length := dense_Sizes.keys_le l0
   obtain ⟨ks, hks⟩ : ∃ ks, dense_Sizes.keysOf l0 = ks := ⟨_, rfl⟩
   rw [hks] at HKM HC5 hc5 hkl ⊢
   go_loopg [6, 31] ks.length (fun gq v6 v31 w' => ∃ i : Nat, v31 = .int .i64 i ∧ i ≤ ks.length ∧ ks.length - i ≤ gq ∧ Aside0 (Kd.R (Kd.int .i64) 3 w' w2.heap.size (fun _ => True) v6 ((ks.take i).map fun g => (dense_Sizes.cnt l0 l0.length g : Int))) ∧ Aside0 (Below w2.heap.size w2 w'))
   case atStart => exact ⟨0, rfl, Nat.zero_le _, by omega, ⟨Kd.R_nil _ _ _ _ _⟩, ⟨Below.refl _ _⟩⟩
   case round =>
    clear HB HM
    obtain ⟨i, rfl, hi, hg, HO, HB⟩ := hrel
    by_cases hlt : i < ks.length
    ·obtain ⟨ad, ead, h0'⟩ := Kd.at_int HC5.out (i : Int) (by omega) (by omega)
     cases ead
     have h0 := (HB.out.cell (World.block_lt_of_cell? w2 _ h0')).trans h0'
     rw [Int.toNat_natCast] at h0
     have hrd : rd ks (i : Int) = ks[i] := by unfold rd; rw [Int.toNat_natCast, List.getD_eq_getElem?_getD, List.getElem?_eq_getElem hlt]; rfl
     rw [hrd] at h0
     have HG := Aside0.mk (HKM.out ks[i] (List.getElem_mem hlt))
     have HST := Aside0.mk (show (ks.take (i + 1)).map (fun g => (dense_Sizes.cnt l0 l0.length g : Int)) = (ks.take i).map (fun g => (dense_Sizes.cnt l0 l0.length g : Int)) ++ [(dense_Sizes.cnt l0 l0.length ks[i] : Int)] by rw [List.take_succ_eq_append_getElem hlt, List.map_append]; rfl)
     have HTL := Aside0.mk (show ((ks.take i).map (fun g => (dense_Sizes.cnt l0 l0.length g : Int))).length = i by rw [List.length_map, List.length_take]; omega)
     have HLT := Aside0.mk hlt
     clear h0' hrd
     generalize hz : ks[i] = z at h0 HG HST
     clear hz
     have b1 : decide ((i : Int) < (ks.length : Int)) = true := decide_eq_true (by omega)
     have b2 : ((0 : Int) ≤ (i : Int)) = True := eq_true (by omega)
     have b3 : ((i : Int) < (ks.length : Int)) = True := eq_true (by omega)
     have hlook := (HM2.out.below HB.out).look z (dense_Sizes.wf_of z HG.out.2 (HA.out z HG.out.1))
     obtain ⟨cz, hcz⟩ : ∃ cz, dense_Sizes.cnt l0 l0.length z = cz := ⟨_, rfl⟩
     rw [hcz] at hlook HST
     clear hcz
     go_wp2_with (first
      | ((with_reducible refine gate_builtin (b := .append) (xs := #[.tmp 35, .tmp 39]) rfl ?_); at_builtin; refine Kd.R_append (Kd.int .i64) (w0 := w2) w2.heap.size rfl (.tmp 35) (.tmp 39) 35 3 (.int .i64 0) 8 rfl Try.underlying35 info3 rfl (by decide) (by omega) u6 ((ks.take i).map fun g => (dense_Sizes.cnt l0 l0.length g : Int)) (cz : Int) [.int .i64 (cz : Int)] (fun _ => True) (fun _ => False) rfl rfl ?aP (fun _ hk => hk.elim) ?aF ?aO ?aB ?aS ?aL ?_; (case aP => exact rfl); (case aB => exact HB.out); (case aF => exact (fun _ _ => trivial)); (case aO => exact HO.out); (case aS => exact HB.out.size); (case aL => have h_ := HTL.out; have h2_ := HLT.out; omega); intro v9 w9 ho9 hb9 hg9 hat9; have HO9 := Aside0.mk ho9; have HB9 := Aside0.mk hb9; clear ho9 hb9 hg9 hat9))
     go_roundg (ks.length - (i + 1))
     case measure => omega
     case rel => exact ⟨i + 1, by go_num, by omega, Nat.le_refl _, ⟨by rw [HST.out]; exact HO9.out⟩, HB9⟩
    ·obtain rfl : i = ks.length := by omega
     have b1 : decide ((ks.length : Int) < (ks.length : Int)) = false := decide_eq_false (by omega)
     go_wp2
     go_ret
     rw [List.take_length] at HO
     exact ⟨_, rfl, by rw [hks]; exact Kd.R_lower HO.out (HB2.out.size), HB2.out.trans (HB.out.mono HB2.out.size)⟩


/-! ### chainmanref10_SameList: function 25 -/
def chainmanref10_SameList.l0 : Nat → List Int → List Int → Int → Option (Bool)
 | 0, _, _, _ => none
 | k + 1, x0, x1, x5 => if x5 < (x0.length : Int) then (if 0 ≤ x5 then (if x5 < (x1.length : Int) then (if (rd x0 x5) = (rd x1 x5) then (chainmanref10_SameList.l0 k x0 x1 (wrap64 (x5 + 1))) else (some false)) else (none)) else (none)) else (some true)
def chainmanref10_SameList.f (k : Nat) (l0 : List Int) (l1 : List Int) : Option (Bool) := if (l0.length : Int) = (l1.length : Int) then (chainmanref10_SameList.l0 k l0 l1 0) else (some false)
theorem chainmanref10_SameList.mono_l : ∀ k, (∀ y0 y1 y2, LeO (chainmanref10_SameList.l0 k y0 y1 y2) (chainmanref10_SameList.l0 (k + 1) y0 y1 y2))
 | 0 => fun _ _ _ r h => by simp [chainmanref10_SameList.l0] at h
 | k + 1 => by
  have ih0 := chainmanref10_SameList.mono_l k
  ·intro y0 y1 y2
   unfold chainmanref10_SameList.l0
   repeat' first
   | (with_reducible exact ih0 _ _ _)
   | (with_reducible exact LeO.refl _)
   | (with_reducible exact LeO.none _)
   | (with_reducible refine LeO.ite ?_ ?_)
   | (with_reducible refine LeO.bind ?_ (fun _ => ?_))
   | exact ih0 _ _ _
   | exact LeO.none _
   | refine LeO.ite ?_ ?_
   | refine LeO.bind ?_ (fun _ => ?_)
theorem chainmanref10_SameList.mono : ∀ a0 a1 k, LeO (chainmanref10_SameList.f k a0 a1) (chainmanref10_SameList.f (k + 1) a0 a1) := by
 intro a0 a1 k
 have ih0 := chainmanref10_SameList.mono_l k
 unfold chainmanref10_SameList.f
 repeat' first
   | (with_reducible exact ih0 _ _ _)
   | (with_reducible exact LeO.refl _)
   | (with_reducible exact LeO.none _)
   | (with_reducible refine LeO.ite ?_ ?_)
   | (with_reducible refine LeO.bind ?_ (fun _ => ?_))
   | exact ih0 _ _ _
   | exact LeO.none _
   | refine LeO.ite ?_ ?_
   | refine LeO.bind ?_ (fun _ => ?_)
set_option maxHeartbeats 8000000 in
set_option maxRecDepth 100000 in
theorem chainmanref10_SameList.calls (k : Nat) (A0 : Option Addr) (c0 : Nat) (l0 : List Int) (A1 : Option Addr) (c1 : Nat) (l1 : List Int) (r : Bool) (w : World) (hr0 : Kd.C (Kd.int .i64) w A0 l0.length l0) (hc0 : l0.length ≤ c0) (hr1 : Kd.C (Kd.int .i64) w A1 l1.length l1) (hc1 : l1.length ≤ c1) (h : chainmanref10_SameList.f k l0 l1 = some r) :
  Calls Try.prog 25 #[.slice A0 l0.length c0, .slice A1 l1.length c1] w fun e w' => e = .returned (.bool r) ∧ Drawn0 w w' := by
 have HR0 := Aside0.mk hr0
 have HC0 := Aside0.mk hc0
 clear hr0 hc0
 have HR1 := Aside0.mk hr1
 have HC1 := Aside0.mk hc1
 clear hr1 hc1
 have H : (if (l0.length : Int) = (l1.length : Int) then (chainmanref10_SameList.l0 k l0 l1 0) else (some false)) = some r := h
 clear h
 by_cases c3 : (l0.length : Int) = (l1.length : Int)
 ·rw [if_pos c3] at H
  have c3b0 : ((l0.length : Int) == (l1.length : Int)) = true := beq_iff_eq.mpr c3
  have c3b1 : ((l0.length : Int) != (l1.length : Int)) = false := bne_eq_false_iff_eq.mpr c3
  have c3b2 : (l0.length == l1.length) = true := by first | simpa using c3 | (simp at c3 ⊢; omega)
  clear c3
  have H' := Aside0.mk H
  clear H
  go_enter Try.func25, Try.ntmps25
  go_wp2
  repeat (go_quiet (fail); try go_wp2)
  go_loopg [5] k (fun kq v5 w' => ∃ (x5_1 : Int), v5 = .int .i64 x5_1 ∧ Aside0 (chainmanref10_SameList.l0 kq l0 l1 x5_1 = some r) ∧ Aside0 (kq ≤ k) ∧ Drawn0 w w')
  case atStart => exact ⟨(0), (by first | rfl | (simp; done) | (simp [*]; done)), H', ⟨Nat.le_refl _⟩, by repeat (first | exact Drawn0.refl _ | apply Drawn0.step)⟩
  case round =>
   clear H'
   try clear c1
   try clear c2
   try clear p2
   try clear c3
   try clear c3b0
   try clear c3b1
   try clear c3b2
   obtain ⟨x5_1, rfl, HA, HK1, ⟨m1, rfl⟩⟩ := hrel
   cases gk with
   | zero => exact absurd HA.out (by simp [chainmanref10_SameList.l0])
   | succ k1 =>
    have H := HA.out
    clear HA
    simp only [chainmanref10_SameList.l0] at H
    by_cases c4 : x5_1 < (l0.length : Int)
    ·rw [if_pos c4] at H
     have c4b0 : decide (x5_1 < (l0.length : Int)) = true := decide_eq_true c4
     clear c4
     by_cases c5 : 0 ≤ x5_1
     ·rw [if_pos c5] at H
      have c5b0 : decide (0 ≤ x5_1) = true := decide_eq_true c5
      clear c5
      by_cases c6 : x5_1 < (l1.length : Int)
      ·rw [if_pos c6] at H
       have c6b0 : decide (x5_1 < (l1.length : Int)) = true := decide_eq_true c6
       clear c6
       by_cases c7 : (rd l0 x5_1) = (rd l1 x5_1)
       ·rw [if_pos c7] at H
        have c7b0 : ((rd l0 x5_1) == (rd l1 x5_1)) = true := beq_iff_eq.mpr c7
        have c7b1 : ((rd l0 x5_1) != (rd l1 x5_1)) = false := bne_eq_false_iff_eq.mpr c7
        clear c7
        have H' := Aside0.mk H
        clear H
        have p182 : 0 ≤ (x5_1 : Int) := of_decide_eq_true (by assumption)
        have q182 : x5_1 < (l0.length : Int) := of_decide_eq_true (by assumption)
        obtain ⟨ad182, e182, hx182_0⟩ := Kd.at_int HR0.out x5_1 p182 q182
        cases e182
        replace p182 := eq_true p182
        replace q182 := eq_true q182
        have p183 : 0 ≤ (x5_1 : Int) := of_decide_eq_true (by assumption)
        have q183 : x5_1 < (l1.length : Int) := of_decide_eq_true (by assumption)
        obtain ⟨ad183, e183, hx183_0⟩ := Kd.at_int HR1.out x5_1 p183 q183
        cases e183
        replace p183 := eq_true p183
        replace q183 := eq_true q183
        go_wp2
        repeat (go_quiet (fail); try go_wp2)
        go_roundg k1
        case measure => have := HK1.out; omega
        case rel => exact ⟨(wrap64 (x5_1 + 1)), (by first | rfl | (simp; done) | (simp [*]; done)), H', ⟨by have := HK1.out; omega⟩, by repeat (first | exact Drawn0.refl _ | apply Drawn0.step)⟩
       ·rw [if_neg c7] at H
        have c7b0 : ((rd l0 x5_1) == (rd l1 x5_1)) = false := beq_eq_false_iff_ne.mpr c7
        have c7b1 : ((rd l0 x5_1) != (rd l1 x5_1)) = true := bne_iff_ne.mpr c7
        obtain rfl := Option.some.inj H
        have p182 : 0 ≤ (x5_1 : Int) := of_decide_eq_true (by assumption)
        have q182 : x5_1 < (l0.length : Int) := of_decide_eq_true (by assumption)
        obtain ⟨ad182, e182, hx182_0⟩ := Kd.at_int HR0.out x5_1 p182 q182
        cases e182
        replace p182 := eq_true p182
        replace q182 := eq_true q182
        have p183 : 0 ≤ (x5_1 : Int) := of_decide_eq_true (by assumption)
        have q183 : x5_1 < (l1.length : Int) := of_decide_eq_true (by assumption)
        obtain ⟨ad183, e183, hx183_0⟩ := Kd.at_int HR1.out x5_1 p183 q183
        cases e183
        replace p183 := eq_true p183
        replace q183 := eq_true q183
        go_wp2
        repeat (go_quiet (fail); try go_wp2)
        go_ret
        exact ⟨by first | rfl | (simp; done) | (simp [*]; done), by repeat (first | exact Drawn0.refl _ | apply Drawn0.step)⟩
      ·rw [if_neg c6] at H
       exact absurd H (by simp)
     ·rw [if_neg c5] at H
      exact absurd H (by simp)
    ·rw [if_neg c4] at H
     have c4b0 : decide (x5_1 < (l0.length : Int)) = false := decide_eq_false c4
     clear c4
     obtain rfl := Option.some.inj H
     go_wp2
     repeat (go_quiet (fail); try go_wp2)
     go_ret
     exact ⟨by first | rfl | (simp; done) | (simp [*]; done), by repeat (first | exact Drawn0.refl _ | apply Drawn0.step)⟩
 ·rw [if_neg c3] at H
  have c3b0 : ((l0.length : Int) == (l1.length : Int)) = false := beq_eq_false_iff_ne.mpr c3
  have c3b1 : ((l0.length : Int) != (l1.length : Int)) = true := bne_iff_ne.mpr c3
  have c3b2 : (l0.length == l1.length) = false := by first | simpa using c3 | (simp at c3 ⊢; omega)
  obtain rfl := Option.some.inj H
  go_enter Try.func25, Try.ntmps25
  go_wp2
  repeat (go_quiet (fail); try go_wp2)
  go_ret
  exact ⟨by first | rfl | (simp; done) | (simp [*]; done), by repeat (first | exact Drawn0.refl _ | apply Drawn0.step)⟩

/-! ### dense_Degrees: function 26 -/
def dense_Degrees.l0 : Nat → List Int → List (List Int) → Int → Int → Option (List Int)
 | 0, _, _, _, _ => none
 | k + 1, x7, x20, x21, x22 => if x22 < x21 then (if 0 ≤ x22 then (if x22 < (x20.length : Int) then (if x22 < (x7.length : Int) then (dense_Degrees.l0 k (x7.set (x22 : Int).toNat ((rd_L4 x20 x22).length : Int)) x20 x21 (wrap64 (x22 + 1))) else (none)) else (none)) else (none)) else (some x7)
def dense_Degrees.f (k : Nat) (l0 : List (S47)) (a1 : Int) : Option (List Int) := (dense_of.f k l0 a1 0).bind fun bt184 => (if bt184.2 = true then (if 0 ≤ a1 then (if (a1 : Int).toNat ≤ 35184372088832 then (dense_Degrees.l0 k (List.replicate (a1 : Int).toNat 0) bt184.1 (bt184.1.length : Int) 0) else (none)) else (none)) else (some ([] : List Int)))
theorem dense_Degrees.mono_l : ∀ k, (∀ y0 y1 y2 y3, LeO (dense_Degrees.l0 k y0 y1 y2 y3) (dense_Degrees.l0 (k + 1) y0 y1 y2 y3))
 | 0 => fun _ _ _ _ r h => by simp [dense_Degrees.l0] at h
 | k + 1 => by
  have ih0 := dense_Degrees.mono_l k
  ·intro y0 y1 y2 y3
   unfold dense_Degrees.l0
   repeat' first
   | (with_reducible exact ih0 _ _ _ _)
   | (with_reducible exact dense_of.mono _ _ _ _)
   | (with_reducible exact LeO.refl _)
   | (with_reducible exact LeO.none _)
   | (with_reducible refine LeO.ite ?_ ?_)
   | (with_reducible refine LeO.bind ?_ (fun _ => ?_))
   | exact ih0 _ _ _ _
   | exact dense_of.mono _ _ _ _
   | exact LeO.none _
   | refine LeO.ite ?_ ?_
   | refine LeO.bind ?_ (fun _ => ?_)
theorem dense_Degrees.mono : ∀ a0 a1 k, LeO (dense_Degrees.f k a0 a1) (dense_Degrees.f (k + 1) a0 a1) := by
 intro a0 a1 k
 have ih0 := dense_Degrees.mono_l k
 unfold dense_Degrees.f
 repeat' first
   | (with_reducible exact ih0 _ _ _ _)
   | (with_reducible exact dense_of.mono _ _ _ _)
   | (with_reducible exact LeO.refl _)
   | (with_reducible exact LeO.none _)
   | (with_reducible refine LeO.ite ?_ ?_)
   | (with_reducible refine LeO.bind ?_ (fun _ => ?_))
   | exact ih0 _ _ _ _
   | exact dense_of.mono _ _ _ _
   | exact LeO.none _
   | refine LeO.ite ?_ ?_
   | refine LeO.bind ?_ (fun _ => ?_)
set_option maxHeartbeats 8000000 in
set_option maxRecDepth 100000 in
theorem dense_Degrees.calls (k : Nat) (A0 : Option Addr) (c0 : Nat) (l0 : List (S47)) (a1 : Int) (r : List Int) (w : World) (hr0 : Kd.C k47 w A0 l0.length l0) (hc0 : l0.length ≤ c0) (h : dense_Degrees.f k l0 a1 = some r) :
  Calls Try.prog 26 #[.slice A0 l0.length c0, .int .i64 a1] w fun e w' => ∃ v0_ : Value, e = .returned (v0_) ∧ Kd.R (Kd.int .i64) 3 w' w.heap.size (fun _ => True) v0_ r ∧ Below w.heap.size w w' := by
 have HR0 := Aside0.mk hr0
 have HC0 := Aside0.mk hc0
 clear hr0 hc0
 have HB := Aside0.mk (Below.refl w.heap.size w)
 have H : ((dense_of.f k l0 a1 0).bind fun bt184 => (if bt184.2 = true then (if 0 ≤ a1 then (if (a1 : Int).toNat ≤ 35184372088832 then (dense_Degrees.l0 k (List.replicate (a1 : Int).toNat 0) bt184.1 (bt184.1.length : Int) 0) else (none)) else (none)) else (some ([] : List Int)))) = some r := h
 clear h
 replace H := Option.bind_eq_some_iff.mp H
 obtain ⟨⟨t184, t185⟩, A30, H⟩ := H
 replace H : (if t185 = true then (if 0 ≤ a1 then (if (a1 : Int).toNat ≤ 35184372088832 then (dense_Degrees.l0 k (List.replicate (a1 : Int).toNat 0) t184 (t184.length : Int) 0) else (none)) else (none)) else (some ([] : List Int))) = some r := H
 have A3 := Aside0.mk A30
 clear A30
 by_cases c4 : t185 = true
 ·subst c4
  have H1 : (if 0 ≤ a1 then (if (a1 : Int).toNat ≤ 35184372088832 then (dense_Degrees.l0 k (List.replicate (a1 : Int).toNat 0) t184 (t184.length : Int) 0) else (none)) else (none)) = some r := by rw [if_pos rfl] at H; exact H
  clear H
  have H := H1
  clear H1
  by_cases c5 : 0 ≤ a1
  ·rw [if_pos c5] at H
   have c5b0 := eq_true c5
   have c5b1 : decide (0 ≤ a1) = true := decide_eq_true c5
   clear c5
   by_cases c6 : (a1 : Int).toNat ≤ 35184372088832
   ·rw [if_pos c6] at H
    have c6b0 := eq_true c6
    have c6b1 : decide ((a1 : Int).toNat ≤ 35184372088832) = true := decide_eq_true c6
    clear c6
    obtain ⟨y188, hy188⟩ : ∃ y_ : List Int, y_ = (List.replicate (a1 : Int).toNat 0) := ⟨_, rfl⟩
    replace H : (dense_Degrees.l0 k y188 t184 (t184.length : Int) 0) = some r := by first | (rw [hy188]; with_reducible exact H) | (have H2_ := (Option.bind_some _ _).symm.trans H; rw [hy188]; with_reducible exact H2_) | (have H2_ := (Option.bind_some _ _).symm.trans H; with_reducible exact H2_) | with_reducible exact H | (rw [hy188]; exact H) | exact H
    have Ny188 := Aside0.mk hy188
    clear hy188
    have H' := Aside0.mk H
    clear H
    go_enter Try.func26, Try.ntmps26
    go_wp2_with (first | ((with_reducible refine gate_callee (f := 65) rfl ?_); refine goesL_ (some 13) rfl rfl Try.func65 (by kernel_rfl) rfl #[.slice A0 l0.length c0, .int .i64 a1, .int .i64 0] rfl (by (try simp only [List.map_toArray, List.map_cons, List.map_nil]); first | done | rfl) ?_; (with_reducible refine (dense_of.calls k _ _ l0 a1 0 t184 true _ ?side1 ?side2 A3.out).mono ?_); (case side1 => repeat (first | exact HR0.out | (with_reducible refine Kd.C_alloc ?_ _) | (with_reducible refine Kd.C_drewN ?_ _) | (with_reducible refine Kd.C_drew ?_))); (case side2 => exact HC0.out); rintro e w7 ⟨v186, rfl, ho0, hb⟩; refine ⟨_, rfl, ?_⟩; have n0_ := Aside0.mk (Kd.S_lower ho0 (below_size (by repeat (first | (with_reducible first | exact HB.out | apply below_alloc | apply pw_below_drewN | apply below_drew1) | exact HB.out)))); have n1_ := Aside0.mk (below_step (by repeat (first | (with_reducible first | exact HB.out | apply below_alloc | apply pw_below_drewN | apply below_drew1) | exact HB.out)) hb); clear HB; have HO187 := n0_; have HB := n1_; clear n0_ n1_; (try clear hb); (try clear hb2); (try clear hk); (try clear hi); (try clear ho0)) | ((with_reducible refine gate_dst (N := 19) rfl ?_); refine Kd.R_make (Kd.int .i64) _ 3 rfl (N := 19) rfl 35 _ _ rfl a1 rfl rfl Try.underlying35 (.int .i64 0) 8 info3 rfl (by decide) (by omega) 0 (ok := fun _ => True) (okp := fun _ => True) rfl (fun _ hk => hk) trivial (of_decide_eq_true (by assumption)) (Nat.le_trans (Nat.mul_le_mul_right _ (of_decide_eq_true (by assumption) : a1.toNat ≤ 35184372088832)) (by omega)) (Below.refl _ _) (Nat.le_refl _) ?_; intro v189 w8 ho9 hb hg_ hnew_; clear hg_ hnew_; (first | rw [← Ny188.out] at ho9 | (simp only [Int.reduceToNat] at ho9; rw [← Ny188.out] at ho9)); have n0_ := Aside0.mk (Kd.S_elder' (by (with_reducible repeat (first | apply Kd.S_alloc | apply Kd.S_drewN | apply Kd.S_drew)); exact HO187.out) (Kd.R_base ho9) hb); have n1_ := Aside0.mk (Kd.R_lower ho9 (below_size (by repeat (first | (with_reducible first | exact HB.out | apply below_alloc | apply pw_below_drewN | apply below_drew1) | exact HB.out)))); have n2_ := Aside0.mk (below_step (by repeat (first | (with_reducible first | exact HB.out | apply below_alloc | apply pw_below_drewN | apply below_drew1) | exact HB.out)) hb); clear HO187; clear HB; have HO187 := n0_; have HO190 := n1_; have HB := n2_; clear n0_ n1_ n2_; clear hb ho9; obtain ⟨Ao10, co10, eo10⟩ := Kd.S_slice HO187.out; subst eo10))
    go_loopg [22] k (fun kq v22 w' => ∃ (x7_1 : List Int) (x22_1 : Int), v22 = .int .i64 x22_1 ∧ Aside0 (dense_Degrees.l0 kq x7_1 t184 (t184.length : Int) x22_1 = some r) ∧ Aside0 (kq ≤ k) ∧ Aside0 (Kd.R (Kd.int .i64) 3 w' w.heap.size (fun _ => True) v189 x7_1) ∧ Aside0 (Kd.S (Kd.slice 3 (Kd.int .i64)) 35 w' w.heap.size (fun k_ => some k_ ≠ (v189 : Value).ownBlock) (.slice Ao10 t184.length co10) t184) ∧ Aside0 (Below w.heap.size w w'))
    case atStart => exact ⟨(y188), (0), (by first | rfl | (simp; done) | (simp [*]; done)), H', ⟨Nat.le_refl _⟩, ⟨by (with_reducible repeat (first | apply Kd.R_alloc | apply Kd.R_drewN | apply Kd.R_drew)); exact HO190.out⟩, ⟨by (with_reducible repeat (first | apply Kd.S_alloc | apply Kd.S_drewN | apply Kd.S_drew)); exact Kd.S_mono HO187.out (fun _ hk => hk.2)⟩, ⟨by repeat (first | (with_reducible first | exact HB.out | apply below_alloc | apply pw_below_drewN | apply below_drew1) | exact HB.out)⟩⟩
    case round =>
     clear H'
     try clear c2
     try clear p2
     try clear c4
     try clear c5
     try clear c5b0
     try clear c5b1
     try clear c6
     try clear c6b0
     try clear c6b1
     obtain ⟨x7_1, x22_1, rfl, HA, HK1, HO_7, HO_20, HB⟩ := hrel
     cases gk with
     | zero => exact absurd HA.out (by simp [dense_Degrees.l0])
     | succ k1 =>
      have H := HA.out
      clear HA
      simp only [dense_Degrees.l0] at H
      by_cases c11 : x22_1 < (t184.length : Int)
      ·rw [if_pos c11] at H
       have c11b0 : decide (x22_1 < (t184.length : Int)) = true := decide_eq_true c11
       clear c11
       by_cases c12 : 0 ≤ x22_1
       ·rw [if_pos c12] at H
        have c12b0 : decide (0 ≤ x22_1) = true := decide_eq_true c12
        clear c12
        by_cases c13 : x22_1 < (t184.length : Int)
        ·rw [if_pos c13] at H
         have c13b0 : decide (x22_1 < (t184.length : Int)) = true := decide_eq_true c13
         clear c13
         by_cases c14 : x22_1 < (x7_1.length : Int)
         ·rw [if_pos c14] at H
          have c14b0 : decide (x22_1 < (x7_1.length : Int)) = true := decide_eq_true c14
          clear c14
          obtain ⟨y192, hy192⟩ : ∃ y_ : List Int, y_ = (x7_1.set (x22_1 : Int).toNat ((rd_L4 t184 x22_1).length : Int)) := ⟨_, rfl⟩
          replace H : (dense_Degrees.l0 k1 y192 t184 (t184.length : Int) (wrap64 (x22_1 + 1))) = some r := by first | (rw [hy192]; with_reducible exact H) | (have H2_ := (Option.bind_some _ _).symm.trans H; rw [hy192]; with_reducible exact H2_) | (have H2_ := (Option.bind_some _ _).symm.trans H; with_reducible exact H2_) | with_reducible exact H | (rw [hy192]; exact H) | exact H
          have Ny192 := Aside0.mk hy192
          clear hy192
          have H' := Aside0.mk H
          clear H
          have p191 : 0 ≤ (x22_1 : Int) := of_decide_eq_true (by assumption)
          have q191 : x22_1 < (t184.length : Int) := of_decide_eq_true (by assumption)
          obtain ⟨ad191, A191_0, c191_0, e191, hx191_0, hl191_0, hi191_0⟩ := at_L4 (Kd.S_reads' HO_20.out).2.2 x22_1 p191 q191
          cases e191
          obtain ⟨ce191, hce191, hMe191, hcc191⟩ := Kd.S_get HO_20.out [] x22_1 p191 (by first | exact q191 | exact of_decide_eq_true (by assumption) | (have e_ := (Kd.S_reads' HO_20.out).1; omega))
          obtain ⟨ve191_0, rfl, ge191_0⟩ := hMe191
          have hv191_0 := hcc191 0 _ rfl
          rw [Nat.add_zero, show ((Kd.slice 3 (Kd.int .i64))).sz = 1 from rfl, Nat.mul_one] at hv191_0
          replace hv191_0 := Option.some.inj (hv191_0.symm.trans hx191_0)
          rw [hv191_0] at ge191_0
          have HL191_0 := Aside0.mk (show Kd.R (Kd.int .i64) 3 _ _ _ _ (rd_L4 t184 x22_1) from ge191_0)
          clear hv191_0 ge191_0
          clear hcc191 hce191
          have HR191_0 := Aside0.mk hi191_0
          have HC191_0 := Aside0.mk hl191_0
          clear hi191_0 hl191_0
          replace p191 := eq_true p191
          replace q191 := eq_true q191
          have p15 : 0 ≤ (x22_1 : Int) := of_decide_eq_true (by assumption)
          have q15 : (x22_1 : Int) < ((x7_1.length : Int) : Int) := of_decide_eq_true (by assumption)
          obtain ⟨go15, co15, eo15, gb15, gl15, cl15, HG15⟩ := Kd.R_form HO_7.out (by omega)
          (first | cases eo15 | (injection eo15 with ea_ en_ ec_; (first | subst ea_ | (injection ea_ with ea_; subst ea_)); subst ec_; clear en_))
          have GB15 := Aside0.mk gb15
          have GG15 := Aside0.mk HG15
          clear gb15 gl15 HG15
          obtain ⟨hx15_0, hf15_0⟩ := Kd.R_celln 0 HO_7.out (x22_1 : Int) p15 q15
          replace p15 := eq_true p15
          replace q15 := eq_true q15
          have HP16 := Kd.R_putg HO_7.out (x22_1 : Int) ((rd_L4 t184 x22_1).length : Int)
          go_wp2_with (first | ((with_reducible refine gate_store (t := 3) (p := 31) rfl ?_); refine store_event (t := 3) (p := 31) (v := ?vo_w17) (w1 := (wr.setCell ⟨go15, (x22_1 : Int).toNat, none⟩ (.int .i64 ((rd_L4 t184 x22_1).length : Int)))) ?hg ?ho ?hn ?hr ?_; (case ho => rfl); (case hg => rfl); (case hn => rfl); (case hr => first | (go_simp; done) | (go_simp; rfl)); intro w17 hw; have hg : wr.grownBy w17 (some go15) := (by rw [hw]; exact HP16.2); have hp_ : Kd.R (Kd.int .i64) 3 w17 w.heap.size (fun _ => True) (.slice (some ⟨go15, 0, none⟩) x7_1.length co15) y192 := (by rw [hw, Ny192.out]; exact HP16.1); clear HP16; have n0_ := Aside0.mk (hp_); have n1_ := Aside0.mk (Kd.S_after (v := (.slice (some ⟨go15, 0, none⟩) x7_1.length co15)) (v1 := (.slice (some ⟨go15, 0, none⟩) x7_1.length co15)) (ok := (fun _ => True)) (by (with_reducible repeat (first | apply Kd.S_alloc | apply Kd.S_drewN | apply Kd.S_drew)); exact Kd.S_mono HO_20.out (fun _ hk => ⟨trivial, hk⟩)) hg (.inl rfl)); have n2_ := Aside0.mk (Kd.R_after (v := (.slice (some ⟨go15, 0, none⟩) x7_1.length co15)) (v1 := (.slice (some ⟨go15, 0, none⟩) x7_1.length co15)) (ok := (fun k_ => some k_ ≠ (.slice (some ad191) t184.length co10 : Value).ownBlock)) (by (with_reducible repeat (first | apply Kd.R_alloc | apply Kd.R_drewN | apply Kd.R_drew)); exact Kd.R_mono HL191_0.out (fun _ hk => ⟨hk.2, hk.1⟩)) hg (.inl rfl)); have n3_ := Aside0.mk ((by rw [hw]; exact below_set (HB.out) GB15.out : Below w.heap.size w w17)); clear HO_7; clear HO_20; clear HL191_0; clear HB; have HO_7 := n0_; have HO_20 := n1_; have HL191_0 := n2_; have HB := n3_; clear n0_ n1_ n2_ n3_; clear hg hw hp_))
          go_roundg k1
          case measure => have := HK1.out; omega
          case rel => exact ⟨(y192), (wrap64 (x22_1 + 1)), (by first | rfl | (simp; done) | (simp [*]; done)), H', ⟨by have := HK1.out; omega⟩, ⟨by (with_reducible repeat (first | apply Kd.R_alloc | apply Kd.R_drewN | apply Kd.R_drew)); exact HO_7.out⟩, ⟨by (with_reducible repeat (first | apply Kd.S_alloc | apply Kd.S_drewN | apply Kd.S_drew)); exact Kd.S_mono HO_20.out (fun _ hk => hk.2)⟩, ⟨by repeat (first | (with_reducible first | exact HB.out | apply below_alloc | apply pw_below_drewN | apply below_drew1) | exact HB.out)⟩⟩
         ·rw [if_neg c14] at H
          exact absurd H (by simp)
        ·rw [if_neg c13] at H
         exact absurd H (by simp)
       ·rw [if_neg c12] at H
        exact absurd H (by simp)
      ·rw [if_neg c11] at H
       have c11b0 : decide (x22_1 < (t184.length : Int)) = false := decide_eq_false c11
       clear c11
       obtain rfl := Option.some.inj H
       go_wp2
       go_ret
       exact ⟨_, by first | rfl | (simp [errW_none, errW_some] <;> rfl) | (simp [*, errW_none, errW_some] <;> rfl), by (with_reducible repeat (first | apply Kd.R_alloc | apply Kd.R_drewN | apply Kd.R_drew)); exact HO_7.out, by repeat (first | (with_reducible first | exact HB.out | apply below_alloc | apply pw_below_drewN | apply below_drew1) | exact HB.out)⟩
   ·rw [if_neg c6] at H
    exact absurd H (by simp)
  ·rw [if_neg c5] at H
   exact absurd H (by simp)
 ·replace c4 := Bool.eq_false_iff.mpr c4
  subst c4
  have H1 : (some ([] : List Int)) = some r := by rw [if_neg (show ¬ (false = true) by decide)] at H; exact H
  clear H
  have H := H1
  clear H1
  obtain rfl := Option.some.inj H
  go_enter Try.func26, Try.ntmps26
  go_wp2_with (first | ((with_reducible refine gate_callee (f := 65) rfl ?_); refine goesL_ (some 13) rfl rfl Try.func65 (by kernel_rfl) rfl #[.slice A0 l0.length c0, .int .i64 a1, .int .i64 0] rfl (by (try simp only [List.map_toArray, List.map_cons, List.map_nil]); first | done | rfl) ?_; (with_reducible refine (dense_of.calls k _ _ l0 a1 0 t184 false _ ?side1 ?side2 A3.out).mono ?_); (case side1 => repeat (first | exact HR0.out | (with_reducible refine Kd.C_alloc ?_ _) | (with_reducible refine Kd.C_drewN ?_ _) | (with_reducible refine Kd.C_drew ?_))); (case side2 => exact HC0.out); rintro e w18 ⟨v186, rfl, ho0, hb⟩; refine ⟨_, rfl, ?_⟩; have n0_ := Aside0.mk (Kd.S_lower ho0 (below_size (by repeat (first | (with_reducible first | exact HB.out | apply below_alloc | apply pw_below_drewN | apply below_drew1) | exact HB.out)))); have n1_ := Aside0.mk (below_step (by repeat (first | (with_reducible first | exact HB.out | apply below_alloc | apply pw_below_drewN | apply below_drew1) | exact HB.out)) hb); clear HB; have HO187 := n0_; have HB := n1_; clear n0_ n1_; (try clear hb); (try clear hb2); (try clear hk); (try clear hi); (try clear ho0)))
  go_ret
  exact ⟨_, by first | rfl | (simp [errW_none, errW_some] <;> rfl) | (simp [*, errW_none, errW_some] <;> rfl), by first | exact Kd.R_nil _ _ _ _ _ | exact Kd.N_nil _ _ _ _ _ | exact Kd.V_nil _ _ _ _ _ | exact Kd.Q_nil _ _ _ _ _ | exact Kd.S_nil _ _ _ _ _, by repeat (first | (with_reducible first | exact HB.out | apply below_alloc | apply pw_below_drewN | apply below_drew1) | exact HB.out)⟩

/-! ### chainmanlaw48_awake: function 21 -/
def chainmanlaw48_awake.f (k : Nat)  : Option (Bool) := (some (([(⟨0, 1⟩ : S47), (⟨1, 2⟩ : S47)] : List (S47)) : List (S47))).bind fun y193 => ((dense_Groups.f k y193 3 2).bind fun bt196 => ((chainmanref10_SameList.f k bt196.1 (([1, 1, 1] : List Int))).bind fun t203 => (if t203 = true then (if bt196.2 = 1 then ((dense_Sizes.f k (([3, (-1), 0, 3] : List Int))).bind fun t207 => ((chainmanref10_SameList.f k t207 (([1, 2] : List Int))).bind fun t213 => (if t213 = true then ((dense_Degrees.f k y193 2).bind fun t214 => (some ((t214.length : Int) == 0))) else (none)))) else (none)) else (none))))
theorem chainmanlaw48_awake.mono : ∀ k, LeO (chainmanlaw48_awake.f k ) (chainmanlaw48_awake.f (k + 1) ) := by
 intro  k
 unfold chainmanlaw48_awake.f
 repeat' first
   | (with_reducible exact chainmanref10_SameList.mono _ _ _)
   | (with_reducible exact dense_Degrees.mono _ _ _)
   | (with_reducible exact dense_Groups.mono _ _ _ _)
   | (with_reducible exact dense_Sizes.mono _ _)
   | (with_reducible exact LeO.refl _)
   | (with_reducible exact LeO.none _)
   | (with_reducible refine LeO.ite ?_ ?_)
   | (with_reducible refine LeO.bind ?_ (fun _ => ?_))
   | exact chainmanref10_SameList.mono _ _ _
   | exact dense_Degrees.mono _ _ _
   | exact dense_Groups.mono _ _ _ _
   | exact dense_Sizes.mono _ _
   | exact LeO.none _
   | refine LeO.ite ?_ ?_
   | refine LeO.bind ?_ (fun _ => ?_)
set_option maxHeartbeats 8000000 in
set_option maxRecDepth 100000 in
theorem chainmanlaw48_awake.calls (k : Nat)  (r : Bool) (w : World) (h : chainmanlaw48_awake.f k  = some r) :
  Calls Try.prog 21 #[] w fun e w' => e = .returned (.bool r) ∧ Below w.heap.size w w' := by
 have hu47 := Try.underlying47
 have HB := Aside0.mk (Below.refl w.heap.size w)
 have H : ((some (([(⟨0, 1⟩ : S47), (⟨1, 2⟩ : S47)] : List (S47)) : List (S47))).bind fun y193 => ((dense_Groups.f k y193 3 2).bind fun bt196 => ((chainmanref10_SameList.f k bt196.1 (([1, 1, 1] : List Int))).bind fun t203 => (if t203 = true then (if bt196.2 = 1 then ((dense_Sizes.f k (([3, (-1), 0, 3] : List Int))).bind fun t207 => ((chainmanref10_SameList.f k t207 (([1, 2] : List Int))).bind fun t213 => (if t213 = true then ((dense_Degrees.f k y193 2).bind fun t214 => (some ((t214.length : Int) == 0))) else (none)))) else (none)) else (none))))) = some r := h
 clear h
 obtain ⟨y193, hy193⟩ : ∃ y_ : List (S47), y_ = (([(⟨0, 1⟩ : S47), (⟨1, 2⟩ : S47)] : List (S47))) := ⟨_, rfl⟩
 replace H : ((dense_Groups.f k y193 3 2).bind fun bt196 => ((chainmanref10_SameList.f k bt196.1 (([1, 1, 1] : List Int))).bind fun t203 => (if t203 = true then (if bt196.2 = 1 then ((dense_Sizes.f k (([3, (-1), 0, 3] : List Int))).bind fun t207 => ((chainmanref10_SameList.f k t207 (([1, 2] : List Int))).bind fun t213 => (if t213 = true then ((dense_Degrees.f k y193 2).bind fun t214 => (some ((t214.length : Int) == 0))) else (none)))) else (none)) else (none)))) = some r := by first | (rw [hy193]; with_reducible exact H) | (have H2_ := (Option.bind_some _ _).symm.trans H; rw [hy193]; with_reducible exact H2_) | (have H2_ := (Option.bind_some _ _).symm.trans H; with_reducible exact H2_) | with_reducible exact H | (rw [hy193]; exact H) | exact H
 have Ny193 := Aside0.mk hy193
 clear hy193
 replace H := Option.bind_eq_some_iff.mp H
 obtain ⟨⟨t196, t197⟩, A10, H⟩ := H
 replace H : ((chainmanref10_SameList.f k t196 (([1, 1, 1] : List Int))).bind fun t203 => (if t203 = true then (if t197 = 1 then ((dense_Sizes.f k (([3, (-1), 0, 3] : List Int))).bind fun t207 => ((chainmanref10_SameList.f k t207 (([1, 2] : List Int))).bind fun t213 => (if t213 = true then ((dense_Degrees.f k y193 2).bind fun t214 => (some ((t214.length : Int) == 0))) else (none)))) else (none)) else (none))) = some r := H
 have A1 := Aside0.mk A10
 clear A10
 obtain ⟨y200, hy200⟩ : ∃ y_ : List Int, y_ = (([1, 1, 1] : List Int)) := ⟨_, rfl⟩
 replace H : ((chainmanref10_SameList.f k t196 y200).bind fun t203 => (if t203 = true then (if t197 = 1 then ((dense_Sizes.f k (([3, (-1), 0, 3] : List Int))).bind fun t207 => ((chainmanref10_SameList.f k t207 (([1, 2] : List Int))).bind fun t213 => (if t213 = true then ((dense_Degrees.f k y193 2).bind fun t214 => (some ((t214.length : Int) == 0))) else (none)))) else (none)) else (none))) = some r := by first | (rw [hy200]; with_reducible exact H) | (have H2_ := (Option.bind_some _ _).symm.trans H; rw [hy200]; with_reducible exact H2_) | (have H2_ := (Option.bind_some _ _).symm.trans H; with_reducible exact H2_) | with_reducible exact H | (rw [hy200]; exact H) | exact H
 have Ny200 := Aside0.mk hy200
 clear hy200
 replace H := Option.bind_eq_some_iff.mp H
 obtain ⟨t203, A20, H⟩ := H
 replace H : (if t203 = true then (if t197 = 1 then ((dense_Sizes.f k (([3, (-1), 0, 3] : List Int))).bind fun t207 => ((chainmanref10_SameList.f k t207 (([1, 2] : List Int))).bind fun t213 => (if t213 = true then ((dense_Degrees.f k y193 2).bind fun t214 => (some ((t214.length : Int) == 0))) else (none)))) else (none)) else (none)) = some r := H
 have A2 := Aside0.mk A20
 clear A20
 by_cases c3 : t203 = true
 ·subst c3
  have H1 : (if t197 = 1 then ((dense_Sizes.f k (([3, (-1), 0, 3] : List Int))).bind fun t207 => ((chainmanref10_SameList.f k t207 (([1, 2] : List Int))).bind fun t213 => (if t213 = true then ((dense_Degrees.f k y193 2).bind fun t214 => (some ((t214.length : Int) == 0))) else (none)))) else (none)) = some r := by rw [if_pos rfl] at H; exact H
  clear H
  have H := H1
  clear H1
  by_cases c4 : t197 = 1
  ·rw [if_pos c4] at H
   have c4b0 : (t197 == 1) = true := beq_iff_eq.mpr c4
   have c4b1 : (t197 != 1) = false := bne_eq_false_iff_eq.mpr c4
   clear c4
   obtain ⟨y204, hy204⟩ : ∃ y_ : List Int, y_ = (([3, (-1), 0, 3] : List Int)) := ⟨_, rfl⟩
   replace H : ((dense_Sizes.f k y204).bind fun t207 => ((chainmanref10_SameList.f k t207 (([1, 2] : List Int))).bind fun t213 => (if t213 = true then ((dense_Degrees.f k y193 2).bind fun t214 => (some ((t214.length : Int) == 0))) else (none)))) = some r := by first | (rw [hy204]; with_reducible exact H) | (have H2_ := (Option.bind_some _ _).symm.trans H; rw [hy204]; with_reducible exact H2_) | (have H2_ := (Option.bind_some _ _).symm.trans H; with_reducible exact H2_) | with_reducible exact H | (rw [hy204]; exact H) | exact H
   have Ny204 := Aside0.mk hy204
   clear hy204
   replace H := Option.bind_eq_some_iff.mp H
   obtain ⟨t207, A50, H⟩ := H
   replace H : ((chainmanref10_SameList.f k t207 (([1, 2] : List Int))).bind fun t213 => (if t213 = true then ((dense_Degrees.f k y193 2).bind fun t214 => (some ((t214.length : Int) == 0))) else (none))) = some r := H
   have A5 := Aside0.mk A50
   clear A50
   obtain ⟨y210, hy210⟩ : ∃ y_ : List Int, y_ = (([1, 2] : List Int)) := ⟨_, rfl⟩
   replace H : ((chainmanref10_SameList.f k t207 y210).bind fun t213 => (if t213 = true then ((dense_Degrees.f k y193 2).bind fun t214 => (some ((t214.length : Int) == 0))) else (none))) = some r := by first | (rw [hy210]; with_reducible exact H) | (have H2_ := (Option.bind_some _ _).symm.trans H; rw [hy210]; with_reducible exact H2_) | (have H2_ := (Option.bind_some _ _).symm.trans H; with_reducible exact H2_) | with_reducible exact H | (rw [hy210]; exact H) | exact H
   have Ny210 := Aside0.mk hy210
   clear hy210
   replace H := Option.bind_eq_some_iff.mp H
   obtain ⟨t213, A60, H⟩ := H
   replace H : (if t213 = true then ((dense_Degrees.f k y193 2).bind fun t214 => (some ((t214.length : Int) == 0))) else (none)) = some r := H
   have A6 := Aside0.mk A60
   clear A60
   by_cases c7 : t213 = true
   ·subst c7
    have H1 : ((dense_Degrees.f k y193 2).bind fun t214 => (some ((t214.length : Int) == 0))) = some r := by rw [if_pos rfl] at H; exact H
    clear H
    have H := H1
    clear H1
    replace H := Option.bind_eq_some_iff.mp H
    obtain ⟨t214, A80, H⟩ := H
    replace H : (some ((t214.length : Int) == 0)) = some r := H
    have A8 := Aside0.mk A80
    clear A80
    obtain rfl := Option.some.inj H
    go_enter Try.func21, Try.ntmps21
    go_wp2_with (first | ((with_reducible refine gate_dst (N := 6) rfl ?_); (try (refine gate_guard (by rfl) ?_; dsimp only)); refine Kd.R_lit k47 _ 47 ?hg (N := 6) ?hd (xs := ([(⟨0, 1⟩ : S47), (⟨1, 2⟩ : S47)] : List (S47))) (inner := [.int .i64 0, .int .i64 1, .int .i64 1, .int .i64 2]) (ok := fun _ => True) (okp := fun _ => True) ?hr ?hp (fun _ hk => hk) trivial (Below.refl _ _) (Nat.le_refl _) (by simp) ?_; (case hd => rfl); (case hg => rfl); (case hr => first | (go_simp; done) | (go_simp; rfl)); (case hp => exact (Reps.c2 (show Kd.M k47 _ _ _ (⟨0, 1⟩ : S47) [.int .i64 0, .int .i64 1] from (k47_mkM _ _ _ (⟨0, 1⟩ : S47) )) (Reps.c2 (show Kd.M k47 _ _ _ (⟨1, 2⟩ : S47) [.int .i64 1, .int .i64 2] from (k47_mkM _ _ _ (⟨1, 2⟩ : S47) )) (Reps.none _ _)))); intro v194 w9 ho10 hb hg_ hnew_; clear hg_ hnew_; (first | rw [← Ny193.out] at ho10 | (simp only [Int.reduceToNat] at ho10; rw [← Ny193.out] at ho10)); have n0_ := Aside0.mk (Kd.R_lower ho10 (below_size (by repeat (first | (with_reducible first | exact HB.out | apply below_alloc | apply pw_below_drewN | apply below_drew1) | exact HB.out)))); have n1_ := Aside0.mk (below_step (by repeat (first | (with_reducible first | exact HB.out | apply below_alloc | apply pw_below_drewN | apply below_drew1) | exact HB.out)) hb); clear HB; have HO195 := n0_; have HB := n1_; clear n0_ n1_; clear hb ho10; obtain ⟨Ao11, co11, eo11⟩ := Kd.R_slice HO195.out; subst eo11) | ((with_reducible refine gate_callee (f := 22) rfl ?_); refine goesL_ (some 9) rfl rfl Try.func22 (by kernel_rfl) rfl #[.slice Ao11 y193.length co11, .int .i64 3, .int .i64 2] rfl (by (try simp only [List.map_toArray, List.map_cons, List.map_nil]); first | done | rfl) ?_; (with_reducible refine (dense_Groups.calls k _ _ y193 3 2 t196 t197 _ ?side1 ?side2 A1.out).mono ?_); (case side1 => repeat (first | exact (Kd.R_reads' HO195.out).2.2 | (with_reducible refine Kd.C_alloc ?_ _) | (with_reducible refine Kd.C_drewN ?_ _) | (with_reducible refine Kd.C_drew ?_))); (case side2 => exact (Kd.R_reads' HO195.out).2.1); rintro e w12 ⟨v198, rfl, ho0, hb⟩; refine ⟨_, rfl, ?_⟩; have n0_ := Aside0.mk (Kd.R_below (by (with_reducible repeat (first | apply Kd.R_alloc | apply Kd.R_drewN | apply Kd.R_drew)); exact HO195.out) hb); have n1_ := Aside0.mk (Kd.R_lower ho0 (below_size (by repeat (first | (with_reducible first | exact HB.out | apply below_alloc | apply pw_below_drewN | apply below_drew1) | exact HB.out)))); have n2_ := Aside0.mk (below_step (by repeat (first | (with_reducible first | exact HB.out | apply below_alloc | apply pw_below_drewN | apply below_drew1) | exact HB.out)) hb); clear HO195; clear HB; have HO195 := n0_; have HO199 := n1_; have HB := n2_; clear n0_ n1_ n2_; (try clear hb); (try clear hb2); (try clear hk); (try clear hi); (try clear ho0)) | ((with_reducible refine gate_dst (N := 13) rfl ?_); (try (refine gate_guard (by rfl) ?_; dsimp only)); refine Kd.R_lit (Kd.int .i64) _ 3 ?hg (N := 13) ?hd (xs := ([1, 1, 1] : List Int)) (inner := [.int .i64 1, .int .i64 1, .int .i64 1]) (ok := fun _ => True) (okp := fun _ => True) ?hr ?hp (fun _ hk => hk) trivial (Below.refl _ _) (Nat.le_refl _) (by simp) ?_; (case hd => rfl); (case hg => rfl); (case hr => first | (go_simp; done) | (go_simp; rfl)); (case hp => exact (Reps.one (show Kd.M (Kd.int .i64) _ _ _ 1 [.int .i64 1] from rfl) (Reps.one (show Kd.M (Kd.int .i64) _ _ _ 1 [.int .i64 1] from rfl) (Reps.one (show Kd.M (Kd.int .i64) _ _ _ 1 [.int .i64 1] from rfl) (Reps.none _ _))))); intro v201 w13 ho14 hb hg_ hnew_; clear hg_ hnew_; (first | rw [← Ny200.out] at ho14 | (simp only [Int.reduceToNat] at ho14; rw [← Ny200.out] at ho14)); have n0_ := Aside0.mk (Kd.R_below (by (with_reducible repeat (first | apply Kd.R_alloc | apply Kd.R_drewN | apply Kd.R_drew)); exact HO195.out) hb); have n1_ := Aside0.mk (Kd.R_elder' (by (with_reducible repeat (first | apply Kd.R_alloc | apply Kd.R_drewN | apply Kd.R_drew)); exact HO199.out) (Kd.R_base ho14) hb); have n2_ := Aside0.mk (Kd.R_lower (Kd.R_new' ho14 (Kd.R_lt (by (with_reducible repeat (first | apply Kd.R_alloc | apply Kd.R_drewN | apply Kd.R_drew)); exact HO199.out))) (below_size (by repeat (first | (with_reducible first | exact HB.out | apply below_alloc | apply pw_below_drewN | apply below_drew1) | exact HB.out)))); have n3_ := Aside0.mk (below_step (by repeat (first | (with_reducible first | exact HB.out | apply below_alloc | apply pw_below_drewN | apply below_drew1) | exact HB.out)) hb); clear HO195; clear HO199; clear HB; have HO195 := n0_; have HO199 := n1_; have HO202 := n2_; have HB := n3_; clear n0_ n1_ n2_ n3_; clear hb ho14; obtain ⟨Ao15, co15, eo15⟩ := Kd.R_slice HO199.out; subst eo15; obtain ⟨Ao16, co16, eo16⟩ := Kd.R_slice HO202.out; subst eo16) | ((with_reducible refine gate_callee (f := 25) rfl ?_); refine goesL_ (some 14) rfl rfl Try.func25 (by kernel_rfl) rfl #[.slice Ao15 t196.length co15, .slice Ao16 y200.length co16] rfl (by (try simp only [List.map_toArray, List.map_cons, List.map_nil]); first | done | rfl) ?_; (with_reducible refine (chainmanref10_SameList.calls k _ _ t196 _ _ y200 true _ ?side1 ?side2 ?side3 ?side4 A2.out).mono ?_); (case side1 => repeat (first | exact (Kd.R_reads' HO199.out).2.2 | (with_reducible refine Kd.C_alloc ?_ _) | (with_reducible refine Kd.C_drewN ?_ _) | (with_reducible refine Kd.C_drew ?_))); (case side2 => exact (Kd.R_reads' HO199.out).2.1); (case side3 => repeat (first | exact (Kd.R_reads' HO202.out).2.2 | (with_reducible refine Kd.C_alloc ?_ _) | (with_reducible refine Kd.C_drewN ?_ _) | (with_reducible refine Kd.C_drew ?_))); (case side4 => exact (Kd.R_reads' HO202.out).2.1); rintro e w' ⟨rfl, ⟨nd, rfl⟩⟩; refine ⟨_, rfl, ?_⟩) | (go_at_call 25; refine calls_of_args (args' := #[.slice Ao15 t196.length co15, .slice Ao16 y200.length co16]) (by first | rfl) ?_; (with_reducible refine (chainmanref10_SameList.calls k _ _ t196 _ _ y200 true _ ?side1 ?side2 ?side3 ?side4 A2.out).mono ?_); (case side1 => repeat (first | exact (Kd.R_reads' HO199.out).2.2 | (with_reducible refine Kd.C_alloc ?_ _) | (with_reducible refine Kd.C_drewN ?_ _) | (with_reducible refine Kd.C_drew ?_))); (case side2 => exact (Kd.R_reads' HO199.out).2.1); (case side3 => repeat (first | exact (Kd.R_reads' HO202.out).2.2 | (with_reducible refine Kd.C_alloc ?_ _) | (with_reducible refine Kd.C_drewN ?_ _) | (with_reducible refine Kd.C_drew ?_))); (case side4 => exact (Kd.R_reads' HO202.out).2.1); rintro e w' ⟨rfl, ⟨nd, rfl⟩⟩) | ((with_reducible refine gate_dst (N := 20) rfl ?_); (try (refine gate_guard (by rfl) ?_; dsimp only)); refine Kd.R_lit (Kd.int .i64) _ 3 ?hg (N := 20) ?hd (xs := ([3, (-1), 0, 3] : List Int)) (inner := [.int .i64 3, .int .i64 (-1), .int .i64 0, .int .i64 3]) (ok := fun _ => True) (okp := fun _ => True) ?hr ?hp (fun _ hk => hk) trivial (Below.refl _ _) (Nat.le_refl _) (by simp) ?_; (case hd => rfl); (case hg => rfl); (case hr => first | (go_simp; done) | (go_simp; rfl)); (case hp => exact (Reps.one (show Kd.M (Kd.int .i64) _ _ _ 3 [.int .i64 3] from rfl) (Reps.one (show Kd.M (Kd.int .i64) _ _ _ (-1) [.int .i64 (-1)] from rfl) (Reps.one (show Kd.M (Kd.int .i64) _ _ _ 0 [.int .i64 0] from rfl) (Reps.one (show Kd.M (Kd.int .i64) _ _ _ 3 [.int .i64 3] from rfl) (Reps.none _ _)))))); intro v205 w17 ho18 hb hg_ hnew_; clear hg_ hnew_; (first | rw [← Ny204.out] at ho18 | (simp only [Int.reduceToNat] at ho18; rw [← Ny204.out] at ho18)); have n0_ := Aside0.mk (Kd.R_below (by (with_reducible repeat (first | apply Kd.R_alloc | apply Kd.R_drewN | apply Kd.R_drew)); exact HO195.out) hb); have n1_ := Aside0.mk (Kd.R_elder' (by (with_reducible repeat (first | apply Kd.R_alloc | apply Kd.R_drewN | apply Kd.R_drew)); exact HO199.out) (Kd.R_base ho18) hb); have n2_ := Aside0.mk (Kd.R_elder' (by (with_reducible repeat (first | apply Kd.R_alloc | apply Kd.R_drewN | apply Kd.R_drew)); exact HO202.out) (Kd.R_base ho18) hb); have n3_ := Aside0.mk (Kd.R_lower (Kd.R_new' (Kd.R_new' ho18 (Kd.R_lt (by (with_reducible repeat (first | apply Kd.R_alloc | apply Kd.R_drewN | apply Kd.R_drew)); exact HO199.out))) (Kd.R_lt (by (with_reducible repeat (first | apply Kd.R_alloc | apply Kd.R_drewN | apply Kd.R_drew)); exact HO202.out))) (below_size (by repeat (first | (with_reducible first | exact HB.out | apply below_alloc | apply pw_below_drewN | apply below_drew1) | exact HB.out)))); have n4_ := Aside0.mk (below_step (by repeat (first | (with_reducible first | exact HB.out | apply below_alloc | apply pw_below_drewN | apply below_drew1) | exact HB.out)) hb); clear HO195; clear HO199; clear HO202; clear HB; have HO195 := n0_; have HO199 := n1_; have HO202 := n2_; have HO206 := n3_; have HB := n4_; clear n0_ n1_ n2_ n3_ n4_; clear hb ho18; obtain ⟨Ao19, co19, eo19⟩ := Kd.R_slice HO206.out; subst eo19) | (go_at_call 23; (with_reducible refine (dense_Sizes.calls k _ _ y204 t207 _ ?side1 ?side2 A5.out).mono ?_); (case side1 => repeat (first | exact (Kd.R_reads' HO206.out).2.2 | (with_reducible refine Kd.C_alloc ?_ _) | (with_reducible refine Kd.C_drewN ?_ _) | (with_reducible refine Kd.C_drew ?_))); (case side2 => exact (Kd.R_reads' HO206.out).2.1); rintro e w20 ⟨v208, rfl, ho0, hb⟩; have n0_ := Aside0.mk (Kd.R_below (by (with_reducible repeat (first | apply Kd.R_alloc | apply Kd.R_drewN | apply Kd.R_drew)); exact HO195.out) hb); have n1_ := Aside0.mk (Kd.R_elder' (by (with_reducible repeat (first | apply Kd.R_alloc | apply Kd.R_drewN | apply Kd.R_drew)); exact HO199.out) (Kd.R_base ho0) hb); have n2_ := Aside0.mk (Kd.R_elder' (by (with_reducible repeat (first | apply Kd.R_alloc | apply Kd.R_drewN | apply Kd.R_drew)); exact HO202.out) (Kd.R_base ho0) hb); have n3_ := Aside0.mk (Kd.R_elder' (by (with_reducible repeat (first | apply Kd.R_alloc | apply Kd.R_drewN | apply Kd.R_drew)); exact HO206.out) (Kd.R_base ho0) hb); have n4_ := Aside0.mk (Kd.R_lower (Kd.R_new' (Kd.R_new' (Kd.R_new' ho0 (Kd.R_lt (by (with_reducible repeat (first | apply Kd.R_alloc | apply Kd.R_drewN | apply Kd.R_drew)); exact HO199.out))) (Kd.R_lt (by (with_reducible repeat (first | apply Kd.R_alloc | apply Kd.R_drewN | apply Kd.R_drew)); exact HO202.out))) (Kd.R_lt (by (with_reducible repeat (first | apply Kd.R_alloc | apply Kd.R_drewN | apply Kd.R_drew)); exact HO206.out))) (below_size (by repeat (first | (with_reducible first | exact HB.out | apply below_alloc | apply pw_below_drewN | apply below_drew1) | exact HB.out)))); have n5_ := Aside0.mk (below_step (by repeat (first | (with_reducible first | exact HB.out | apply below_alloc | apply pw_below_drewN | apply below_drew1) | exact HB.out)) hb); clear HO195; clear HO199; clear HO202; clear HO206; clear HB; have HO195 := n0_; have HO199 := n1_; have HO202 := n2_; have HO206 := n3_; have HO209 := n4_; have HB := n5_; clear n0_ n1_ n2_ n3_ n4_ n5_; (try clear hb); (try clear hb2); (try clear hk); (try clear hi); (try clear ho0)) | ((with_reducible refine gate_dst (N := 22) rfl ?_); (try (refine gate_guard (by rfl) ?_; dsimp only)); refine Kd.R_lit (Kd.int .i64) _ 3 ?hg (N := 22) ?hd (xs := ([1, 2] : List Int)) (inner := [.int .i64 1, .int .i64 2]) (ok := fun _ => True) (okp := fun _ => True) ?hr ?hp (fun _ hk => hk) trivial (Below.refl _ _) (Nat.le_refl _) (by simp) ?_; (case hd => rfl); (case hg => rfl); (case hr => first | (go_simp; done) | (go_simp; rfl)); (case hp => exact (Reps.one (show Kd.M (Kd.int .i64) _ _ _ 1 [.int .i64 1] from rfl) (Reps.one (show Kd.M (Kd.int .i64) _ _ _ 2 [.int .i64 2] from rfl) (Reps.none _ _)))); intro v211 w21 ho22 hb hg_ hnew_; clear hg_ hnew_; (first | rw [← Ny210.out] at ho22 | (simp only [Int.reduceToNat] at ho22; rw [← Ny210.out] at ho22)); have n0_ := Aside0.mk (Kd.R_below (by (with_reducible repeat (first | apply Kd.R_alloc | apply Kd.R_drewN | apply Kd.R_drew)); exact HO195.out) hb); have n1_ := Aside0.mk (Kd.R_elder' (by (with_reducible repeat (first | apply Kd.R_alloc | apply Kd.R_drewN | apply Kd.R_drew)); exact HO199.out) (Kd.R_base ho22) hb); have n2_ := Aside0.mk (Kd.R_elder' (by (with_reducible repeat (first | apply Kd.R_alloc | apply Kd.R_drewN | apply Kd.R_drew)); exact HO202.out) (Kd.R_base ho22) hb); have n3_ := Aside0.mk (Kd.R_elder' (by (with_reducible repeat (first | apply Kd.R_alloc | apply Kd.R_drewN | apply Kd.R_drew)); exact HO206.out) (Kd.R_base ho22) hb); have n4_ := Aside0.mk (Kd.R_elder' (by (with_reducible repeat (first | apply Kd.R_alloc | apply Kd.R_drewN | apply Kd.R_drew)); exact HO209.out) (Kd.R_base ho22) hb); have n5_ := Aside0.mk (Kd.R_lower (Kd.R_new' (Kd.R_new' (Kd.R_new' (Kd.R_new' ho22 (Kd.R_lt (by (with_reducible repeat (first | apply Kd.R_alloc | apply Kd.R_drewN | apply Kd.R_drew)); exact HO199.out))) (Kd.R_lt (by (with_reducible repeat (first | apply Kd.R_alloc | apply Kd.R_drewN | apply Kd.R_drew)); exact HO202.out))) (Kd.R_lt (by (with_reducible repeat (first | apply Kd.R_alloc | apply Kd.R_drewN | apply Kd.R_drew)); exact HO206.out))) (Kd.R_lt (by (with_reducible repeat (first | apply Kd.R_alloc | apply Kd.R_drewN | apply Kd.R_drew)); exact HO209.out))) (below_size (by repeat (first | (with_reducible first | exact HB.out | apply below_alloc | apply pw_below_drewN | apply below_drew1) | exact HB.out)))); have n6_ := Aside0.mk (below_step (by repeat (first | (with_reducible first | exact HB.out | apply below_alloc | apply pw_below_drewN | apply below_drew1) | exact HB.out)) hb); clear HO195; clear HO199; clear HO202; clear HO206; clear HO209; clear HB; have HO195 := n0_; have HO199 := n1_; have HO202 := n2_; have HO206 := n3_; have HO209 := n4_; have HO212 := n5_; have HB := n6_; clear n0_ n1_ n2_ n3_ n4_ n5_ n6_; clear hb ho22; obtain ⟨Ao23, co23, eo23⟩ := Kd.R_slice HO209.out; subst eo23; obtain ⟨Ao24, co24, eo24⟩ := Kd.R_slice HO212.out; subst eo24) | (go_at_call 25; (with_reducible refine (chainmanref10_SameList.calls k _ _ t207 _ _ y210 true _ ?side1 ?side2 ?side3 ?side4 A6.out).mono ?_); (case side1 => repeat (first | exact (Kd.R_reads' HO209.out).2.2 | (with_reducible refine Kd.C_alloc ?_ _) | (with_reducible refine Kd.C_drewN ?_ _) | (with_reducible refine Kd.C_drew ?_))); (case side2 => exact (Kd.R_reads' HO209.out).2.1); (case side3 => repeat (first | exact (Kd.R_reads' HO212.out).2.2 | (with_reducible refine Kd.C_alloc ?_ _) | (with_reducible refine Kd.C_drewN ?_ _) | (with_reducible refine Kd.C_drew ?_))); (case side4 => exact (Kd.R_reads' HO212.out).2.1); rintro e w' ⟨rfl, ⟨nd, rfl⟩⟩) | (go_at_call 25; refine calls_of_args (args' := #[.slice Ao23 t207.length co23, .slice Ao24 y210.length co24]) (by first | rfl) ?_; (with_reducible refine (chainmanref10_SameList.calls k _ _ t207 _ _ y210 true _ ?side1 ?side2 ?side3 ?side4 A6.out).mono ?_); (case side1 => repeat (first | exact (Kd.R_reads' HO209.out).2.2 | (with_reducible refine Kd.C_alloc ?_ _) | (with_reducible refine Kd.C_drewN ?_ _) | (with_reducible refine Kd.C_drew ?_))); (case side2 => exact (Kd.R_reads' HO209.out).2.1); (case side3 => repeat (first | exact (Kd.R_reads' HO212.out).2.2 | (with_reducible refine Kd.C_alloc ?_ _) | (with_reducible refine Kd.C_drewN ?_ _) | (with_reducible refine Kd.C_drew ?_))); (case side4 => exact (Kd.R_reads' HO212.out).2.1); rintro e w' ⟨rfl, ⟨nd, rfl⟩⟩) | (go_at_call 26; (with_reducible refine (dense_Degrees.calls k _ _ y193 2 t214 _ ?side1 ?side2 A8.out).mono ?_); (case side1 => repeat (first | exact (Kd.R_reads' HO195.out).2.2 | (with_reducible refine Kd.C_alloc ?_ _) | (with_reducible refine Kd.C_drewN ?_ _) | (with_reducible refine Kd.C_drew ?_))); (case side2 => exact (Kd.R_reads' HO195.out).2.1); rintro e w25 ⟨v215, rfl, ho0, hb⟩; have n0_ := Aside0.mk (Kd.R_below (by (with_reducible repeat (first | apply Kd.R_alloc | apply Kd.R_drewN | apply Kd.R_drew)); exact HO195.out) hb); have n1_ := Aside0.mk (Kd.R_elder' (by (with_reducible repeat (first | apply Kd.R_alloc | apply Kd.R_drewN | apply Kd.R_drew)); exact HO199.out) (Kd.R_base ho0) hb); have n2_ := Aside0.mk (Kd.R_elder' (by (with_reducible repeat (first | apply Kd.R_alloc | apply Kd.R_drewN | apply Kd.R_drew)); exact HO202.out) (Kd.R_base ho0) hb); have n3_ := Aside0.mk (Kd.R_elder' (by (with_reducible repeat (first | apply Kd.R_alloc | apply Kd.R_drewN | apply Kd.R_drew)); exact HO206.out) (Kd.R_base ho0) hb); have n4_ := Aside0.mk (Kd.R_elder' (by (with_reducible repeat (first | apply Kd.R_alloc | apply Kd.R_drewN | apply Kd.R_drew)); exact HO209.out) (Kd.R_base ho0) hb); have n5_ := Aside0.mk (Kd.R_elder' (by (with_reducible repeat (first | apply Kd.R_alloc | apply Kd.R_drewN | apply Kd.R_drew)); exact HO212.out) (Kd.R_base ho0) hb); have n6_ := Aside0.mk (Kd.R_lower (Kd.R_new' (Kd.R_new' (Kd.R_new' (Kd.R_new' (Kd.R_new' ho0 (Kd.R_lt (by (with_reducible repeat (first | apply Kd.R_alloc | apply Kd.R_drewN | apply Kd.R_drew)); exact HO199.out))) (Kd.R_lt (by (with_reducible repeat (first | apply Kd.R_alloc | apply Kd.R_drewN | apply Kd.R_drew)); exact HO202.out))) (Kd.R_lt (by (with_reducible repeat (first | apply Kd.R_alloc | apply Kd.R_drewN | apply Kd.R_drew)); exact HO206.out))) (Kd.R_lt (by (with_reducible repeat (first | apply Kd.R_alloc | apply Kd.R_drewN | apply Kd.R_drew)); exact HO209.out))) (Kd.R_lt (by (with_reducible repeat (first | apply Kd.R_alloc | apply Kd.R_drewN | apply Kd.R_drew)); exact HO212.out))) (below_size (by repeat (first | (with_reducible first | exact HB.out | apply below_alloc | apply pw_below_drewN | apply below_drew1) | exact HB.out)))); have n7_ := Aside0.mk (below_step (by repeat (first | (with_reducible first | exact HB.out | apply below_alloc | apply pw_below_drewN | apply below_drew1) | exact HB.out)) hb); clear HO195; clear HO199; clear HO202; clear HO206; clear HO209; clear HO212; clear HB; have HO195 := n0_; have HO199 := n1_; have HO202 := n2_; have HO206 := n3_; have HO209 := n4_; have HO212 := n5_; have HO216 := n6_; have HB := n7_; clear n0_ n1_ n2_ n3_ n4_ n5_ n6_ n7_; (try clear hb); (try clear hb2); (try clear hk); (try clear hi); (try clear ho0); obtain ⟨Ao26, co26, eo26⟩ := Kd.R_slice HO216.out; subst eo26))
    go_ret
    exact ⟨by first | rfl | (simp [errW_none, errW_some] <;> rfl) | (simp [*, errW_none, errW_some] <;> rfl), by repeat (first | (with_reducible first | exact HB.out | apply below_alloc | apply pw_below_drewN | apply below_drew1) | exact HB.out)⟩
   ·replace c7 := Bool.eq_false_iff.mpr c7
    subst c7
    have H1 : (none) = some r := by rw [if_neg (show ¬ (false = true) by decide)] at H; exact H
    clear H
    have H := H1
    clear H1
    exact absurd H (by simp)
  ·rw [if_neg c4] at H
   exact absurd H (by simp)
 ·replace c3 := Bool.eq_false_iff.mpr c3
  subst c3
  have H1 : (none) = some r := by rw [if_neg (show ¬ (false = true) by decide)] at H; exact H
  clear H
  have H := H1
  clear H1
  exact absurd H (by simp)

/-! ### chainmanref14_id: function 140 -/
def chainmanref14_id.f (a0 : Int) : Option (Bool) := if a0 ≥ 0 then (some (decide (a0 < 1048576))) else (some false)
set_option maxHeartbeats 8000000 in
set_option maxRecDepth 100000 in
theorem chainmanref14_id.calls (a0 : Int) (r : Bool) (w : World) (h : chainmanref14_id.f a0 = some r) :
  Calls Try.prog 140 #[.int .i64 a0] w fun e w' => e = .returned (.bool r) ∧ Drawn0 w w' := by
 have H : (if a0 ≥ 0 then (some (decide (a0 < 1048576))) else (some false)) = some r := h
 clear h
 by_cases c2 : a0 ≥ 0
 ·rw [if_pos c2] at H
  have c2b0 : decide (0 ≤ a0) = true := decide_eq_true c2
  clear c2
  obtain rfl := Option.some.inj H
  go_enter Try.func140, Try.ntmps140
  go_wp2
  go_ret
  exact ⟨by first | rfl | (simp; done) | (simp [*]; done), by repeat (first | exact Drawn0.refl _ | apply Drawn0.step)⟩
 ·rw [if_neg c2] at H
  have c2b0 : decide (0 ≤ a0) = false := decide_eq_false c2
  clear c2
  obtain rfl := Option.some.inj H
  go_enter Try.func140, Try.ntmps140
  go_wp2
  go_ret
  exact ⟨by first | rfl | (simp; done) | (simp [*]; done), by repeat (first | exact Drawn0.refl _ | apply Drawn0.step)⟩

end Go.Proofs.Ytjjjafhchombcaa.PDenseTells
