/- The Go functions that the law reaches, and walks to them; printed by wip/tool/mkprint.py. -/
import Derived.Test.YtjjjafhchombcaaPDenseTellsx0
namespace Go.Proofs.Ytjjjafhchombcaa.PDenseTells
open Go.RowKit Go.Proofs.YtjjjafhchombcaaW.PrintWords Go.Proofs.YtjjjafhchombcaaW.PrintLast Go.Proofs.YtjjjafhchombcaaW.PrintMore
attribute [local go_sem] max2_int min2_int max_two min_two max_three min_three max_four min_four   -- for this text's walks alone
set_option linter.unusedVariables false
set_option linter.unusedSimpArgs false

/-! ### dense_net_cores: function 66 -/
def dense_net_cores.l0 : Nat → Int → List Bool → List (List Int) → Int → Int → Option (List Bool)
 | 0, _, _, _, _, _ => none
 | k + 1, x1, x5, x11, x12, x13 => if x13 < x12 then (if 0 ≤ x13 then (if x13 < (x11.length : Int) then (if x13 < (x5.length : Int) then (dense_net_cores.l0 k x1 (x5.set (x13 : Int).toNat (decide (((rd_L4 x11 x13).length : Int) ≥ x1))) x11 x12 (wrap64 (x13 + 1))) else (none)) else (none)) else (none)) else (some x5)
def dense_net_cores.f (k : Nat) (l0 : List (List Int)) (a1 : Int) : Option (List Bool) := if 0 ≤ (l0.length : Int) then (if ((l0.length : Int) : Int).toNat ≤ 281474976710656 then (dense_net_cores.l0 k a1 (List.replicate ((l0.length : Int) : Int).toNat false) l0 (l0.length : Int) 0) else (none)) else (none)
theorem dense_net_cores.mono_l : ∀ k, (∀ y0 y1 y2 y3 y4, LeO (dense_net_cores.l0 k y0 y1 y2 y3 y4) (dense_net_cores.l0 (k + 1) y0 y1 y2 y3 y4))
 | 0 => fun _ _ _ _ _ r h => by simp [dense_net_cores.l0] at h
 | k + 1 => by
  have ih0 := dense_net_cores.mono_l k
  ·intro y0 y1 y2 y3 y4
   unfold dense_net_cores.l0
   repeat' first
   | (with_reducible exact ih0 _ _ _ _ _)
   | (with_reducible exact LeO.refl _)
   | (with_reducible exact LeO.none _)
   | (with_reducible refine LeO.ite ?_ ?_)
   | (with_reducible refine LeO.bind ?_ (fun _ => ?_))
   | exact ih0 _ _ _ _ _
   | exact LeO.none _
   | refine LeO.ite ?_ ?_
   | refine LeO.bind ?_ (fun _ => ?_)
theorem dense_net_cores.mono : ∀ a0 a1 k, LeO (dense_net_cores.f k a0 a1) (dense_net_cores.f (k + 1) a0 a1) := by
 intro a0 a1 k
 have ih0 := dense_net_cores.mono_l k
 unfold dense_net_cores.f
 repeat' first
   | (with_reducible exact ih0 _ _ _ _ _)
   | (with_reducible exact LeO.refl _)
   | (with_reducible exact LeO.none _)
   | (with_reducible refine LeO.ite ?_ ?_)
   | (with_reducible refine LeO.bind ?_ (fun _ => ?_))
   | exact ih0 _ _ _ _ _
   | exact LeO.none _
   | refine LeO.ite ?_ ?_
   | refine LeO.bind ?_ (fun _ => ?_)
set_option maxHeartbeats 8000000 in
set_option maxRecDepth 100000 in
theorem dense_net_cores.calls (k : Nat) (A0 : Option Addr) (c0 : Nat) (l0 : List (List Int)) (a1 : Int) (r : List Bool) (w : World) (hr0 : Kd.C (Kd.slice 3 (Kd.int .i64)) w A0 l0.length l0) (hc0 : l0.length ≤ c0) (h : dense_net_cores.f k l0 a1 = some r) :
  Calls Try.prog 66 #[.slice A0 l0.length c0, .int .i64 a1] w fun e w' => ∃ v0_ : Value, e = .returned (v0_) ∧ Kd.R Kd.bool 4 w' w.heap.size (fun _ => True) v0_ r ∧ Below w.heap.size w w' := by
 have HR0 := Aside0.mk hr0
 have HC0 := Aside0.mk hc0
 clear hr0 hc0
 have HB := Aside0.mk (Below.refl w.heap.size w)
 have H : (if 0 ≤ (l0.length : Int) then (if ((l0.length : Int) : Int).toNat ≤ 281474976710656 then (dense_net_cores.l0 k a1 (List.replicate ((l0.length : Int) : Int).toNat false) l0 (l0.length : Int) 0) else (none)) else (none)) = some r := h
 clear h
 by_cases c3 : 0 ≤ (l0.length : Int)
 ·rw [if_pos c3] at H
  have c3b0 := eq_true c3
  have c3b1 : decide (0 ≤ (l0.length : Int)) = true := decide_eq_true c3
  clear c3
  by_cases c4 : ((l0.length : Int) : Int).toNat ≤ 281474976710656
  ·rw [if_pos c4] at H
   have c4b0 := eq_true c4
   have c4b1 : decide (((l0.length : Int) : Int).toNat ≤ 281474976710656) = true := decide_eq_true c4
   clear c4
   obtain ⟨y162, hy162⟩ : ∃ y_ : List Bool, y_ = (List.replicate ((l0.length : Int) : Int).toNat false) := ⟨_, rfl⟩
   replace H : (dense_net_cores.l0 k a1 y162 l0 (l0.length : Int) 0) = some r := by first | (rw [hy162]; with_reducible exact H) | (have H2_ := (Option.bind_some _ _).symm.trans H; rw [hy162]; with_reducible exact H2_) | (have H2_ := (Option.bind_some _ _).symm.trans H; with_reducible exact H2_) | with_reducible exact H | (rw [hy162]; exact H) | exact H
   have Ny162 := Aside0.mk hy162
   clear hy162
   have H' := Aside0.mk H
   clear H
   go_enter Try.func66, Try.ntmps66
   go_wp2_with (first | ((with_reducible refine gate_dst (N := 10) rfl ?_); refine Kd.R_make Kd.bool _ 4 rfl (N := 10) rfl 43 _ _ rfl (l0.length : Int) rfl rfl Try.underlying43 (.bool false) 1 info4 rfl (by decide) (by omega) false (ok := fun _ => True) (okp := fun _ => True) rfl (fun _ hk => hk) trivial (of_decide_eq_true (by assumption)) (Nat.le_trans (Nat.mul_le_mul_right _ (of_decide_eq_true (by assumption) : (l0.length : Int).toNat ≤ 281474976710656)) (by omega)) (Below.refl _ _) (Nat.le_refl _) ?_; intro v163 w5 ho6 hb hg_ hnew_; clear hg_ hnew_; (first | rw [← Ny162.out] at ho6 | (simp only [Int.reduceToNat] at ho6; rw [← Ny162.out] at ho6)); have n0_ := Aside0.mk (Kd.R_lower ho6 (below_size (by repeat (first | (with_reducible first | exact HB.out | apply below_alloc | apply pw_below_drewN | apply below_drew1) | exact HB.out)))); have n1_ := Aside0.mk (below_step (by repeat (first | (with_reducible first | exact HB.out | apply below_alloc | apply pw_below_drewN | apply below_drew1) | exact HB.out)) hb); clear HB; have HO164 := n0_; have HB := n1_; clear n0_ n1_; clear hb ho6))
   go_loopg [13] k (fun kq v13 w' => ∃ (x5_1 : List Bool) (x13_1 : Int), v13 = .int .i64 x13_1 ∧ Aside0 (dense_net_cores.l0 kq a1 x5_1 l0 (l0.length : Int) x13_1 = some r) ∧ Aside0 (kq ≤ k) ∧ Aside0 (Kd.R Kd.bool 4 w' w.heap.size (fun _ => True) v163 x5_1) ∧ Aside0 (Below w.heap.size w w'))
   case atStart => exact ⟨(y162), (0), (by first | rfl | (simp; done) | (simp [*]; done)), H', ⟨Nat.le_refl _⟩, ⟨by (with_reducible repeat (first | apply Kd.R_alloc | apply Kd.R_drewN | apply Kd.R_drew)); exact HO164.out⟩, ⟨by repeat (first | (with_reducible first | exact HB.out | apply below_alloc | apply pw_below_drewN | apply below_drew1) | exact HB.out)⟩⟩
   case round =>
    clear H'
    try clear p2
    try clear c3
    try clear c3b0
    try clear c3b1
    try clear c4
    try clear c4b0
    try clear c4b1
    try clear c6
    obtain ⟨x5_1, x13_1, rfl, HA, HK1, HO_5, HB⟩ := hrel
    cases gk with
    | zero => exact absurd HA.out (by simp [dense_net_cores.l0])
    | succ k1 =>
     have H := HA.out
     clear HA
     simp only [dense_net_cores.l0] at H
     by_cases c7 : x13_1 < (l0.length : Int)
     ·rw [if_pos c7] at H
      have c7b0 : decide (x13_1 < (l0.length : Int)) = true := decide_eq_true c7
      clear c7
      by_cases c8 : 0 ≤ x13_1
      ·rw [if_pos c8] at H
       have c8b0 : decide (0 ≤ x13_1) = true := decide_eq_true c8
       clear c8
       by_cases c9 : x13_1 < (l0.length : Int)
       ·rw [if_pos c9] at H
        have c9b0 : decide (x13_1 < (l0.length : Int)) = true := decide_eq_true c9
        clear c9
        by_cases c10 : x13_1 < (x5_1.length : Int)
        ·rw [if_pos c10] at H
         have c10b0 : decide (x13_1 < (x5_1.length : Int)) = true := decide_eq_true c10
         clear c10
         obtain ⟨y166, hy166⟩ : ∃ y_ : List Bool, y_ = (x5_1.set (x13_1 : Int).toNat (decide (((rd_L4 l0 x13_1).length : Int) ≥ a1))) := ⟨_, rfl⟩
         replace H : (dense_net_cores.l0 k1 a1 y166 l0 (l0.length : Int) (wrap64 (x13_1 + 1))) = some r := by first | (rw [hy166]; with_reducible exact H) | (have H2_ := (Option.bind_some _ _).symm.trans H; rw [hy166]; with_reducible exact H2_) | (have H2_ := (Option.bind_some _ _).symm.trans H; with_reducible exact H2_) | with_reducible exact H | (rw [hy166]; exact H) | exact H
         have Ny166 := Aside0.mk hy166
         clear hy166
         have H' := Aside0.mk H
         clear H
         have p165 : 0 ≤ (x13_1 : Int) := of_decide_eq_true (by assumption)
         have q165 : x13_1 < (l0.length : Int) := of_decide_eq_true (by assumption)
         obtain ⟨ad165, A165_0, c165_0, e165, hx165_0, hl165_0, hi165_0⟩ := at_L4 HR0.out x13_1 p165 q165
         cases e165
         replace hx165_0 := (HB.out.cell (World.block_lt_of_cell? w _ hx165_0)).trans hx165_0
         have HR165_0 := Aside0.mk hi165_0
         have HC165_0 := Aside0.mk hl165_0
         clear hi165_0 hl165_0
         replace p165 := eq_true p165
         replace q165 := eq_true q165
         have p11 : 0 ≤ (x13_1 : Int) := of_decide_eq_true (by assumption)
         have q11 : (x13_1 : Int) < ((x5_1.length : Int) : Int) := of_decide_eq_true (by assumption)
         obtain ⟨go11, co11, eo11, gb11, gl11, cl11, HG11⟩ := Kd.R_form HO_5.out (by omega)
         (first | cases eo11 | (injection eo11 with ea_ en_ ec_; (first | subst ea_ | (injection ea_ with ea_; subst ea_)); subst ec_; clear en_))
         have GB11 := Aside0.mk gb11
         have GG11 := Aside0.mk HG11
         clear gb11 gl11 HG11
         obtain ⟨hx11_0, hf11_0⟩ := Kd.R_celln false HO_5.out (x13_1 : Int) p11 q11
         replace p11 := eq_true p11
         replace q11 := eq_true q11
         have HP12 := Kd.R_putg HO_5.out (x13_1 : Int) (decide (((rd_L4 l0 x13_1).length : Int) ≥ a1))
         go_wp2_with (first | ((with_reducible refine gate_store (t := 4) (p := 24) rfl ?_); refine store_event (t := 4) (p := 24) (v := ?vo_w13) (w1 := (wr.setCell ⟨go11, (x13_1 : Int).toNat, none⟩ (.bool (decide (((rd_L4 l0 x13_1).length : Int) ≥ a1))))) ?hg ?ho ?hn ?hr ?_; (case ho => rfl); (case hg => rfl); (case hn => rfl); (case hr => first | (go_simp; done) | (go_simp; rfl)); intro w13 hw; have hg : wr.grownBy w13 (some go11) := (by rw [hw]; exact HP12.2); have hp_ : Kd.R Kd.bool 4 w13 w.heap.size (fun _ => True) (.slice (some ⟨go11, 0, none⟩) x5_1.length co11) y166 := (by rw [hw, Ny166.out]; exact HP12.1); clear HP12; have n0_ := Aside0.mk (hp_); have n1_ := Aside0.mk ((by rw [hw]; exact below_set (HB.out) GB11.out : Below w.heap.size w w13)); clear HO_5; clear HB; have HO_5 := n0_; have HB := n1_; clear n0_ n1_; clear hg hw hp_))
         go_roundg k1
         case measure => have := HK1.out; omega
         case rel => exact ⟨(y166), (wrap64 (x13_1 + 1)), (by first | rfl | (simp; done) | (simp [*]; done)), H', ⟨by have := HK1.out; omega⟩, ⟨by (with_reducible repeat (first | apply Kd.R_alloc | apply Kd.R_drewN | apply Kd.R_drew)); exact HO_5.out⟩, ⟨by repeat (first | (with_reducible first | exact HB.out | apply below_alloc | apply pw_below_drewN | apply below_drew1) | exact HB.out)⟩⟩
        ·rw [if_neg c10] at H
         exact absurd H (by simp)
       ·rw [if_neg c9] at H
        exact absurd H (by simp)
      ·rw [if_neg c8] at H
       exact absurd H (by simp)
     ·rw [if_neg c7] at H
      have c7b0 : decide (x13_1 < (l0.length : Int)) = false := decide_eq_false c7
      clear c7
      obtain rfl := Option.some.inj H
      go_wp2
      go_ret
      exact ⟨_, by first | rfl | (simp [errW_none, errW_some] <;> rfl) | (simp [*, errW_none, errW_some] <;> rfl), by (with_reducible repeat (first | apply Kd.R_alloc | apply Kd.R_drewN | apply Kd.R_drew)); exact HO_5.out, by repeat (first | (with_reducible first | exact HB.out | apply below_alloc | apply pw_below_drewN | apply below_drew1) | exact HB.out)⟩
  ·rw [if_neg c4] at H
   exact absurd H (by simp)
 ·rw [if_neg c3] at H
  exact absurd H (by simp)

/-! ### bits_Mul64: function 112 -/
def bits_Mul64.f (a0 : Int) (a1 : Int) : Option (Int × Int) := some (IntKind.u64.wrap ((IntKind.u64.wrap ((IntKind.u64.wrap ((a0 / 4294967296) * (a1 / 4294967296))) + ((IntKind.u64.wrap ((IntKind.u64.wrap ((a0 / 4294967296) * (Go.bits .and .u64 a1 4294967295))) + ((IntKind.u64.wrap ((Go.bits .and .u64 a0 4294967295) * (Go.bits .and .u64 a1 4294967295))) / 4294967296))) / 4294967296))) + ((IntKind.u64.wrap ((Go.bits .and .u64 (IntKind.u64.wrap ((IntKind.u64.wrap ((a0 / 4294967296) * (Go.bits .and .u64 a1 4294967295))) + ((IntKind.u64.wrap ((Go.bits .and .u64 a0 4294967295) * (Go.bits .and .u64 a1 4294967295))) / 4294967296))) 4294967295) + (IntKind.u64.wrap ((Go.bits .and .u64 a0 4294967295) * (a1 / 4294967296))))) / 4294967296)), IntKind.u64.wrap (a0 * a1))
set_option maxHeartbeats 8000000 in
set_option maxRecDepth 100000 in
theorem bits_Mul64.calls (a0 : Int) (a1 : Int) (r1 : Int) (r2 : Int) (w : World) (h : bits_Mul64.f a0 a1 = some (r1, r2)) :
  Calls Try.prog 112 #[.int .u64 a0, .int .u64 a1] w fun e w' => e = .returned (.tuple #[.int .u64 r1, .int .u64 r2]) ∧ Drawn0 w w' := by
 have H : (some (IntKind.u64.wrap ((IntKind.u64.wrap ((IntKind.u64.wrap ((a0 / 4294967296) * (a1 / 4294967296))) + ((IntKind.u64.wrap ((IntKind.u64.wrap ((a0 / 4294967296) * (Go.bits .and .u64 a1 4294967295))) + ((IntKind.u64.wrap ((Go.bits .and .u64 a0 4294967295) * (Go.bits .and .u64 a1 4294967295))) / 4294967296))) / 4294967296))) + ((IntKind.u64.wrap ((Go.bits .and .u64 (IntKind.u64.wrap ((IntKind.u64.wrap ((a0 / 4294967296) * (Go.bits .and .u64 a1 4294967295))) + ((IntKind.u64.wrap ((Go.bits .and .u64 a0 4294967295) * (Go.bits .and .u64 a1 4294967295))) / 4294967296))) 4294967295) + (IntKind.u64.wrap ((Go.bits .and .u64 a0 4294967295) * (a1 / 4294967296))))) / 4294967296)), IntKind.u64.wrap (a0 * a1))) = some (r1, r2) := h
 clear h
 simp only [Option.some.injEq, Prod.mk.injEq] at H
 obtain ⟨rfl, rfl⟩ := H
 go_enter Try.func112, Try.ntmps112
 go_wp2
 go_ret2
 exact ⟨by first | rfl | (simp; done) | (simp [*]; done), by repeat (first | exact Drawn0.refl _ | apply Drawn0.step)⟩

/-! ### bits_Mul32: function 143 -/
def bits_Mul32.f (a0 : Int) (a1 : Int) : Option (Int × Int) := some (((IntKind.u64.wrap ((IntKind.u64.wrap (a0)) * (IntKind.u64.wrap (a1)))) / 4294967296) % 4294967296, (IntKind.u64.wrap ((IntKind.u64.wrap (a0)) * (IntKind.u64.wrap (a1)))) % 4294967296)
set_option maxHeartbeats 8000000 in
set_option maxRecDepth 100000 in
theorem bits_Mul32.calls (a0 : Int) (a1 : Int) (r1 : Int) (r2 : Int) (w : World) (h : bits_Mul32.f a0 a1 = some (r1, r2)) :
  Calls Try.prog 143 #[.int .u32 a0, .int .u32 a1] w fun e w' => e = .returned (.tuple #[.int .u32 r1, .int .u32 r2]) ∧ Drawn0 w w' := by
 have H : (some (((IntKind.u64.wrap ((IntKind.u64.wrap (a0)) * (IntKind.u64.wrap (a1)))) / 4294967296) % 4294967296, (IntKind.u64.wrap ((IntKind.u64.wrap (a0)) * (IntKind.u64.wrap (a1)))) % 4294967296)) = some (r1, r2) := h
 clear h
 simp only [Option.some.injEq, Prod.mk.injEq] at H
 obtain ⟨rfl, rfl⟩ := H
 go_enter Try.func143, Try.ntmps143
 go_wp2
 go_ret2
 exact ⟨by first | rfl | (simp; done) | (simp [*]; done), by repeat (first | exact Drawn0.refl _ | apply Drawn0.step)⟩

/-! ### bits_Mul: function 106 -/
def bits_Mul.f (a0 : Int) (a1 : Int) : Option (Int × Int) := (bits_Mul64.f a0 a1).bind fun bt167 => (some (bt167.1, bt167.2))
set_option maxHeartbeats 8000000 in
set_option maxRecDepth 100000 in
theorem bits_Mul.calls (a0 : Int) (a1 : Int) (r1 : Int) (r2 : Int) (w : World) (h : bits_Mul.f a0 a1 = some (r1, r2)) :
  Calls Try.prog 106 #[.int .u64 a0, .int .u64 a1] w fun e w' => e = .returned (.tuple #[.int .u64 r1, .int .u64 r2]) ∧ Drawn0 w w' := by
 have H : ((bits_Mul64.f a0 a1).bind fun bt167 => (some (bt167.1, bt167.2))) = some (r1, r2) := h
 clear h
 replace H := Option.bind_eq_some_iff.mp H
 obtain ⟨⟨t167, t168⟩, A30, H⟩ := H
 replace H : (some (t167, t168)) = some (r1, r2) := H
 have A3 := Aside0.mk A30
 clear A30
 simp only [Option.some.injEq, Prod.mk.injEq] at H
 obtain ⟨rfl, rfl⟩ := H
 go_enter Try.func106, Try.ntmps106
 go_wp2_with (first | ((with_reducible refine gate_callee (f := 112) rfl ?_); refine goesL_ (some 25) rfl rfl Try.func112 (by kernel_rfl) rfl #[.int .u64 a0, .int .u64 a1] rfl (by (try simp only [List.map_toArray, List.map_cons, List.map_nil]); first | done | rfl) ?_; (with_reducible refine (bits_Mul64.calls a0 a1 t167 t168 _ A3.out).mono ?_); rintro e w' ⟨rfl, ⟨nd, rfl⟩⟩; refine ⟨_, rfl, ?_⟩) | (go_at_call 112; refine calls_of_args (args' := #[.int .u64 a0, .int .u64 a1]) (by first | rfl) ?_; (with_reducible refine (bits_Mul64.calls a0 a1 t167 t168 _ A3.out).mono ?_); rintro e w' ⟨rfl, ⟨nd, rfl⟩⟩))
 go_ret2
 exact ⟨by first | rfl | (simp; done) | (simp [*]; done), by repeat (first | exact Drawn0.refl _ | apply Drawn0.step)⟩

/-! ### slices_Repeat_int_int: function 67 -/
def slices_Repeat_int_int.f (l0 : List Int) (a1 : Int) : Option (List Int) := if l0.length = 1 ∧ 0 ≤ a1 ∧ a1 ≤ 1048576 then some (List.replicate a1.toNat (rd l0 0)) else none
theorem slices_Repeat_int_int.hold_ {p : Prop} (h : Aside0 p) : p := h.out
/-- A copy of which the run is known. -/
theorem slices_Repeat_int_int.copies {P : Program} {Q : Exit → Act → World → Prop} {K : Act → World → Prop} {a : Act} {o : Oper} {w w' : World} {d s : Operand} {t u : TypeId} {v x v' : Value} (ho : o.op = .call { callee := .builtin .copy, args := #[d, s], argTypes := #[t, u] })
  (hd : a.eval d = v) (hs : a.eval s = x) (hr : (Builtin.copy_ #[t, u] o.type #[v, x]).run P w = .ok v' w') (h : K (a.put o.dst v') w') : o.wp P a w K Q := by
 unfold Oper.wp execOp
 simp only [ho, resolve, invoke, builtin, Sem.run_bind, Sem.run_pure, Result.andThen_ok, List.map_toArray, List.map_cons, List.map_nil, hd, hs, hr]
 exact h
theorem slices_Repeat_int_int.mul (n : Nat) (h : n ≤ 1048576) : bits_Mul.f 1 (n : Int) = some (0, (n : Int)) := by
 have m1 : Go.bits .and .u64 1 4294967295 = 1 := by decide +kernel
 have m0 : Go.bits .and .u64 0 4294967295 = 0 := by decide +kernel
 have m2 : Go.bits .and .u64 (n : Int) 4294967295 = (n : Int) := by
  have := bits_and_u64_nat n 4294967295 (by omega) (by omega)
  rw [show ((4294967295 : Nat) : Int) = 4294967295 from rfl] at this
  rw [this, show n &&& 4294967295 = n % 4294967296 from Nat.and_two_pow_sub_one_eq_mod n 32]
  omega
 have d1 : (1 : Int) / 4294967296 = 0 := by decide
 have d2 : (n : Int) / 4294967296 = 0 := by omega
 have u : ∀ x : Int, 0 ≤ x → x < 18446744073709551616 → IntKind.u64.wrap x = x := fun x h0 h1 => by rw [IntKind.wrap_u64]; omega
 unfold bits_Mul.f bits_Mul64.f
 simp only [m1, m2, d1, d2, Int.zero_mul, Int.mul_zero, Int.one_mul, u 0 (by omega) (by omega), u (n : Int) (by omega) (by omega), Int.add_zero, Int.zero_add, m0, Int.zero_ediv, Option.bind_some]
theorem slices_Repeat_int_int.rows (x : Int) (n m k : Nat) (cur : List Value) (hm : m + k ≤ n) (hl : n ≤ cur.length) (h : cur.take n = List.replicate m (Value.int .i64 x) ++ List.replicate (n - m) (.int .i64 0)) :
  (cur.take m ++ List.replicate k (Value.int .i64 x) ++ cur.drop (m + k)).take n = List.replicate (m + k) (Value.int .i64 x) ++ List.replicate (n - (m + k)) (.int .i64 0) := by
 have at_ : ∀ i, i < n → cur[i]? = if i < m then some (Value.int .i64 x) else some (.int .i64 0) := fun i hi => by
  have := congrArg (fun l => l[i]?) h
  simp only [List.getElem?_take, if_pos hi, List.getElem?_append, List.length_replicate, List.getElem?_replicate] at this
  rw [this]
  by_cases c : i < m
  ·rw [if_pos c, if_pos c]
   try rw [if_pos c]
  ·rw [if_neg c, if_neg c, if_pos (by omega)]
 refine List.ext_getElem? fun i => ?_
 rw [List.getElem?_take]
 by_cases hi : i < n
 ·rw [if_pos hi, List.append_assoc, List.getElem?_append, List.length_take, Nat.min_eq_left (by omega), List.getElem?_append (l₁ := List.replicate (m + k) _), List.length_replicate]
  by_cases c1 : i < m
  ·rw [if_pos c1, if_pos (by omega), List.getElem?_take, if_pos c1, at_ i hi, if_pos c1, List.getElem?_replicate, if_pos (by omega)]
  ·rw [if_neg c1, List.getElem?_append, List.length_replicate]
   by_cases c2 : i < m + k
   ·rw [if_pos (by omega), if_pos c2, List.getElem?_replicate, if_pos (by omega), List.getElem?_replicate, if_pos c2]
   ·rw [if_neg (by omega), if_neg c2, List.getElem?_drop, List.getElem?_replicate, if_pos (by omega), show m + k + (i - m - k) = i by omega, at_ i hi, if_neg c1]
 ·rw [if_neg hi]
  exact (List.getElem?_eq_none (by simp; omega)).symm
theorem slices_Repeat_int_int.size1 : (Try.prog.info? 3).map (·.size) = some 1 := by kernel_rfl
/-- What a round has come to: the first m are x. -/
def slices_Repeat_int_int.Has (x : Int) (n : Nat) (w W : World) (g cap m : Nat) : Prop :=
 Below w.heap.size w W ∧ n ≤ cap ∧ cap ≤ maxLen ∧ w.heap.size ≤ g ∧ ∃ cur : Array Value, W.heap[g]? = some (.cells cur 3 (0, 0)) ∧ cur.size = cap ∧ cur.toList.take n = List.replicate m (Value.int .i64 x) ++ List.replicate (n - m) (.int .i64 0)
theorem slices_Repeat_int_int.add (g m : Nat) : (⟨g, 0, none⟩ : Addr).add m = ⟨g, m, none⟩ := by cases m <;> simp [Addr.add]
theorem slices_Repeat_int_int.wadd (m k : Nat) (h : m + k ≤ 1048576) : wrap64 ((m : Int) + (k : Int)) = ((m + k : Nat) : Int) := by unfold wrap64; omega
theorem slices_Repeat_int_int.grown (W : World) (g : Nat) (cs : Array Value) : W.grownBy (W.setRow g cs) (some g) := ⟨rfl, rfl, rfl, by simp, fun k _ hk => setRow_other W g k cs (fun e => hk (by rw [e]))⟩
theorem slices_Repeat_int_int.drew {x : Int} {n : Nat} {w W : World} {g cap m : Nat} (h : slices_Repeat_int_int.Has x n w W g cap m) : slices_Repeat_int_int.Has x n w W.drew g cap m := ⟨below_drew1 h.1, h.2⟩
theorem slices_Repeat_int_int.copied (x : Int) (n : Nat) (w W : World) (g cap m k : Nat) (cur : Array Value) (hb : Below w.heap.size w W) (hbk : W.heap[g]? = some (.cells cur 3 (0, 0))) (hsz : cur.size = cap) (hnc : n ≤ cap) (hcm : cap ≤ maxLen) (hgb : w.heap.size ≤ g) (hk : m + k ≤ n) (h : cur.toList.take n = List.replicate m (Value.int .i64 x) ++ List.replicate (n - m) (.int .i64 0)) :
  slices_Repeat_int_int.Has x n w (W.setRow g (cur.toList.take m ++ List.replicate k (Value.int .i64 x) ++ cur.toList.drop (m + k)).toArray) g cap (m + k) := by
 refine ⟨hb.grown (slices_Repeat_int_int.grown W g _) hb.size (fun j hj => by injection hj with hj; omega), hnc, hcm, hgb, _, setRow_heap W g cur _ _ _ hbk, ?_, ?_⟩
 ·simp; omega
 ·exact slices_Repeat_int_int.rows x n m k cur.toList hk (by simp; omega) h
theorem slices_Repeat_int_int.first (x : Int) (n : Nat) (hn : n ≤ 1048576) (ad : Addr) (c0 : Nat) (W : World) (g cap : Nat) (cur : Array Value) (hx : W.cell? ad = some (.int .i64 x)) (hbk : W.heap[g]? = some (.cells cur 3 (0, 0))) (hc : cur.size = cap ∧ n ≤ cap) :
  ∀ ty, (Builtin.copy_ #[35, 35] ty #[.slice (some ⟨g, 0, none⟩) n cap, .slice (some ad) 1 c0]).run Try.prog W = .ok (goInt ((min 1 n : Nat) : Int)) (W.setRow g (cur.toList.take 0 ++ List.replicate (min 1 n) (Value.int .i64 x) ++ cur.toList.drop (0 + min 1 n)).toArray) := fun ty => by
 have := run_copy_row (P := Try.prog) W 35 35 ty 3 g 0 n cap ad 1 c0 cur 3 (List.replicate (min 1 n) (Value.int .i64 x)) Try.underlying35 slices_Repeat_int_int.size1 hbk (by simp) (fun j v hj => by
  have hj' := List.getElem?_replicate (a := Value.int .i64 x) (n := min 1 n) (i := j)
  rw [hj'] at hj
  split at hj
  ·obtain rfl : j = 0 := by omega
   injection hj with hj; rw [← hj]; exact hx
  ·cases hj) (by simp; omega) (fun v hv => by rw [List.eq_of_mem_replicate hv]; rfl)
 rw [List.length_replicate] at this
 exact this
theorem slices_Repeat_int_int.more (x : Int) (n : Nat) (hn : n ≤ 1048576) (w : World) (g cap m : Nat) (h0 : 0 < m) (hlt : m < n) (W : World) (hH : slices_Repeat_int_int.Has x n w W g cap m) :
  ∃ W', (∀ ty, (Builtin.copy_ #[35, 35] ty #[.slice (some ⟨g, m, none⟩) (n - m) (cap - m), .slice (some ⟨g, 0, none⟩) m cap]).run Try.prog W = .ok (goInt ((min m (n - m) : Nat) : Int)) W') ∧ slices_Repeat_int_int.Has x n w W' g cap (m + min m (n - m)) := by
 obtain ⟨hb, hnc, hcm, hgb, cur, hbk, hsz, htk⟩ := hH
 refine ⟨_, fun ty => ?_, slices_Repeat_int_int.copied x n w W g cap m (min m (n - m)) cur hb hbk hsz hnc hcm hgb (by omega) htk⟩
 have := run_copy_row (P := Try.prog) W 35 35 ty 3 g m (n - m) (cap - m) ⟨g, 0, none⟩ m cap cur 3 (List.replicate (min m (n - m)) (Value.int .i64 x)) Try.underlying35 slices_Repeat_int_int.size1 hbk (by simp) (fun j v hj => by
  have hj' := List.getElem?_replicate (a := Value.int .i64 x) (n := min m (n - m)) (i := j)
  rw [hj'] at hj
  split at hj
  ·injection hj with hj
   have hjm : j < m := by omega
   have e1 : cur[j]? = some (Value.int .i64 x) := by
    have h_ := congrArg (fun l => l[j]?) htk
    simp only [List.getElem?_take, if_pos (show j < n by omega), List.getElem?_append, List.length_replicate, if_pos hjm, List.getElem?_replicate] at h_
    rw [← Array.getElem?_toList]; exact h_
   rw [← hj]
   show W.cell? ((⟨g, 0, none⟩ : Addr).add j) = _
   rw [slices_Repeat_int_int.add g j]
   simp [World.cell?, hbk, e1]
  ·cases hj) (by simp; omega) (fun v hv => by rw [List.eq_of_mem_replicate hv]; rfl)
 rw [List.length_replicate] at this
 exact this
theorem slices_Repeat_int_int.start (x : Int) (n : Nat) (w W : World) (g cap : Nat) (cur : Array Value) (hb : Below w.heap.size w W) (hbk : W.heap[g]? = some (.cells cur 3 (0, 0))) (hsz : cur.size = cap) (hnc : n ≤ cap) (hgb : w.heap.size ≤ g) (h : cap ≤ maxLen ∧ cur.toList.take n = List.replicate n (.int .i64 0)) :
  slices_Repeat_int_int.Has x n w (W.setRow g (cur.toList.take 0 ++ List.replicate (min 1 n) (Value.int .i64 x) ++ cur.toList.drop (0 + min 1 n)).toArray) g cap (min 1 n) := by
 have := slices_Repeat_int_int.copied x n w W g cap 0 (min 1 n) cur hb hbk hsz hnc h.1 hgb (by omega) (by simpa using h.2)
 rwa [Nat.zero_add] at this ⊢
theorem slices_Repeat_int_int.done (x : Int) (n : Nat) (w W : World) (g cap : Nat) (h : slices_Repeat_int_int.Has x n w W g cap n) : Kd.R (Kd.int .i64) 3 W w.heap.size (fun _ => True) (.slice (some ⟨g, 0, none⟩) n cap) (List.replicate n x) := by
 obtain ⟨hb, hnc, hcm, hgb, cur, hbk, hsz, htk⟩ := h
 refine Kd.R_of_own ⟨by simp [encs], .inr ⟨g, cap, cur, ?_, hgb, hbk, ?_, hcm, by omega, ?_⟩⟩ (fun _ _ => trivial)
 ·rw [List.length_replicate]
 ·rw [List.length_replicate]; exact hnc
 ·rw [List.length_replicate, Nat.mul_one, htk]; simp [encs]
set_option maxHeartbeats 4000000 in
set_option maxRecDepth 100000 in
theorem slices_Repeat_int_int.calls (A0 : Option Addr) (c0 : Nat) (l0 : List Int) (a1 : Int) (r : List Int) (w : World) (hr0 : Kd.C (Kd.int .i64) w A0 l0.length l0) (hc0 : l0.length ≤ c0) (h : slices_Repeat_int_int.f l0 a1 = some r) :
  Calls Try.prog 67 #[.slice A0 l0.length c0, .int .i64 a1] w fun e w' => ∃ v0_ : Value, e = .returned (v0_) ∧ Kd.R (Kd.int .i64) 3 w' w.heap.size (fun _ => True) v0_ r ∧ Below w.heap.size w w' := by
 unfold slices_Repeat_int_int.f at h
 split at h
 case isFalse => cases h
 case isTrue hc =>
 obtain ⟨h1, h2, h3⟩ := hc
 obtain rfl := Option.some.inj h
 clear h
 obtain ⟨n, rfl⟩ := Int.eq_ofNat_of_zero_le h2
 have hn : n ≤ 1048576 := by omega
 obtain ⟨ad, ead, h0⟩ := Kd.at_int hr0 0 (by omega) (by omega)
 cases ead
 obtain ⟨x, hx⟩ : ∃ x, rd l0 0 = x := ⟨_, rfl⟩
 rw [hx, Int.toNat_natCast]
 have hx0 : w.cell? ad = some (.int .i64 x) := by rw [← hx]; exact h0
 have HBR := Aside0.mk hx0
 have hMul := fun W => bits_Mul.calls 1 (n : Int) 0 (n : Int) W (slices_Repeat_int_int.mul n hn)
 clear h0 hx hr0 h2 h3 hx0
 rw [h1] at hc0 ⊢
 clear h1
 have hu1 : IntKind.u64.wrap 1 = 1 := by decide
 have hu2 : IntKind.u64.wrap (n : Int) = (n : Int) := by rw [IntKind.wrap_u64]; omega
 have hi2 : IntKind.i64.wrap (n : Int) = (n : Int) := by rw [i64_w]; unfold wrap64; omega
 have hw2 : wrap64 (n : Int) = (n : Int) := by unfold wrap64; omega
 have hb1 : decide ((n : Int) < 0) = false := decide_eq_false (by omega)
 have hb2 : decide ((9223372036854775807 : Int) < (n : Int)) = false := decide_eq_false (by omega)
 go_enter Try.func67, Try.ntmps67
 go_wp2_with (first
  | (go_at_call 106; refine (hMul _).mono ?_; rintro e w1 ⟨rfl, ⟨nd, rfl⟩⟩; clear hMul)
  | ((with_reducible refine gate_dst (N := 30) rfl ?_); clear hu1 hu2 hi2 hw2 hb1 hb2; refine Kd.R_make (Kd.int .i64) (w0 := w) w.heap.size 3 rfl (N := 30) rfl 35 _ _ rfl (n : Int) rfl rfl Try.underlying35 (.int .i64 0) 8 info3 rfl (by decide) (by omega) 0 (ok := fun _ => True) (okp := fun _ => True) rfl (fun _ hk => hk) trivial (by omega) (by omega) ?aB ?aS ?_; (case aB => exact by repeat (first | exact Below.refl _ _ | apply pw_below_drewN | apply below_drew1)); (case aS => exact Nat.le_refl _); intro v1 w2 ho hb hg_ hnew; rw [Int.toNat_natCast] at ho; obtain ⟨hl1, hq⟩ := Kd.own_of_R ho; rw [List.length_replicate] at hl1 hq; simp only [Nat.mul_one] at hq; rcases hq with ⟨hq1, _⟩ | ⟨g, cap, cur, rfl, hgb, hbk, hnc, hcm, hsz, htk⟩; (exfalso; obtain ⟨b_, hb_, _⟩ := hnew; rw [hq1] at hb_; exact absurd hb_ (by simp [Value.ownBlock])); have HB := Aside0.mk hb; have HBK := Aside0.mk (And.intro hbk (And.intro hsz (And.intro hnc (And.intro hgb (And.intro hcm htk))))); clear ho hb hg_ hnew hl1 hbk hsz hnc hgb hcm htk; have hcp1 := slices_Repeat_int_int.first x n hn ad c0 w2 g cap cur (by have := (HB.out.cell (World.block_lt_of_cell? w _ HBR.out)).trans HBR.out; exact this) HBK.out.1 (by have := HBK.out.2; omega); try rw [List.length_replicate])
  | ((with_reducible refine gate_builtin (b := .copy) (xs := #[.tmp 31, .tmp 32]) rfl ?_); at_builtin; refine wpList_plain rfl (fun K hK => ?_); refine slices_Repeat_int_int.copies rfl rfl rfl (hcp1 _) ?_; refine hK _ _ ?_; clear hK hcp1))
 have HQ := Aside0.mk (slices_Repeat_int_int.start x n w w2 g cap cur HB.out HBK.out.1 HBK.out.2.1 HBK.out.2.2.1 HBK.out.2.2.2.1 (by have h_ := HBK.out.2.2.2.2; simpa [encs] using h_))
 have HC := Aside0.mk (And.intro HBK.out.2.2.1 (And.intro HBK.out.2.2.2.1 HBK.out.2.2.2.2.1))
 clear HB HBK
 go_loopg [8] n (fun gq v8 w' => ∃ m : Nat, v8 = .int .i64 m ∧ m ≤ n ∧ n - m ≤ gq ∧ (n = 0 ∨ 0 < m) ∧ Aside0 (slices_Repeat_int_int.Has x n w w' g cap m))
 case atStart => exact ⟨min 1 n, by simp, by omega, by omega, by omega, ⟨by simpa using HQ.out⟩⟩
 case round =>
  clear HQ
  obtain ⟨m, rfl, hm, hg_, hpos, HH⟩ := hrel
  by_cases hlt : m < n
  ·have b1 : decide ((m : Int) < (n : Int)) = true := decide_eq_true (by omega)
   have hcapn := HC.out.1
   have hmc : ¬ cap = m := by omega
   obtain ⟨i0, hi0, _, hsz0, _⟩ := info_parts info3
   have hcutA : ∀ W : World, (Instr.slice 35 (.slice (some ⟨g, 0, none⟩) n cap) (some (.int .i64 (m : Int))) none none).run Try.prog W = .ok (.slice (some ⟨g, m, none⟩) (n - m) (cap - m)) W := fun W => by
    have := cut_from (P := Try.prog) 35 3 .i64 Try.underlying35 hi0 1 hsz0 (some ⟨g, 0, none⟩) n cap (m : Int) (by omega) (by omega) W
    rw [Int.toNat_natCast, if_neg hmc] at this
    rw [this, Nat.mul_one]
    simp only [Option.map_some, slices_Repeat_int_int.add]
   have hcutB : ∀ W : World, (Instr.slice 35 (.slice (some ⟨g, 0, none⟩) n cap) none (some (.int .i64 (m : Int))) none).run Try.prog W = .ok (.slice (some ⟨g, 0, none⟩) m cap) W := fun W => by
    have := cut_to (P := Try.prog) 35 3 .i64 Try.underlying35 hi0 (some ⟨g, 0, none⟩) n cap (m : Int) (by omega) (by omega) hcapn W
    rw [Int.toNat_natCast] at this
    exact this
   have hwm : wrap64 ((m : Int) + ((min m (n - m) : Nat) : Int)) = ((m + min m (n - m) : Nat) : Int) := slices_Repeat_int_int.wadd _ _ (by omega)
   have HCP := Aside0.mk (fun W (hW : slices_Repeat_int_int.Has x n w W g cap m) => slices_Repeat_int_int.more x n hn w g cap m (by omega) (by omega) W hW)
   go_upto_region 9 with (fail)
   refine start_ (ds := []) (n := 10) (S := fun _ => True) #[false, false, false, false, false, false, false, false, false, false] (by kernel_rfl) rfl (by rfl) trivial (fun hHeld => ?_)
   refine pure_ (i := 0) (N := some 38) (v := ?_) (a' := ?_) #[true, false, false, false, false, false, false, false, false, false] rfl rfl (by kernel_rfl) (fun _ _ _ h => h) (Or.inl ⟨by rfl, ?_⟩) ?_ ?_
   rotate_left
   ·intro w'
    go_simp
    first | done | with_reducible rfl | rfl
   rotate_left
   ·simp only [Act.put, List.setIfInBounds_toArray, List.set_cons_zero, List.set_cons_succ, i64_w, i32_w]
    rfl
   refine pure_ (i := 1) (N := some 39) (v := ?_) (a' := ?_) #[true, true, false, false, false, false, false, false, false, false] rfl rfl (by kernel_rfl) (fun _ _ _ h => h) (Or.inl ⟨by rfl, ?_⟩) ?_ ?_
   rotate_left
   ·intro w'
    go_simp
    first | done | with_reducible rfl | rfl
   rotate_left
   ·simp only [Act.put, List.setIfInBounds_toArray, List.set_cons_zero, List.set_cons_succ, i64_w, i32_w]
    rfl
   refine pure_ (i := 2) (N := some 40) (v := ?_) (a' := ?_) #[true, true, true, false, false, false, false, false, false, false] rfl rfl (by kernel_rfl) (fun _ _ _ h => h) (Or.inl ⟨by rfl, ?_⟩) ?_ ?_
   rotate_left
   ·intro w'
    go_simp
    first | done | with_reducible rfl | rfl
   rotate_left
   ·simp only [Act.put, List.setIfInBounds_toArray, List.set_cons_zero, List.set_cons_succ, i64_w, i32_w]
    rfl
   refine pure_ (i := 4) (N := some 42) (v := ?_) (a' := ?_) #[true, true, true, false, true, false, false, false, false, false] rfl rfl (by kernel_rfl) (fun _ _ _ h => h) (Or.inl ⟨by rfl, ?_⟩) ?_ ?_
   rotate_left
   ·intro w'
    go_simp
    first | done | with_reducible rfl | rfl
   rotate_left
   ·simp only [Act.put, List.setIfInBounds_toArray, List.set_cons_zero, List.set_cons_succ, i64_w, i32_w]
    rfl
   refine pure_ (i := 5) (N := some 43) (v := ?_) (a' := ?_) #[true, true, true, false, true, true, false, false, false, false] rfl rfl (by kernel_rfl) (fun _ _ _ h => h) (Or.inl ⟨by rfl, ?_⟩) ?_ ?_
   rotate_left
   ·intro w'
    go_simp
    first | done | with_reducible rfl | rfl
   rotate_left
   ·simp only [Act.put, List.setIfInBounds_toArray, List.set_cons_zero, List.set_cons_succ, i64_w, i32_w]
    rfl
   refine pure_ (i := 3) (N := some 41) (v := ?_) (a' := ?_) #[true, true, true, true, true, true, false, false, false, false] rfl rfl (by kernel_rfl) (fun _ _ _ h => h) (Or.inl ⟨by rfl, ?_⟩) ?_ ?_
   rotate_left
   ·intro w'
    go_simp
    first | done | with_reducible rfl | rfl
   rotate_left
   ·simp only [Act.put, List.setIfInBounds_toArray, List.set_cons_zero, List.set_cons_succ, i64_w, i32_w]
    rfl
   refine pure_ (i := 6) (N := some 44) (v := ?_) (a' := ?_) #[true, true, true, true, true, true, true, false, false, false] rfl rfl (by kernel_rfl) (fun _ _ _ h => h) (Or.inl ⟨by rfl, ?_⟩) ?_ ?_
   rotate_left
   ·intro w'
    go_simp
    first | done | with_reducible rfl | rfl
   rotate_left
   ·simp only [Act.put, List.setIfInBounds_toArray, List.set_cons_zero, List.set_cons_succ, i64_w, i32_w]
    rfl
   refine one_ (i := 7) (N := some 45) #[true, true, true, true, true, true, true, true, false, false] rfl rfl (by kernel_rfl) (by decide) (fun K hK => ?_)
   rw [if_pos (by rfl)]
   obtain ⟨W2, hcp, HH2⟩ := HCP.out wr.drew (slices_Repeat_int_int.drew HH.out)
   refine slices_Repeat_int_int.copies rfl rfl rfl (hcp _) ?_
   refine hK.out _ _ trivial (fun hHeld => ?_)
   clear hK K
   refine norm_ (a' := ?_) ?_ ?_
   rotate_left
   ·show Act.put _ (some 45) _ = _
    simp only [Act.put, List.setIfInBounds_toArray, List.set_cons_zero, List.set_cons_succ, i64_w, i32_w]
    rfl
   refine pure_ (i := 8) (N := some 46) (v := ?_) (a' := ?_) #[true, true, true, true, true, true, true, true, true, false] rfl rfl (by kernel_rfl) (fun _ _ _ h => h) (Or.inl ⟨by rfl, ?_⟩) ?_ ?_
   rotate_left
   ·intro w'
    go_simp
    first | done | with_reducible rfl | rfl
   rotate_left
   ·simp only [Act.put, List.setIfInBounds_toArray, List.set_cons_zero, List.set_cons_succ, i64_w, i32_w]
    rfl
   refine pure_ (i := 9) (N := some 8) (v := ?_) (a' := ?_) #[true, true, true, true, true, true, true, true, true, true] rfl rfl (by kernel_rfl) (fun _ _ _ h => h) (Or.inl ⟨by rfl, ?_⟩) ?_ ?_
   rotate_left
   ·intro w'
    go_simp
    first | done | with_reducible rfl | rfl
   rotate_left
   ·simp only [Act.put, List.setIfInBounds_toArray, List.set_cons_zero, List.set_cons_succ, i64_w, i32_w]
    rfl
   refine done_ (by kernel_rfl) ?_
   go_wp2
   go_roundg (n - (m + min m (n - m)))
   case measure => omega
   case rel => exact ⟨m + min m (n - m), by first | rfl | simp, by omega, Nat.le_refl _, by omega, ⟨HH2⟩⟩
  ·obtain rfl : m = n := by omega
   have b1 : decide ((m : Int) < (m : Int)) = false := decide_eq_false (by omega)
   go_wp2
   go_ret
   exact ⟨_, rfl, slices_Repeat_int_int.done x m w _ g cap HH.out, HH.out.1⟩


/-! ### dense_least: function 69 -/
def dense_least.l0 : Nat → List Bool → List Int → Int → List Int → Int → Int → Option (Int)
 | 0, _, _, _, _, _, _ => none
 | k + 1, x1, x2, x7, x10, x11, x12 => if x12 < x11 then (if 0 ≤ x12 then (if x12 < (x10.length : Int) then (if 0 ≤ (rd x10 x12) then (if (rd x10 x12) < (x1.length : Int) then (if rdOf false x1 (rd x10 x12) = true then (if x7 < 0 then (if (rd x10 x12) < (x2.length : Int) then (dense_least.l0 k x1 x2 (rd x2 (rd x10 x12)) x10 x11 (wrap64 (x12 + 1))) else (none)) else (if (rd x10 x12) < (x2.length : Int) then (if (rd x2 (rd x10 x12)) < x7 then (dense_least.l0 k x1 x2 (rd x2 (rd x10 x12)) x10 x11 (wrap64 (x12 + 1))) else (dense_least.l0 k x1 x2 x7 x10 x11 (wrap64 (x12 + 1)))) else (none))) else (dense_least.l0 k x1 x2 x7 x10 x11 (wrap64 (x12 + 1)))) else (none)) else (none)) else (none)) else (none)) else (some x7)
def dense_least.f (k : Nat) (l0 : List Int) (l1 : List Bool) (l2 : List Int) : Option (Int) := dense_least.l0 k l1 l2 (-1) l0 (l0.length : Int) 0
theorem dense_least.mono_l : ∀ k, (∀ y0 y1 y2 y3 y4 y5, LeO (dense_least.l0 k y0 y1 y2 y3 y4 y5) (dense_least.l0 (k + 1) y0 y1 y2 y3 y4 y5))
 | 0 => fun _ _ _ _ _ _ r h => by simp [dense_least.l0] at h
 | k + 1 => by
  have ih0 := dense_least.mono_l k
  ·intro y0 y1 y2 y3 y4 y5
   unfold dense_least.l0
   repeat' first
   | (with_reducible exact ih0 _ _ _ _ _ _)
   | (with_reducible exact LeO.refl _)
   | (with_reducible exact LeO.none _)
   | (with_reducible refine LeO.ite ?_ ?_)
   | (with_reducible refine LeO.bind ?_ (fun _ => ?_))
   | exact ih0 _ _ _ _ _ _
   | exact LeO.none _
   | refine LeO.ite ?_ ?_
   | refine LeO.bind ?_ (fun _ => ?_)
theorem dense_least.mono : ∀ a0 a1 a2 k, LeO (dense_least.f k a0 a1 a2) (dense_least.f (k + 1) a0 a1 a2) := by
 intro a0 a1 a2 k
 have ih0 := dense_least.mono_l k
 unfold dense_least.f
 repeat' first
   | (with_reducible exact ih0 _ _ _ _ _ _)
   | (with_reducible exact LeO.refl _)
   | (with_reducible exact LeO.none _)
   | (with_reducible refine LeO.ite ?_ ?_)
   | (with_reducible refine LeO.bind ?_ (fun _ => ?_))
   | exact ih0 _ _ _ _ _ _
   | exact LeO.none _
   | refine LeO.ite ?_ ?_
   | refine LeO.bind ?_ (fun _ => ?_)
set_option maxHeartbeats 8000000 in
set_option maxRecDepth 100000 in
theorem dense_least.calls (k : Nat) (A0 : Option Addr) (c0 : Nat) (l0 : List Int) (A1 : Option Addr) (c1 : Nat) (l1 : List Bool) (A2 : Option Addr) (c2 : Nat) (l2 : List Int) (r : Int) (w : World) (hr0 : Kd.C (Kd.int .i64) w A0 l0.length l0) (hc0 : l0.length ≤ c0) (hr1 : Kd.C Kd.bool w A1 l1.length l1) (hc1 : l1.length ≤ c1) (hr2 : Kd.C (Kd.int .i64) w A2 l2.length l2) (hc2 : l2.length ≤ c2) (h : dense_least.f k l0 l1 l2 = some r) :
  Calls Try.prog 69 #[.slice A0 l0.length c0, .slice A1 l1.length c1, .slice A2 l2.length c2] w fun e w' => e = .returned (.int .i64 r) ∧ Drawn0 w w' := by
 have HR0 := Aside0.mk hr0
 have HC0 := Aside0.mk hc0
 clear hr0 hc0
 have HR1 := Aside0.mk hr1
 have HC1 := Aside0.mk hc1
 clear hr1 hc1
 have HR2 := Aside0.mk hr2
 have HC2 := Aside0.mk hc2
 clear hr2 hc2
 have H : (dense_least.l0 k l1 l2 (-1) l0 (l0.length : Int) 0) = some r := h
 clear h
 have H' := Aside0.mk H
 clear H
 go_enter Try.func69, Try.ntmps69
 go_wp2
 go_loopg [7, 12] k (fun kq v7 v12 w' => ∃ (x7_1 : Int) (x12_1 : Int), v7 = .int .i64 x7_1 ∧ v12 = .int .i64 x12_1 ∧ Aside0 (dense_least.l0 kq l1 l2 x7_1 l0 (l0.length : Int) x12_1 = some r) ∧ Aside0 (kq ≤ k) ∧ Drawn0 w w')
 case atStart => exact ⟨((-1)), (0), (by first | rfl | (simp; done) | (simp [*]; done)), (by first | rfl | (simp; done) | (simp [*]; done)), H', ⟨Nat.le_refl _⟩, by repeat (first | exact Drawn0.refl _ | apply Drawn0.step)⟩
 case round =>
  clear H'
  try clear c1
  try clear c2
  try clear p2
  obtain ⟨x7_1, x12_1, rfl, rfl, HA, HK1, ⟨m1, rfl⟩⟩ := hrel
  cases gk with
  | zero => exact absurd HA.out (by simp [dense_least.l0])
  | succ k1 =>
   have H := HA.out
   clear HA
   simp only [dense_least.l0] at H
   by_cases c4 : x12_1 < (l0.length : Int)
   ·rw [if_pos c4] at H
    have c4b0 : decide (x12_1 < (l0.length : Int)) = true := decide_eq_true c4
    clear c4
    by_cases c5 : 0 ≤ x12_1
    ·rw [if_pos c5] at H
     have c5b0 : decide (0 ≤ x12_1) = true := decide_eq_true c5
     clear c5
     by_cases c6 : x12_1 < (l0.length : Int)
     ·rw [if_pos c6] at H
      have c6b0 : decide (x12_1 < (l0.length : Int)) = true := decide_eq_true c6
      clear c6
      by_cases c7 : 0 ≤ (rd l0 x12_1)
      ·rw [if_pos c7] at H
       have c7b0 : decide (0 ≤ (rd l0 x12_1)) = true := decide_eq_true c7
       clear c7
       by_cases c8 : (rd l0 x12_1) < (l1.length : Int)
       ·rw [if_pos c8] at H
        have c8b0 : decide ((rd l0 x12_1) < (l1.length : Int)) = true := decide_eq_true c8
        clear c8
        obtain ⟨bq9, hbq9⟩ : ∃ b_ : Bool, b_ = (rdOf false l1 (rd l0 x12_1)) := ⟨_, rfl⟩
        replace H : (if bq9 = true then (if x7_1 < 0 then (if (rd l0 x12_1) < (l2.length : Int) then (dense_least.l0 k1 l1 l2 (rd l2 (rd l0 x12_1)) l0 (l0.length : Int) (wrap64 (x12_1 + 1))) else (none)) else (if (rd l0 x12_1) < (l2.length : Int) then (if (rd l2 (rd l0 x12_1)) < x7_1 then (dense_least.l0 k1 l1 l2 (rd l2 (rd l0 x12_1)) l0 (l0.length : Int) (wrap64 (x12_1 + 1))) else (dense_least.l0 k1 l1 l2 x7_1 l0 (l0.length : Int) (wrap64 (x12_1 + 1)))) else (none))) else (dense_least.l0 k1 l1 l2 x7_1 l0 (l0.length : Int) (wrap64 (x12_1 + 1)))) = some r := by rw [← hbq9] at H; exact H
        have Nbq9 := Aside0.mk hbq9
        clear hbq9
        by_cases c10 : bq9 = true
        ·subst c10
         have H1 : (if x7_1 < 0 then (if (rd l0 x12_1) < (l2.length : Int) then (dense_least.l0 k1 l1 l2 (rd l2 (rd l0 x12_1)) l0 (l0.length : Int) (wrap64 (x12_1 + 1))) else (none)) else (if (rd l0 x12_1) < (l2.length : Int) then (if (rd l2 (rd l0 x12_1)) < x7_1 then (dense_least.l0 k1 l1 l2 (rd l2 (rd l0 x12_1)) l0 (l0.length : Int) (wrap64 (x12_1 + 1))) else (dense_least.l0 k1 l1 l2 x7_1 l0 (l0.length : Int) (wrap64 (x12_1 + 1)))) else (none))) = some r := by rw [if_pos rfl] at H; exact H
         clear H
         have H := H1
         clear H1
         by_cases c11 : x7_1 < 0
         ·rw [if_pos c11] at H
          have c11b0 : decide (x7_1 < 0) = true := decide_eq_true c11
          clear c11
          by_cases c12 : (rd l0 x12_1) < (l2.length : Int)
          ·rw [if_pos c12] at H
           have c12b0 : decide ((rd l0 x12_1) < (l2.length : Int)) = true := decide_eq_true c12
           clear c12
           have H' := Aside0.mk H
           clear H
           have p169 : 0 ≤ (x12_1 : Int) := of_decide_eq_true (by assumption)
           have q169 : x12_1 < (l0.length : Int) := of_decide_eq_true (by assumption)
           obtain ⟨ad169, e169, hx169_0⟩ := Kd.at_int HR0.out x12_1 p169 q169
           cases e169
           replace p169 := eq_true p169
           replace q169 := eq_true q169
           have p170 : 0 ≤ ((rd l0 x12_1) : Int) := of_decide_eq_true (by assumption)
           have q170 : (rd l0 x12_1) < (l1.length : Int) := of_decide_eq_true (by assumption)
           obtain ⟨ad170, e170, hx170_0⟩ := Kd.at_bool HR1.out (rd l0 x12_1) p170 q170
           (try rw [← Nbq9.out] at hx170_0)
           cases e170
           replace p170 := eq_true p170
           replace q170 := eq_true q170
           have p171 : 0 ≤ ((rd l0 x12_1) : Int) := of_decide_eq_true (by assumption)
           have q171 : (rd l0 x12_1) < (l2.length : Int) := of_decide_eq_true (by assumption)
           obtain ⟨ad171, e171, hx171_0⟩ := Kd.at_int HR2.out (rd l0 x12_1) p171 q171
           cases e171
           replace p171 := eq_true p171
           replace q171 := eq_true q171
           go_wp2
           go_roundg k1
           case measure => have := HK1.out; omega
           case rel => exact ⟨(rd l2 (rd l0 x12_1)), (wrap64 (x12_1 + 1)), (by first | rfl | (simp; done) | (simp [*]; done)), (by first | rfl | (simp; done) | (simp [*]; done)), H', ⟨by have := HK1.out; omega⟩, by repeat (first | exact Drawn0.refl _ | apply Drawn0.step)⟩
          ·rw [if_neg c12] at H
           exact absurd H (by simp)
         ·rw [if_neg c11] at H
          have c11b0 : decide (x7_1 < 0) = false := decide_eq_false c11
          clear c11
          by_cases c13 : (rd l0 x12_1) < (l2.length : Int)
          ·rw [if_pos c13] at H
           have c13b0 : decide ((rd l0 x12_1) < (l2.length : Int)) = true := decide_eq_true c13
           clear c13
           by_cases c14 : (rd l2 (rd l0 x12_1)) < x7_1
           ·rw [if_pos c14] at H
            have c14b0 : decide ((rd l2 (rd l0 x12_1)) < x7_1) = true := decide_eq_true c14
            clear c14
            have H' := Aside0.mk H
            clear H
            have p169 : 0 ≤ (x12_1 : Int) := of_decide_eq_true (by assumption)
            have q169 : x12_1 < (l0.length : Int) := of_decide_eq_true (by assumption)
            obtain ⟨ad169, e169, hx169_0⟩ := Kd.at_int HR0.out x12_1 p169 q169
            cases e169
            replace p169 := eq_true p169
            replace q169 := eq_true q169
            have p170 : 0 ≤ ((rd l0 x12_1) : Int) := of_decide_eq_true (by assumption)
            have q170 : (rd l0 x12_1) < (l1.length : Int) := of_decide_eq_true (by assumption)
            obtain ⟨ad170, e170, hx170_0⟩ := Kd.at_bool HR1.out (rd l0 x12_1) p170 q170
            (try rw [← Nbq9.out] at hx170_0)
            cases e170
            replace p170 := eq_true p170
            replace q170 := eq_true q170
            have p172 : 0 ≤ ((rd l0 x12_1) : Int) := of_decide_eq_true (by assumption)
            have q172 : (rd l0 x12_1) < (l2.length : Int) := of_decide_eq_true (by assumption)
            obtain ⟨ad172, e172, hx172_0⟩ := Kd.at_int HR2.out (rd l0 x12_1) p172 q172
            cases e172
            replace p172 := eq_true p172
            replace q172 := eq_true q172
            have p173 : 0 ≤ ((rd l0 x12_1) : Int) := of_decide_eq_true (by assumption)
            have q173 : (rd l0 x12_1) < (l2.length : Int) := of_decide_eq_true (by assumption)
            obtain ⟨ad173, e173, hx173_0⟩ := Kd.at_int HR2.out (rd l0 x12_1) p173 q173
            obtain rfl : ad172 = ad173 := (by injection e173)
            replace p173 := eq_true p173
            replace q173 := eq_true q173
            go_wp2
            go_roundg k1
            case measure => have := HK1.out; omega
            case rel => exact ⟨(rd l2 (rd l0 x12_1)), (wrap64 (x12_1 + 1)), (by first | rfl | (simp; done) | (simp [*]; done)), (by first | rfl | (simp; done) | (simp [*]; done)), H', ⟨by have := HK1.out; omega⟩, by repeat (first | exact Drawn0.refl _ | apply Drawn0.step)⟩
           ·rw [if_neg c14] at H
            have c14b0 : decide ((rd l2 (rd l0 x12_1)) < x7_1) = false := decide_eq_false c14
            clear c14
            have H' := Aside0.mk H
            clear H
            have p169 : 0 ≤ (x12_1 : Int) := of_decide_eq_true (by assumption)
            have q169 : x12_1 < (l0.length : Int) := of_decide_eq_true (by assumption)
            obtain ⟨ad169, e169, hx169_0⟩ := Kd.at_int HR0.out x12_1 p169 q169
            cases e169
            replace p169 := eq_true p169
            replace q169 := eq_true q169
            have p170 : 0 ≤ ((rd l0 x12_1) : Int) := of_decide_eq_true (by assumption)
            have q170 : (rd l0 x12_1) < (l1.length : Int) := of_decide_eq_true (by assumption)
            obtain ⟨ad170, e170, hx170_0⟩ := Kd.at_bool HR1.out (rd l0 x12_1) p170 q170
            (try rw [← Nbq9.out] at hx170_0)
            cases e170
            replace p170 := eq_true p170
            replace q170 := eq_true q170
            have p172 : 0 ≤ ((rd l0 x12_1) : Int) := of_decide_eq_true (by assumption)
            have q172 : (rd l0 x12_1) < (l2.length : Int) := of_decide_eq_true (by assumption)
            obtain ⟨ad172, e172, hx172_0⟩ := Kd.at_int HR2.out (rd l0 x12_1) p172 q172
            cases e172
            replace p172 := eq_true p172
            replace q172 := eq_true q172
            go_wp2
            go_roundg k1
            case measure => have := HK1.out; omega
            case rel => exact ⟨(x7_1), (wrap64 (x12_1 + 1)), (by first | rfl | (simp; done) | (simp [*]; done)), (by first | rfl | (simp; done) | (simp [*]; done)), H', ⟨by have := HK1.out; omega⟩, by repeat (first | exact Drawn0.refl _ | apply Drawn0.step)⟩
          ·rw [if_neg c13] at H
           exact absurd H (by simp)
        ·replace c10 := Bool.eq_false_iff.mpr c10
         subst c10
         have H1 : (dense_least.l0 k1 l1 l2 x7_1 l0 (l0.length : Int) (wrap64 (x12_1 + 1))) = some r := by rw [if_neg (show ¬ (false = true) by decide)] at H; exact H
         clear H
         have H := H1
         clear H1
         have H' := Aside0.mk H
         clear H
         have p169 : 0 ≤ (x12_1 : Int) := of_decide_eq_true (by assumption)
         have q169 : x12_1 < (l0.length : Int) := of_decide_eq_true (by assumption)
         obtain ⟨ad169, e169, hx169_0⟩ := Kd.at_int HR0.out x12_1 p169 q169
         cases e169
         replace p169 := eq_true p169
         replace q169 := eq_true q169
         have p170 : 0 ≤ ((rd l0 x12_1) : Int) := of_decide_eq_true (by assumption)
         have q170 : (rd l0 x12_1) < (l1.length : Int) := of_decide_eq_true (by assumption)
         obtain ⟨ad170, e170, hx170_0⟩ := Kd.at_bool HR1.out (rd l0 x12_1) p170 q170
         (try rw [← Nbq9.out] at hx170_0)
         cases e170
         replace p170 := eq_true p170
         replace q170 := eq_true q170
         go_wp2
         go_roundg k1
         case measure => have := HK1.out; omega
         case rel => exact ⟨(x7_1), (wrap64 (x12_1 + 1)), (by first | rfl | (simp; done) | (simp [*]; done)), (by first | rfl | (simp; done) | (simp [*]; done)), H', ⟨by have := HK1.out; omega⟩, by repeat (first | exact Drawn0.refl _ | apply Drawn0.step)⟩
       ·rw [if_neg c8] at H
        exact absurd H (by simp)
      ·rw [if_neg c7] at H
       exact absurd H (by simp)
     ·rw [if_neg c6] at H
      exact absurd H (by simp)
    ·rw [if_neg c5] at H
     exact absurd H (by simp)
   ·rw [if_neg c4] at H
    have c4b0 : decide (x12_1 < (l0.length : Int)) = false := decide_eq_false c4
    clear c4
    obtain rfl := Option.some.inj H
    go_wp2
    go_ret
    exact ⟨by first | rfl | (simp; done) | (simp [*]; done), by repeat (first | exact Drawn0.refl _ | apply Drawn0.step)⟩

end Go.Proofs.Ytjjjafhchombcaa.PDenseTells
