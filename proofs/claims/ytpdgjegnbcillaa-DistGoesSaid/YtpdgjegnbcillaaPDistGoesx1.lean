/- The Go functions that the law reaches, as plain Lean functions, and proofs that the calls of the machine come to them, or the row of the law over them, for every input that the row speaks of; written by a program of this session (wip/tool/mkprint.py) out of the translation and of hand-made templates. -/
import Derived.Test.YtpdgjegnbcillaaPDistGoesx0
namespace Go.Proofs.Ytpdgjegnbcillaa.PDistGoes
open Go.RowKit Go.Proofs.YtpdgjegnbcillaaW.PrintWords Go.Proofs.YtpdgjegnbcillaaW.PrintLast Go.Proofs.YtpdgjegnbcillaaW.PrintMore
attribute [local go_sem] max2_int min2_int max_two min_two max_three min_three max_four min_four   -- for this text's walks alone
set_option linter.unusedVariables false
set_option linter.unusedSimpArgs false

/-! ### dist_Right: function 62 -/
def dist_Right.isfar (x : Int) : Bool := decide (x < -16777215) || decide (16777215 < x)
def dist_Right.f (l0 : List Int) : Option Bool := some (decide (0 < l0.length) && decide (l0.length ≤ 4096) && !l0.any dist_Right.isfar)
set_option maxHeartbeats 2000000 in
set_option maxRecDepth 100000 in
theorem dist_Right.far (x : Int) (w : World) : Calls Try.prog 75 #[.int .i64 x] w fun e w' => e = .returned (.bool (dist_Right.isfar x)) ∧ Drawn0 w w' := by
  unfold dist_Right.isfar
  by_cases h1 : x < -16777215
  · have b1 : decide (x < -16777215) = true := decide_eq_true h1
    rw [b1]
    clear h1
    go_enter Try.func75, Try.ntmps75
    go_wp2
    go_ret
    exact ⟨rfl, by repeat (first | exact Drawn0.refl _ | apply Drawn0.step)⟩
  · have b1 : decide (x < -16777215) = false := decide_eq_false h1
    rw [b1, Bool.false_or]
    clear h1
    go_enter Try.func75, Try.ntmps75
    go_wp2
    go_ret
    exact ⟨rfl, by repeat (first | exact Drawn0.refl _ | apply Drawn0.step)⟩
set_option maxHeartbeats 4000000 in
set_option maxRecDepth 100000 in
theorem dist_Right.index (A0 : Option Addr) (c0 : Nat) (l0 : List Int) (w : World) (hr0 : Kd.C (Kd.int .i64) w A0 l0.length l0) (hc0 : l0.length ≤ c0) :
    Calls Try.prog 79 #[.slice A0 l0.length c0, .func (.func 75) #[] #[]] w fun e w' => (∃ r : Int, e = .returned (.int .i64 r) ∧ decide (0 ≤ r) = l0.any dist_Right.isfar) ∧ Below w.heap.size w w' := by
  have HR := Aside0.mk hr0
  have HM := Aside0.mk (Kd.C_max hr0)
  clear hr0
  go_enter Try.func79, Try.ntmps79
  go_wp2
  go_loopg [5, 8] l0.length (fun gg _ s8 wr => ∃ x : Int, Aside0 (0 ≤ x ∧ x ≤ (l0.length : Int) ∧ l0.length - x.toNat ≤ gg) ∧ s8 = .int .i64 x ∧ Aside0 (Below w.heap.size w wr) ∧ Aside0 (∀ j, j < x.toNat → dist_Right.isfar (l0.getD j 0) = false))
  case atStart => exact ⟨0, ⟨by omega, by omega, by omega⟩, rfl, ⟨Below.refl _ w⟩, ⟨fun j hj => absurd hj (Nat.not_lt_zero _)⟩⟩
  case round =>
    obtain ⟨x, HK, rfl, HB, HJ⟩ := hrel
    by_cases hlt : x < (l0.length : Int)
    · have hk0 : 0 ≤ x := HK.out.1
      obtain ⟨ad, ead, hx⟩ := Kd.at_int HR.out x hk0 hlt
      cases ead
      replace hx := (HB.out.cell (World.block_lt_of_cell? w _ hx)).trans hx
      have HY : Aside0 (rd l0 x = l0.getD x.toNat 0) := ⟨rfl⟩
      generalize rd l0 x = y at hx HY
      have HL := Aside0.mk hlt
      replace hk0 := eq_true hk0
      have hlb : decide (x < (l0.length : Int)) = true := decide_eq_true hlt
      replace hlt := eq_true hlt
      have hcall := fun W => dist_Right.far y W
      cases hq : dist_Right.isfar y with
      | true =>
        rw [hq] at hcall
        have HQ := Aside0.mk hq
        clear hq
        go_wp2_with (go_at_call 75; refine (hcall _).mono ?_; rintro e w' ⟨rfl, ⟨nd, rfl⟩⟩)
        go_ret
        refine ⟨⟨_, rfl, ?_⟩, by repeat (first | (with_reducible first | exact HB.out | apply below_alloc | apply pw_below_drewN | apply below_drew1) | exact HB.out)⟩
        have hm : y ∈ l0 := by
          rw [HY.out]
          have : x.toNat < l0.length := by have := HL.out; have := HK.out; omega
          rw [List.getD_eq_getElem?_getD, List.getElem?_eq_getElem this]
          exact List.getElem_mem this
        rw [List.any_eq_true.mpr ⟨y, hm, HQ.out⟩]
        exact decide_eq_true HK.out.1
      | false =>
        rw [hq] at hcall
        have HQ := Aside0.mk hq
        clear hq
        go_wp2_with (go_at_call 75; refine (hcall _).mono ?_; rintro e w' ⟨rfl, ⟨nd, rfl⟩⟩)
        go_roundg (l0.length - (x.toNat + 1))
        case measure => have := HK.out; have := HL.out; omega
        case rel =>
          have := HL.out
          have hm := HM.out
          have hk := HK.out
          have ew : wrap64 (x + 1) = x + 1 := by unfold wrap64; omega
          refine ⟨x + 1, ⟨by omega, by omega, by omega⟩, ?_, ⟨by repeat (first | (with_reducible first | exact HB.out | apply below_alloc | apply pw_below_drewN | apply below_drew1) | exact HB.out)⟩, ⟨fun j hj => ?_⟩⟩
          · simp [i64_w, ew]
          · by_cases e : j = x.toNat
            · subst e
              rw [← HY.out]; exact HQ.out
            · exact HJ.out j (by omega)
    · have hlb : decide (x < (l0.length : Int)) = false := decide_eq_false hlt
      have HL := Aside0.mk hlt
      clear hlt
      go_wp2
      go_ret
      refine ⟨⟨_, rfl, ?_⟩, by repeat (first | (with_reducible first | exact HB.out | apply below_alloc | apply pw_below_drewN | apply below_drew1) | exact HB.out)⟩
      rw [show l0.any dist_Right.isfar = false from List.any_eq_false.mpr fun y hy => ?_]
      · rfl
      · obtain ⟨j, hj, rfl⟩ := List.getElem_of_mem hy
        have := HJ.out j (by have := HL.out; have := HK.out; omega)
        rw [List.getD_eq_getElem?_getD, List.getElem?_eq_getElem hj] at this
        simpa using this
set_option maxHeartbeats 2000000 in
set_option maxRecDepth 100000 in
theorem dist_Right.contains (A0 : Option Addr) (c0 : Nat) (l0 : List Int) (w : World) (hr0 : Kd.C (Kd.int .i64) w A0 l0.length l0) (hc0 : l0.length ≤ c0) :
    Calls Try.prog 76 #[.slice A0 l0.length c0, .func (.func 75) #[] #[]] w fun e w' => e = .returned (.bool (l0.any dist_Right.isfar)) ∧ Below w.heap.size w w' := by
  have hi := dist_Right.index A0 c0 l0 w hr0 hc0
  clear hr0 hc0
  generalize l0.any dist_Right.isfar = q at hi ⊢
  go_enter Try.func76, Try.ntmps76
  go_wp2_with (go_at_call 79; refine hi.mono ?_; rintro e w' ⟨⟨r, rfl, rfl⟩, hb⟩)
  go_ret
  exact ⟨rfl, hb⟩
set_option maxHeartbeats 2000000 in
set_option maxRecDepth 100000 in
theorem dist_Right.calls (A0 : Option Addr) (c0 : Nat) (l0 : List Int) (r : Bool) (w : World) (hr0 : Kd.C (Kd.int .i64) w A0 l0.length l0) (hc0 : l0.length ≤ c0) (h : dist_Right.f l0 = some r) :
    Calls Try.prog 62 #[.slice A0 l0.length c0] w fun e w' => e = .returned (.bool r) ∧ Below w.heap.size w w' := by
  unfold dist_Right.f at h
  obtain rfl := Option.some.inj h
  clear h
  have hi := fun W (hW : Kd.C (Kd.int .i64) W A0 l0.length l0) => dist_Right.contains A0 c0 l0 W hW hc0
  have HR := Aside0.mk hr0
  clear hr0
  have hz : decide (0 < l0.length) = decide ((0 : Int) < (l0.length : Int)) := by simp
  have hz2 : decide (l0.length ≤ 4096) = decide ((l0.length : Int) ≤ 4096) := decide_eq_decide.mpr (by omega)
  rw [hz, hz2]
  clear hz hz2
  generalize l0.any dist_Right.isfar = q at hi ⊢
  cases b1 : decide ((0 : Int) < (l0.length : Int)) with
  | false =>
    have b1p : (0 < l0.length) = False := eq_false (by have := of_decide_eq_false b1; omega)
    go_enter Try.func62, Try.ntmps62
    go_wp2
    go_ret
    exact ⟨rfl, by repeat (first | exact Below.refl _ _ | apply pw_below_drewN | apply below_drew1)⟩
  | true =>
    have b1p : (0 < l0.length) = True := eq_true (by have := of_decide_eq_true b1; omega)
    cases b2 : decide ((l0.length : Int) ≤ 4096) with
    | false =>
      go_enter Try.func62, Try.ntmps62
      go_wp2
      go_ret
      exact ⟨rfl, by repeat (first | exact Below.refl _ _ | apply pw_below_drewN | apply below_drew1)⟩
    | true =>
      go_enter Try.func62, Try.ntmps62
      go_wp2_with (go_at_call 76; refine (hi _ (by repeat (first | exact HR.out | apply Kd.C_drew | apply Kd.C_drewN))).mono ?_; rintro e w' ⟨rfl, hb⟩)
      go_ret
      exact ⟨by cases q <;> rfl, below_step (by repeat (first | exact Below.refl _ _ | apply pw_below_drewN | apply below_drew1)) hb⟩


/-! ### dist_Square: function 60 -/
section
open Go.Shelf
attribute [local go_sem] Oper.semAt_some
def dist_Square.step (la lb : List Int) (k : Nat) (s : Int) : Int := wrap64 (s + wrap64 (wrap64 (rd la (k : Int) - rd lb (k : Int)) * wrap64 (rd la (k : Int) - rd lb (k : Int))))
/-- The sum of the first k squares. -/
def dist_Square.sum (la lb : List Int) : Nat → Int
  | 0 => 0
  | k + 1 => dist_Square.step la lb k (dist_Square.sum la lb k)
/-- What has come when k rounds are over. -/
def dist_Square.upto (la lb : List Int) (k : Nat) : List Int := (List.range k).map (fun j => dist_Square.sum la lb (j + 1))
theorem dist_Square.upto_succ (la lb : List Int) (k : Nat) : dist_Square.upto la lb (k + 1) = dist_Square.upto la lb k ++ [dist_Square.sum la lb (k + 1)] := by simp [dist_Square.upto, List.range_succ]
theorem dist_Square.upto_length (la lb : List Int) (k : Nat) : (dist_Square.upto la lb k).length = k := by simp [dist_Square.upto]
/-- What a round keeps: what lay below n₀, and the box at B. -/
def dist_Square.Keep (n₀ B : Nat) (A A' : World) : Prop := Below n₀ A A' ∧ ∀ v, A.cell? ⟨B, 0, none⟩ = some v → A'.cell? ⟨B, 0, none⟩ = some v
theorem dist_Square.keep_t {n₀ B : Nat} {A A' A'' : World} (h : dist_Square.Keep n₀ B A A') (k : dist_Square.Keep n₀ B A' A'') : dist_Square.Keep n₀ B A A'' := ⟨h.1.trans k.1, fun v hv => k.2 v (h.2 v hv)⟩
theorem dist_Square.keep_b {n₀ B : Nat} {w : World} (hn : n₀ ≤ w.heap.size) (W : World) (l : Nat) (o o' : Obj) (hl : w.heap.size ≤ l) (h : W.heap[l]? = some o) (hc : o.isCells = false) (hw : o.isWalk = false) : dist_Square.Keep n₀ B W (W.putObj l o') :=
  ⟨belowK_b hn W l o o' hl h hc hw, fun v hv => cell_kept hv (grownBy_putObj' W l o') (fun r e => by cases e; exact ⟨_, h, hc⟩)⟩
set_option maxRecDepth 100000 in
set_option maxHeartbeats 4000000 in
theorem dist_Square.squares1 (l Ba Bb : Nat) (w0 : World) (A0 A1 : Option Addr) (c0 c1 : Nat) (la lb : List Int) (hl : lb.length = la.length)
    (hA : Kd.C (Kd.int .i64) w0 A0 la.length la) (hB : Kd.C (Kd.int .i64) w0 A1 lb.length lb) (J Jx : List Int → World → Prop)
    (hY : ∀ pre x W, J pre W → pre.length < la.length → YieldAt Fence.wide 3 Try.prog l #[.int .i64 x] W fun e W' =>
      (e = .returned (.bool true) ∧ J (pre ++ [x]) W' ∧ dist_Square.Keep w0.heap.size Bb W W') ∨ (e = .returned (.bool false) ∧ Jx (pre ++ [x]) W'))
    (W : World) (hW : Below w0.heap.size w0 W) (hBa : W.cell? ⟨Ba, 0, none⟩ = some (.slice A0 la.length c0)) (hBb : W.cell? ⟨Bb, 0, none⟩ = some (.slice A1 lb.length c1)) (h0 : J [] W) :
    CallsIn Fence.wide 4 Try.prog 78 #[.func (.yield l) #[] #[], .pointer (some ⟨Ba, 0, none⟩), .pointer (some ⟨Bb, 0, none⟩)] W fun e W' => (∃ v, e = .returned v) ∧
      ((∃ ys, ys = dist_Square.upto la lb la.length ∧ J ys W') ∨ (∃ pre, (∃ k, k ≤ la.length ∧ pre = dist_Square.upto la lb k) ∧ Jx pre W')) := by
  have hbig : la.length ≤ 9223372036854775807 := Kd.C_max hA
  have HA := Aside0.mk hA
  have HB := Aside0.mk hB
  clear hA hB
  refine callsIn_of_wp Try.func78 rfl trivial ?_ rfl
  simp only [Try.ntmps78, List.size_toArray, List.length_cons, List.length_nil, Nat.reduceAdd, Nat.reduceSub, Array.replicate_succ, Array.replicate_zero, List.push_toArray, List.append_toArray, List.nil_append, List.cons_append]
  gi_wp2
  gi_loopw [4, 10] (fun s i wr => ∃ x : Int, 0 ≤ x ∧ x ≤ (la.length : Int) ∧ i = .int .i64 x ∧ s = .int .i64 (dist_Square.sum la lb x.toNat) ∧ J (dist_Square.upto la lb x.toNat) wr ∧ dist_Square.Keep w0.heap.size Bb W wr)
    (fun _ i _ => la.length - (intOf i).toNat)
  case atStart => exact ⟨0, by omega, by omega, rfl, rfl, h0, Below.refl _ _, fun v hv => hv⟩
  case round =>
    obtain ⟨x, hx0, hx1, rfl, rfl, hJs, hnx⟩ := hrel
    by_cases hlt : x < (la.length : Int)
    · obtain ⟨ad0, e0, k0⟩ := Kd.at_int HA.out x hx0 hlt
      cases e0
      obtain ⟨ad1, e1, k1⟩ := Kd.at_int HB.out x hx0 (by omega)
      cases e1
      have hwr := hW.trans hnx.1
      replace k0 := (hwr.cell (World.block_lt_of_cell? w0 _ k0)).trans k0
      replace k1 := (hwr.cell (World.block_lt_of_cell? w0 _ k1)).trans k1
      have hbb := hnx.2 _ hBb
      have HS : Aside0 (dist_Square.sum la lb (x.toNat + 1) = wrap64 (dist_Square.sum la lb x.toNat + wrap64 (wrap64 (rd la x - rd lb x) * wrap64 (rd la x - rd lb x)))) := ⟨by
        show dist_Square.step la lb x.toNat _ = _
        unfold dist_Square.step
        rw [Int.toNat_of_nonneg hx0]⟩
      generalize rd la x = y at k0 HS
      generalize rd lb x = z at k1 HS
      have HL := Aside0.mk (show 0 ≤ x ∧ x ≤ (la.length : Int) ∧ x < (la.length : Int) from ⟨hx0, hx1, hlt⟩)
      have HK := Aside0.mk hnx
      have HJ := Aside0.mk hJs
      clear hnx hJs hwr hx1
      have hY1 := hY _ (wrap64 (dist_Square.sum la lb x.toNat + wrap64 (wrap64 (y - z) * wrap64 (y - z)))) wr HJ.out (by rw [dist_Square.upto_length]; have := HL.out; omega)
      generalize dist_Square.sum la lb x.toNat = s at HS hY1
      have hlt2 : x < (lb.length : Int) := by omega
      have b1 : decide (x < (la.length : Int)) = true := decide_eq_true hlt
      have b2 : decide (x < (lb.length : Int)) = true := decide_eq_true hlt2
      replace hx0 := eq_true hx0
      replace hlt := eq_true hlt
      replace hlt2 := eq_true hlt2
      obtain ⟨fn, tmps, assign, body, hy, hR⟩ := hY1
      clear hY
      gi_wp2
      refine hR.mono ?_
      rintro e W3 (⟨rfl, hJ3, hk3⟩ | ⟨rfl, hJx3⟩)
      · gi_wp2
        go_roundw
        case rel =>
          have hl := HL.out
          have ew : wrap64 (x + 1) = x + 1 := by unfold wrap64; omega
          have en : (x + 1).toNat = x.toNat + 1 := by omega
          refine ⟨x + 1, by omega, by omega, by simp [i64_w, ew], by rw [en, HS.out], by rw [en, dist_Square.upto_succ, HS.out]; exact hJ3, dist_Square.keep_t HK.out hk3⟩
        case measure =>
          have hl := HL.out
          have ew : wrap64 (x + 1) = x + 1 := by unfold wrap64; omega
          simp [i64_w, ew, intOf]
          omega
      · gi_wp2
        refine bodyPost_ret (results_none rfl _ _ _) rfl ?_
        have hl := HL.out
        exact ⟨⟨_, rfl⟩, .inr ⟨_, ⟨x.toNat + 1, by omega, by rw [dist_Square.upto_succ, HS.out]⟩, hJx3⟩⟩
    · obtain rfl : x = (la.length : Int) := by omega
      have b1 : decide ((la.length : Int) < (la.length : Int)) = false := decide_eq_false (by omega)
      gi_wp2
      go_end0
      exact ⟨⟨_, rfl⟩, .inl (by rw [Int.toNat_natCast] at hJs; exact hJs)⟩
/-- dist.squares: the two slices are boxed; the function value captures the boxes. -/
theorem dist_Square.squares (A0 A1 : Option Addr) (n0 n1 c0 c1 : Nat) (w : World) :
    CallsIn Fence.wide 4 Try.prog 74 #[.slice A0 n0 c0, .slice A1 n1 c1] w fun e w' => e = .returned (.func (.func 78) #[] #[.pointer (some ⟨w.heap.size, 0, none⟩), .pointer (some ⟨w.heap.size + 1, 0, none⟩)]) ∧ w' = (w.alloc (.cells #[.slice A0 n0 c0] 23)).alloc (.cells #[.slice A1 n1 c1] 23) := by
  refine callsIn_of_wp Try.func74 rfl trivial ?_ rfl
  simp only [Try.ntmps74, List.size_toArray, List.length_cons, List.length_nil, Nat.reduceAdd, Nat.reduceSub, Array.replicate_succ, Array.replicate_zero, List.push_toArray, List.append_toArray, List.nil_append, List.cons_append]
  gi_wp2
  go_ret
  exact ⟨by simp, rfl⟩
theorem dist_Square.squares_stops (Ba Bb : Nat) (w0 : World) (A0 A1 : Option Addr) (c0 c1 : Nat) (la lb : List Int) (hl : lb.length = la.length)
    (hA : Kd.C (Kd.int .i64) w0 A0 la.length la) (hB : Kd.C (Kd.int .i64) w0 A1 lb.length lb) (w : World) (hw : Below w0.heap.size w0 w) (ha : Ba < w.heap.size) (hb : Bb < w.heap.size)
    (hBa : w.cell? ⟨Ba, 0, none⟩ = some (.slice A0 la.length c0)) (hBb : w.cell? ⟨Bb, 0, none⟩ = some (.slice A1 lb.length c1)) :
    SeqStopsK Fence.wide 4 Try.prog 78 #[.pointer (some ⟨Ba, 0, none⟩), .pointer (some ⟨Bb, 0, none⟩)] (fun x : Int => #[Value.int .i64 x]) (dist_Square.Keep w0.heap.size Bb) (fun ys => ys = dist_Square.upto la lb la.length)
      (fun pre => ∃ k, k ≤ la.length ∧ pre = dist_Square.upto la lb k) la.length w := fun l J Jx W hW _ _ hY h0 =>
  dist_Square.squares1 l Ba Bb w0 A0 A1 c0 c1 la lb hl hA hB J Jx hY W (hw.trans (hW.mono hw.size)) ((hW.cell (p := ⟨Ba, 0, none⟩) ha).trans hBa) ((hW.cell (p := ⟨Bb, 0, none⟩) hb).trans hBb) h0
theorem dist_Square.cell_box {W : World} {b : Nat} {v : Value} {t : TypeId} (h : W.heap[b]? = some (.cells #[v] t)) : W.cell? ⟨b, 0, none⟩ = some v ∧ W.frozen? ⟨b, 0, none⟩ = false := by
  constructor
  · simp [World.cell?, h]
  · simp [World.frozen?, h]
theorem dist_Square.cell_new (W : World) (v : Value) (t : TypeId) : (W.alloc (.cells #[v] t)).cell? ⟨W.heap.size, 0, none⟩ = some v ∧ (W.alloc (.cells #[v] t)).frozen? ⟨W.heap.size, 0, none⟩ = false := dist_Square.cell_box (World.alloc_heap_new W _)
theorem dist_Square.cell_old {W : World} {a : Addr} {v : Value} (o : Obj) (h : W.cell? a = some v) : (W.alloc o).cell? a = some v := cell_kept h (World.grownBy_alloc W o none) (fun r e => by cases e)
theorem dist_Square.frozen_old {W : World} {a : Addr} {v : Value} (o : Obj) (h : W.cell? a = some v) (hf : W.frozen? a = false) : (W.alloc o).frozen? a = false := (frozen_kept h (World.grownBy_alloc W o none) (fun r e => by cases e)).trans hf
theorem dist_Square.upto_last (la lb : List Int) (k : Nat) : (dist_Square.upto la lb k).getLastD 0 = dist_Square.sum la lb k := by
  cases k with
  | zero => rfl
  | succ k => rw [dist_Square.upto_succ]; simp
theorem dist_Square.upto_sub {la lb : List Int} {k n : Nat} (hk : k ≤ n) {y : Int} (hy : y ∈ dist_Square.upto la lb k) : y ∈ dist_Square.upto la lb n := by
  unfold dist_Square.upto at hy ⊢
  obtain ⟨j, hj, rfl⟩ := List.mem_map.1 hy
  exact List.mem_map.2 ⟨j, List.mem_range.2 (by have := List.mem_range.1 hj; omega), rfl⟩
def dist_Square.right (l : List Int) : Bool := (dist_Right.f l).getD false
def dist_Square.f (l0 l1 : List Int) : Option (Int × Int) :=
  if l0.length = l1.length then (if dist_Square.right l0 = true then (if dist_Square.right l1 = true then some (dist_Square.sum l0 l1 l0.length, 0) else some (0, 1)) else some (0, 1)) else some (0, 1)
theorem dist_Square.rightc (A0 : Option Addr) (c0 : Nat) (l0 : List Int) (w : World) (hr0 : Kd.C (Kd.int .i64) w A0 l0.length l0) (hc0 : l0.length ≤ c0) :
    CallsIn Fence.wide 4 Try.prog 62 #[.slice A0 l0.length c0] w fun e w' => e = .returned (.bool (dist_Square.right l0)) ∧ Below w.heap.size w w' :=
  callsIn_wide.2 (dist_Right.calls A0 c0 l0 _ w hr0 hc0 rfl)
set_option maxRecDepth 100000 in
set_option maxHeartbeats 4000000 in
theorem dist_Square.calls (A0 : Option Addr) (c0 : Nat) (l0 : List Int) (A1 : Option Addr) (c1 : Nat) (l1 : List Int) (r1 : Int) (r2 : Int) (w : World) (hr0 : Kd.C (Kd.int .i64) w A0 l0.length l0) (hc0 : l0.length ≤ c0) (hr1 : Kd.C (Kd.int .i64) w A1 l1.length l1) (hc1 : l1.length ≤ c1) (h : dist_Square.f l0 l1 = some (r1, r2)) :
    Calls Try.prog 60 #[.slice A0 l0.length c0, .slice A1 l1.length c1] w fun e w' => e = .returned (.tuple #[.int .i64 r1, .int .i64 r2]) ∧ Below w.heap.size w w' := by
  refine (callsIn_wide (n := 5)).1 ?_
  have HA := Aside0.mk hr0
  have HB := Aside0.mk hr1
  have hR0 := fun W hW => dist_Square.rightc A0 c0 l0 W hW hc0
  have hR1 := fun W hW => dist_Square.rightc A1 c1 l1 W hW hc1
  clear hr0 hr1 hc0 hc1
  have HH := Aside0.mk h
  clear h
  by_cases e1 : (l0.length : Int) = (l1.length : Int)
  · have b1 : ((l0.length : Int) != (l1.length : Int)) = false := bne_eq_false_iff_eq.mpr e1
    have b2 : ((l0.length : Int) == (l1.length : Int)) = true := beq_iff_eq.mpr e1
    have HE := Aside0.mk e1
    clear e1
    cases hp : dist_Square.right l0 with
    | false =>
      rw [hp] at hR0
      have HP := Aside0.mk hp
      clear hp
      refine callsIn_of_wp_marks Try.func60 rfl trivial ?_ rfl
      simp only [Try.ntmps60, List.size_toArray, List.length_cons, List.length_nil, Nat.reduceAdd, Nat.reduceSub, Array.replicate_succ, Array.replicate_zero, List.push_toArray, List.append_toArray, List.nil_append, List.cons_append]
      gi_wp2_with (first | (refine ⟨trivial, ?_⟩; gi_at_call 62; (with_reducible refine (hR0 _ ?h0).mono ?_); (case h0 => exact HA.out); rintro e w1 ⟨rfl, hb1⟩) | (refine And.intro (show Fence.wide.fn 62 from trivial) ?_))
      refine ⟨_, results_tmp2 rfl _ _ _, ?_, ?_⟩
      · have h := HH.out
        unfold dist_Square.f at h
        rw [if_pos (by have := HE.out; omega), if_neg (by rw [HP.out]; decide)] at h
        simp only [Option.some.injEq, Prod.mk.injEq] at h
        obtain ⟨rfl, rfl⟩ := h
        rfl
      · exact hb1
    | true =>
      rw [hp] at hR0
      have HP := Aside0.mk hp
      clear hp
      cases hq : dist_Square.right l1 with
      | false =>
        rw [hq] at hR1
        have HQ := Aside0.mk hq
        clear hq
        refine callsIn_of_wp_marks Try.func60 rfl trivial ?_ rfl
        simp only [Try.ntmps60, List.size_toArray, List.length_cons, List.length_nil, Nat.reduceAdd, Nat.reduceSub, Array.replicate_succ, Array.replicate_zero, List.push_toArray, List.append_toArray, List.nil_append, List.cons_append]
        gi_wp2_with (first | (refine ⟨trivial, ?_⟩; gi_at_call 62; (with_reducible refine (hR0 _ ?h0).mono ?_); (case h0 => exact HA.out); rintro e w1 ⟨rfl, hb1⟩) | (refine ⟨trivial, ?_⟩; gi_at_call 62; (with_reducible refine (hR1 _ ?h0).mono ?_); (case h0 => exact Kd.C_below HB.out hb1); rintro e w2 ⟨rfl, hb2⟩) | (refine And.intro (show Fence.wide.fn 62 from trivial) ?_))
        refine ⟨_, results_tmp2 rfl _ _ _, ?_, ?_⟩
        · have h := HH.out
          unfold dist_Square.f at h
          rw [if_pos (by have := HE.out; omega), if_pos HP.out, if_neg (by rw [HQ.out]; decide)] at h
          simp only [Option.some.injEq, Prod.mk.injEq] at h
          obtain ⟨rfl, rfl⟩ := h
          rfl
        · exact hb1.trans (hb2.mono hb1.size)
      | true =>
        rw [hq] at hR1
        have HQ := Aside0.mk hq
        clear hq
        refine callsIn_of_wp_marks Try.func60 rfl trivial ?_ rfl
        simp only [Try.ntmps60, List.size_toArray, List.length_cons, List.length_nil, Nat.reduceAdd, Nat.reduceSub, Array.replicate_succ, Array.replicate_zero, List.push_toArray, List.append_toArray, List.nil_append, List.cons_append]
        gi_wp2_with (first | (refine ⟨trivial, ?_⟩; gi_at_call 62; (with_reducible refine (hR0 _ ?h0).mono ?_); (case h0 => exact HA.out); rintro e w1 ⟨rfl, hb1⟩) | (refine ⟨trivial, ?_⟩; gi_at_call 62; (with_reducible refine (hR1 _ ?h0).mono ?_); (case h0 => exact Kd.C_below HB.out hb1); rintro e w2 ⟨rfl, hb2⟩) | (refine ⟨trivial, ?_⟩; gi_at_call 74; (with_reducible refine (dist_Square.squares _ _ _ _ _ _ _).mono ?_); rintro e w3 ⟨rfl, rfl⟩))
        have hlen : Aside0 (l1.length = l0.length) := ⟨by have := HE.out; omega⟩
        have hb12 : Below w.heap.size w w2 := hb1.trans (hb2.mono hb1.size)
        have q0 := dist_Square.cell_new w2 (.int .i64 0) 3
        have q1 := dist_Square.cell_new (w2.alloc (.cells #[.int .i64 0] 3)) (.slice A0 l0.length c0) 23
        have q2 := dist_Square.cell_new ((w2.alloc (.cells #[.int .i64 0] 3)).alloc (.cells #[.slice A0 l0.length c0] 23)) (.slice A1 l1.length c1) 23
        simp only [World.size_alloc] at q1 q2
        have hB0 : Below w.heap.size w (((w2.alloc (.cells #[.int .i64 0] 3)).alloc (.cells #[.slice A0 l0.length c0] 23)).alloc (.cells #[.slice A1 l1.length c1] 23)) := ((hb12.alloc hb12.size _).alloc (by have := hb12.size; simp; omega) _).alloc (by have := hb12.size; simp; omega) _
        have HX := Aside0.mk hB0
        refine wpIn_rangeFunc_ownF rfl (by decide) (gf := 78) (lb := #[.pointer (some ⟨w2.heap.size + 1, 0, none⟩), .pointer (some ⟨w2.heap.size + 1 + 1, 0, none⟩)]) rfl trivial (enters_of Try.func78 (by kernel_rfl) rfl)
          (dist_Square.squares_stops (w2.heap.size + 1) (w2.heap.size + 1 + 1) w A0 A1 c0 c1 l0 l1 hlen.out HA.out HB.out _ hB0 (by simp only [World.size_alloc]; omega) (by simp only [World.size_alloc]; omega) (dist_Square.cell_old _ q1.1) q2.1) dist_Square.keep_t (dist_Square.keep_b (by have := hb12.size; simp; omega)) (Below.refl _ _) (fun _ => rfl)
          (fun pre W => (W.cell? ⟨w2.heap.size, 0, none⟩ = some (.int .i64 (pre.getLastD 0)) ∧ W.frozen? ⟨w2.heap.size, 0, none⟩ = false) ∧ Below w.heap.size w W)
          (fun _ _ _ => False)
          (OwnFrom.and (Own.from (fun s A B row hs hg hr => ⟨cell_kept hs.1 hg hr, (frozen_kept hs.1 hg hr).trans hs.2⟩) _) (ownFrom_below (Nat.le_refl _) (by have := hb12.size; simp; omega)))
          (fun _ _ _ _ _ hs _ _ => hs)
          ⟨⟨dist_Square.cell_old _ (dist_Square.cell_old _ q0.1), dist_Square.frozen_old _ (dist_Square.cell_old _ q0.1) (dist_Square.frozen_old _ q0.1 q0.2)⟩, hB0⟩
          (fun x => { tmps := #[.slice A0 l0.length c0, .slice A1 l1.length c1, undef, undef, .int .i64 0, .int .i64 0, .pointer (some ⟨w2.heap.size, 0, none⟩), .int .i64 x, .slice A0 l0.length c0, .int .i64 l0.length, .slice A1 l1.length c1, .int .i64 l1.length, .bool false, .bool false, .slice A0 l0.length c0, .bool true, .bool false, .bool false, .bool false, .slice A1 l1.length c1, .bool true, .bool false, .bool false, .slice A0 l0.length c0, .slice A1 l1.length c1, .func (.func 78) #[] #[.pointer (some ⟨w2.heap.size + 1, 0, none⟩), .pointer (some ⟨w2.heap.size + 1 + 1, 0, none⟩)], .int .i64 x, undef, undef], defers := [] }) ?assign ?body ?done ?stop
        case assign =>
          intro l x W K hK
          gi_wp2
          exact hK
        case body =>
          rintro l pre x W ⟨⟨hc, hf⟩, hB⟩ _
          gi_wp2
          refine ⟨KeepsOthers.setCell _ _ _, ⟨(Below.refl w.heap.size W).setCell (p := ⟨w2.heap.size, 0, none⟩) hb12.size _, fun v hv => ?_⟩, ⟨?_, by rw [World.frozen?_setCell]; exact hf⟩, hB.setCell (p := ⟨w2.heap.size, 0, none⟩) hb12.size _⟩
          · exact (World.cell?_setCell_far W ⟨w2.heap.size, 0, none⟩ ⟨w2.heap.size + 1 + 1, 0, none⟩ _ (by show w2.heap.size ≠ w2.heap.size + 1 + 1; omega)).trans hv
          · rw [show (pre ++ [x]).getLastD 0 = x by simp]
            exact World.cell?_setCell_same' _ _ _ (by rw [hc]; rfl)
        case done =>
          rintro D ys W hD rfl ⟨⟨hc, _⟩, hB⟩ hK
          rw [dist_Square.upto_last] at hc
          gi_wp2
          refine ⟨by simp, .inl ⟨_, _, rfl, run_takeDeferred hK, ?_⟩⟩
          have hz := HX.out.size
          refine ⟨_, results_tmp2 rfl _ _ _, ?_, hB.trans (belowK_b (w := w) (Nat.le_refl _) W D _ _ (by simp at hD; simp at hz; omega) hK rfl rfl)⟩
          have h := HH.out
          unfold dist_Square.f at h
          rw [if_pos (by have := HE.out; omega), if_pos HP.out, if_pos HQ.out] at h
          simp only [Option.some.injEq, Prod.mk.injEq] at h
          obtain ⟨rfl, rfl⟩ := h
          rfl
        case stop =>
          rintro D c pre W _ _ h _
          exact h.elim
  · have b1 : ((l0.length : Int) != (l1.length : Int)) = true := bne_iff_ne.mpr e1
    have b2 : ((l0.length : Int) == (l1.length : Int)) = false := beq_eq_false_iff_ne.mpr e1
    have HE := Aside0.mk e1
    clear e1
    refine callsIn_of_wp_marks Try.func60 rfl trivial ?_ rfl
    simp only [Try.ntmps60, List.size_toArray, List.length_cons, List.length_nil, Nat.reduceAdd, Nat.reduceSub, Array.replicate_succ, Array.replicate_zero, List.push_toArray, List.append_toArray, List.nil_append, List.cons_append]
    gi_wp2_with (first | (refine And.intro (show Fence.wide.fn 62 from trivial) ?_))
    refine ⟨_, results_tmp2 rfl _ _ _, ?_, ?_⟩
    · have h := HH.out
      unfold dist_Square.f at h
      rw [if_neg (by have := HE.out; omega)] at h
      simp only [Option.some.injEq, Prod.mk.injEq] at h
      obtain ⟨rfl, rfl⟩ := h
      rfl
    · exact Below.refl _ _
end


/-! ### dist_Within: function 64 -/
section
open Go.Shelf
attribute [local go_sem] Oper.semAt_some
def dist_Within.f (l0 l1 : List Int) (eps : Int) : Option Bool :=
  if l0.length = l1.length then (if dist_Square.right l0 = true then (if dist_Square.right l1 = true then some (!(dist_Square.upto l0 l1 l0.length).any (fun s => decide (eps < s))) else some false) else some false) else some false
theorem dist_Within.box_below {W W' : World} {n b : Nat} {v : Value} (hb : Below n W W') (h : b < n) (q : W.cell? ⟨b, 0, none⟩ = some v ∧ W.frozen? ⟨b, 0, none⟩ = false) : W'.cell? ⟨b, 0, none⟩ = some v ∧ W'.frozen? ⟨b, 0, none⟩ = false := by
  refine ⟨(hb.cell (p := ⟨b, 0, none⟩) h).trans q.1, ?_⟩
  have e := hb.block b h
  have q2 := q.2
  simp only [World.frozen?] at q2 ⊢
  rw [e]
  exact q2
set_option maxRecDepth 100000 in
set_option maxHeartbeats 4000000 in
theorem dist_Within.calls (A0 : Option Addr) (c0 : Nat) (l0 : List Int) (A1 : Option Addr) (c1 : Nat) (l1 : List Int) (eps : Int) (r : Bool) (w : World) (hr0 : Kd.C (Kd.int .i64) w A0 l0.length l0) (hc0 : l0.length ≤ c0) (hr1 : Kd.C (Kd.int .i64) w A1 l1.length l1) (hc1 : l1.length ≤ c1) (h : dist_Within.f l0 l1 eps = some r) :
    Calls Try.prog 64 #[.slice A0 l0.length c0, .slice A1 l1.length c1, .int .i64 eps] w fun e w' => e = .returned (.bool r) ∧ Below w.heap.size w w' := by
  refine (callsIn_wide (n := 5)).1 ?_
  have HA := Aside0.mk hr0
  have HB := Aside0.mk hr1
  have hR0 := fun W hW => dist_Square.rightc A0 c0 l0 W hW hc0
  have hR1 := fun W hW => dist_Square.rightc A1 c1 l1 W hW hc1
  clear hr0 hr1 hc0 hc1
  have HH := Aside0.mk h
  clear h
  have q0 := dist_Square.cell_new w (.int .i64 eps) 3
  have q1 := dist_Square.cell_new (w.alloc (.cells #[.int .i64 eps] 3)) (.bool false) 4
  rw [World.size_alloc] at q1
  have q0' := dist_Square.cell_old (.cells #[.bool false] 4) q0.1
  have HX0 : Aside0 (Below w.heap.size w ((w.alloc (.cells #[.int .i64 eps] 3)).alloc (.cells #[.bool false] 4))) := ⟨((Below.refl _ w).alloc (Nat.le_refl _) _).alloc (by simp) _⟩
  have HS0 : Aside0 (((w.alloc (.cells #[.int .i64 eps] 3)).alloc (.cells #[.bool false] 4)).heap.size = w.heap.size + 2) := ⟨by simp⟩
  have HQ0 := Aside0.mk q0'
  have HQ1 := Aside0.mk q1
  clear q0 q1 q0'
  by_cases e1 : (l0.length : Int) = (l1.length : Int)
  · have b1 : ((l0.length : Int) != (l1.length : Int)) = false := bne_eq_false_iff_eq.mpr e1
    have b2 : ((l0.length : Int) == (l1.length : Int)) = true := beq_iff_eq.mpr e1
    have HE := Aside0.mk e1
    clear e1
    cases hp : dist_Square.right l0 with
    | false =>
      rw [hp] at hR0
      have HP := Aside0.mk hp
      clear hp
      refine callsIn_of_wp_marks Try.func64 rfl trivial ?_ rfl
      simp only [Try.ntmps64, List.size_toArray, List.length_cons, List.length_nil, Nat.reduceAdd, Nat.reduceSub, Array.replicate_succ, Array.replicate_zero, List.push_toArray, List.append_toArray, List.nil_append, List.cons_append]
      gi_wp2_with (first | (refine ⟨trivial, ?_⟩; gi_at_call 62; (with_reducible refine (hR0 _ ?h0).mono ?_); (case h0 => exact Kd.C_below HA.out HX0.out); rintro e w1 ⟨rfl, hb1⟩; obtain ⟨g1c, g1f⟩ := dist_Within.box_below hb1 (show w.heap.size + 1 < _ by have := HS0.out; omega) HQ1.out; have g1e := (hb1.cell (p := ⟨w.heap.size, 0, none⟩) (show w.heap.size < _ by have := HS0.out; omega)).trans HQ0.out) | (refine And.intro (show Fence.wide.fn 62 from trivial) ?_))
      have hc5 := World.cell?_setCell_same' w1 ⟨w.heap.size + 1, 0, none⟩ (.bool false) (by rw [g1c]; rfl)
      refine ⟨.bool false, ?_, ?_, ?_⟩
      · simp [results, Try.f64, go_sem, hc5]
      · have h := HH.out
        unfold dist_Within.f at h
        rw [if_pos (by have := HE.out; omega), if_neg (by rw [HP.out]; decide)] at h
        obtain rfl := Option.some.inj h
        rfl
      · exact (HX0.out.trans (hb1.mono HX0.out.size)).setCell (p := ⟨w.heap.size + 1, 0, none⟩) (by simp) _
    | true =>
      rw [hp] at hR0
      have HP := Aside0.mk hp
      clear hp
      cases hq : dist_Square.right l1 with
      | false =>
        rw [hq] at hR1
        have HQ := Aside0.mk hq
        clear hq
        refine callsIn_of_wp_marks Try.func64 rfl trivial ?_ rfl
        simp only [Try.ntmps64, List.size_toArray, List.length_cons, List.length_nil, Nat.reduceAdd, Nat.reduceSub, Array.replicate_succ, Array.replicate_zero, List.push_toArray, List.append_toArray, List.nil_append, List.cons_append]
        gi_wp2_with (first | (refine ⟨trivial, ?_⟩; gi_at_call 62; (with_reducible refine (hR0 _ ?h0).mono ?_); (case h0 => exact Kd.C_below HA.out HX0.out); rintro e w1 ⟨rfl, hb1⟩; obtain ⟨g1c, g1f⟩ := dist_Within.box_below hb1 (show w.heap.size + 1 < _ by have := HS0.out; omega) HQ1.out; have g1e := (hb1.cell (p := ⟨w.heap.size, 0, none⟩) (show w.heap.size < _ by have := HS0.out; omega)).trans HQ0.out) | (refine ⟨trivial, ?_⟩; gi_at_call 62; (with_reducible refine (hR1 _ ?h0).mono ?_); (case h0 => exact Kd.C_below HB.out (HX0.out.trans (hb1.mono HX0.out.size))); rintro e w2 ⟨rfl, hb2⟩; obtain ⟨g2c, g2f⟩ := dist_Within.box_below hb2 (show w.heap.size + 1 < _ by have := HS0.out; have := hb1.size; omega) ⟨g1c, g1f⟩; have g2e := (hb2.cell (p := ⟨w.heap.size, 0, none⟩) (show w.heap.size < _ by have := HS0.out; have := hb1.size; omega)).trans g1e) | (refine And.intro (show Fence.wide.fn 62 from trivial) ?_))
        have hc5 := World.cell?_setCell_same' w2 ⟨w.heap.size + 1, 0, none⟩ (.bool false) (by rw [g2c]; rfl)
        refine ⟨.bool false, ?_, ?_, ?_⟩
        · simp [results, Try.f64, go_sem, hc5]
        · have h := HH.out
          unfold dist_Within.f at h
          rw [if_pos (by have := HE.out; omega), if_pos HP.out, if_neg (by rw [HQ.out]; decide)] at h
          obtain rfl := Option.some.inj h
          rfl
        · exact ((HX0.out.trans (hb1.mono HX0.out.size)).trans (hb2.mono (Nat.le_trans HX0.out.size hb1.size))).setCell (p := ⟨w.heap.size + 1, 0, none⟩) (by simp) _
      | true =>
        rw [hq] at hR1
        have HQ := Aside0.mk hq
        clear hq
        refine callsIn_of_wp_marks Try.func64 rfl trivial ?_ rfl
        simp only [Try.ntmps64, List.size_toArray, List.length_cons, List.length_nil, Nat.reduceAdd, Nat.reduceSub, Array.replicate_succ, Array.replicate_zero, List.push_toArray, List.append_toArray, List.nil_append, List.cons_append]
        gi_wp2_with (first | (refine ⟨trivial, ?_⟩; gi_at_call 62; (with_reducible refine (hR0 _ ?h0).mono ?_); (case h0 => exact Kd.C_below HA.out HX0.out); rintro e w1 ⟨rfl, hb1⟩; obtain ⟨g1c, g1f⟩ := dist_Within.box_below hb1 (show w.heap.size + 1 < _ by have := HS0.out; omega) HQ1.out; have g1e := (hb1.cell (p := ⟨w.heap.size, 0, none⟩) (show w.heap.size < _ by have := HS0.out; omega)).trans HQ0.out) | (refine ⟨trivial, ?_⟩; gi_at_call 62; (with_reducible refine (hR1 _ ?h0).mono ?_); (case h0 => exact Kd.C_below HB.out (HX0.out.trans (hb1.mono HX0.out.size))); rintro e w2 ⟨rfl, hb2⟩; obtain ⟨g2c, g2f⟩ := dist_Within.box_below hb2 (show w.heap.size + 1 < _ by have := HS0.out; have := hb1.size; omega) ⟨g1c, g1f⟩; have g2e := (hb2.cell (p := ⟨w.heap.size, 0, none⟩) (show w.heap.size < _ by have := HS0.out; have := hb1.size; omega)).trans g1e) | (refine ⟨trivial, ?_⟩; gi_at_call 74; (with_reducible refine (dist_Square.squares _ _ _ _ _ _ _).mono ?_); rintro e w3 ⟨rfl, rfl⟩))
        have hlen : Aside0 (l1.length = l0.length) := ⟨by have := HE.out; omega⟩
        have hb12 : Below w.heap.size w w2 := (HX0.out.trans (hb1.mono HX0.out.size)).trans (hb2.mono (Nat.le_trans HX0.out.size hb1.size))
        have hz2 : w.heap.size + 2 ≤ w2.heap.size := by have := HS0.out; have := hb1.size; have := hb2.size; omega
        have q1 := dist_Square.cell_new w2 (.slice A0 l0.length c0) 23
        have q2 := dist_Square.cell_new (w2.alloc (.cells #[.slice A0 l0.length c0] 23)) (.slice A1 l1.length c1) 23
        simp only [World.size_alloc] at q2
        have hB0 : Below w.heap.size w ((w2.alloc (.cells #[.slice A0 l0.length c0] 23)).alloc (.cells #[.slice A1 l1.length c1] 23)) := (hb12.alloc hb12.size _).alloc (by have := hb12.size; simp; omega) _
        have HX := Aside0.mk hB0
        have HZ := Aside0.mk hz2
        refine wpIn_rangeFunc_ownF rfl (by decide) (gf := 78) (lb := #[.pointer (some ⟨w2.heap.size, 0, none⟩), .pointer (some ⟨w2.heap.size + 1, 0, none⟩)]) rfl trivial (enters_of Try.func78 (by kernel_rfl) rfl)
          (dist_Square.squares_stops w2.heap.size (w2.heap.size + 1) w A0 A1 c0 c1 l0 l1 hlen.out HA.out HB.out _ hB0 (by simp only [World.size_alloc]; omega) (by simp only [World.size_alloc]; omega) (dist_Square.cell_old _ q1.1) q2.1) dist_Square.keep_t (dist_Square.keep_b (by have := hb12.size; simp; omega)) (Below.refl _ _) (fun _ => rfl)
          (fun pre W => ((∀ y ∈ pre, ¬ eps < y) ∧ W.cell? ⟨w.heap.size, 0, none⟩ = some (.int .i64 eps) ∧ W.cell? ⟨w.heap.size + 1, 0, none⟩ = some (.bool false) ∧ W.frozen? ⟨w.heap.size + 1, 0, none⟩ = false) ∧ Below w.heap.size w W)
          (fun c pre W => (c = .ret ∧ (∃ y ∈ pre, eps < y) ∧ W.cell? ⟨w.heap.size + 1, 0, none⟩ = some (.bool false)) ∧ Below w.heap.size w W)
          (OwnFrom.and (Own.from (fun s A B row hs hg hr => ⟨hs.1, cell_kept hs.2.1 hg hr, cell_kept hs.2.2.1 hg hr, (frozen_kept hs.2.2.1 hg hr).trans hs.2.2.2⟩) _) (ownFrom_below (Nat.le_refl _) (by have := hb12.size; simp; omega)))
          (fun c => OwnFrom.and (Own.from (fun s A B row hs hg hr => ⟨hs.1, hs.2.1, cell_kept hs.2.2 hg hr⟩) _) (ownFrom_below (Nat.le_refl _) (by have := hb12.size; simp; omega)))
          ⟨⟨by simp, dist_Square.cell_old _ (dist_Square.cell_old _ g2e), dist_Square.cell_old _ (dist_Square.cell_old _ g2c), dist_Square.frozen_old _ (dist_Square.cell_old _ g2c) (dist_Square.frozen_old _ g2c g2f)⟩, hB0⟩
          (fun x => { tmps := #[.slice A0 l0.length c0, .slice A1 l1.length c1, .int .i64 eps, undef, undef, .pointer (some ⟨w.heap.size, 0, none⟩), .pointer (some ⟨w.heap.size + 1, 0, none⟩), .int .i64 x, .slice A0 l0.length c0, .int .i64 l0.length, .slice A1 l1.length c1, .int .i64 l1.length, .bool false, .bool false, .slice A0 l0.length c0, .bool true, .bool false, .bool false, .bool false, .slice A1 l1.length c1, .bool true, .bool false, .bool false, .slice A0 l0.length c0, .slice A1 l1.length c1, .func (.func 78) #[] #[.pointer (some ⟨w2.heap.size, 0, none⟩), .pointer (some ⟨w2.heap.size + 1, 0, none⟩)], .int .i64 x, undef, undef, undef], defers := [] }) ?assign ?body ?done ?stop
        case assign =>
          intro l x W K hK
          gi_wp2
          exact hK
        case body =>
          rintro l pre x W ⟨⟨hp, hcw, hcr, hfr⟩, hB⟩ _
          have HPR := Aside0.mk hp
          clear hp
          by_cases hx : eps < x
          · have bx : decide (eps < x) = true := decide_eq_true hx
            have HXX := Aside0.mk hx
            clear hx
            gi_wp2
            exact ⟨KeepsOthers.setCell _ _ _, ⟨rfl, ⟨x, List.mem_append.2 (.inr (by simp)), HXX.out⟩, World.cell?_setCell_same' _ _ _ (by rw [hcr]; rfl)⟩, hB.setCell (p := ⟨w.heap.size + 1, 0, none⟩) (by simp) _⟩
          · have bx : decide (eps < x) = false := decide_eq_false hx
            have HXX := Aside0.mk hx
            clear hx
            gi_wp2
            exact ⟨KeepsOthers.refl _, ⟨Below.refl _ _, fun v hv => hv⟩, ⟨fun y hy => (List.mem_append.1 hy).elim (HPR.out y) (fun e => by simp at e; subst e; exact HXX.out), hcw, hcr, hfr⟩, hB⟩
        case done =>
          rintro D ys W hD rfl ⟨⟨hne, _, hcr, hfr⟩, hB⟩ hK
          have HN := Aside0.mk hne
          clear hne
          gi_wp2
          have hK' := (KeepsOthers.setCell W ⟨w.heap.size + 1, 0, none⟩ (.bool true)).same D _ hK rfl
          refine ⟨by simp, .inl ⟨_, _, rfl, run_takeDeferred hK', ?_⟩⟩
          have hc5 := cell_kept (World.cell?_setCell_same' W ⟨w.heap.size + 1, 0, none⟩ (.bool true) (by rw [hcr]; rfl)) (grownBy_putObj' _ D (.deferred none)) (fun r e => by cases e; exact ⟨_, hK', rfl⟩)
          have hz := HX.out.size
          refine ⟨.bool true, ?_, ?_, (hB.setCell (p := ⟨w.heap.size + 1, 0, none⟩) (by simp) _).trans (belowK_b (w := w) (Nat.le_refl _) _ D _ _ (by simp at hD; simp at hz; omega) hK' rfl rfl)⟩
          · simp [results, Try.f64, go_sem, hc5]
          · have h := HH.out
            unfold dist_Within.f at h
            rw [if_pos (by have := HE.out; omega), if_pos HP.out, if_pos HQ.out] at h
            obtain rfl := Option.some.inj h
            rw [List.any_eq_false.mpr (fun y hy => by simpa using HN.out y hy)]
            rfl
        case stop =>
          rintro D c pre W hD hpre ⟨⟨rfl, hin, hcr⟩, hB⟩ hK
          gi_wp2
          refine ⟨by simp, .inl ⟨_, _, rfl, run_takeDeferred hK, ?_⟩⟩
          have hc5 := cell_kept hcr (grownBy_putObj' _ D (.deferred none)) (fun r e => by cases e; exact ⟨_, hK, rfl⟩)
          have hz := HX.out.size
          refine ⟨.bool false, ?_, ?_, hB.trans (belowK_b (w := w) (Nat.le_refl _) W D _ _ (by simp at hD; simp at hz; omega) hK rfl rfl)⟩
          · simp [results, Try.f64, go_sem, hc5]
          · have h := HH.out
            unfold dist_Within.f at h
            rw [if_pos (by have := HE.out; omega), if_pos HP.out, if_pos HQ.out] at h
            obtain rfl := Option.some.inj h
            obtain ⟨k, hk, rfl⟩ := hpre
            obtain ⟨y, hy, hlt⟩ := hin
            rw [List.any_eq_true.mpr ⟨y, dist_Square.upto_sub hk hy, decide_eq_true hlt⟩]
            rfl
  · have b1 : ((l0.length : Int) != (l1.length : Int)) = true := bne_iff_ne.mpr e1
    have b2 : ((l0.length : Int) == (l1.length : Int)) = false := beq_eq_false_iff_ne.mpr e1
    have HE := Aside0.mk e1
    clear e1
    refine callsIn_of_wp_marks Try.func64 rfl trivial ?_ rfl
    simp only [Try.ntmps64, List.size_toArray, List.length_cons, List.length_nil, Nat.reduceAdd, Nat.reduceSub, Array.replicate_succ, Array.replicate_zero, List.push_toArray, List.append_toArray, List.nil_append, List.cons_append]
    gi_wp2_with (first | (refine And.intro (show Fence.wide.fn 62 from trivial) ?_))
    have hc5 := HQ1.out.1
    refine ⟨.bool false, ?_, ?_, ?_⟩
    · simp [results, Try.f64, go_sem, hc5]
    · have h := HH.out
      unfold dist_Within.f at h
      rw [if_neg (by have := HE.out; omega)] at h
      obtain rfl := Option.some.inj h
      rfl
    · exact HX0.out
end


/-! ### chainmanlaw11_awake: function 59 -/
def chainmanlaw11_awake.f  : Option (Bool) := (dist_Square.f (([1, 2] : List Int)) (([4, 6] : List Int))).bind fun bt107 => ((dist_Square.f (([1] : List Int)) ([] : List Int)).bind fun bt112 => (if bt107.2 = 0 then (if bt107.1 = 25 then (if bt112.2 = 1 then ((dist_Within.f (([1] : List Int)) (([2] : List Int)) 1).bind fun t120 => (if t120 = true then ((dist_Within.f ([] : List Int) ([] : List Int) 1).bind fun t121 => (some (!t121))) else (none))) else (none)) else (none)) else (none)))
set_option maxHeartbeats 8000000 in
set_option maxRecDepth 100000 in
theorem chainmanlaw11_awake.calls  (r : Bool) (w : World) (h : chainmanlaw11_awake.f  = some r) :
    Calls Try.prog 59 #[] w fun e w' => e = .returned (.bool r) ∧ Below w.heap.size w w' := by
  have HB := Aside0.mk (Below.refl w.heap.size w)
  have H : ((dist_Square.f (([1, 2] : List Int)) (([4, 6] : List Int))).bind fun bt107 => ((dist_Square.f (([1] : List Int)) ([] : List Int)).bind fun bt112 => (if bt107.2 = 0 then (if bt107.1 = 25 then (if bt112.2 = 1 then ((dist_Within.f (([1] : List Int)) (([2] : List Int)) 1).bind fun t120 => (if t120 = true then ((dist_Within.f ([] : List Int) ([] : List Int) 1).bind fun t121 => (some (!t121))) else (none))) else (none)) else (none)) else (none)))) = some r := h
  clear h
  obtain ⟨y101, hy101⟩ : ∃ y_ : List Int, y_ = (([1, 2] : List Int)) := ⟨_, rfl⟩
  replace H : ((dist_Square.f y101 (([4, 6] : List Int))).bind fun bt107 => ((dist_Square.f (([1] : List Int)) ([] : List Int)).bind fun bt112 => (if bt107.2 = 0 then (if bt107.1 = 25 then (if bt112.2 = 1 then ((dist_Within.f (([1] : List Int)) (([2] : List Int)) 1).bind fun t120 => (if t120 = true then ((dist_Within.f ([] : List Int) ([] : List Int) 1).bind fun t121 => (some (!t121))) else (none))) else (none)) else (none)) else (none)))) = some r := by first | (rw [hy101]; with_reducible exact H) | (have H2_ := (Option.bind_some _ _).symm.trans H; rw [hy101]; with_reducible exact H2_) | (have H2_ := (Option.bind_some _ _).symm.trans H; with_reducible exact H2_) | with_reducible exact H | (rw [hy101]; exact H) | exact H
  have Ny101 := Aside0.mk hy101
  clear hy101
  obtain ⟨y104, hy104⟩ : ∃ y_ : List Int, y_ = (([4, 6] : List Int)) := ⟨_, rfl⟩
  replace H : ((dist_Square.f y101 y104).bind fun bt107 => ((dist_Square.f (([1] : List Int)) ([] : List Int)).bind fun bt112 => (if bt107.2 = 0 then (if bt107.1 = 25 then (if bt112.2 = 1 then ((dist_Within.f (([1] : List Int)) (([2] : List Int)) 1).bind fun t120 => (if t120 = true then ((dist_Within.f ([] : List Int) ([] : List Int) 1).bind fun t121 => (some (!t121))) else (none))) else (none)) else (none)) else (none)))) = some r := by first | (rw [hy104]; with_reducible exact H) | (have H2_ := (Option.bind_some _ _).symm.trans H; rw [hy104]; with_reducible exact H2_) | (have H2_ := (Option.bind_some _ _).symm.trans H; with_reducible exact H2_) | with_reducible exact H | (rw [hy104]; exact H) | exact H
  have Ny104 := Aside0.mk hy104
  clear hy104
  replace H := Option.bind_eq_some_iff.mp H
  obtain ⟨⟨t107, t108⟩, A10, H⟩ := H
  replace H : ((dist_Square.f (([1] : List Int)) ([] : List Int)).bind fun bt112 => (if t108 = 0 then (if t107 = 25 then (if bt112.2 = 1 then ((dist_Within.f (([1] : List Int)) (([2] : List Int)) 1).bind fun t120 => (if t120 = true then ((dist_Within.f ([] : List Int) ([] : List Int) 1).bind fun t121 => (some (!t121))) else (none))) else (none)) else (none)) else (none))) = some r := H
  have A1 := Aside0.mk A10
  clear A10
  obtain ⟨y109, hy109⟩ : ∃ y_ : List Int, y_ = (([1] : List Int)) := ⟨_, rfl⟩
  replace H : ((dist_Square.f y109 ([] : List Int)).bind fun bt112 => (if t108 = 0 then (if t107 = 25 then (if bt112.2 = 1 then ((dist_Within.f (([1] : List Int)) (([2] : List Int)) 1).bind fun t120 => (if t120 = true then ((dist_Within.f ([] : List Int) ([] : List Int) 1).bind fun t121 => (some (!t121))) else (none))) else (none)) else (none)) else (none))) = some r := by first | (rw [hy109]; with_reducible exact H) | (have H2_ := (Option.bind_some _ _).symm.trans H; rw [hy109]; with_reducible exact H2_) | (have H2_ := (Option.bind_some _ _).symm.trans H; with_reducible exact H2_) | with_reducible exact H | (rw [hy109]; exact H) | exact H
  have Ny109 := Aside0.mk hy109
  clear hy109
  replace H := Option.bind_eq_some_iff.mp H
  obtain ⟨⟨t112, t113⟩, A20, H⟩ := H
  replace H : (if t108 = 0 then (if t107 = 25 then (if t113 = 1 then ((dist_Within.f (([1] : List Int)) (([2] : List Int)) 1).bind fun t120 => (if t120 = true then ((dist_Within.f ([] : List Int) ([] : List Int) 1).bind fun t121 => (some (!t121))) else (none))) else (none)) else (none)) else (none)) = some r := H
  have A2 := Aside0.mk A20
  clear A20
  by_cases c3 : t108 = 0
  · rw [if_pos c3] at H
    have c3b0 : (t108 == 0) = true := beq_iff_eq.mpr c3
    have c3b1 : (t108 != 0) = false := bne_eq_false_iff_eq.mpr c3
    clear c3
    by_cases c4 : t107 = 25
    · rw [if_pos c4] at H
      have c4b0 : (t107 == 25) = true := beq_iff_eq.mpr c4
      have c4b1 : (t107 != 25) = false := bne_eq_false_iff_eq.mpr c4
      clear c4
      by_cases c5 : t113 = 1
      · rw [if_pos c5] at H
        have c5b0 : (t113 == 1) = true := beq_iff_eq.mpr c5
        have c5b1 : (t113 != 1) = false := bne_eq_false_iff_eq.mpr c5
        clear c5
        obtain ⟨y114, hy114⟩ : ∃ y_ : List Int, y_ = (([1] : List Int)) := ⟨_, rfl⟩
        replace H : ((dist_Within.f y114 (([2] : List Int)) 1).bind fun t120 => (if t120 = true then ((dist_Within.f ([] : List Int) ([] : List Int) 1).bind fun t121 => (some (!t121))) else (none))) = some r := by first | (rw [hy114]; with_reducible exact H) | (have H2_ := (Option.bind_some _ _).symm.trans H; rw [hy114]; with_reducible exact H2_) | (have H2_ := (Option.bind_some _ _).symm.trans H; with_reducible exact H2_) | with_reducible exact H | (rw [hy114]; exact H) | exact H
        have Ny114 := Aside0.mk hy114
        clear hy114
        obtain ⟨y117, hy117⟩ : ∃ y_ : List Int, y_ = (([2] : List Int)) := ⟨_, rfl⟩
        replace H : ((dist_Within.f y114 y117 1).bind fun t120 => (if t120 = true then ((dist_Within.f ([] : List Int) ([] : List Int) 1).bind fun t121 => (some (!t121))) else (none))) = some r := by first | (rw [hy117]; with_reducible exact H) | (have H2_ := (Option.bind_some _ _).symm.trans H; rw [hy117]; with_reducible exact H2_) | (have H2_ := (Option.bind_some _ _).symm.trans H; with_reducible exact H2_) | with_reducible exact H | (rw [hy117]; exact H) | exact H
        have Ny117 := Aside0.mk hy117
        clear hy117
        replace H := Option.bind_eq_some_iff.mp H
        obtain ⟨t120, A60, H⟩ := H
        replace H : (if t120 = true then ((dist_Within.f ([] : List Int) ([] : List Int) 1).bind fun t121 => (some (!t121))) else (none)) = some r := H
        have A6 := Aside0.mk A60
        clear A60
        by_cases c7 : t120 = true
        · subst c7
          have H1 : ((dist_Within.f ([] : List Int) ([] : List Int) 1).bind fun t121 => (some (!t121))) = some r := by rw [if_pos rfl] at H; exact H
          clear H
          have H := H1
          clear H1
          replace H := Option.bind_eq_some_iff.mp H
          obtain ⟨t121, A80, H⟩ := H
          replace H : (some (!t121)) = some r := H
          have A8 := Aside0.mk A80
          clear A80
          as_aux_lemma =>
            obtain rfl := Option.some.inj H
            go_enter Try.func59, Try.ntmps59
            go_wp2_with (first | ((with_reducible refine gate_dst (N := 6) rfl ?_); (try (refine gate_guard (by rfl) ?_; dsimp only)); refine Kd.R_lit (Kd.int .i64) _ 3 ?hg (N := 6) ?hd (xs := ([1, 2] : List Int)) (inner := [.int .i64 1, .int .i64 2]) (ok := fun _ => True) (okp := fun _ => True) ?hr ?hp (fun _ hk => hk) trivial (Below.refl _ _) (Nat.le_refl _) (by simp) ?_; (case hd => rfl); (case hg => rfl); (case hr => first | (go_simp; done) | (go_simp; rfl)); (case hp => exact (Reps.one (show Kd.M (Kd.int .i64) _ _ _ 1 [.int .i64 1] from rfl) (Reps.one (show Kd.M (Kd.int .i64) _ _ _ 2 [.int .i64 2] from rfl) (Reps.none _ _)))); intro v102 w9 ho10 hb hg_ hnew_; clear hg_ hnew_; (first | rw [← Ny101.out] at ho10 | (simp only [Int.reduceToNat] at ho10; rw [← Ny101.out] at ho10)); have n0_ := Aside0.mk (Kd.R_lower ho10 (below_size (by repeat (first | (with_reducible first | exact HB.out | apply below_alloc | apply pw_below_drewN | apply below_drew1) | exact HB.out)))); have n1_ := Aside0.mk (below_step (by repeat (first | (with_reducible first | exact HB.out | apply below_alloc | apply pw_below_drewN | apply below_drew1) | exact HB.out)) hb); clear HB; have HO103 := n0_; have HB := n1_; clear n0_ n1_; clear hb ho10) | ((with_reducible refine gate_dst (N := 7) rfl ?_); (try (refine gate_guard (by rfl) ?_; dsimp only)); refine Kd.R_lit (Kd.int .i64) _ 3 ?hg (N := 7) ?hd (xs := ([4, 6] : List Int)) (inner := [.int .i64 4, .int .i64 6]) (ok := fun _ => True) (okp := fun _ => True) ?hr ?hp (fun _ hk => hk) trivial (Below.refl _ _) (Nat.le_refl _) (by simp) ?_; (case hd => rfl); (case hg => rfl); (case hr => first | (go_simp; done) | (go_simp; rfl)); (case hp => exact (Reps.one (show Kd.M (Kd.int .i64) _ _ _ 4 [.int .i64 4] from rfl) (Reps.one (show Kd.M (Kd.int .i64) _ _ _ 6 [.int .i64 6] from rfl) (Reps.none _ _)))); intro v105 w11 ho12 hb hg_ hnew_; clear hg_ hnew_; (first | rw [← Ny104.out] at ho12 | (simp only [Int.reduceToNat] at ho12; rw [← Ny104.out] at ho12)); have n0_ := Aside0.mk (Kd.R_elder' (by (with_reducible repeat (first | apply Kd.R_alloc | apply Kd.R_drewN | apply Kd.R_drew)); exact HO103.out) (Kd.R_base ho12) hb); have n1_ := Aside0.mk (Kd.R_lower (Kd.R_new' ho12 (Kd.R_lt (by (with_reducible repeat (first | apply Kd.R_alloc | apply Kd.R_drewN | apply Kd.R_drew)); exact HO103.out))) (below_size (by repeat (first | (with_reducible first | exact HB.out | apply below_alloc | apply pw_below_drewN | apply below_drew1) | exact HB.out)))); have n2_ := Aside0.mk (below_step (by repeat (first | (with_reducible first | exact HB.out | apply below_alloc | apply pw_below_drewN | apply below_drew1) | exact HB.out)) hb); clear HO103; clear HB; have HO103 := n0_; have HO106 := n1_; have HB := n2_; clear n0_ n1_ n2_; clear hb ho12; obtain ⟨Ao13, co13, eo13⟩ := Kd.R_slice HO103.out; subst eo13; obtain ⟨Ao14, co14, eo14⟩ := Kd.R_slice HO106.out; subst eo14) | ((with_reducible refine gate_callee (f := 60) rfl ?_); refine goesL_ (some 8) rfl rfl Try.func60 (by kernel_rfl) rfl #[.slice Ao13 y101.length co13, .slice Ao14 y104.length co14] rfl (by (try simp only [List.map_toArray, List.map_cons, List.map_nil]); first | done | rfl | (simp only [List.length_drop, List.length_take]; rfl)) ?_; (with_reducible refine (dist_Square.calls _ _ y101 _ _ y104 t107 t108 _ ?side1 ?side2 ?side3 ?side4 A1.out).mono ?_); (case side1 => repeat (first | exact (Kd.R_reads' HO103.out).2.2 | (with_reducible refine Kd.C_alloc ?_ _) | (with_reducible refine Kd.C_drewN ?_ _) | (with_reducible refine Kd.C_drew ?_))); (case side2 => exact (Kd.R_reads' HO103.out).2.1); (case side3 => repeat (first | exact (Kd.R_reads' HO106.out).2.2 | (with_reducible refine Kd.C_alloc ?_ _) | (with_reducible refine Kd.C_drewN ?_ _) | (with_reducible refine Kd.C_drew ?_))); (case side4 => exact (Kd.R_reads' HO106.out).2.1); rintro e w15 ⟨rfl, hb⟩; refine ⟨_, rfl, ?_⟩; have n0_ := Aside0.mk (Kd.R_below (by (with_reducible repeat (first | apply Kd.R_alloc | apply Kd.R_drewN | apply Kd.R_drew)); exact HO103.out) hb); have n1_ := Aside0.mk (Kd.R_below (by (with_reducible repeat (first | apply Kd.R_alloc | apply Kd.R_drewN | apply Kd.R_drew)); exact HO106.out) hb); have n2_ := Aside0.mk (below_step (by repeat (first | (with_reducible first | exact HB.out | apply below_alloc | apply pw_below_drewN | apply below_drew1) | exact HB.out)) hb); clear HO103; clear HO106; clear HB; have HO103 := n0_; have HO106 := n1_; have HB := n2_; clear n0_ n1_ n2_; (try clear hb); (try clear hb2); (try clear hk); (try clear hi)) | ((with_reducible refine gate_dst (N := 12) rfl ?_); (try (refine gate_guard (by rfl) ?_; dsimp only)); refine Kd.R_lit (Kd.int .i64) _ 3 ?hg (N := 12) ?hd (xs := ([1] : List Int)) (inner := [.int .i64 1]) (ok := fun _ => True) (okp := fun _ => True) ?hr ?hp (fun _ hk => hk) trivial (Below.refl _ _) (Nat.le_refl _) (by simp) ?_; (case hd => rfl); (case hg => rfl); (case hr => first | (go_simp; done) | (go_simp; rfl)); (case hp => exact (Reps.one (show Kd.M (Kd.int .i64) _ _ _ 1 [.int .i64 1] from rfl) (Reps.none _ _))); intro v110 w16 ho17 hb hg_ hnew_; clear hg_ hnew_; (first | rw [← Ny109.out] at ho17 | (simp only [Int.reduceToNat] at ho17; rw [← Ny109.out] at ho17)); have n0_ := Aside0.mk (Kd.R_elder' (by (with_reducible repeat (first | apply Kd.R_alloc | apply Kd.R_drewN | apply Kd.R_drew)); exact HO103.out) (Kd.R_base ho17) hb); have n1_ := Aside0.mk (Kd.R_elder' (by (with_reducible repeat (first | apply Kd.R_alloc | apply Kd.R_drewN | apply Kd.R_drew)); exact HO106.out) (Kd.R_base ho17) hb); have n2_ := Aside0.mk (Kd.R_lower (Kd.R_new' (Kd.R_new' ho17 (Kd.R_lt (by (with_reducible repeat (first | apply Kd.R_alloc | apply Kd.R_drewN | apply Kd.R_drew)); exact HO103.out))) (Kd.R_lt (by (with_reducible repeat (first | apply Kd.R_alloc | apply Kd.R_drewN | apply Kd.R_drew)); exact HO106.out))) (below_size (by repeat (first | (with_reducible first | exact HB.out | apply below_alloc | apply pw_below_drewN | apply below_drew1) | exact HB.out)))); have n3_ := Aside0.mk (below_step (by repeat (first | (with_reducible first | exact HB.out | apply below_alloc | apply pw_below_drewN | apply below_drew1) | exact HB.out)) hb); clear HO103; clear HO106; clear HB; have HO103 := n0_; have HO106 := n1_; have HO111 := n2_; have HB := n3_; clear n0_ n1_ n2_ n3_; clear hb ho17; obtain ⟨Ao18, co18, eo18⟩ := Kd.R_slice HO111.out; subst eo18) | ((with_reducible refine gate_callee (f := 60) rfl ?_); refine goesL_ (some 13) rfl rfl Try.func60 (by kernel_rfl) rfl #[.slice Ao18 y109.length co18, .slice none 0 0] rfl (by (try simp only [List.map_toArray, List.map_cons, List.map_nil]); first | done | rfl | (simp only [List.length_drop, List.length_take]; rfl)) ?_; (refine (dist_Square.calls _ _ y109 _ _ ([] : List Int) t112 t113 _ ?side1 ?side2 ?side3 ?side4 A2.out).mono ?_); (case side1 => repeat (first | exact (Kd.R_reads' HO111.out).2.2 | (with_reducible refine Kd.C_alloc ?_ _) | (with_reducible refine Kd.C_drewN ?_ _) | (with_reducible refine Kd.C_drew ?_))); (case side2 => exact (Kd.R_reads' HO111.out).2.1); (case side3 => exact Kd.C_nil _ _); (case side4 => exact Nat.le_refl _); rintro e w19 ⟨rfl, hb⟩; refine ⟨_, rfl, ?_⟩; have n0_ := Aside0.mk (Kd.R_below (by (with_reducible repeat (first | apply Kd.R_alloc | apply Kd.R_drewN | apply Kd.R_drew)); exact HO103.out) hb); have n1_ := Aside0.mk (Kd.R_below (by (with_reducible repeat (first | apply Kd.R_alloc | apply Kd.R_drewN | apply Kd.R_drew)); exact HO106.out) hb); have n2_ := Aside0.mk (Kd.R_below (by (with_reducible repeat (first | apply Kd.R_alloc | apply Kd.R_drewN | apply Kd.R_drew)); exact HO111.out) hb); have n3_ := Aside0.mk (below_step (by repeat (first | (with_reducible first | exact HB.out | apply below_alloc | apply pw_below_drewN | apply below_drew1) | exact HB.out)) hb); clear HO103; clear HO106; clear HO111; clear HB; have HO103 := n0_; have HO106 := n1_; have HO111 := n2_; have HB := n3_; clear n0_ n1_ n2_ n3_; (try clear hb); (try clear hb2); (try clear hk); (try clear hi)) | ((with_reducible refine gate_dst (N := 27) rfl ?_); (try (refine gate_guard (by rfl) ?_; dsimp only)); refine Kd.R_lit (Kd.int .i64) _ 3 ?hg (N := 27) ?hd (xs := ([1] : List Int)) (inner := [.int .i64 1]) (ok := fun _ => True) (okp := fun _ => True) ?hr ?hp (fun _ hk => hk) trivial (Below.refl _ _) (Nat.le_refl _) (by simp) ?_; (case hd => rfl); (case hg => rfl); (case hr => first | (go_simp; done) | (go_simp; rfl)); (case hp => exact (Reps.one (show Kd.M (Kd.int .i64) _ _ _ 1 [.int .i64 1] from rfl) (Reps.none _ _))); intro v115 w20 ho21 hb hg_ hnew_; clear hg_ hnew_; (first | rw [← Ny114.out] at ho21 | (simp only [Int.reduceToNat] at ho21; rw [← Ny114.out] at ho21)); have n0_ := Aside0.mk (Kd.R_elder' (by (with_reducible repeat (first | apply Kd.R_alloc | apply Kd.R_drewN | apply Kd.R_drew)); exact HO103.out) (Kd.R_base ho21) hb); have n1_ := Aside0.mk (Kd.R_elder' (by (with_reducible repeat (first | apply Kd.R_alloc | apply Kd.R_drewN | apply Kd.R_drew)); exact HO106.out) (Kd.R_base ho21) hb); have n2_ := Aside0.mk (Kd.R_elder' (by (with_reducible repeat (first | apply Kd.R_alloc | apply Kd.R_drewN | apply Kd.R_drew)); exact HO111.out) (Kd.R_base ho21) hb); have n3_ := Aside0.mk (Kd.R_lower (Kd.R_new' (Kd.R_new' (Kd.R_new' ho21 (Kd.R_lt (by (with_reducible repeat (first | apply Kd.R_alloc | apply Kd.R_drewN | apply Kd.R_drew)); exact HO103.out))) (Kd.R_lt (by (with_reducible repeat (first | apply Kd.R_alloc | apply Kd.R_drewN | apply Kd.R_drew)); exact HO106.out))) (Kd.R_lt (by (with_reducible repeat (first | apply Kd.R_alloc | apply Kd.R_drewN | apply Kd.R_drew)); exact HO111.out))) (below_size (by repeat (first | (with_reducible first | exact HB.out | apply below_alloc | apply pw_below_drewN | apply below_drew1) | exact HB.out)))); have n4_ := Aside0.mk (below_step (by repeat (first | (with_reducible first | exact HB.out | apply below_alloc | apply pw_below_drewN | apply below_drew1) | exact HB.out)) hb); clear HO103; clear HO106; clear HO111; clear HB; have HO103 := n0_; have HO106 := n1_; have HO111 := n2_; have HO116 := n3_; have HB := n4_; clear n0_ n1_ n2_ n3_ n4_; clear hb ho21) | ((with_reducible refine gate_dst (N := 28) rfl ?_); (try (refine gate_guard (by rfl) ?_; dsimp only)); refine Kd.R_lit (Kd.int .i64) _ 3 ?hg (N := 28) ?hd (xs := ([2] : List Int)) (inner := [.int .i64 2]) (ok := fun _ => True) (okp := fun _ => True) ?hr ?hp (fun _ hk => hk) trivial (Below.refl _ _) (Nat.le_refl _) (by simp) ?_; (case hd => rfl); (case hg => rfl); (case hr => first | (go_simp; done) | (go_simp; rfl)); (case hp => exact (Reps.one (show Kd.M (Kd.int .i64) _ _ _ 2 [.int .i64 2] from rfl) (Reps.none _ _))); intro v118 w22 ho23 hb hg_ hnew_; clear hg_ hnew_; (first | rw [← Ny117.out] at ho23 | (simp only [Int.reduceToNat] at ho23; rw [← Ny117.out] at ho23)); have n0_ := Aside0.mk (Kd.R_elder' (by (with_reducible repeat (first | apply Kd.R_alloc | apply Kd.R_drewN | apply Kd.R_drew)); exact HO103.out) (Kd.R_base ho23) hb); have n1_ := Aside0.mk (Kd.R_elder' (by (with_reducible repeat (first | apply Kd.R_alloc | apply Kd.R_drewN | apply Kd.R_drew)); exact HO106.out) (Kd.R_base ho23) hb); have n2_ := Aside0.mk (Kd.R_elder' (by (with_reducible repeat (first | apply Kd.R_alloc | apply Kd.R_drewN | apply Kd.R_drew)); exact HO111.out) (Kd.R_base ho23) hb); have n3_ := Aside0.mk (Kd.R_elder' (by (with_reducible repeat (first | apply Kd.R_alloc | apply Kd.R_drewN | apply Kd.R_drew)); exact HO116.out) (Kd.R_base ho23) hb); have n4_ := Aside0.mk (Kd.R_lower (Kd.R_new' (Kd.R_new' (Kd.R_new' (Kd.R_new' ho23 (Kd.R_lt (by (with_reducible repeat (first | apply Kd.R_alloc | apply Kd.R_drewN | apply Kd.R_drew)); exact HO103.out))) (Kd.R_lt (by (with_reducible repeat (first | apply Kd.R_alloc | apply Kd.R_drewN | apply Kd.R_drew)); exact HO106.out))) (Kd.R_lt (by (with_reducible repeat (first | apply Kd.R_alloc | apply Kd.R_drewN | apply Kd.R_drew)); exact HO111.out))) (Kd.R_lt (by (with_reducible repeat (first | apply Kd.R_alloc | apply Kd.R_drewN | apply Kd.R_drew)); exact HO116.out))) (below_size (by repeat (first | (with_reducible first | exact HB.out | apply below_alloc | apply pw_below_drewN | apply below_drew1) | exact HB.out)))); have n5_ := Aside0.mk (below_step (by repeat (first | (with_reducible first | exact HB.out | apply below_alloc | apply pw_below_drewN | apply below_drew1) | exact HB.out)) hb); clear HO103; clear HO106; clear HO111; clear HO116; clear HB; have HO103 := n0_; have HO106 := n1_; have HO111 := n2_; have HO116 := n3_; have HO119 := n4_; have HB := n5_; clear n0_ n1_ n2_ n3_ n4_ n5_; clear hb ho23; obtain ⟨Ao24, co24, eo24⟩ := Kd.R_slice HO116.out; subst eo24; obtain ⟨Ao25, co25, eo25⟩ := Kd.R_slice HO119.out; subst eo25) | (go_at_call 64; (with_reducible refine (dist_Within.calls _ _ y114 _ _ y117 1 true _ ?side1 ?side2 ?side3 ?side4 A6.out).mono ?_); (case side1 => repeat (first | exact (Kd.R_reads' HO116.out).2.2 | (with_reducible refine Kd.C_alloc ?_ _) | (with_reducible refine Kd.C_drewN ?_ _) | (with_reducible refine Kd.C_drew ?_))); (case side2 => exact (Kd.R_reads' HO116.out).2.1); (case side3 => repeat (first | exact (Kd.R_reads' HO119.out).2.2 | (with_reducible refine Kd.C_alloc ?_ _) | (with_reducible refine Kd.C_drewN ?_ _) | (with_reducible refine Kd.C_drew ?_))); (case side4 => exact (Kd.R_reads' HO119.out).2.1); rintro e w26 ⟨rfl, hb⟩; have n0_ := Aside0.mk (Kd.R_below (by (with_reducible repeat (first | apply Kd.R_alloc | apply Kd.R_drewN | apply Kd.R_drew)); exact HO103.out) hb); have n1_ := Aside0.mk (Kd.R_below (by (with_reducible repeat (first | apply Kd.R_alloc | apply Kd.R_drewN | apply Kd.R_drew)); exact HO106.out) hb); have n2_ := Aside0.mk (Kd.R_below (by (with_reducible repeat (first | apply Kd.R_alloc | apply Kd.R_drewN | apply Kd.R_drew)); exact HO111.out) hb); have n3_ := Aside0.mk (Kd.R_below (by (with_reducible repeat (first | apply Kd.R_alloc | apply Kd.R_drewN | apply Kd.R_drew)); exact HO116.out) hb); have n4_ := Aside0.mk (Kd.R_below (by (with_reducible repeat (first | apply Kd.R_alloc | apply Kd.R_drewN | apply Kd.R_drew)); exact HO119.out) hb); have n5_ := Aside0.mk (below_step (by repeat (first | (with_reducible first | exact HB.out | apply below_alloc | apply pw_below_drewN | apply below_drew1) | exact HB.out)) hb); clear HO103; clear HO106; clear HO111; clear HO116; clear HO119; clear HB; have HO103 := n0_; have HO106 := n1_; have HO111 := n2_; have HO116 := n3_; have HO119 := n4_; have HB := n5_; clear n0_ n1_ n2_ n3_ n4_ n5_; (try clear hb); (try clear hb2); (try clear hk); (try clear hi)) | (go_at_call 64; refine calls_of_args (args' := #[.slice none ([] : List Int).length 0, .slice none ([] : List Int).length 0, .int .i64 1]) (by rfl) ?_; (with_reducible refine (dist_Within.calls _ _ ([] : List Int) _ _ ([] : List Int) 1 t121 _ ?side1 ?side2 ?side3 ?side4 A8.out).mono ?_); (case side1 => exact Kd.C_nil _ _); (case side2 => exact Nat.le_refl _); (case side3 => exact Kd.C_nil _ _); (case side4 => exact Nat.le_refl _); rintro e w27 ⟨rfl, hb⟩; have n0_ := Aside0.mk (Kd.R_below (by (with_reducible repeat (first | apply Kd.R_alloc | apply Kd.R_drewN | apply Kd.R_drew)); exact HO103.out) hb); have n1_ := Aside0.mk (Kd.R_below (by (with_reducible repeat (first | apply Kd.R_alloc | apply Kd.R_drewN | apply Kd.R_drew)); exact HO106.out) hb); have n2_ := Aside0.mk (Kd.R_below (by (with_reducible repeat (first | apply Kd.R_alloc | apply Kd.R_drewN | apply Kd.R_drew)); exact HO111.out) hb); have n3_ := Aside0.mk (Kd.R_below (by (with_reducible repeat (first | apply Kd.R_alloc | apply Kd.R_drewN | apply Kd.R_drew)); exact HO116.out) hb); have n4_ := Aside0.mk (Kd.R_below (by (with_reducible repeat (first | apply Kd.R_alloc | apply Kd.R_drewN | apply Kd.R_drew)); exact HO119.out) hb); have n5_ := Aside0.mk (below_step (by repeat (first | (with_reducible first | exact HB.out | apply below_alloc | apply pw_below_drewN | apply below_drew1) | exact HB.out)) hb); clear HO103; clear HO106; clear HO111; clear HO116; clear HO119; clear HB; have HO103 := n0_; have HO106 := n1_; have HO111 := n2_; have HO116 := n3_; have HO119 := n4_; have HB := n5_; clear n0_ n1_ n2_ n3_ n4_ n5_; (try clear hb); (try clear hb2); (try clear hk); (try clear hi)))
            go_ret
            exact ⟨by first | rfl | (simp [errW_none, errW_some] <;> rfl) | (simp [*, errW_none, errW_some] <;> rfl), by repeat (first | (with_reducible first | exact HB.out | apply below_alloc | apply pw_below_drewN | apply below_drew1) | exact HB.out)⟩
        · replace c7 := Bool.eq_false_iff.mpr c7
          subst c7
          have H1 : (none) = some r := by rw [if_neg (show ¬ (false = true) by decide)] at H; exact H
          clear H
          have H := H1
          clear H1
          exact absurd H (by simp)
      · rw [if_neg c5] at H
        exact absurd H (by simp)
    · rw [if_neg c4] at H
      exact absurd H (by simp)
  · rw [if_neg c3] at H
    exact absurd H (by simp)

/-! ### chainmanref11_Right: function 63 -/
mutual
def chainmanref11_Right.l0 : Nat → List Int → Int → Option (Bool)
  | 0, _, _ => none
  | k + 1, x0, x3 => if x3 < (x0.length : Int) then (chainmanref11_Right.j1 k x0 x3 (decide (x3 ≤ 4096))) else (chainmanref11_Right.j1 k x0 x3 false)
def chainmanref11_Right.j1 : Nat → List Int → Int → Bool → Option (Bool)
  | 0, _, _, _ => none
  | k + 1, x0, x3, x11 => if x11 = true then (if 0 ≤ x3 then (if x3 < (x0.length : Int) then (if (rd x0 x3) ≤ (-16777216) then (some false) else (if (rd x0 x3) ≥ 16777216 then (some false) else (chainmanref11_Right.l0 k x0 (wrap64 (x3 + 1))))) else (none)) else (none)) else (if (x0.length : Int) ≥ 1 then (some (decide ((x0.length : Int) ≤ 4096))) else (some false))
end
def chainmanref11_Right.f (k : Nat) (l0 : List Int) : Option (Bool) := chainmanref11_Right.l0 k l0 0
theorem chainmanref11_Right.mono_l : ∀ k, (∀ y0 y1, LeO (chainmanref11_Right.l0 k y0 y1) (chainmanref11_Right.l0 (k + 1) y0 y1)) ∧ (∀ y0 y1 y2, LeO (chainmanref11_Right.j1 k y0 y1 y2) (chainmanref11_Right.j1 (k + 1) y0 y1 y2))
  | 0 => ⟨fun _ _ r h => by simp [chainmanref11_Right.l0] at h, fun _ _ _ r h => by simp [chainmanref11_Right.j1] at h⟩
  | k + 1 => by
    obtain ⟨ih0, ih1⟩ := chainmanref11_Right.mono_l k
    refine ⟨?_, ?_⟩
    · intro y0 y1
      unfold chainmanref11_Right.l0
      repeat' first
      | (with_reducible exact ih0 _ _)
      | (with_reducible exact ih1 _ _ _)
      | (with_reducible exact LeO.refl _)
      | (with_reducible exact LeO.none _)
      | (with_reducible refine LeO.ite ?_ ?_)
      | (with_reducible refine LeO.bind ?_ (fun _ => ?_))
      | exact ih0 _ _
      | exact ih1 _ _ _
      | exact LeO.none _
      | refine LeO.ite ?_ ?_
      | refine LeO.bind ?_ (fun _ => ?_)
    · intro y0 y1 y2
      unfold chainmanref11_Right.j1
      repeat' first
      | (with_reducible exact ih0 _ _)
      | (with_reducible exact ih1 _ _ _)
      | (with_reducible exact LeO.refl _)
      | (with_reducible exact LeO.none _)
      | (with_reducible refine LeO.ite ?_ ?_)
      | (with_reducible refine LeO.bind ?_ (fun _ => ?_))
      | exact ih0 _ _
      | exact ih1 _ _ _
      | exact LeO.none _
      | refine LeO.ite ?_ ?_
      | refine LeO.bind ?_ (fun _ => ?_)
theorem chainmanref11_Right.mono : ∀ a0 k, LeO (chainmanref11_Right.f k a0) (chainmanref11_Right.f (k + 1) a0) := by
  intro a0 k
  obtain ⟨ih0, ih1⟩ := chainmanref11_Right.mono_l k
  unfold chainmanref11_Right.f
  repeat' first
      | (with_reducible exact ih0 _ _)
      | (with_reducible exact ih1 _ _ _)
      | (with_reducible exact LeO.refl _)
      | (with_reducible exact LeO.none _)
      | (with_reducible refine LeO.ite ?_ ?_)
      | (with_reducible refine LeO.bind ?_ (fun _ => ?_))
      | exact ih0 _ _
      | exact ih1 _ _ _
      | exact LeO.none _
      | refine LeO.ite ?_ ?_
      | refine LeO.bind ?_ (fun _ => ?_)
set_option maxHeartbeats 8000000 in
set_option maxRecDepth 100000 in
theorem chainmanref11_Right.calls (k : Nat) (A0 : Option Addr) (c0 : Nat) (l0 : List Int) (r : Bool) (w : World) (hr0 : Kd.C (Kd.int .i64) w A0 l0.length l0) (hc0 : l0.length ≤ c0) (h : chainmanref11_Right.f k l0 = some r) :
    Calls Try.prog 63 #[.slice A0 l0.length c0] w fun e w' => e = .returned (.bool r) ∧ Drawn0 w w' := by
  have HR0 := Aside0.mk hr0
  have HC0 := Aside0.mk hc0
  clear hr0 hc0
  have H : (chainmanref11_Right.l0 k l0 0) = some r := h
  clear h
  have H' := Aside0.mk H
  clear H
  go_enter Try.func63, Try.ntmps63
  go_wp2
  go_loopg [3] k (fun kq v3 w' => ∃ (x3_1 : Int), v3 = .int .i64 x3_1 ∧ Aside0 (chainmanref11_Right.l0 kq l0 x3_1 = some r) ∧ Aside0 (kq ≤ k) ∧ Drawn0 w w')
  case atStart => exact ⟨(0), (by first | rfl | (simp; done) | (simp [*]; done)), H', ⟨Nat.le_refl _⟩, by repeat (first | exact Drawn0.refl _ | apply Drawn0.step)⟩
  case round =>
    clear H'
    obtain ⟨x3_1, rfl, HA, HK1, ⟨m1, rfl⟩⟩ := hrel
    cases gk with
    | zero => exact absurd HA.out (by simp [chainmanref11_Right.l0])
    | succ k1 =>
      have H := HA.out
      clear HA
      simp only [chainmanref11_Right.l0] at H
      have HC2 := Aside0.mk H
      clear H
      go_upto_region 2 with (fail)
      go_cut [11] (fun v11 wc => ∃ (kq : Nat) (x11_1 : Bool), v11 = .bool x11_1 ∧ Aside0 (chainmanref11_Right.j1 kq l0 x3_1 x11_1 = some r) ∧ Aside0 (kq ≤ k1) ∧ Drawn0 w wc)
      case first =>
        have H := HC2.out
        clear HC2
        by_cases c3 : x3_1 < (l0.length : Int)
        · rw [if_pos c3] at H
          have c3b0 : decide (x3_1 < (l0.length : Int)) = true := decide_eq_true c3
          clear c3
          (first | rw [c3b0] | (simp only [i64_w, i32_w]; rw [c3b0]) | skip)
          as_aux_lemma =>
            have H' := Aside0.mk H
            clear H
            go_wp2
            go_meet
            case rel => exact ⟨_, (decide (x3_1 ≤ 4096)), (by first | rfl | (simp; done) | (simp [*]; done)), H', ⟨by have := HK1.out; first | omega | exact Nat.le_refl _⟩, by repeat (first | exact Drawn0.refl _ | apply Drawn0.step)⟩
        · rw [if_neg c3] at H
          have c3b0 : decide (x3_1 < (l0.length : Int)) = false := decide_eq_false c3
          clear c3
          (first | rw [c3b0] | (simp only [i64_w, i32_w]; rw [c3b0]) | skip)
          as_aux_lemma =>
            have H' := Aside0.mk H
            clear H
            go_wp2
            go_meet
            case rel => exact ⟨_, (false), (by first | rfl | (simp; done) | (simp [*]; done)), H', ⟨by have := HK1.out; first | omega | exact Nat.le_refl _⟩, by repeat (first | exact Drawn0.refl _ | apply Drawn0.step)⟩
      case rest =>
        clear HC2
        try clear p2
        try clear c3
        try clear c3b0
        obtain ⟨kq, x11_1, rfl, HA, HJ1, ⟨mc1, rfl⟩⟩ := hcut
        cases kq with
        | zero => exact absurd HA.out (by simp [chainmanref11_Right.j1])
        | succ kj1 =>
          have H := HA.out
          clear HA
          simp only [chainmanref11_Right.j1] at H
          by_cases c4 : x11_1 = true
          · subst c4
            have H1 : (if 0 ≤ x3_1 then (if x3_1 < (l0.length : Int) then (if (rd l0 x3_1) ≤ (-16777216) then (some false) else (if (rd l0 x3_1) ≥ 16777216 then (some false) else (chainmanref11_Right.l0 kj1 l0 (wrap64 (x3_1 + 1))))) else (none)) else (none)) = some r := by rw [if_pos rfl] at H; exact H
            clear H
            have H := H1
            clear H1
            by_cases c5 : 0 ≤ x3_1
            · rw [if_pos c5] at H
              have c5b0 : decide (0 ≤ x3_1) = true := decide_eq_true c5
              clear c5
              by_cases c6 : x3_1 < (l0.length : Int)
              · rw [if_pos c6] at H
                have c6b0 : decide (x3_1 < (l0.length : Int)) = true := decide_eq_true c6
                clear c6
                by_cases c7 : (rd l0 x3_1) ≤ (-16777216)
                · rw [if_pos c7] at H
                  have c7b0 : decide ((rd l0 x3_1) ≤ (-16777216)) = true := decide_eq_true c7
                  clear c7
                  as_aux_lemma =>
                    obtain rfl := Option.some.inj H
                    have p122 : 0 ≤ (x3_1 : Int) := of_decide_eq_true (by first | (with_reducible assumption) | assumption)
                    have q122 : x3_1 < (l0.length : Int) := of_decide_eq_true (by first | (with_reducible assumption) | assumption)
                    obtain ⟨ad122, e122, hx122_0⟩ := Kd.at_int HR0.out x3_1 p122 q122
                    cases e122
                    replace p122 := eq_true p122
                    replace q122 := eq_true q122
                    go_wp2
                    go_ret
                    exact ⟨by first | rfl | (simp; done) | (simp [*]; done), by repeat (first | exact Drawn0.refl _ | apply Drawn0.step)⟩
                · rw [if_neg c7] at H
                  have c7b0 : decide ((rd l0 x3_1) ≤ (-16777216)) = false := decide_eq_false c7
                  clear c7
                  by_cases c8 : (rd l0 x3_1) ≥ 16777216
                  · rw [if_pos c8] at H
                    have c8b0 : decide (16777216 ≤ (rd l0 x3_1)) = true := decide_eq_true c8
                    clear c8
                    as_aux_lemma =>
                      obtain rfl := Option.some.inj H
                      have p122 : 0 ≤ (x3_1 : Int) := of_decide_eq_true (by first | (with_reducible assumption) | assumption)
                      have q122 : x3_1 < (l0.length : Int) := of_decide_eq_true (by first | (with_reducible assumption) | assumption)
                      obtain ⟨ad122, e122, hx122_0⟩ := Kd.at_int HR0.out x3_1 p122 q122
                      cases e122
                      replace p122 := eq_true p122
                      replace q122 := eq_true q122
                      have p123 : 0 ≤ (x3_1 : Int) := of_decide_eq_true (by first | (with_reducible assumption) | assumption)
                      have q123 : x3_1 < (l0.length : Int) := of_decide_eq_true (by first | (with_reducible assumption) | assumption)
                      obtain ⟨ad123, e123, hx123_0⟩ := Kd.at_int HR0.out x3_1 p123 q123
                      obtain rfl : ad122 = ad123 := (by injection e123)
                      replace p123 := eq_true p123
                      replace q123 := eq_true q123
                      go_wp2
                      go_ret
                      exact ⟨by first | rfl | (simp; done) | (simp [*]; done), by repeat (first | exact Drawn0.refl _ | apply Drawn0.step)⟩
                  · rw [if_neg c8] at H
                    have c8b0 : decide (16777216 ≤ (rd l0 x3_1)) = false := decide_eq_false c8
                    clear c8
                    as_aux_lemma =>
                      have H' := Aside0.mk H
                      clear H
                      have p122 : 0 ≤ (x3_1 : Int) := of_decide_eq_true (by first | (with_reducible assumption) | assumption)
                      have q122 : x3_1 < (l0.length : Int) := of_decide_eq_true (by first | (with_reducible assumption) | assumption)
                      obtain ⟨ad122, e122, hx122_0⟩ := Kd.at_int HR0.out x3_1 p122 q122
                      cases e122
                      replace p122 := eq_true p122
                      replace q122 := eq_true q122
                      have p123 : 0 ≤ (x3_1 : Int) := of_decide_eq_true (by first | (with_reducible assumption) | assumption)
                      have q123 : x3_1 < (l0.length : Int) := of_decide_eq_true (by first | (with_reducible assumption) | assumption)
                      obtain ⟨ad123, e123, hx123_0⟩ := Kd.at_int HR0.out x3_1 p123 q123
                      obtain rfl : ad122 = ad123 := (by injection e123)
                      replace p123 := eq_true p123
                      replace q123 := eq_true q123
                      go_wp2
                      go_roundg kj1
                      case measure => have := HK1.out; have := HJ1.out; omega
                      case rel => exact ⟨(wrap64 (x3_1 + 1)), (by first | rfl | (simp; done) | (simp [*]; done)), H', ⟨by have := HK1.out; have := HJ1.out; omega⟩, by repeat (first | exact Drawn0.refl _ | apply Drawn0.step)⟩
              · rw [if_neg c6] at H
                exact absurd H (by simp)
            · rw [if_neg c5] at H
              exact absurd H (by simp)
          · replace c4 := Bool.eq_false_iff.mpr c4
            subst c4
            have H1 : (if (l0.length : Int) ≥ 1 then (some (decide ((l0.length : Int) ≤ 4096))) else (some false)) = some r := by rw [if_neg (show ¬ (false = true) by decide)] at H; exact H
            clear H
            have H := H1
            clear H1
            by_cases c9 : (l0.length : Int) ≥ 1
            · rw [if_pos c9] at H
              have c9b0 : decide (1 ≤ (l0.length : Int)) = true := decide_eq_true c9
              have c9b1 : decide (1 ≤ l0.length) = true := decide_eq_true (by omega)
              clear c9
              as_aux_lemma =>
                obtain rfl := Option.some.inj H
                go_wp2
                go_ret
                exact ⟨by first | rfl | (simp; done) | (simp [*]; done), by repeat (first | exact Drawn0.refl _ | apply Drawn0.step)⟩
            · rw [if_neg c9] at H
              have c9b0 : decide (1 ≤ (l0.length : Int)) = false := decide_eq_false c9
              have c9b1 : decide (1 ≤ l0.length) = false := decide_eq_false (by omega)
              clear c9
              as_aux_lemma =>
                obtain rfl := Option.some.inj H
                go_wp2
                go_ret
                exact ⟨by first | rfl | (simp; done) | (simp [*]; done), by repeat (first | exact Drawn0.refl _ | apply Drawn0.step)⟩

end Go.Proofs.Ytpdgjegnbcillaa.PDistGoes
