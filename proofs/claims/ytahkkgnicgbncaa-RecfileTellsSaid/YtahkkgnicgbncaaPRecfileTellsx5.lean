/- The Go functions that the law reaches, as plain Lean functions, and proofs that the calls of the machine come to them, or the row of the law over them, for every input that the row speaks of; written by a program of this session (wip/tool/mkprint.py) out of the translation and of hand-made templates. -/
import Derived.Test.YtahkkgnicgbncaaPRecfileTellsx0
import Derived.Test.YtahkkgnicgbncaaPRecfileTellsx2
import Derived.Test.YtahkkgnicgbncaaPRecfileTellsx3
import Derived.Test.YtahkkgnicgbncaaPRecfileTellsx4
namespace Go.Proofs.Ytahkkgnicgbncaa.PRecfileTells
open Go.RowKit Go.Proofs.YtahkkgnicgbncaaW.PrintWords Go.Proofs.YtahkkgnicgbncaaW.PrintLast Go.Proofs.YtahkkgnicgbncaaW.PrintMore
attribute [local go_sem] max2_int min2_int max_two min_two max_three min_three max_four min_four   -- for this text's walks alone
set_option linter.unusedVariables false
set_option linter.unusedSimpArgs false

/-! ### recfile_Parse: function 13 -/
/-- The blocks from 'at_' on; 'acc' are the records so far, 'full': the last block was full. -/
def recfile_Parse.go (k : Nat) (a0 : Int) (s : ByteArray) : Nat → Nat → List ByteArray → Bool → Option (Option (List ByteArray × Nat))
  | 0, _, _, _ => none
  | n + 1, at_, acc, full => (frame_Get.f k a0 (s.extract at_ s.size)).bind fun q => if q.2.2 = true then
      (if q.1 ≠ [] ∧ 0 < q.2.1 ∧ (at_ : Int) + q.2.1 ≤ (s.size : Int) ∧ acc.length + q.1.length ≤ 1000000 then (if full = true then recfile_Parse.go k a0 s n (at_ + q.2.1.toNat) (acc ++ q.1) (decide (q.1.length = 4)) else some none) else none)
    else some (some (acc, at_))
def recfile_Parse.f (k : Nat) (a0 : Int) (a1 : ByteArray) : Option (List ByteArray × Int × Int × Int) :=
  if a1.size > 1000000000 then none else if a1.size < 11 then some ([], 0, 0, 6) else (recfile_GetHead.f k (a1.extract 0 11)).bind fun h => if h.2 = true ∧ h.1 = a0 then
    (recfile_Parse.go k a0 (a1.extract 11 a1.size) k 0 [] true).bind fun g => match g with
      | none => some ([], 0, 0, 6)
      | some (l, at_) => (frame_GetEnd.f k ((a1.extract 11 a1.size).extract at_ (a1.extract 11 a1.size).size)).bind fun e => if e.2.2 = true then
          (recfile_Sum.f l).bind fun s => if e.1 = s.1 ∧ e.2.1 = s.2 then some (l, e.1, e.2.1, 0) else some ([], 0, 0, 6)
        else some ([], 0, 0, 6)
    else some ([], 0, 0, 6)
theorem recfile_Parse.go_mono (k : Nat) (a0 : Int) (s : ByteArray) : ∀ n at_ acc full, LeO (recfile_Parse.go k a0 s n at_ acc full) (recfile_Parse.go (k + 1) a0 s (n + 1) at_ acc full) := by
  intro n
  induction n with
  | zero => intro at_ acc full r h; simp [recfile_Parse.go] at h
  | succ n ih =>
    intro at_ acc full r h
    rw [recfile_Parse.go] at h ⊢
    obtain ⟨q, hq, h⟩ := Option.bind_eq_some_iff.mp h
    rw [frame_Get.mono _ _ k q hq, Option.bind_some]
    split
    · rename_i c1
      rw [if_pos c1] at h
      split
      · rename_i c2
        rw [if_pos c2] at h
        split
        · rename_i c3; rw [if_pos c3] at h; exact ih _ _ _ _ h
        · rename_i c3; rw [if_neg c3] at h; exact h
      · rename_i c2; rw [if_neg c2] at h; cases h
    · rename_i c1; rw [if_neg c1] at h; exact h
theorem recfile_Parse.mono : ∀ a0 a1 k, LeO (recfile_Parse.f k a0 a1) (recfile_Parse.f (k + 1) a0 a1) := by
  intro a0 a1 k r h
  unfold recfile_Parse.f at h ⊢
  split
  · rename_i c; rw [if_pos c] at h; exact h
  rename_i c0
  rw [if_neg c0] at h
  split
  · rename_i c; rw [if_pos c] at h; exact h
  · rename_i c
    rw [if_neg c] at h
    obtain ⟨q, hq, h⟩ := Option.bind_eq_some_iff.mp h
    rw [recfile_GetHead.mono _ k q hq, Option.bind_some]
    split
    · rename_i c1
      rw [if_pos c1] at h
      obtain ⟨g, hg, h⟩ := Option.bind_eq_some_iff.mp h
      rw [recfile_Parse.go_mono k a0 _ k _ _ _ g hg, Option.bind_some]
      cases g with
      | none => exact h
      | some g =>
        obtain ⟨e, he, h⟩ := Option.bind_eq_some_iff.mp h
        show ((frame_GetEnd.f (k + 1) _).bind _) = _
        rw [frame_GetEnd.mono _ k e he, Option.bind_some]
        exact h
    · rename_i c1; rw [if_neg c1] at h; exact h
/-! ### a range over a function whose rounds are told what they are handed (the iterator is walked with the caller's own invariant) -/
section
open Go.Shelf
theorem recfile_Parse.told_enter {P : Program} {g : Operand} {ps : Array Tmp} {assign body : Code} {Q : Exit → Act → World → Prop} {a : Act} {w : World} {n gf : Nat} {lb : Array Value}
    (hg : a.eval g = .func (.func gf) #[] lb) (eg : ∀ args w, (callFunc gf args).run P w = .ok (.enter gf args) w)
    (h : ∀ (fn : FuncId) (r : Loop) (W1 : World), r = { state := .ready, pending := none, fn := fn, tmps := a.tmps, params := ps, assign := assign, body := body, defers := w.heap.size } →
      W1 = (w.alloc (.deferred (some []))).alloc (.loop r) →
      CallsIn Fence.wide (n - 1) P gf (#[.func (.yield (w.heap.size + 1)) #[] #[]] ++ lb) W1 (rangePost Fence.wide n P (w.heap.size + 1) Q { a with defers := [{ target := .collected w.heap.size, args := #[] }] ++ a.defers })) :
    (Code.rangeFunc g ps assign body).wpIn Fence.wide n P Q a w := by
  refine wpIn_rangeFunc (fun fn _ => ?_)
  obtain ⟨r, hr⟩ : ∃ r : Loop, r = { state := .ready, pending := none, fn := fn, tmps := a.tmps, params := ps, assign := assign, body := body, defers := w.heap.size } := ⟨_, rfl⟩
  obtain ⟨W1, hW⟩ : ∃ W1, W1 = (w.alloc (.deferred (some []))).alloc (.loop r) := ⟨_, rfl⟩
  have hc := h fn r W1 hr hW
  refine ⟨w.heap.size + 1, [{ target := .collected w.heap.size, args := #[] }], W1, { target := .fn (.func gf) lb, args := #[.func (.yield (w.heap.size + 1)) #[] #[]] }, W1, gf, #[.func (.yield (w.heap.size + 1)) #[] #[]] ++ lb, W1, ?en, ?re, ?le, ?inv, ?dp, ?hc⟩
  case en => rw [hW, hr]; exact run_enterLoop_outer _ _ _ _ _
  case hc => exact hc
  case le => intro f' _; exact trivial
  case dp => intro hd; exact absurd hd (by decide)
  case re =>
    simp only [resolve, hg]
    simp [go_sem]
  case inv => simp [invoke, go_sem, eg]
theorem recfile_Parse.told_round {P : Program} {l m : Nat} {r : Loop} {args : Array Value} {W : World} {Go Stop : World → Prop} (hl : W.heap[l]? = some (.loop r)) (hr : r.state = .ready) (hs : args.size = r.params.size) (a₁ : Act)
    (hassign : ∀ K : Act → World → Prop, K a₁ W → r.assign.wpIn (Fence.wide.inRound l) m P (Exit.then K (fun _ _ _ => False)) { tmps := (r.params.zip args).foldl (fun tmps (t, a) => tmps.setIfInBounds t a) r.tmps, defers := [] } W)
    (hbody : ∀ WB, WB = W.putObj l (.loop { r with state := .busy }) → WB.heap[l]? = some (.loop { r with state := .busy }) → r.body.wpIn (Fence.wide.inRound l) m P (fun e _ W3 => W3.heap[l]? = some (.loop { r with state := .busy }) ∧ (match e with
      | .normal => Go (W3.putObj l (.loop { r with state := .ready, pending := none }))
      | .ret => Stop (W3.putObj l (.loop { r with state := .done, pending := some .ret }))
      | .exit i => Stop (W3.putObj l (.loop { r with state := .done, pending := some (.exit i) }))
      | _ => False)) a₁ WB) :
    YieldAt Fence.wide m P l args W (fun e W' => (e = .returned (.bool true) ∧ Go W') ∨ (e = .returned (.bool false) ∧ Stop W')) := by
  refine ⟨r.fn, _, r.assign, r.body, run_yield hl hs, roundIn_of_wpIn trivial (hassign _ ⟨_, run_beginRound hl hr, wpIn_mono (hbody _ rfl (World.putObj_heap_same (Array.getElem?_eq_some_iff.1 hl).1)) ?_⟩)⟩
  rintro e a3 W3 ⟨h3, hp⟩
  cases e with
  | normal => exact ⟨_, _, run_endRound none h3, .inl ⟨rfl, hp⟩⟩
  | ret => exact ⟨_, _, run_endRound (some .ret) h3, .inr ⟨rfl, hp⟩⟩
  | exit i => exact ⟨_, _, run_endRound (some (.exit i)) h3, .inr ⟨rfl, hp⟩⟩
  | goto t => exact hp.elim
  | panic ch => exact hp.elim
  | outgrown => exact hp.elim
/-- Behind the iterator: none of the rounds has left. -/
theorem recfile_Parse.told_done {P : Program} {l n : Nat} {r : Loop} {Q : Exit → Act → World → Prop} {a' : Act} {v : Value} {W : World} (hl : W.heap[l]? = some (.loop r)) (hr : r.state = .ready) (hp : r.pending = none) (h : Q .normal a' (W.putObj l (.loop { r with state := .exhausted }))) :
    rangePost Fence.wide n P l Q a' (.returned v) W :=
  ⟨none, _, (run_endLoop (P := P) hl (by rw [hr]; simp)).trans (by rw [hp]), h⟩
theorem recfile_Parse.told_left {P : Program} {l n : Nat} {r : Loop} {Q : Exit → Act → World → Prop} {a' : Act} {v : Value} {W : World} {c : Code} (hl : W.heap[l]? = some (.loop r)) (hr : r.state = .done) (hp : r.pending = some c) (h : c.wpIn Fence.wide n P Q a' (W.putObj l (.loop { r with state := .exhausted }))) :
    rangePost Fence.wide n P l Q a' (.returned v) W :=
  ⟨some c, _, (run_endLoop (P := P) hl (by rw [hr]; simp)).trans (by rw [hp]), h⟩
end
section
open Go.Shelf
attribute [local go_sem] Oper.semAt_some
set_option maxRecDepth 100000 in
set_option maxHeartbeats 4000000 in
/-- recfile.blocks' iterator, walked with the caller's own invariant: 'J x' between two rounds, 'Done' behind it. -/
theorem recfile_Parse.blocks1 (l B k : Nat) (a0 : Int) (s : ByteArray) (hsz : s.size ≤ 1000000000) (J : Nat → World → Prop) (Done : World → Prop)
    (hget : ∀ x W, J x W → x ≤ s.size ∧ ∃ q n ok, frame_Get.f k a0 (s.extract x s.size) = some (q, n, ok) ∧ (ok = true → 0 < n ∧ (x : Int) + n ≤ (s.size : Int)))
    (hbox : ∀ x W, J x W → W.heap[B]? = some (.cells #[.int .i64 a0] 3) ∧ W.heap[B + 1]? = some (.cells #[.string s] 9))
    (hnone : ∀ x W0 W q n, J x W0 → Below W0.heap.size W0 W → frame_Get.f k a0 (s.extract x s.size) = some (q, n, false) → YieldAt Fence.wide 3 Try.prog l #[.int .i64 x, .slice none 0 0] W fun e W' => (e = .returned (.bool true) ∧ Done W') ∨ (e = .returned (.bool false) ∧ Done W'))
    (hsome : ∀ x W0 W q n v, J x W0 → Below W0.heap.size W0 W → Kd.R Kd.string 9 W W0.heap.size (fun _ => True) v q → frame_Get.f k a0 (s.extract x s.size) = some (q, n, true) → YieldAt Fence.wide 3 Try.prog l #[.int .i64 ((x : Int) + n), v] W fun e W' => (e = .returned (.bool true) ∧ J (x + n.toNat) W') ∨ (e = .returned (.bool false) ∧ Done W'))
    (W : World) (h0 : J 0 W) :
    CallsIn Fence.wide 4 Try.prog 120 #[.func (.yield l) #[] #[], .pointer (some ⟨B, 0, none⟩), .pointer (some ⟨B + 1, 0, none⟩)] W fun e W' => (∃ v, e = .returned v) ∧ Done W' := by
  refine callsIn_of_wp Try.func120 rfl trivial ?_ rfl
  simp only [Try.ntmps120, List.size_toArray, List.length_cons, List.length_nil, Nat.reduceAdd, Nat.reduceSub, Array.replicate_succ, Array.replicate_zero, List.push_toArray, List.append_toArray, List.nil_append, List.cons_append]
  gi_wp2
  gi_loopw [4] (fun i wr => ∃ x : Nat, i = .int .i64 (x : Int) ∧ J x wr) (fun i _ => s.size - (intOf i).toNat)
  case atStart => exact ⟨0, rfl, h0⟩
  case round =>
    obtain ⟨x, rfl, hJ⟩ := hrel
    obtain ⟨hxs, q, n, ok, hq, hn⟩ := hget x wr hJ
    have hb0 : wr.cell? ⟨B, 0, none⟩ = some (.int .i64 a0) := (blk_cell (hbox x wr hJ).1 0).trans rfl
    have hb1 : wr.cell? ⟨B + 1, 0, none⟩ = some (.string s) := (blk_cell (hbox x wr hJ).2 0).trans rfl
    have hxi : (x : Int) ≤ (s.size : Int) := by omega
    have hG := fun W => frame_Get.calls k a0 (s.extract x s.size) q n ok W hq
    have hmx : Try.prog.follows .mixedOrders = true := by kernel_rfl
    gi_wp2
    gi_region_with_o (refine ⟨trivial, ?_⟩; gi_at_call 121; refine (callsIn_wide.2 (hG _)).mono ?_; rintro e w' ⟨v, rfl, hR, hb⟩)
    all_goals
      have hb2 : Below wr.heap.size wr w' := below_step (Below.refl _ wr).drew hb
      cases ok with
      | false =>
        obtain ⟨fn, tmps, assign, body, hy, hRd⟩ := hnone x wr _ q n hJ hb2 hq
        gi_wp2
        refine hRd.mono ?_
        rintro e W3 (⟨rfl, hD⟩ | ⟨rfl, hD⟩)
        · gi_wp2
          refine bodyPost_ret (results_none rfl _ _ _) rfl ?_
          exact ⟨⟨_, rfl⟩, hD⟩
        · gi_wp2
          refine bodyPost_ret (results_none rfl _ _ _) rfl ?_
          exact ⟨⟨_, rfl⟩, hD⟩
      | true =>
        obtain ⟨hn1, hn2⟩ := hn rfl
        have hnm : n ≤ 1000000000 := by omega
        have hxm : (x : Int) ≤ 1000000000 := by omega
        have hxw : IntKind.i64.wrap ((x : Int) + n) = (x : Int) + n := by rw [i64_w]; unfold wrap64; omega
        have hR2 : Kd.R Kd.string 9 w' wr.heap.size (fun _ => True) v q := hR
        obtain ⟨fn, tmps, assign, body, hy, hRd⟩ := hsome x wr w' q n v hJ hb2 hR2 hq
        gi_wp2
        refine hRd.mono ?_
        rintro e W3 (⟨rfl, hJ3⟩ | ⟨rfl, hD⟩)
        · gi_wp2
          go_roundw
          case rel => exact ⟨x + n.toNat, by congr 1; omega, hJ3⟩
          case measure => simp [intOf]; omega
        · gi_wp2
          refine bodyPost_ret (results_none rfl _ _ _) rfl ?_
          exact ⟨⟨_, rfl⟩, hD⟩
theorem recfile_Parse.blocks (a0 : Int) (s : ByteArray) (w : World) :
    Calls Try.prog 66 #[.int .i64 a0, .string s] w fun e w' => e = .returned (.func (.func 120) #[] #[.pointer (some ⟨w.heap.size, 0, none⟩), .pointer (some ⟨w.heap.size + 1, 0, none⟩)]) ∧ w' = (w.alloc (.cells #[.int .i64 a0] 3)).alloc (.cells #[.string s] 9) := by
  go_enter Try.func66, Try.ntmps66
  go_wp2
  go_ret
  exact ⟨by simp, rfl⟩
theorem recfile_Parse.results_sas {fn : Func} {p p' p'' : Tmp} (h : fn.results = #[.cell p 22, .cell p' 29, .cell p'' 30]) (tmps : Array Value) (w : World) (g g' g'' : Nat) (v u : Value) (cs : Array Value) (t : TypeId) (hz : cs.size = 2)
    (hp : tmps.getD p undef = .pointer (some ⟨g, 0, none⟩)) (hc : w.cell? ⟨g, 0, none⟩ = some v) (hp' : tmps.getD p' undef = .pointer (some ⟨g', 0, none⟩)) (hc' : w.heap[g']? = some (.cells cs t (0, 0)))
    (hp'' : tmps.getD p'' undef = .pointer (some ⟨g'', 0, none⟩)) (hc'' : w.cell? ⟨g'', 0, none⟩ = some u) :
    (results fn tmps).run Try.prog w = .ok (.tuple #[v, .agg cs, u]) w := by
  have h1 : tmps[p]?.getD undef = .pointer (some ⟨g, 0, none⟩) := by simpa using hp
  have h2 : tmps[p']?.getD undef = .pointer (some ⟨g', 0, none⟩) := by simpa using hp'
  have h3 : tmps[p'']?.getD undef = .pointer (some ⟨g'', 0, none⟩) := by simpa using hp''
  have hi : (Try.prog.info? 29).map (·.size) = some cs.size := by rw [hz]; kernel_rfl
  have hr := run_loadVar_row w g' t 29 cs (0, 0) _ hc' Try.underlying29 rfl hi
  have hs : ∀ (ty : TypeId) (a : Addr) (x : Value), (∀ w, (isAgg ty).run Try.prog w = .ok false w) → w.cell? a = some x → (loadVar ty a).run Try.prog w = .ok x w := by
    intro ty a x ha hx
    simp [loadVar, ha, hx, go_sem]
  simp [results, h, h1, h2, h3, asAddr, hr, hs _ _ _ Try.isAgg22 hc, hs _ _ _ Try.isAgg30 hc'']
theorem recfile_Parse.st4 {W : World} {g : Nat} {v0 i0 i1 e0 : Value} (q0 : W.heap[g]? = some (.cells #[v0] 22)) (q1 : W.heap[g + 1]? = some (.cells #[i0, i1] 29)) (q2 : W.heap[g + 1 + 1]? = some (.cells #[e0] 30)) (v x y e : Value) :
    ((((W.setCell ⟨g, 0, none⟩ v).setCell ⟨g + 1, 0, none⟩ x).setCell ⟨g + 1, 1, none⟩ y).setCell ⟨g + 1 + 1, 0, none⟩ e).heap[g]? = some (.cells #[v] 22) ∧ ((((W.setCell ⟨g, 0, none⟩ v).setCell ⟨g + 1, 0, none⟩ x).setCell ⟨g + 1, 1, none⟩ y).setCell ⟨g + 1 + 1, 0, none⟩ e).heap[g + 1]? = some (.cells #[x, y] 29) ∧
      ((((W.setCell ⟨g, 0, none⟩ v).setCell ⟨g + 1, 0, none⟩ x).setCell ⟨g + 1, 1, none⟩ y).setCell ⟨g + 1 + 1, 0, none⟩ e).heap[g + 1 + 1]? = some (.cells #[e] 30) := by
  refine ⟨?_, ?_, ?_⟩
  · refine blk_far (blk_far (blk_far (blk_put q0 0 v rfl) ?_ _) ?_ _) ?_ _ <;> simp <;> omega
  · refine blk_far (blk_put (blk_put (blk_far q1 ?_ _) 0 x rfl) 1 y rfl) ?_ _ <;> simp <;> omega
  · refine blk_put (blk_far (blk_far (blk_far q2 ?_ _) ?_ _) ?_ _) 0 e rfl <;> simp <;> omega
theorem recfile_Parse.b4 {w W : World} (h : Below w.heap.size w W) (v x y e : Value) : Below w.heap.size w ((((W.setCell ⟨w.heap.size, 0, none⟩ v).setCell ⟨w.heap.size + 1, 0, none⟩ x).setCell ⟨w.heap.size + 1, 1, none⟩ y).setCell ⟨w.heap.size + 1 + 1, 0, none⟩ e) :=
  below_set (below_set (below_set (below_set h (Nat.le_refl _)) (by omega)) (by omega)) (by omega)
theorem recfile_Parse.run_eql_nil (W : World) (a : Option Addr) (n c : Nat) : (binOp .eql 22 (.slice a n c) (.slice none 0 0)).run Try.prog W = .ok (.bool a.isNone) W := Lib.run_eql_slice_nil W _ _ a n c 0 0 Try.underlying22
def recfile_Parse.neqI (x0 y0 x1 y1 : Int) : Bool := !decide (x0 = y0 ∧ x1 = y1)
theorem recfile_Parse.run_neq_info (W : World) (x0 y0 x1 y1 : Int) : (binOp .neq 29 (.agg #[.int .i64 x0, .int .u32 x1]) (.agg #[.int .i64 y0, .int .u32 y1])).run Try.prog W = .ok (.bool (recfile_Parse.neqI x0 y0 x1 y1)) W := by
  unfold recfile_Parse.neqI
  have hu := Try.underlying29
  by_cases h0 : x0 = y0
  · by_cases h1 : x1 = y1
    · subst h0 h1
      go_simp
    · subst h0
      go_simp
  · go_simp
attribute [local go_sem high] recfile_Parse.run_eql_nil recfile_Parse.run_neq_info
/-- What lies in memory between two rounds: the loop's record at l, the block for deferred calls at D, the three result cells at g, and from b on: what is left, the records so far, whether the last block was full, and the iterator's two boxes. -/
structure recfile_Parse.Mem (w : World) (b : Nat) (a0 : Int) (s : ByteArray) (acc : List ByteArray) (full : Bool) (W : World) : Prop where
  res0 : W.heap[w.heap.size]? = some (.cells #[.slice none 0 0] 22)
  res1 : W.heap[w.heap.size + 1]? = some (.cells #[.int .i64 0, .int .u32 0] 29)
  res2 : W.heap[w.heap.size + 1 + 1]? = some (.cells #[.int .i64 0] 30)
  rest : W.heap[b]? = some (.cells #[.string s] 9)
  recs : ∃ v, W.heap[b + 1]? = some (.cells #[v] 22) ∧ Kd.R Kd.string 9 W w.heap.size (fun k => b + 5 ≤ k) v acc
  last : W.heap[b + 1 + 1]? = some (.cells #[.bool full] 4)
  box0 : W.heap[b + 1 + 1 + 1]? = some (.cells #[.int .i64 a0] 3)
  box1 : W.heap[b + 1 + 1 + 1 + 1]? = some (.cells #[.string s] 9)
  below : Below w.heap.size w W
theorem recfile_Parse.Mem.later {w : World} {b : Nat} {a0 : Int} {s : ByteArray} {acc : List ByteArray} {full : Bool} {W W' : World} (h : recfile_Parse.Mem w b a0 s acc full W) (hb : Below W.heap.size W W') : recfile_Parse.Mem w b a0 s acc full W' :=
  ⟨blk_below h.res0 hb, blk_below h.res1 hb, blk_below h.res2 hb, blk_below h.rest hb, h.recs.elim (fun v hv => ⟨v, blk_below hv.1 hb, Kd.R_below hv.2 hb⟩), blk_below h.last hb, blk_below h.box0 hb, blk_below h.box1 hb, below_step h.below hb⟩
theorem recfile_Parse.R_put {e base l : Nat} {ok : Nat → Prop} {v : Value} {xs : List ByteArray} {W : World} {o : Obj} (h : Kd.R Kd.string e W base ok v xs) (hl : W.heap[l]? = some o) (ho : o.isCells = false) (o' : Obj) : Kd.R Kd.string e (W.putObj l o') base ok v xs :=
  Kd.R_grown2 h rfl (grownBy_putObj' W l o') (fun i e hi => by
    cases e
    obtain ⟨inner, ⟨_, hh⟩, _⟩ := h.2
    rcases hh with ⟨hv0, _⟩ | ⟨g, cap, cur, hv0, _, hg, _⟩
    · rw [hv0] at hi; simp [Value.ownBlock] at hi
    · rw [hv0] at hi; simp [Value.ownBlock] at hi; subst hi; rw [hg] at hl; cases hl; cases ho)
theorem recfile_Parse.Mem.put {w : World} {b l : Nat} {a0 : Int} {s : ByteArray} {acc : List ByteArray} {full : Bool} {W : World} {o : Obj} (h : recfile_Parse.Mem w b a0 s acc full W) (hl : W.heap[l]? = some o) (ho : o.isCells = false) (hwl : w.heap.size ≤ l) (o' : Obj) : recfile_Parse.Mem w b a0 s acc full (W.putObj l o') := by
  have k := recfile_Lay.cells_grown (grownBy_putObj' W l o') (fun r e => by cases e; exact ⟨o, hl, ho⟩)
  have hz := h.below.size
  refine ⟨k _ _ _ _ h.res0, k _ _ _ _ h.res1, k _ _ _ _ h.res2, k _ _ _ _ h.rest, h.recs.elim (fun v hv => ⟨v, k _ _ _ _ hv.1, ?_⟩), k _ _ _ _ h.last, k _ _ _ _ h.box0, k _ _ _ _ h.box1, ?_⟩
  · exact Kd.R_grown2 hv.2 rfl (grownBy_putObj' W l o') (fun i e hi => by
      cases e
      obtain ⟨inner, ⟨_, hh⟩, _⟩ := hv.2.2
      rcases hh with ⟨hv0, _⟩ | ⟨g, cap, cur, hv0, _, hg, _⟩
      · rw [hv0] at hi; simp [Value.ownBlock] at hi
      · rw [hv0] at hi; simp [Value.ownBlock] at hi; subst hi; rw [hg] at hl; cases hl; cases ho)
  · have hlt : l < W.heap.size := (Array.getElem?_eq_some_iff.1 hl).1
    exact h.below.grown (grownBy_putObj' W l o') hz (fun i e => by cases e; exact hwl)
theorem recfile_Parse.far4 {W : World} {g i : Nat} {o : Obj} (h : W.heap[i]? = some o) (h0 : i ≠ g) (h1 : i ≠ g + 1) (h2 : i ≠ g + 1 + 1) (v x y e : Value) : ((((W.setCell ⟨g, 0, none⟩ v).setCell ⟨g + 1, 0, none⟩ x).setCell ⟨g + 1, 1, none⟩ y).setCell ⟨g + 1 + 1, 0, none⟩ e).heap[i]? = some o :=
  (Below.heap_setCell _ _ _ _ h2).trans ((Below.heap_setCell _ _ _ _ h1).trans ((Below.heap_setCell _ _ _ _ h1).trans ((Below.heap_setCell _ _ _ _ h0).trans h)))
/-- What was between the rounds, behind the append of a block's records. -/
theorem recfile_Parse.Mem.add {w : World} {b : Nat} {a0 : Int} {s : ByteArray} {acc q : List ByteArray} {full full' : Bool} {WB w' : World} {v' va : Value} (h : recfile_Parse.Mem w b a0 s acc full WB) (hwb : w.heap.size + 1 + 1 < b) (hz5 : b + 5 ≤ WB.heap.size)
    (hva : WB.heap[b + 1]? = some (.cells #[va] 22)) (hRa : Kd.R Kd.string 9 WB w.heap.size (fun k => b + 5 ≤ k) va acc)
    (ho : w'.ownsRow w.heap.size 9 1 v' (acc.length + q.length) (encs Value.string acc ++ encs Value.string q)) (hg : (WB.setCell ⟨b + 1 + 1, 0, none⟩ (.bool full')).grownBy w' va.ownBlock) (hat : v'.ownBlock = va.ownBlock ∨ v'.ownBlock = some (WB.setCell ⟨b + 1 + 1, 0, none⟩ (.bool full')).heap.size) :
    recfile_Parse.Mem w b a0 s (acc ++ q) full' (w'.setCell ⟨b + 1, 0, none⟩ v') ∧ WB.heap.size ≤ w'.heap.size ∧ ∀ (i : Nat) (o : Obj), WB.heap[i]? = some o → o.isCells = false → (w'.setCell ⟨b + 1, 0, none⟩ v').heap[i]? = some o := by
  obtain ⟨WS, hWS⟩ : ∃ WS, WB.setCell ⟨b + 1 + 1, 0, none⟩ (.bool full') = WS := ⟨_, rfl⟩
  rw [hWS] at hg hat
  have hzS : WS.heap.size = WB.heap.size := by rw [← hWS]; simp [World.setCell]
  have hown := (Kd.own_of_R hRa).2
  have hge : ∀ i, v'.ownBlock = some i → b + 5 ≤ i := by
    intro i he
    rcases hat with e | e
    · exact hRa.1 i (e ▸ he)
    · rw [e] at he; cases he; omega
  have hnot : ∀ (i : Nat) (o : Obj), WB.heap[i]? = some o → (i < b + 5 ∨ o.isCells = false) → some i ≠ va.ownBlock := by
    intro i o hi hc he
    have h5 := hRa.1 i he.symm
    rcases hc with hc | hc
    · omega
    · rcases hown with ⟨hv0, _⟩ | ⟨g, cap, cur, hv0, _, hgc, _⟩
      · rw [hv0] at he; cases he
      · rw [hv0] at he; cases he; rw [hgc] at hi; cases hi; cases hc
  have kS : ∀ (i : Nat) (o : Obj), WB.heap[i]? = some o → i ≠ b + 1 + 1 → (i < b + 5 ∨ o.isCells = false) → w'.heap[i]? = some o := fun i o hi h2 hc =>
    (hg.block i (by rw [hzS]; exact (Array.getElem?_eq_some_iff.1 hi).1) (hnot i o hi hc)).trans (by rw [← hWS]; exact (Below.heap_setCell _ _ _ _ h2).trans hi)
  have kF : ∀ (i : Nat) (o : Obj), WB.heap[i]? = some o → i ≠ b + 1 + 1 → i ≠ b + 1 → (i < b + 5 ∨ o.isCells = false) → (w'.setCell ⟨b + 1, 0, none⟩ v').heap[i]? = some o := fun i o hi h2 h1 hc =>
    (Below.heap_setCell _ _ _ _ h1).trans (kS i o hi h2 hc)
  have hlast : w'.heap[b + 1 + 1]? = some (.cells #[.bool full'] 4) :=
    (hg.block _ (by rw [hzS]; omega) (hnot _ _ h.last (.inl (by omega)))).trans (by rw [← hWS]; exact blk_put h.last 0 _ rfl)
  have hbel : Below w.heap.size w w' := by
    have hb0 : Below w.heap.size w WS := by rw [← hWS]; exact below_set h.below (by omega)
    exact hb0.grown hg hb0.size (fun i he => by have := hRa.1 i he; omega)
  have hne : ∀ (i : Nat) (o : Obj), WB.heap[i]? = some o → o.isCells = false → i ≠ b + 1 + 1 ∧ i ≠ b + 1 := by
    intro i o hi hc
    constructor
    · rintro rfl; rw [h.last] at hi; cases hi; cases hc
    · rintro rfl; rw [hva] at hi; cases hi; cases hc
  refine ⟨⟨kF _ _ h.res0 (by omega) (by omega) (.inl (by omega)), kF _ _ h.res1 (by omega) (by omega) (.inl (by omega)), kF _ _ h.res2 (by omega) (by omega) (.inl (by omega)), kF _ _ h.rest (by omega) (by omega) (.inl (by omega)), ⟨v', blk_put (kS _ _ hva (by omega) (.inl (by omega))) 0 _ rfl, ?_⟩,
    (Below.heap_setCell _ _ _ _ (show b + 1 + 1 ≠ b + 1 by omega)).trans hlast, kF _ _ h.box0 (by omega) (by omega) (.inl (by omega)), kF _ _ h.box1 (by omega) (by omega) (.inl (by omega)), below_set hbel (by omega)⟩, by have := hg.size; omega, fun i o hi hc => kF i o hi (hne i o hi hc).1 (hne i o hi hc).2 (.inr hc)⟩
  have hR : Kd.R Kd.string 9 w' w.heap.size (fun k => b + 5 ≤ k) v' (acc ++ q) := Kd.R_of_own (by rw [List.length_append, encs_append]; exact ho) hge
  exact Kd.R_step hR (fun k hk _ => Below.heap_setCell _ _ _ _ (show k ≠ b + 1 by omega))
theorem recfile_Parse.kept {w : World} {b : Nat} {acc : List ByteArray} {full' : Bool} {WB w' : World} {va : Value} (hva : WB.heap[b + 1]? = some (.cells #[va] 22)) (hRa : Kd.R Kd.string 9 WB w.heap.size (fun k => b + 5 ≤ k) va acc)
    (hg : (WB.setCell ⟨b + 1 + 1, 0, none⟩ (.bool full')).grownBy w' va.ownBlock) : w'.heap[b + 1]? = some (.cells #[va] 22) :=
  (hg.block _ (by rw [show (WB.setCell ⟨b + 1 + 1, 0, none⟩ (.bool full')).heap.size = WB.heap.size by simp [World.setCell]]; exact (Array.getElem?_eq_some_iff.1 hva).1) (fun e => by have := hRa.1 _ e.symm; omega)).trans ((Below.heap_setCell _ _ _ _ (show b + 1 ≠ b + 1 + 1 by omega)).trans hva)
/-- Where nothing panics. -/
def recfile_Parse.np (Q : Exit → Act → World → Prop) : Exit → Act → World → Prop
  | .panic _, _, _ => False
  | e, a, w => Q e a w
theorem recfile_Parse.np_le {Q : Exit → Act → World → Prop} : ∀ e a w, recfile_Parse.np Q e a w → Q e a w := by
  intro e a w h
  cases e <;> first | exact h | exact h.elim
/-- Between two rounds. -/
def recfile_Parse.J (w : World) (b k : Nat) (a0 : Int) (s : ByteArray) (r : Loop) (gres : Option (List ByteArray × Nat)) (x : Nat) (W : World) : Prop :=
  ∃ n acc full, recfile_Parse.go k a0 s n x acc full = some gres ∧ x ≤ s.size ∧ recfile_Parse.Mem w b a0 s acc full W ∧ W.heap[b + 5 + 1]? = some (.loop r) ∧ W.heap[b + 5]? = some (.deferred (some []))
/-- Behind the rounds. -/
def recfile_Parse.Done (w : World) (b : Nat) (a0 : Int) (s : ByteArray) (r : Loop) (gres : Option (List ByteArray × Nat)) (W : World) : Prop :=
  W.heap[b + 5]? = some (.deferred (some [])) ∧ match gres with
    | none => W.heap[b + 5 + 1]? = some (.loop { r with state := .done, pending := some .ret }) ∧ W.heap[w.heap.size]? = some (.cells #[.slice none 0 0] 22) ∧ W.heap[w.heap.size + 1]? = some (.cells #[.int .i64 0, .int .u32 0] 29) ∧ W.heap[w.heap.size + 1 + 1]? = some (.cells #[.int .i64 6] 30) ∧ Below w.heap.size w W
    | some (lst, at_) => W.heap[b + 5 + 1]? = some (.loop { r with state := .done, pending := some (.exit 0) }) ∧ ∃ full s', s' = s.extract at_ s.size ∧ at_ ≤ s.size ∧ W.heap[b]? = some (.cells #[.string s'] 9) ∧ (∃ v, W.heap[b + 1]? = some (.cells #[v] 22) ∧ Kd.R Kd.string 9 W w.heap.size (fun k => b + 5 ≤ k) v lst) ∧
      W.heap[b + 1 + 1]? = some (.cells #[.bool full] 4) ∧ W.heap[w.heap.size]? = some (.cells #[.slice none 0 0] 22) ∧ W.heap[w.heap.size + 1]? = some (.cells #[.int .i64 0, .int .u32 0] 29) ∧ W.heap[w.heap.size + 1 + 1]? = some (.cells #[.int .i64 0] 30) ∧ Below w.heap.size w W
set_option maxRecDepth 100000 in
set_option maxHeartbeats 4000000 in
theorem recfile_Parse.calls (k : Nat) (a0 : Int) (a1 : ByteArray) (r1 : List ByteArray) (r2 : Int) (r3 : Int) (r4 : Int) (w : World) (h : recfile_Parse.f k a0 a1 = some (r1, r2, r3, r4)) :
    Calls Try.prog 13 #[.int .i64 a0, .string a1] w fun e w' => ∃ v0_ : Value, e = .returned (.tuple #[v0_, .agg #[.int .i64 r2, .int .u32 r3], .int .i64 r4]) ∧ Kd.R Kd.string 9 w' w.heap.size (fun _ => True) v0_ r1 ∧ Below w.heap.size w w' := by
  unfold recfile_Parse.f at h
  split at h
  case isTrue => cases h
  case isFalse hbig =>
  obtain ⟨W3, hW3⟩ : ∃ W3, ((w.alloc (.cells #[.slice none 0 0] 22)).alloc (.cells #[.int .i64 0, .int .u32 0] 29)).alloc (.cells #[.int .i64 0] 30) = W3 := ⟨_, rfl⟩
  have q0 : W3.heap[w.heap.size]? = some (.cells #[.slice none 0 0] 22) := by rw [← hW3]; exact blk_alloc (blk_alloc (blk_new _ _) _) _
  have q1 : W3.heap[w.heap.size + 1]? = some (.cells #[.int .i64 0, .int .u32 0] 29) := by rw [← hW3]; refine blk_alloc ?_ _; have := blk_new (w.alloc (.cells #[.slice none 0 0] 22)) (.cells #[.int .i64 0, .int .u32 0] 29); rwa [World.size_alloc] at this
  have q2 : W3.heap[w.heap.size + 1 + 1]? = some (.cells #[.int .i64 0] 30) := by rw [← hW3]; have := blk_new ((w.alloc (.cells #[.slice none 0 0] 22)).alloc (.cells #[.int .i64 0, .int .u32 0] 29)) (.cells #[.int .i64 0] 30); rwa [World.size_alloc, World.size_alloc] at this
  have b3 : Below w.heap.size w W3 := by rw [← hW3]; exact below_alloc (below_alloc (below_alloc (Below.refl _ _) _) _) _
  have z3 : W3.heap.size = w.heap.size + 1 + 1 + 1 := by rw [← hW3]; simp only [World.size_alloc]
  refine (callsIn_wide (n := 5)).1 ?_
  split at h
  case isTrue hlt =>
    obtain ⟨rfl, e2⟩ := Prod.mk.inj (Option.some.inj h)
    obtain ⟨rfl, e3⟩ := Prod.mk.inj e2
    obtain ⟨rfl, rfl⟩ := Prod.mk.inj e3
    clear h e2 e3
    have hd1 : decide ((a1.size : Int) < 11) = true := decide_eq_true (by omega)
    have c0 : W3.cell? ⟨w.heap.size, 0, none⟩ = some (.slice none 0 0) := (blk_cell q0 0).trans rfl
    have f0 := blk_frozen q0 0
    have c1 : W3.cell? ⟨w.heap.size + 1, 0, none⟩ = some (.int .i64 0) := (blk_cell q1 0).trans rfl
    have f1 := blk_frozen q1 0
    have c1b : W3.cell? ⟨w.heap.size + 1, 1, none⟩ = some (.int .u32 0) := (blk_cell q1 1).trans rfl
    have f1b := blk_frozen q1 1
    have c2 : W3.cell? ⟨w.heap.size + 1 + 1, 0, none⟩ = some (.int .i64 0) := (blk_cell q2 0).trans rfl
    have f2 := blk_frozen q2 0
    refine callsIn_of_wp_marks Try.func13 rfl trivial ?_ rfl
    simp only [Try.ntmps13, List.size_toArray, List.length_cons, List.length_nil, Nat.reduceAdd, Nat.reduceSub, Array.replicate_succ, Array.replicate_zero, List.push_toArray, List.append_toArray, List.nil_append, List.cons_append]
    gi_wp2
    obtain ⟨s0, s1, s2⟩ := recfile_Parse.st4 q0 q1 q2 (.slice none 0 0) (.int .i64 0) (.int .u32 0) (.int .i64 6)
    exact ⟨_, recfile_Parse.results_sas rfl _ _ w.heap.size (w.heap.size + 1) (w.heap.size + 1 + 1) _ _ _ _ rfl rfl ((blk_cell s0 0).trans rfl) rfl s1 rfl ((blk_cell s2 0).trans rfl), _, rfl, Kd.R_nil _ _ _ _ _, recfile_Parse.b4 b3 _ _ _ _⟩
  case isFalse hge =>
    obtain ⟨⟨hn, hok⟩, hh, h1⟩ := Option.bind_eq_some_iff.mp h
    clear h
    have hH := fun W => recfile_GetHead.calls k (a1.extract 0 11) hn hok W hh
    clear hh
    have hd1 : decide ((a1.size : Int) < 11) = false := decide_eq_false (by omega)
    have h11 : (11 : Int) ≤ (a1.size : Int) := by omega
    have F := fun (W : World) (hb : Below W3.heap.size W3 W) => And.intro (blk_below q0 hb) (And.intro (blk_below q1 hb) (blk_below q2 hb))
    split at h1
    case isFalse hno =>
      obtain ⟨rfl, e2⟩ := Prod.mk.inj (Option.some.inj h1)
      obtain ⟨rfl, e3⟩ := Prod.mk.inj e2
      obtain ⟨rfl, rfl⟩ := Prod.mk.inj e3
      clear h1 e2 e3
      refine callsIn_of_wp_marks Try.func13 rfl trivial ?_ rfl
      simp only [Try.ntmps13, List.size_toArray, List.length_cons, List.length_nil, Nat.reduceAdd, Nat.reduceSub, Array.replicate_succ, Array.replicate_zero, List.push_toArray, List.append_toArray, List.nil_append, List.cons_append]
      cases hok with
      | false =>
        gi_wp2_with (first | (refine ⟨trivial, ?_⟩; gi_at_call 17; (try rw [hW3]); (refine (callsIn_wide.2 (hH _)).mono ?_); rintro e w1 ⟨rfl, hb1⟩; obtain ⟨k0, k1, k2⟩ := F w1 hb1; have c0 : w1.cell? ⟨w.heap.size, 0, none⟩ = some (.slice none 0 0) := (blk_cell k0 0).trans rfl; have f0 := blk_frozen k0 0; have c1 : w1.cell? ⟨w.heap.size + 1, 0, none⟩ = some (.int .i64 0) := (blk_cell k1 0).trans rfl; have f1 := blk_frozen k1 0; have c1b : w1.cell? ⟨w.heap.size + 1, 1, none⟩ = some (.int .u32 0) := (blk_cell k1 1).trans rfl; have f1b := blk_frozen k1 1; have c2 : w1.cell? ⟨w.heap.size + 1 + 1, 0, none⟩ = some (.int .i64 0) := (blk_cell k2 0).trans rfl; have f2 := blk_frozen k2 0))
        obtain ⟨s0, s1, s2⟩ := recfile_Parse.st4 k0 k1 k2 (.slice none 0 0) (.int .i64 0) (.int .u32 0) (.int .i64 6)
        exact ⟨_, recfile_Parse.results_sas rfl _ _ w.heap.size (w.heap.size + 1) (w.heap.size + 1 + 1) _ _ _ _ rfl rfl ((blk_cell s0 0).trans rfl) rfl s1 rfl ((blk_cell s2 0).trans rfl), _, rfl, Kd.R_nil _ _ _ _ _, recfile_Parse.b4 (below_step b3 hb1) _ _ _ _⟩
      | true =>
        have hne : (hn != a0) = true := by simpa using hno
        gi_wp2_with (first | (refine ⟨trivial, ?_⟩; gi_at_call 17; (try rw [hW3]); (refine (callsIn_wide.2 (hH _)).mono ?_); rintro e w1 ⟨rfl, hb1⟩; obtain ⟨k0, k1, k2⟩ := F w1 hb1; have c0 : w1.cell? ⟨w.heap.size, 0, none⟩ = some (.slice none 0 0) := (blk_cell k0 0).trans rfl; have f0 := blk_frozen k0 0; have c1 : w1.cell? ⟨w.heap.size + 1, 0, none⟩ = some (.int .i64 0) := (blk_cell k1 0).trans rfl; have f1 := blk_frozen k1 0; have c1b : w1.cell? ⟨w.heap.size + 1, 1, none⟩ = some (.int .u32 0) := (blk_cell k1 1).trans rfl; have f1b := blk_frozen k1 1; have c2 : w1.cell? ⟨w.heap.size + 1 + 1, 0, none⟩ = some (.int .i64 0) := (blk_cell k2 0).trans rfl; have f2 := blk_frozen k2 0))
        obtain ⟨s0, s1, s2⟩ := recfile_Parse.st4 k0 k1 k2 (.slice none 0 0) (.int .i64 0) (.int .u32 0) (.int .i64 6)
        exact ⟨_, recfile_Parse.results_sas rfl _ _ w.heap.size (w.heap.size + 1) (w.heap.size + 1 + 1) _ _ _ _ rfl rfl ((blk_cell s0 0).trans rfl) rfl s1 rfl ((blk_cell s2 0).trans rfl), _, rfl, Kd.R_nil _ _ _ _ _, recfile_Parse.b4 (below_step b3 hb1) _ _ _ _⟩
    case isTrue hyes =>
      obtain ⟨e1, e2⟩ := hyes
      dsimp only at e1 e2
      subst e1 e2
      have H1 := Aside0.mk h1
      clear h1
      refine callsIn_of_wp_marks Try.func13 rfl trivial ?_ rfl
      simp only [Try.ntmps13, List.size_toArray, List.length_cons, List.length_nil, Nat.reduceAdd, Nat.reduceSub, Array.replicate_succ, Array.replicate_zero, List.push_toArray, List.append_toArray, List.nil_append, List.cons_append]
      gi_wp2_with (first | (refine ⟨trivial, ?_⟩; gi_at_call 17; (try rw [hW3]); (refine (callsIn_wide.2 (hH _)).mono ?_); rintro e w1 ⟨rfl, hb1⟩; obtain ⟨k0, k1, k2⟩ := F w1 hb1) | (refine ⟨trivial, ?_⟩; gi_at_call 66; (refine (callsIn_wide.2 (recfile_Parse.blocks _ _ _)).mono ?_); rintro e w2 ⟨rfl, hw2⟩))
      clear hw2
      obtain ⟨gres, hg, h2⟩ := Option.bind_eq_some_iff.mp H1.out
      have hsz : (a1.extract 11 a1.size).size ≤ 1000000000 := by rw [ByteArray.size_extract]; omega
      have b1 : Below w.heap.size w w1 := below_step b3 hb1
      generalize hs : a1.extract 11 a1.size = s at hsz hg h2 ⊢
      obtain ⟨W5, hW5⟩ : ∃ W5, ((((w1.alloc (.cells #[.string s] 9)).alloc (.cells #[.slice none 0 0] 22)).alloc (.cells #[.bool true] 4)).alloc (.cells #[.int .i64 hn] 3)).alloc (.cells #[.string s] 9) = W5 := ⟨_, rfl⟩
      have hz5 : W5.heap.size = w1.heap.size + 5 := by rw [← hW5]; simp only [World.size_alloc]
      rw [hW5]
      refine recfile_Parse.told_enter (gf := 120) (lb := #[.pointer (some ⟨w1.heap.size + 1 + 1 + 1, 0, none⟩), .pointer (some ⟨w1.heap.size + 1 + 1 + 1 + 1, 0, none⟩)]) rfl (enters_of Try.func120 (by kernel_rfl) rfl) ?_
      intro fn r W6 hr hW6
      rw [hz5] at hr ⊢
      refine (recfile_Parse.blocks1 (w1.heap.size + 5 + 1) (w1.heap.size + 1 + 1 + 1) k hn s hsz (recfile_Parse.J w w1.heap.size k hn s r gres) (recfile_Parse.Done w w1.heap.size hn s r gres) ?hget ?hbox ?hnone ?hsome W6 ?h0).mono ?tail
      case hget =>
        rintro x W ⟨n, acc, full, hgo, hx, hM, _, _⟩
        refine ⟨hx, ?_⟩
        cases n with
        | zero => simp [recfile_Parse.go] at hgo
        | succ n =>
          rw [recfile_Parse.go] at hgo
          obtain ⟨⟨q, m, ok⟩, hq, h3⟩ := Option.bind_eq_some_iff.mp hgo
          refine ⟨q, m, ok, hq, fun hok => ?_⟩
          subst hok
          rw [if_pos rfl] at h3
          split at h3
          case isFalse => cases h3
          case isTrue hc => exact ⟨hc.2.1, hc.2.2.1⟩
      case hbox =>
        rintro x W ⟨n, acc, full, _, _, hM, _, _⟩
        exact ⟨hM.box0, hM.box1⟩
      case hnone =>
        rintro x W0 W q n ⟨n', acc, full, hgo, hx, hM0, hL0, hD0⟩ hb hq
        have hgr : gres = some (acc, x) := by
          cases n' with
          | zero => simp [recfile_Parse.go] at hgo
          | succ n' =>
            rw [recfile_Parse.go, hq, Option.bind_some, if_neg (by simp)] at hgo
            exact (Option.some.inj hgo).symm
        have hM := hM0.later hb
        have hL := blk_below hL0 hb
        have hD := blk_below hD0 hb
        clear hM0 hL0 hD0
        have c0 : W.cell? ⟨w1.heap.size, 0, none⟩ = some (.string s) := (blk_cell hM.rest 0).trans rfl
        have f0 := blk_frozen hM.rest 0
        subst hr
        refine recfile_Parse.told_round hL rfl rfl ?actN ?hassign ?hbody
        case hassign =>
          intro K hK
          dsimp only
          gi_wp2
          exact hK
        case hbody =>
          intro WB hWB hLB
          have hMB : recfile_Parse.Mem w w1.heap.size hn s acc full WB := by rw [hWB]; exact hM.put hL rfl (by have := b1.size; omega) _
          have c0 : WB.cell? ⟨w1.heap.size, 0, none⟩ = some (.string s) := (blk_cell hMB.rest 0).trans rfl
          have f0 := blk_frozen hMB.rest 0
          have hxi : (x : Int) ≤ (s.size : Int) := by omega
          have hDB : WB.heap[w1.heap.size + 5]? = some (.deferred (some [])) := by rw [hWB]; exact (World.putObj_heap_other (by omega)).trans hD
          have HLB := Aside0.mk hLB
          have HDB := Aside0.mk hDB
          clear hWB hL hD hLB hDB
          dsimp only
          gi_wp2
          have hz := b1.size
          have far : ∀ (i : Nat) (o o2 : Obj), i ≠ w1.heap.size → i ≠ w1.heap.size + 5 + 1 → WB.heap[i]? = some o → ((WB.setCell ⟨w1.heap.size, 0, none⟩ (.string (s.extract x s.size))).putObj (w1.heap.size + 5 + 1) o2).heap[i]? = some o := fun i o o2 h1 h2 h => (World.putObj_heap_other h2).trans ((Below.heap_setCell _ _ _ _ h1).trans h)
          refine ⟨(Below.heap_setCell WB ⟨w1.heap.size, 0, none⟩ _ (w1.heap.size + 5 + 1) (show w1.heap.size + 5 + 1 ≠ w1.heap.size by omega)).trans HLB.out, ?_⟩
          subst hgr
          obtain ⟨v, hv1, hv2⟩ := hMB.recs
          have hlt0 := blk_lt hMB.res0
          have hlg : w.heap.size + 1 + 1 < w1.heap.size := by have := z3; have := hb1.size; omega
          refine ⟨far _ _ _ (by omega) (by omega) HDB.out, World.putObj_heap_same (by rw [show (WB.setCell ⟨w1.heap.size, 0, none⟩ (.string (s.extract x s.size))).heap.size = WB.heap.size by simp [World.setCell]]; exact (Array.getElem?_eq_some_iff.1 HLB.out).1), full, _, rfl, hx, (World.putObj_heap_other (by omega)).trans (blk_put hMB.rest 0 _ rfl), ⟨v, far _ _ _ (by omega) (by omega) hv1, ?_⟩, far _ _ _ (by omega) (by omega) hMB.last, far _ _ _ (by omega) (by omega) hMB.res0, far _ _ _ (by omega) (by omega) hMB.res1, far _ _ _ (by omega) (by omega) hMB.res2, ?_⟩
          · exact recfile_Parse.R_put (Kd.R_step hv2 (fun k ho hlt => Below.heap_setCell _ _ _ _ (show k ≠ w1.heap.size by omega))) ((Below.heap_setCell WB ⟨w1.heap.size, 0, none⟩ _ (w1.heap.size + 5 + 1) (show w1.heap.size + 5 + 1 ≠ w1.heap.size by omega)).trans HLB.out) rfl _
          · have hzB := hMB.below.size
            exact (below_set hMB.below (show w.heap.size ≤ w1.heap.size by omega)).grown (grownBy_putObj' _ _ _) (by simp [World.setCell]; omega) (fun i e => by cases e; omega)
      case hsome =>
        rintro x W0 W q n v ⟨n', acc, full, hgo, hx, hM0, hL0, hD0⟩ hb hR hq
        obtain ⟨m, hc, hgo2⟩ : ∃ m, (q ≠ [] ∧ 0 < n ∧ (x : Int) + n ≤ (s.size : Int) ∧ acc.length + q.length ≤ 1000000) ∧ (if full = true then recfile_Parse.go k hn s m (x + n.toNat) (acc ++ q) (decide (q.length = 4)) else some none) = some gres := by
          cases n' with
          | zero => simp [recfile_Parse.go] at hgo
          | succ m =>
            rw [recfile_Parse.go, hq, Option.bind_some, if_pos rfl] at hgo
            split at hgo
            case isFalse => cases hgo
            case isTrue hc => exact ⟨m, hc, hgo⟩
        have hM := hM0.later hb
        have hL := blk_below hL0 hb
        have hD := blk_below hD0 hb
        have hw0 : W0.heap.size ≤ W.heap.size := hb.size
        have hw0b : w1.heap.size + 5 + 1 < W0.heap.size := (Array.getElem?_eq_some_iff.1 hL0).1
        clear hM0 hL0 hD0
        obtain ⟨g, cp, hv⟩ : ∃ g cp, v = .slice (some ⟨g, 0, none⟩) q.length cp := by
          rcases (Kd.own_of_R hR).2 with ⟨_, h0⟩ | ⟨g, cap, cur, h0, _⟩
          · exact absurd (List.eq_nil_of_length_eq_zero h0) hc.1
          · exact ⟨g, cap, h0⟩
        subst hv
        subst hr
        refine recfile_Parse.told_round hL rfl rfl ?actS ?hassign ?hbody
        case hassign =>
          intro K hK
          dsimp only
          gi_wp2
          exact hK
        case hbody =>
          intro WB hWB hLB
          have hMB : recfile_Parse.Mem w w1.heap.size hn s acc full WB := by rw [hWB]; exact hM.put hL rfl (by have := b1.size; omega) _
          have hRB : Kd.R Kd.string 9 WB W0.heap.size (fun _ => True) (.slice (some ⟨g, 0, none⟩) q.length cp) q := by rw [hWB]; exact recfile_Parse.R_put hR hL rfl _
          have hDB : WB.heap[w1.heap.size + 5]? = some (.deferred (some [])) := by rw [hWB]; exact (World.putObj_heap_other (by omega)).trans hD
          have c2 : WB.cell? ⟨w1.heap.size + 1 + 1, 0, none⟩ = some (.bool full) := (blk_cell hMB.last 0).trans rfl
          have f2 := blk_frozen hMB.last 0
          have HLB := Aside0.mk hLB
          have HDB := Aside0.mk hDB
          clear hWB hL hD hLB hDB
          cases full with
          | false =>
            have hgr : gres = none := by rw [if_neg (by decide)] at hgo2; exact (Option.some.inj hgo2).symm
            have d0 : WB.cell? ⟨w.heap.size, 0, none⟩ = some (.slice none 0 0) := (blk_cell hMB.res0 0).trans rfl
            have e0 := blk_frozen hMB.res0 0
            have d1 : WB.cell? ⟨w.heap.size + 1, 0, none⟩ = some (.int .i64 0) := (blk_cell hMB.res1 0).trans rfl
            have e1 := blk_frozen hMB.res1 0
            have d1b : WB.cell? ⟨w.heap.size + 1, 1, none⟩ = some (.int .u32 0) := (blk_cell hMB.res1 1).trans rfl
            have e1b := blk_frozen hMB.res1 1
            have d2 : WB.cell? ⟨w.heap.size + 1 + 1, 0, none⟩ = some (.int .i64 0) := (blk_cell hMB.res2 0).trans rfl
            have e2 := blk_frozen hMB.res2 0
            dsimp only
            gi_wp2
            have hz := b1.size
            have hlt0 := blk_lt hMB.res0
            have hlg : w.heap.size + 1 + 1 < w1.heap.size := by have := z3; have := hb1.size; omega
            subst hgr
            obtain ⟨s0, s1, s2⟩ := recfile_Parse.st4 hMB.res0 hMB.res1 hMB.res2 (.slice none 0 0) (.int .i64 0) (.int .u32 0) (.int .i64 6)
            have hL4 := recfile_Parse.far4 HLB.out (show w1.heap.size + 5 + 1 ≠ w.heap.size by omega) (by omega) (by omega) (.slice none 0 0) (.int .i64 0) (.int .u32 0) (.int .i64 6)
            have hD4 := recfile_Parse.far4 HDB.out (show w1.heap.size + 5 ≠ w.heap.size by omega) (by omega) (by omega) (.slice none 0 0) (.int .i64 0) (.int .u32 0) (.int .i64 6)
            have b4 := recfile_Parse.b4 hMB.below (.slice none 0 0) (.int .i64 0) (.int .u32 0) (.int .i64 6)
            refine ⟨hL4, (World.putObj_heap_other (by omega)).trans hD4, World.putObj_heap_same (Array.getElem?_eq_some_iff.1 hL4).1, (World.putObj_heap_other (by omega)).trans s0, (World.putObj_heap_other (by omega)).trans s1, (World.putObj_heap_other (by omega)).trans s2, ?_⟩
            exact b4.grown (grownBy_putObj' _ _ _) b4.size (fun i e => by cases e; omega)
          | true =>
            rw [if_pos rfl] at hgo2
            obtain ⟨va, hva, hRa⟩ := hMB.recs
            have d0 : WB.cell? ⟨w1.heap.size + 1, 0, none⟩ = some va := (blk_cell hva 0).trans rfl
            have e0 := blk_frozen hva 0
            obtain ⟨full', hf'⟩ : ∃ f', decide (q.length = 4) = f' := ⟨_, rfl⟩
            have hfb : ((q.length : Int) == 4) = full' := by rw [← hf', Bool.eq_iff_iff]; simp; omega
            rw [hf'] at hgo2
            have hqo := ownsRow_setCell_below (Kd.own_of_R hRB) (a := ⟨w1.heap.size + 1 + 1, 0, none⟩) (show w1.heap.size + 1 + 1 < W0.heap.size by omega) (.bool full')
            have hao := Kd.own_of_R (Kd.R_step (w1 := WB.setCell ⟨w1.heap.size + 1 + 1, 0, none⟩ (.bool full')) hRa (fun k hk _ => Below.heap_setCell _ _ _ _ (show k ≠ w1.heap.size + 1 + 1 by omega)))
            obtain ⟨ti, hti, him⟩ := Option.map_eq_some_iff.mp info9
            have hi1 : ti.zero = some (.string ⟨#[]⟩) := congrArg (fun p => p.1) him
            have hi2 : ti.size = 1 := congrArg (fun p => p.2.1) him
            have hi3 : ti.bytes = 16 := congrArg (fun p => p.2.2) him
            have hql : (encs Value.string q).length = q.length * 1 := by rw [encs_length, Nat.mul_one]
            have hnews : ∀ (j : Nat) (u : Value), (encs Value.string q)[j]? = some u → (WB.setCell ⟨w1.heap.size + 1 + 1, 0, none⟩ (.bool full')).cell? (Addr.add ⟨g, 0, none⟩ j) = some u := fun j u hu => by
              have hj : j < (encs Value.string q).length := (List.getElem?_eq_some_iff.mp hu).1
              have := hqo.cellAt j (by rw [← hql]; exact hj)
              rw [hu] at this
              rw [show Addr.add ⟨g, 0, none⟩ j = ⟨g, j, none⟩ by simp [Addr.add]; rintro rfl; rfl]
              exact this
            have hone : ∀ u ∈ encs Value.string q, u.oneCell' = true := by intro u hu; obtain ⟨z, _, rfl⟩ := List.mem_map.mp hu; rfl
            have HQ := Aside0.mk (And.intro hqo (And.intro hao (And.intro hti (And.intro hi1 (And.intro hi2 (And.intro hi3 (And.intro hql (And.intro hnews hone))))))))
            have hsm : acc.length + q.length ≤ 1000000 := hc.2.2.2
            have hmax : acc.length + q.length ≤ maxLen := Nat.le_trans hsm (by decide)
            have hpos : acc.length + q.length ≠ 0 := by have := List.length_pos_iff.mpr hc.1; omega
            clear hqo hao hti hi1 hi2 hi3 hql hnews hone him hf'
            dsimp only
            gi_wp2_with (gi_at_builtin; refine wpListIn_append_own_at _ rfl (.tmp 52) (.tmp 53) _ rfl w.heap.size 9 ti (.string ⟨#[]⟩) 1 16 Try.underlying22 HQ.out.2.2.1 HQ.out.2.2.2.1 HQ.out.2.2.2.2.1 HQ.out.2.2.2.2.2.1 rfl (by decide) va acc.length (encs Value.string acc) rfl HQ.out.2.1 ⟨g, 0, none⟩ q.length cp (encs Value.string q) rfl HQ.out.2.2.2.2.2.2.1 HQ.out.2.2.2.2.2.2.2.1 HQ.out.2.2.2.2.2.2.2.2 hmax (by omega) (by have := hMB.below.size; simp [World.setCell]; omega) ?_; intro v' w' ho hg hni hat; obtain ⟨g2, cp2, hv2⟩ : ∃ g2 cp2, v' = .slice (some ⟨g2, 0, none⟩) (acc.length + q.length) cp2 := (ho.2.elim (fun h => absurd h.2 hpos) (fun h => h.elim fun g2 h => h.elim fun cp2 h => h.elim fun _ h => ⟨g2, cp2, h.1⟩)); subst hv2; have kq := recfile_Parse.kept hva hRa hg; have d3 : w'.cell? ⟨w1.heap.size + 1, 0, none⟩ = some va := (blk_cell kq 0).trans rfl; have e3 := blk_frozen kq 0; have HG := Aside0.mk (And.intro ho (And.intro hg hat)); clear ho hg hni hat)
            have hz := b1.size
            have hlt0 := blk_lt hMB.res0
            have hlg : w.heap.size + 1 + 1 < w1.heap.size := by have := z3; have := hb1.size; omega
            obtain ⟨hM3, hgr, hfar⟩ := hMB.add hlg (by have := blk_lt hMB.box1; omega) hva hRa HG.out.1 HG.out.2.1 HG.out.2.2
            have hL3 := hfar _ _ HLB.out rfl
            have hD3 := hfar _ _ HDB.out rfl
            refine ⟨hL3, m, acc ++ q, full', hgo2, by omega, hM3.put hL3 rfl (by omega) _, World.putObj_heap_same (Array.getElem?_eq_some_iff.1 hL3).1, (World.putObj_heap_other (by omega)).trans hD3⟩
      case h0 =>
        have hD : W6.heap[w1.heap.size + 5]? = some (.deferred (some [])) := by rw [hW6, ← hz5]; exact (Below.heap_alloc _ _ _ (by simp)).trans (World.alloc_heap_new _ _)
        have hL : W6.heap[w1.heap.size + 5 + 1]? = some (.loop r) := by rw [hW6, ← hz5]; have := World.alloc_heap_new (W5.alloc (.deferred (some []))) (.loop r); rwa [World.size_alloc] at this
        have c15 : ∀ (i : Nat) (o : Obj), w1.heap[i]? = some o → W5.heap[i]? = some o := by intro i o hi; rw [← hW5]; exact blk_alloc (blk_alloc (blk_alloc (blk_alloc (blk_alloc hi _) _) _) _) _
        have c56 : ∀ (i : Nat) (o : Obj), W5.heap[i]? = some o → W6.heap[i]? = some o := by intro i o hi; rw [hW6]; exact blk_alloc (blk_alloc hi _) _
        have m0 : W5.heap[w1.heap.size]? = some (.cells #[.string s] 9) := by rw [← hW5]; exact blk_alloc (blk_alloc (blk_alloc (blk_alloc (blk_new _ _) _) _) _) _
        have nx : ∀ (A : World) (i : Nat) (o : Obj), A.heap.size = i → (A.alloc o).heap[i]? = some o := by intro A i o hi; rw [← hi]; exact blk_new _ _
        have m1 : W5.heap[w1.heap.size + 1]? = some (.cells #[.slice none 0 0] 22) := by rw [← hW5]; exact blk_alloc (blk_alloc (blk_alloc (nx _ _ _ (by simp only [World.size_alloc])) _) _) _
        have m2 : W5.heap[w1.heap.size + 1 + 1]? = some (.cells #[.bool true] 4) := by rw [← hW5]; exact blk_alloc (blk_alloc (nx _ _ _ (by simp only [World.size_alloc])) _) _
        have m3 : W5.heap[w1.heap.size + 1 + 1 + 1]? = some (.cells #[.int .i64 hn] 3) := by rw [← hW5]; exact blk_alloc (nx _ _ _ (by simp only [World.size_alloc])) _
        have m4 : W5.heap[w1.heap.size + 1 + 1 + 1 + 1]? = some (.cells #[.string s] 9) := by rw [← hW5]; exact nx _ _ _ (by simp only [World.size_alloc])
        have b6 : Below w.heap.size w W6 := by rw [hW6, ← hW5]; repeat (first | exact b1 | refine below_alloc ?_ _)
        exact ⟨k, [], true, hg, Nat.zero_le _, ⟨c56 _ _ (c15 _ _ k0), c56 _ _ (c15 _ _ k1), c56 _ _ (c15 _ _ k2), c56 _ _ m0, ⟨_, c56 _ _ m1, Kd.R_nil _ _ _ _ _⟩, c56 _ _ m2, c56 _ _ m3, c56 _ _ m4, b6⟩, hL, hD⟩
      case tail =>
        rintro e WE ⟨⟨v, rfl⟩, hDD, hDr⟩
        have hz := b1.size
        have hlg : w.heap.size + 1 + 1 < w1.heap.size := by have := z3; have := hb1.size; omega
        cases gres with
        | none =>
          obtain ⟨hL, s0, s1, s2, hbE⟩ := hDr
          obtain ⟨r1e, e2⟩ := Prod.mk.inj (Option.some.inj h2)
          obtain ⟨r2e, e3⟩ := Prod.mk.inj e2
          obtain ⟨r3e, r4e⟩ := Prod.mk.inj e3
          subst hr r1e r2e r3e r4e
          clear h2 e2 e3
          refine recfile_Parse.told_left hL rfl rfl ?_
          have hsz := hbE.size
          have hlE := (Array.getElem?_eq_some_iff.1 hL).1
          generalize hWX : World.putObj WE _ _ = WX
          have kx : ∀ (i : Nat) (o : Obj), i ≠ w1.heap.size + 5 + 1 → WE.heap[i]? = some o → WX.heap[i]? = some o := fun i o hi h => by rw [← hWX]; exact (World.putObj_heap_other hi).trans h
          have hbX : Below w.heap.size w WX := by rw [← hWX]; exact hbE.grown (grownBy_putObj' _ _ _) hbE.size (fun i e => by cases e; omega)
          have hK := kx _ _ (show w1.heap.size + 5 ≠ w1.heap.size + 5 + 1 by omega) hDD
          have t0 := kx _ _ (by omega) s0
          have t1 := kx _ _ (by omega) s1
          have t2 := kx _ _ (by omega) s2
          clear hWX kx
          gi_wp2
          refine ⟨by simp, .inl ⟨_, _, rfl, run_takeDeferred hK, ?_⟩⟩
          refine ⟨_, recfile_Parse.results_sas rfl _ _ w.heap.size (w.heap.size + 1) (w.heap.size + 1 + 1) _ _ _ _ rfl rfl ((blk_cell ((World.putObj_heap_other (by omega)).trans t0) 0).trans rfl) rfl ((World.putObj_heap_other (by omega)).trans t1) rfl ((blk_cell ((World.putObj_heap_other (by omega)).trans t2) 0).trans rfl), _, rfl, Kd.R_nil _ _ _ _ _, hbX.trans (belowK_b (w := w) (by omega) WX (w1.heap.size + 5) _ _ (by omega) hK rfl rfl)⟩
        | some gp =>
          obtain ⟨lst, at_⟩ := gp
          obtain ⟨hL, full, s', hs', hat, hrest, ⟨va, hva, hRa⟩, hlast, s0, s1, s2, hbE⟩ := hDr
          obtain ⟨⟨gn, gc, gok⟩, he, h3⟩ := Option.bind_eq_some_iff.mp h2
          subst hr
          refine recfile_Parse.told_left hL rfl rfl ?_
          have hlE := (Array.getElem?_eq_some_iff.1 hL).1
          generalize hWX : World.putObj WE _ _ = WX
          have kx : ∀ (i : Nat) (o : Obj), i ≠ w1.heap.size + 5 + 1 → WE.heap[i]? = some o → WX.heap[i]? = some o := fun i o hi h => by rw [← hWX]; exact (World.putObj_heap_other hi).trans h
          have hzX : WX.heap.size = WE.heap.size := by rw [← hWX]; simp [World.putObj]
          have hbX : Below w.heap.size w WX := by rw [← hWX]; exact hbE.grown (grownBy_putObj' _ _ _) hbE.size (fun i e => by cases e; omega)
          have hRX : Kd.R Kd.string 9 WX w.heap.size (fun k => w1.heap.size + 5 ≤ k) va lst := by rw [← hWX]; exact recfile_Parse.R_put hRa hL rfl _
          have hK := kx _ _ (show w1.heap.size + 5 ≠ w1.heap.size + 5 + 1 by omega) hDD
          have t0 := kx _ _ (by omega) s0
          have t1 := kx _ _ (by omega) s1
          have t2 := kx _ _ (by omega) s2
          have tr := kx _ _ (by omega) hrest
          have tv := kx _ _ (by omega) hva
          clear hWX kx s0 s1 s2 hrest hva hRa hlast hDD hL
          obtain ⟨A, cpa, rfl, hcp, hC⟩ := Kd.R_reads hRX
          rw [← hs'] at he
          have hE := fun W => frame_GetEnd.calls k s' gn gc gok W he
          have c0 : WX.cell? ⟨w1.heap.size, 0, none⟩ = some (.string s') := (blk_cell tr 0).trans rfl
          have HX := Aside0.mk (And.intro hK (And.intro t0 (And.intro t1 (And.intro t2 (And.intro tv (And.intro hRX (And.intro hC (And.intro hcp (And.intro hbX h3)))))))))
          clear hK t0 t1 t2 tv hRX hC hcp hbX h3 he h2 hs' tr
          gi_wp2_with (first | (refine ⟨trivial, ?_⟩; gi_at_call 67; (refine (callsIn_wide.2 (hE _)).mono ?_); rintro e wG ⟨rfl, hbG⟩))
          obtain ⟨WI, hWI⟩ : ∃ WI, wG.alloc (.cells #[.int .i64 gn, .int .u32 gc] 29) = WI := ⟨_, rfl⟩
          have zG := hbG.size
          have KI : ∀ (i : Nat) (o : Obj), WX.heap[i]? = some o → WI.heap[i]? = some o := fun i o h => by rw [← hWI]; exact blk_alloc (blk_below h hbG) _
          have hbI : Below WX.heap.size WX WI := by rw [← hWI]; exact below_alloc hbG _
          have u0 := KI _ _ HX.out.2.1
          have u1 := KI _ _ HX.out.2.2.1
          have u2 := KI _ _ HX.out.2.2.2.1
          have uv := KI _ _ HX.out.2.2.2.2.1
          have ui : WI.heap[wG.heap.size]? = some (.cells #[.int .i64 gn, .int .u32 gc] 29) := by rw [← hWI]; exact blk_new _ _
          have hlX : w1.heap.size + 5 < WX.heap.size := (Array.getElem?_eq_some_iff.1 HX.out.1).1
          have HI := Aside0.mk (And.intro (KI _ _ HX.out.1) hbI)
          rw [hWI]
          clear hWI KI hbI
          refine wpIn_mono (wpIn_wide.2 (show Code.wp _ _ (recfile_Parse.np _) _ _ from ?_)) recfile_Parse.np_le
          cases gok with
          | false =>
            have h3 := HX.out.2.2.2.2.2.2.2.2.2
            rw [if_neg (by decide)] at h3
            obtain ⟨r1e, e2⟩ := Prod.mk.inj (Option.some.inj h3)
            obtain ⟨r2e, e3⟩ := Prod.mk.inj e2
            obtain ⟨r3e, r4e⟩ := Prod.mk.inj e3
            have HR := Aside0.mk (And.intro r1e (And.intro r2e (And.intro r3e r4e)))
            clear h3 e2 e3 r1e r2e r3e r4e
            refine start_ (ds := []) (n := 8) (S := fun _ => True) #[false, false, false, false, false, false, false, false] (by kernel_rfl) rfl (by rfl) (trivial) (fun hHeld => ?_)
            refine pure_ (i := 0) (N := (some 60)) (v := ?_) (a' := ?_) #[true, false, false, false, false, false, false, false] rfl rfl (by kernel_rfl) (fun _ _ _ h => h) (Or.inl ⟨by rfl, ?_⟩) ?_ ?_
            rotate_left
            · intro w'
              go_simp
              first | with_reducible rfl | rfl
            rotate_left
            · simp only [Act.put, List.setIfInBounds_toArray, List.set_cons_zero, List.set_cons_succ, i64_w, i32_w]
              rfl
            refine pure_ (i := 1) (N := (some 61)) (v := ?_) (a' := ?_) #[true, true, false, false, false, false, false, false] rfl rfl (by kernel_rfl) (fun _ _ _ h => h) (Or.inl ⟨by rfl, ?_⟩) ?_ ?_
            rotate_left
            · intro w'
              go_simp
              first | with_reducible rfl | rfl
            rotate_left
            · simp only [Act.put, List.setIfInBounds_toArray, List.set_cons_zero, List.set_cons_succ, i64_w, i32_w]
              rfl
            refine pure_ (i := 2) (N := (some 62)) (v := ?_) (a' := ?_) #[true, true, true, false, false, false, false, false] rfl rfl (by kernel_rfl) (fun _ _ _ h => h) (Or.inl ⟨by rfl, ?_⟩) ?_ ?_
            rotate_left
            · intro w'
              go_simp
              first | with_reducible rfl | rfl
            rotate_left
            · simp only [Act.put, List.setIfInBounds_toArray, List.set_cons_zero, List.set_cons_succ, i64_w, i32_w]
              rfl
            refine pure_ (i := 3) (N := (some 63)) (v := undef) (a' := ?_) #[true, true, true, true, false, false, false, false] rfl rfl (by kernel_rfl) (fun _ _ _ h => h) (Or.inr ⟨by rfl, rfl⟩) ?_ ?_
            rotate_left
            · simp only [Act.put, List.setIfInBounds_toArray, List.set_cons_zero, List.set_cons_succ, i64_w, i32_w]
              rfl
            refine pure_ (i := 4) (N := (some 64)) (v := undef) (a' := ?_) #[true, true, true, true, true, false, false, false] rfl rfl (by kernel_rfl) (fun _ _ _ h => h) (Or.inr ⟨by rfl, rfl⟩) ?_ ?_
            rotate_left
            · simp only [Act.put, List.setIfInBounds_toArray, List.set_cons_zero, List.set_cons_succ, i64_w, i32_w]
              rfl
            refine pure_ (i := 5) (N := (some 65)) (v := undef) (a' := ?_) #[true, true, true, true, true, true, false, false] rfl rfl (by kernel_rfl) (fun _ _ _ h => h) (Or.inr ⟨by rfl, rfl⟩) ?_ ?_
            rotate_left
            · simp only [Act.put, List.setIfInBounds_toArray, List.set_cons_zero, List.set_cons_succ, i64_w, i32_w]
              rfl
            refine pure_ (i := 6) (N := (some 66)) (v := undef) (a' := ?_) #[true, true, true, true, true, true, true, false] rfl rfl (by kernel_rfl) (fun _ _ _ h => h) (Or.inr ⟨by rfl, rfl⟩) ?_ ?_
            rotate_left
            · simp only [Act.put, List.setIfInBounds_toArray, List.set_cons_zero, List.set_cons_succ, i64_w, i32_w]
              rfl
            refine pure_ (i := 7) (N := (some 67)) (v := ?_) (a' := ?_) #[true, true, true, true, true, true, true, true] rfl rfl (by kernel_rfl) (fun _ _ _ h => h) (Or.inl ⟨by rfl, ?_⟩) ?_ ?_
            rotate_left
            · intro w'
              go_simp
              first | with_reducible rfl | rfl
            rotate_left
            · simp only [Act.put, List.setIfInBounds_toArray, List.set_cons_zero, List.set_cons_succ, i64_w, i32_w]
              rfl
            refine done_ (by kernel_rfl) ?_
            simp only [recfile_Parse.np]
            obtain ⟨WD, hWD⟩ : ∃ WD, WI.drew = WD := ⟨_, rfl⟩
            have hbD : Below WI.heap.size WI WD := by rw [← hWD]; exact below_drew (Below.refl _ _)
            rw [hWD]
            clear hWD
            have v0 := blk_below u0 hbD
            have v1 := blk_below u1 hbD
            have v2 := blk_below u2 hbD
            have d0 : WD.cell? ⟨w.heap.size, 0, none⟩ = some (.slice none 0 0) := (blk_cell v0 0).trans rfl
            have e0 := blk_frozen v0 0
            have d1 : WD.cell? ⟨w.heap.size + 1, 0, none⟩ = some (.int .i64 0) := (blk_cell v1 0).trans rfl
            have e1 := blk_frozen v1 0
            have d1b : WD.cell? ⟨w.heap.size + 1, 1, none⟩ = some (.int .u32 0) := (blk_cell v1 1).trans rfl
            have e1b := blk_frozen v1 1
            have d2 : WD.cell? ⟨w.heap.size + 1 + 1, 0, none⟩ = some (.int .i64 0) := (blk_cell v2 0).trans rfl
            have e2 := blk_frozen v2 0
            have hKD := blk_below HI.out.1 hbD
            have hbF := below_step (below_step HX.out.2.2.2.2.2.2.2.2.1 HI.out.2) hbD
            have HD := Aside0.mk (And.intro hKD hbF)
            clear hKD hbF
            gi_wp2
            obtain ⟨s0, s1, s2⟩ := recfile_Parse.st4 v0 v1 v2 (.slice none 0 0) (.int .i64 0) (.int .u32 0) (.int .i64 6)
            have hKF := recfile_Parse.far4 HD.out.1 (show w1.heap.size + 5 ≠ w.heap.size by omega) (by omega) (by omega) (.slice none 0 0) (.int .i64 0) (.int .u32 0) (.int .i64 6)
            have b4 := recfile_Parse.b4 HD.out.2 (.slice none 0 0) (.int .i64 0) (.int .u32 0) (.int .i64 6)
            refine ⟨by simp, .inl ⟨_, _, rfl, run_takeDeferred hKF, ?_⟩⟩
            rw [← HR.out.1, ← HR.out.2.1, ← HR.out.2.2.1, ← HR.out.2.2.2]
            refine ⟨_, recfile_Parse.results_sas rfl _ _ w.heap.size (w.heap.size + 1) (w.heap.size + 1 + 1) _ _ _ _ rfl rfl ((blk_cell ((World.putObj_heap_other (by omega)).trans s0) 0).trans rfl) rfl ((World.putObj_heap_other (by omega)).trans s1) rfl ((blk_cell ((World.putObj_heap_other (by omega)).trans s2) 0).trans rfl), _, rfl, Kd.R_nil _ _ _ _ _, b4.trans (belowK_b (w := w) (by omega) _ (w1.heap.size + 5) _ _ (by omega) hKF rfl rfl)⟩
          | true =>
            have h3 := HX.out.2.2.2.2.2.2.2.2.2
            rw [if_pos rfl] at h3
            obtain ⟨⟨sn, sc⟩, hs, h4⟩ := Option.bind_eq_some_iff.mp h3
            have hS1 := fun (W : World) (hb : Below WX.heap.size WX W) => recfile_Sum.calls A cpa lst sn sc W (Kd.C_below HX.out.2.2.2.2.2.2.1 hb) HX.out.2.2.2.2.2.2.2.1 hs
            have H4 := Aside0.mk h4
            clear h3 hs h4
            have ci0 : WI.cell? ⟨wG.heap.size, 0, none⟩ = some (.int .i64 gn) := (blk_cell ui 0).trans rfl
            have ci1 : WI.cell? ⟨wG.heap.size, 1, none⟩ = some (.int .u32 gc) := (blk_cell ui 1).trans rfl
            have cv : WI.cell? ⟨w1.heap.size + 1, 0, none⟩ = some (.slice A lst.length cpa) := (blk_cell uv 0).trans rfl
            refine start_ (ds := []) (n := 8) (S := fun W => Below WI.heap.size WI W) #[false, false, false, false, false, false, false, false] (by kernel_rfl) rfl (by rfl) (below_drew (Below.refl _ _)) (fun hHeld => ?_)
            refine pure_ (i := 0) (N := (some 60)) (v := ?_) (a' := ?_) #[true, false, false, false, false, false, false, false] rfl rfl (by kernel_rfl) (fun _ _ _ h => h) (Or.inl ⟨by rfl, ?_⟩) ?_ ?_
            rotate_left
            · intro w'
              go_simp
              first | with_reducible rfl | rfl
            rotate_left
            · simp only [Act.put, List.setIfInBounds_toArray, List.set_cons_zero, List.set_cons_succ, i64_w, i32_w]
              rfl
            refine pure_ (i := 1) (N := (some 61)) (v := ?_) (a' := ?_) #[true, true, false, false, false, false, false, false] rfl rfl (by kernel_rfl) (fun _ _ _ h => h) (Or.inl ⟨by rfl, ?_⟩) ?_ ?_
            rotate_left
            · intro w'
              go_simp
              first | with_reducible rfl | rfl
            rotate_left
            · simp only [Act.put, List.setIfInBounds_toArray, List.set_cons_zero, List.set_cons_succ, i64_w, i32_w]
              rfl
            refine pure_ (i := 2) (N := (some 62)) (v := ?_) (a' := ?_) #[true, true, true, false, false, false, false, false] rfl rfl (by kernel_rfl) (fun _ _ _ h => h) (Or.inl ⟨by rfl, ?_⟩) ?_ ?_
            rotate_left
            · intro w'
              go_simp
              first | with_reducible rfl | rfl
            rotate_left
            · simp only [Act.put, List.setIfInBounds_toArray, List.set_cons_zero, List.set_cons_succ, i64_w, i32_w]
              rfl
            refine take_ (i := 3) (N := (some 63)) (v := ?_) (a' := ?_) #[true, true, true, true, false, false, false, false] rfl rfl (by kernel_rfl) (fun _ _ _ h => h) (Or.inl ⟨by rfl, ?_⟩) hHeld ?_ ?_
            rotate_left
            · intro w' hw'
              have k0 := blk_below ui hw'
              have ci0 : w'.cell? ⟨wG.heap.size, 0, none⟩ = some (.int .i64 gn) := (blk_cell k0 0).trans rfl
              have ci1 : w'.cell? ⟨wG.heap.size, 1, none⟩ = some (.int .u32 gc) := (blk_cell k0 1).trans rfl
              go_simp
              first | done | with_reducible rfl | rfl
            rotate_left
            · simp only [Act.put, List.setIfInBounds_toArray, List.set_cons_zero, List.set_cons_succ, i64_w, i32_w]
              rfl
            refine take_ (i := 4) (N := (some 64)) (v := ?_) (a' := ?_) #[true, true, true, true, true, false, false, false] rfl rfl (by kernel_rfl) (fun _ _ _ h => h) (Or.inl ⟨by rfl, ?_⟩) hHeld ?_ ?_
            rotate_left
            · intro w' hw'
              have k0 := blk_below uv hw'
              have cv : w'.cell? ⟨w1.heap.size + 1, 0, none⟩ = some (.slice A lst.length cpa) := (blk_cell k0 0).trans rfl
              go_simp
              first | done | with_reducible rfl | rfl
            rotate_left
            · simp only [Act.put, List.setIfInBounds_toArray, List.set_cons_zero, List.set_cons_succ, i64_w, i32_w]
              rfl
            refine one_ (i := 5) (N := (some 65)) #[true, true, true, true, true, true, false, false] rfl rfl (by kernel_rfl) (by decide) (fun K hK => ?_)
            refine goes_ Try.func22 (by kernel_rfl) rfl #[.slice A lst.length cpa] (by rfl) rfl rfl (by (try simp only [List.map_toArray, List.map_cons, List.map_nil]); first | done | rfl | (simp only [List.length_drop, List.length_take]; rfl)) ?_
            with_reducible refine (hS1 _ (below_drew HI.out.2)).mono ?_
            rintro e wS ⟨rfl, hbS⟩
            refine ⟨_, rfl, ?_⟩
            refine hK.out _ _ (below_step hHeld hbS) (fun hHeld => ?_)
            clear hK K
            refine norm_ (a' := ?_) ?_ ?_
            rotate_left
            · show Act.put _ (some 65) _ = _
              simp only [Act.put, List.setIfInBounds_toArray, List.set_cons_zero, List.set_cons_succ, i64_w, i32_w]
              rfl
            refine pure_ (i := 6) (N := (some 66)) (v := ?_) (a' := ?_) #[true, true, true, true, true, true, true, false] rfl rfl (by kernel_rfl) (fun _ _ _ h => h) (Or.inl ⟨by rfl, ?_⟩) ?_ ?_
            rotate_left
            · intro w'
              go_simp
              first | with_reducible rfl | rfl
            rotate_left
            · simp only [Act.put, List.setIfInBounds_toArray, List.set_cons_zero, List.set_cons_succ, i64_w, i32_w]
              rfl
            refine pure_ (i := 7) (N := (some 67)) (v := ?_) (a' := ?_) #[true, true, true, true, true, true, true, true] rfl rfl (by kernel_rfl) (fun _ _ _ h => h) (Or.inl ⟨by rfl, ?_⟩) ?_ ?_
            rotate_left
            · intro w'
              go_simp
              first | with_reducible rfl | rfl
            rotate_left
            · simp only [Act.put, List.setIfInBounds_toArray, List.set_cons_zero, List.set_cons_succ, i64_w, i32_w]
              rfl
            refine done_ (by kernel_rfl) ?_
            simp only [recfile_Parse.np]
            have hbD : Below WI.heap.size WI wS := hHeld
            obtain ⟨bq, hbq⟩ : ∃ bq, recfile_Parse.neqI gn sn gc sc = bq := ⟨_, rfl⟩
            rw [hbq]
            have v0 := blk_below u0 hbD
            have v1 := blk_below u1 hbD
            have v2 := blk_below u2 hbD
            have d0 : wS.cell? ⟨w.heap.size, 0, none⟩ = some (.slice none 0 0) := (blk_cell v0 0).trans rfl
            have e0 := blk_frozen v0 0
            have d1 : wS.cell? ⟨w.heap.size + 1, 0, none⟩ = some (.int .i64 0) := (blk_cell v1 0).trans rfl
            have e1 := blk_frozen v1 0
            have d1b : wS.cell? ⟨w.heap.size + 1, 1, none⟩ = some (.int .u32 0) := (blk_cell v1 1).trans rfl
            have e1b := blk_frozen v1 1
            have d2 : wS.cell? ⟨w.heap.size + 1 + 1, 0, none⟩ = some (.int .i64 0) := (blk_cell v2 0).trans rfl
            have e2 := blk_frozen v2 0
            have hKD := blk_below HI.out.1 hbD
            have hbF := below_step (below_step HX.out.2.2.2.2.2.2.2.2.1 HI.out.2) hbD
            have HD := Aside0.mk (And.intro hKD hbF)
            clear hKD hbF
            cases bq with
            | true =>
              have h4 := H4.out
              rw [if_neg (of_decide_eq_false (by unfold recfile_Parse.neqI at hbq; rw [Bool.not_eq_true'] at hbq; exact hbq))] at h4
              obtain ⟨r1e, e2⟩ := Prod.mk.inj (Option.some.inj h4)
              obtain ⟨r2e, e3⟩ := Prod.mk.inj e2
              obtain ⟨r3e, r4e⟩ := Prod.mk.inj e3
              have HR := Aside0.mk (And.intro r1e (And.intro r2e (And.intro r3e r4e)))
              clear h4 e2 e3 r1e r2e r3e r4e hbq
              gi_wp2
              obtain ⟨s0, s1, s2⟩ := recfile_Parse.st4 v0 v1 v2 (.slice none 0 0) (.int .i64 0) (.int .u32 0) (.int .i64 6)
              have hKF := recfile_Parse.far4 HD.out.1 (show w1.heap.size + 5 ≠ w.heap.size by omega) (by omega) (by omega) (.slice none 0 0) (.int .i64 0) (.int .u32 0) (.int .i64 6)
              have b4 := recfile_Parse.b4 HD.out.2 (.slice none 0 0) (.int .i64 0) (.int .u32 0) (.int .i64 6)
              refine ⟨by simp, .inl ⟨_, _, rfl, run_takeDeferred hKF, ?_⟩⟩
              rw [← HR.out.1, ← HR.out.2.1, ← HR.out.2.2.1, ← HR.out.2.2.2]
              refine ⟨_, recfile_Parse.results_sas rfl _ _ w.heap.size (w.heap.size + 1) (w.heap.size + 1 + 1) _ _ _ _ rfl rfl ((blk_cell ((World.putObj_heap_other (by omega)).trans s0) 0).trans rfl) rfl ((World.putObj_heap_other (by omega)).trans s1) rfl ((blk_cell ((World.putObj_heap_other (by omega)).trans s2) 0).trans rfl), _, rfl, Kd.R_nil _ _ _ _ _, b4.trans (belowK_b (w := w) (by omega) _ (w1.heap.size + 5) _ _ (by omega) hKF rfl rfl)⟩
            | false =>
              have h4 := H4.out
              rw [if_pos (of_decide_eq_true (by unfold recfile_Parse.neqI at hbq; rw [Bool.not_eq_false'] at hbq; exact hbq))] at h4
              obtain ⟨r1e, e2⟩ := Prod.mk.inj (Option.some.inj h4)
              obtain ⟨r2e, e3⟩ := Prod.mk.inj e2
              obtain ⟨r3e, r4e⟩ := Prod.mk.inj e3
              have HR := Aside0.mk (And.intro r1e (And.intro r2e (And.intro r3e r4e)))
              clear h4 e2 e3 r1e r2e r3e r4e hbq
              have vv := blk_below uv hbD
              have vi := blk_below ui hbD
              have dv : wS.cell? ⟨w1.heap.size + 1, 0, none⟩ = some (.slice A lst.length cpa) := (blk_cell vv 0).trans rfl
              have di0 : wS.cell? ⟨wG.heap.size, 0, none⟩ = some (.int .i64 gn) := (blk_cell vi 0).trans rfl
              have di1 : wS.cell? ⟨wG.heap.size, 1, none⟩ = some (.int .u32 gc) := (blk_cell vi 1).trans rfl
              have hmx : Try.prog.follows .mixedOrders = true := by kernel_rfl
              gi_wp2
              gi_region_o
              gi_wp2
              obtain ⟨s0, s1, s2⟩ := recfile_Parse.st4 v0 v1 v2 (.slice A lst.length cpa) (.int .i64 gn) (.int .u32 gc) (.int .i64 0)
              have hKF := recfile_Parse.far4 HD.out.1 (show w1.heap.size + 5 ≠ w.heap.size by omega) (by omega) (by omega) (.slice A lst.length cpa) (.int .i64 gn) (.int .u32 gc) (.int .i64 0)
              have b4 := recfile_Parse.b4 HD.out.2 (.slice A lst.length cpa) (.int .i64 gn) (.int .u32 gc) (.int .i64 0)
              have hR1 : Kd.R Kd.string 9 wS w.heap.size (fun k => w1.heap.size + 5 ≤ k) (.slice A lst.length cpa) lst := Kd.R_below (Kd.R_below HX.out.2.2.2.2.2.1 HI.out.2) hbD
              have hR2 := Kd.R_step (w1 := (((wS.setCell ⟨w.heap.size, 0, none⟩ (.slice A lst.length cpa)).setCell ⟨w.heap.size + 1, 0, none⟩ (.int .i64 gn)).setCell ⟨w.heap.size + 1, 1, none⟩ (.int .u32 gc)).setCell ⟨w.heap.size + 1 + 1, 0, none⟩ (.int .i64 0)) hR1 (fun k hk hlt => by
                obtain ⟨o, ho⟩ : ∃ o, wS.heap[k]? = some o := ⟨_, Array.getElem?_eq_getElem hlt⟩
                rw [ho]; exact recfile_Parse.far4 ho (by omega) (by omega) (by omega) _ _ _ _)
              generalize hWF : World.setCell (World.setCell (World.setCell (World.setCell wS _ _) _ _) _ _) _ _ = WF at s0 s1 s2 hKF b4 hR2 ⊢
              have hbD2 : Below WF.heap.size WF WF.drew := below_drew (Below.refl _ _)
              have hKF2 := blk_below hKF hbD2
              have s02 := blk_below s0 hbD2
              have s12 := blk_below s1 hbD2
              have s22 := blk_below s2 hbD2
              refine ⟨by simp, .inl ⟨_, _, rfl, run_takeDeferred hKF2, ?_⟩⟩
              rw [← HR.out.1, ← HR.out.2.1, ← HR.out.2.2.1, ← HR.out.2.2.2]
              refine ⟨_, recfile_Parse.results_sas rfl _ _ w.heap.size (w.heap.size + 1) (w.heap.size + 1 + 1) _ _ _ _ rfl rfl ((blk_cell ((World.putObj_heap_other (by omega)).trans s02) 0).trans rfl) rfl ((World.putObj_heap_other (by omega)).trans s12) rfl ((blk_cell ((World.putObj_heap_other (by omega)).trans s22) 0).trans rfl), _, rfl, Kd.R_mono (recfile_Parse.R_put (Kd.R_below hR2 hbD2) hKF2 rfl _) (fun _ _ => trivial), (below_step b4 hbD2).trans (belowK_b (w := w) (by omega) _ (w1.heap.size + 5) _ _ (by omega) hKF2 rfl rfl)⟩
end


end Go.Proofs.Ytahkkgnicgbncaa.PRecfileTells
