/- The Go functions that the law reaches, as plain Lean functions, and proofs that the calls of the machine come to them, or the row of the law over them, for every input that the row speaks of; written by a program of this session (wip/tool/mkprint.py) out of the translation and of hand-made templates. -/
import Derived.Test.YtahkkgnicgbncaaPRecfileTellsx0
import Derived.Test.YtahkkgnicgbncaaPRecfileTellsx2
namespace Go.Proofs.Ytahkkgnicgbncaa.PRecfileTells
open Go.RowKit Go.Proofs.YtahkkgnicgbncaaW.PrintWords Go.Proofs.YtahkkgnicgbncaaW.PrintLast Go.Proofs.YtahkkgnicgbncaaW.PrintMore
attribute [local go_sem] max2_int min2_int max_two min_two max_three min_three max_four min_four   -- for this text's walks alone
set_option linter.unusedVariables false
set_option linter.unusedSimpArgs false

/-! ### recfile_Lay: function 11 -/
section
open Go.Shelf
attribute [local go_sem] Oper.semAt_some
/-- The j-th piece of four of a slice of n that lies at A. -/
def recfile_Lay.piece (A : Option Addr) (n j : Nat) : Value := .slice (A.map (·.add (4 * j))) (min 4 (n - 4 * j)) (min 4 (n - 4 * j))
/-- What a round keeps: the two boxes at B and B + 1. -/
def recfile_Lay.Keep (B : Nat) (W W' : World) : Prop := ∀ k, (k = B ∨ k = B + 1) → ∀ cs t fz, W.heap[k]? = some (.cells cs t fz) → W'.heap[k]? = some (.cells cs t fz)
theorem recfile_Lay.keep_t {B : Nat} {W W' W'' : World} (h : recfile_Lay.Keep B W W') (k : recfile_Lay.Keep B W' W'') : recfile_Lay.Keep B W W'' := fun i hi cs t fz hc => k i hi cs t fz (h i hi cs t fz hc)
theorem recfile_Lay.keep_b {B : Nat} {w : World} (W : World) (l : Nat) (o o' : Obj) (_hl : w.heap.size ≤ l) (h : W.heap[l]? = some o) (hc : o.isCells = false) (_hw : o.isWalk = false) : recfile_Lay.Keep B W (W.putObj l o') := fun i _ cs t fz hi =>
  by
  have hne : i ≠ l := fun e => by subst e; rw [h] at hi; cases hi; cases hc
  exact (World.putObj_heap_other hne).trans hi
set_option maxRecDepth 100000 in
set_option maxHeartbeats 4000000 in
theorem recfile_Lay.chunk1 (l B : Nat) (A : Option Addr) (c n N : Nat) (hn : n ≤ 1000000000) (hc : n ≤ c) (hA : 0 < n → ∃ ad, A = some ad) (hN : N = (n + 3) / 4) (J Jx : List (Fin N) → World → Prop) (hJd : ∀ pre W, J pre W → J pre W.drew)
    (hY : ∀ pre x W, J pre W → pre.length < N → YieldAt Fence.wide 3 Try.prog l #[recfile_Lay.piece A n x.val] W fun e W' =>
      (e = .returned (.bool true) ∧ J (pre ++ [x]) W' ∧ recfile_Lay.Keep B W W') ∨ (e = .returned (.bool false) ∧ Jx (pre ++ [x]) W'))
    (W : World) (hB0 : W.heap[B]? = some (.cells #[.slice A n c] 22)) (hB1 : W.heap[B + 1]? = some (.cells #[.int .i64 4] 3)) (h0 : J [] W) :
    CallsIn Fence.wide 4 Try.prog 115 #[.func (.yield l) #[] #[], .pointer (some ⟨B, 0, none⟩), .pointer (some ⟨B + 1, 0, none⟩)] W fun e W' => (∃ v, e = .returned v) ∧
      ((∃ ys, ys.map Fin.val = List.range N ∧ J ys W') ∨ (∃ pre, (∃ k, k ≤ N ∧ pre.map Fin.val = List.range k) ∧ Jx pre W')) := by
  refine callsIn_of_wp Try.func115 rfl trivial ?_ rfl
  simp only [Try.ntmps115, List.size_toArray, List.length_cons, List.length_nil, Nat.reduceAdd, Nat.reduceSub, Array.replicate_succ, Array.replicate_zero, List.push_toArray, List.append_toArray, List.nil_append, List.cons_append]
  gi_wp2
  gi_loopw [4] (fun i wr => ∃ (k : Nat) (pre : List (Fin N)), k ≤ N ∧ i = .int .i64 (4 * (k : Int)) ∧ pre.map Fin.val = List.range k ∧ J pre wr ∧ recfile_Lay.Keep B W wr)
    (fun i _ => 4 * N - (intOf i).toNat)
  case atStart => exact ⟨0, [], by omega, rfl, rfl, h0, fun _ _ _ _ _ h => h⟩
  case round =>
    obtain ⟨k, pre, hk, rfl, hpre, hJ, hK⟩ := hrel
    have hpl : pre.length = k := by have := congrArg List.length hpre; simpa using this
    have hb0 : wr.cell? ⟨B, 0, none⟩ = some (.slice A n c) := (blk_cell (hK B (.inl rfl) _ _ _ hB0) 0).trans rfl
    have hb1 : wr.cell? ⟨B + 1, 0, none⟩ = some (.int .i64 4) := (blk_cell (hK (B + 1) (.inr rfl) _ _ _ hB1) 0).trans rfl
    by_cases hlt : 4 * (k : Int) < (n : Int)
    · have hkN : k < N := by omega
      have hm : min (4 : Int) ((n : Int) - 4 * (k : Int)) = ((min 4 (n - 4 * k) : Nat) : Int) := by omega
      have b1 : decide (4 * (k : Int) < (n : Int)) = true := decide_eq_true hlt
      obtain ⟨ad, rfl⟩ := hA (by omega)
      have hY1 := hY pre ⟨k, hkN⟩ wr.drew (hJd _ _ hJ) (by rw [hpl]; exact hkN)
      unfold recfile_Lay.piece at hY1
      obtain ⟨fn, tmps, assign, body, hy, hR⟩ := hY1
      have hmx : Try.prog.follows .mixedOrders = true := by kernel_rfl
      gi_wp2
      gi_region_o
      rw [show (if ((n - 4 * k : Nat) : Int) < 4 then ((n - 4 * k : Nat) : Int) else 4) = ((min 4 (n - 4 * k) : Nat) : Int) by omega]
      obtain ⟨m, hm1, hm2, hm3⟩ : ∃ m : Nat, min 4 (n - 4 * k) = m ∧ 0 < m ∧ 4 * k + m ≤ n := ⟨_, rfl, by omega, by omega⟩
      rw [hm1] at hy ⊢
      simp only [Option.map_some] at hy
      have hs1 : (4 * (k : Int) + (m : Int)) ≤ (n : Int) := by omega
      have hs2 : (4 * (k : Int) + (m : Int)) ≤ (c : Int) := by omega
      gi_wp2
      refine hR.mono ?_
      rintro e W3 (⟨rfl, hJ3, hk3⟩ | ⟨rfl, hJx3⟩)
      · have hK3 : recfile_Lay.Keep B W W3 := recfile_Lay.keep_t hK hk3
        have hb3 : W3.cell? ⟨B + 1, 0, none⟩ = some (.int .i64 4) := (blk_cell (hK3 (B + 1) (.inr rfl) _ _ _ hB1) 0).trans rfl
        gi_wp2
        go_roundw
        case rel => exact ⟨k + 1, pre ++ [⟨k, hkN⟩], by omega, by first | rfl | (congr 1; done) | (congr 1; omega), by rw [List.range_succ, List.map_append, hpre]; rfl, hJ3, hK3⟩
        case measure => simp [intOf]; omega
      · gi_wp2
        refine bodyPost_ret (results_none rfl _ _ _) rfl ?_
        exact ⟨⟨_, rfl⟩, .inr ⟨_, ⟨k + 1, by omega, by rw [List.range_succ, List.map_append, hpre]; rfl⟩, hJx3⟩⟩
    · have ek : k = N := by omega
      rw [ek] at hpre
      have b1 : decide (4 * (k : Int) < (n : Int)) = false := decide_eq_false hlt
      gi_wp2
      go_end0
      exact ⟨⟨_, rfl⟩, .inl ⟨pre, hpre.trans (congrArg List.range hN), hJ⟩⟩
theorem recfile_Lay.chunk_stops (B : Nat) (A : Option Addr) (c n N : Nat) (hn : n ≤ 1000000000) (hc : n ≤ c) (hA : 0 < n → ∃ ad, A = some ad) (hN : N = (n + 3) / 4) (w : World)
    (hB0 : w.heap[B]? = some (.cells #[.slice A n c] 22)) (hB1 : w.heap[B + 1]? = some (.cells #[.int .i64 4] 3)) :
    SeqStopsK Fence.wide 4 Try.prog 115 #[.pointer (some ⟨B, 0, none⟩), .pointer (some ⟨B + 1, 0, none⟩)] (fun x : Fin N => #[recfile_Lay.piece A n x.val]) (recfile_Lay.Keep B) (fun ys => ys.map Fin.val = List.range N)
      (fun pre => ∃ k, k ≤ N ∧ pre.map Fin.val = List.range k) N w := fun l J Jx W hW hJ _ hY h0 =>
  recfile_Lay.chunk1 l B A c n N hn hc hA hN J Jx (fun pre W h => hJ pre W W.drew none h ⟨rfl, rfl, rfl, Nat.le_refl _, fun _ _ _ => rfl⟩ (fun r e => by cases e)) hY W (blk_below hB0 hW) (blk_below hB1 hW) h0
set_option maxRecDepth 100000 in
theorem recfile_Lay.chunk (A : Option Addr) (n c : Nat) (w : World) :
    Calls Try.prog 59 #[.slice A n c, .int .i64 4] w fun e w' => e = .returned (.func (.func 115) #[] #[.pointer (some ⟨w.heap.size, 0, none⟩), .pointer (some ⟨w.heap.size + 1, 0, none⟩)]) ∧ w' = (w.alloc (.cells #[.slice A n c] 22)).alloc (.cells #[.int .i64 4] 3) := by
  go_enter Try.func59, Try.ntmps59
  go_wp2
  go_ret
  exact ⟨by simp, rfl⟩

/-- What depends on cells alone stays where all cells stay. -/
def recfile_Lay.Cells (W W' : World) : Prop := ∀ (i : Nat) (cs : Array Value) (t : TypeId) (fz : Nat × Nat), W.heap[i]? = some (.cells cs t fz) → W'.heap[i]? = some (.cells cs t fz)
theorem recfile_Lay.cells_below {W W' : World} (h : Below W.heap.size W W') : recfile_Lay.Cells W W' := fun i cs t fz hi => blk_below hi h
theorem recfile_Lay.cells_grown {W W' : World} {row : Option Nat} (hg : W.grownBy W' row) (hr : ∀ r, row = some r → ∃ o : Obj, W.heap[r]? = some o ∧ o.isCells = false) : recfile_Lay.Cells W W' := fun i cs t fz hi => by
  have hlt : i < W.heap.size := by
    rcases Nat.lt_or_ge i W.heap.size with h' | h'
    · exact h'
    · rw [Array.getElem?_eq_none h'] at hi; cases hi
  rw [hg.block i hlt (fun e => by obtain ⟨o, ho, hc⟩ := hr i e.symm; rw [ho] at hi; cases hi; cases hc)]
  exact hi
theorem recfile_Lay.bld_keep {B b : Nat} {bs : List Value} {W W' : World} (h : Lib.IsBuilderF 92 5 B b bs W) (k : recfile_Lay.Cells W W') : Lib.IsBuilderF 92 5 B b bs W' := by
  have one : ∀ p, Lib.BuilderAtF 92 5 B b p bs W → Lib.BuilderAtF 92 5 B b p bs W' := by
    rintro p ⟨hB, v, hb, ⟨h1, h2⟩, hne⟩
    refine ⟨hB, v, k _ _ _ _ hb, ⟨h1, ?_⟩, hne⟩
    rcases h2 with h2 | ⟨g, cap, cur, fz, hv, hg, hgg, r⟩
    · exact .inl h2
    · exact .inr ⟨g, cap, cur, fz, hv, hg, k _ _ _ _ hgg, r⟩
  exact h.elim (fun x => .inl (one _ x)) (fun x => .inr (one _ x))
theorem recfile_Lay.bld_at {B b : Nat} {bs : List Value} {W : World} (h : Lib.IsBuilderF 92 5 B b bs W) : ∃ cs, W.heap[b]? = some (.cells cs 92) := by
  rcases h with ⟨_, v, hb, _⟩ | ⟨_, v, hb, _⟩ <;> exact ⟨_, hb⟩
/-- The j-th piece of four records; how many there are; the block of each. -/
def recfile_Lay.pc (l : List ByteArray) (j : Nat) : List ByteArray := (l.drop (4 * j)).take 4
def recfile_Lay.nb (l : List ByteArray) : Nat := (l.length + 3) / 4
def recfile_Lay.pt (a0 : Int) (l : List ByteArray) (j : Nat) : ByteArray × Bool := (frame_Put.f a0 (recfile_Lay.pc l j)).getD (⟨#[]⟩, false)
def recfile_Lay.acc (a0 : Int) (l : List ByteArray) (h : ByteArray) (pre : List Nat) : ByteArray := pre.foldl (fun s j => s ++ (recfile_Lay.pt a0 l j).1) h
def recfile_Lay.told (a0 : Int) (l : List ByteArray) : Bool := (List.range (recfile_Lay.nb l)).all fun j => (frame_Put.f a0 (recfile_Lay.pc l j)).isSome && decide ((recfile_Lay.pt a0 l j).1.size ≤ 10000)
def recfile_Lay.right (a0 : Int) (l : List ByteArray) : Bool := (List.range (recfile_Lay.nb l)).all fun j => (recfile_Lay.pt a0 l j).2
def recfile_Lay.f (a0 : Int) (l1 : List ByteArray) : Option (ByteArray × Bool) :=
  (recfile_PutHead.f a0).bind fun h => if h.2 = true then (if l1.length ≤ 1000000 ∧ h.1.size ≤ 10000 ∧ recfile_Lay.told a0 l1 = true then (if recfile_Lay.right a0 l1 = true then
    (recfile_Sum.f l1).bind fun s => (frame_PutEnd.f s.1 s.2).bind fun e => if e.1.size ≤ 10000 then some (recfile_Lay.acc a0 l1 h.1 (List.range (recfile_Lay.nb l1)) ++ e.1, e.2) else none
    else some (⟨#[]⟩, false)) else none) else some (⟨#[]⟩, false)
theorem recfile_Lay.strCells_append (s t : ByteArray) : Lib.strCells s ++ Lib.strCells t = Lib.strCells (s ++ t) := by
  simp [Lib.strCells, ByteArray.data_append]
theorem recfile_Lay.pcC {W : World} {A : Option Addr} {c : Nat} {l : List ByteArray} (h : Kd.string.C W A l.length l) (hc : l.length ≤ c) (x : Nat) (hx : x < recfile_Lay.nb l) : Kd.string.C W (A.map (·.add (4 * x))) (recfile_Lay.pc l x).length (recfile_Lay.pc l x) := by
  unfold recfile_Lay.nb at hx
  have h1 := Kd.C_drop (m := 4 * x) (c := c) h (by omega) hc
  rw [if_neg (by omega)] at h1
  have h2 := Kd.C_take (m := min 4 (l.drop (4 * x)).length) h1 (Nat.min_le_right _ _)
  rw [← List.take_eq_take_min] at h2
  have e1 : 4 * x * Kd.string.sz = 4 * x := Nat.mul_one _
  rw [e1] at h2
  exact h2
theorem recfile_Lay.pc_len (l : List ByteArray) (x : Nat) : (recfile_Lay.pc l x).length = min 4 (l.length - 4 * x) := by simp [recfile_Lay.pc]
theorem recfile_Lay.pt_of {a0 : Int} {l : List ByteArray} (h : recfile_Lay.told a0 l = true) (x : Nat) (hx : x < recfile_Lay.nb l) : frame_Put.f a0 (recfile_Lay.pc l x) = some ((recfile_Lay.pt a0 l x).1, (recfile_Lay.pt a0 l x).2) ∧ (recfile_Lay.pt a0 l x).1.size ≤ 10000 := by
  have h1 := List.all_eq_true.mp h x (List.mem_range.mpr hx)
  rw [Bool.and_eq_true] at h1
  obtain ⟨h2, h3⟩ := h1
  refine ⟨?_, of_decide_eq_true h3⟩
  obtain ⟨v, hv⟩ := Option.isSome_iff_exists.mp h2
  unfold recfile_Lay.pt
  rw [hv]
  rfl
theorem recfile_Lay.acc_snoc (a0 : Int) (l : List ByteArray) (h : ByteArray) (pre : List Nat) (x : Nat) : recfile_Lay.acc a0 l h (pre ++ [x]) = recfile_Lay.acc a0 l h pre ++ (recfile_Lay.pt a0 l x).1 := by
  unfold recfile_Lay.acc; rw [List.foldl_append]; rfl
/-- What holds between two rounds, of cells alone. -/
def recfile_Lay.Ready (a0 : Int) (l : List ByteArray) (hd : ByteArray) (g b B : Nat) (pre : List (Fin (recfile_Lay.nb l))) (W : World) : Prop :=
  Lib.IsBuilderF 92 5 b b (Lib.strCells (recfile_Lay.acc a0 l hd (pre.map Fin.val))) W ∧ W.heap[g]? = some (.cells #[.int .i64 a0] 3) ∧ W.heap[g + 1]? = some (.cells #[.string ⟨#[]⟩] 9) ∧ W.heap[g + 1 + 1]? = some (.cells #[.bool false] 4) ∧
    ((∀ j ∈ pre, (recfile_Lay.pt a0 l j.val).2 = true) ∧ (recfile_Lay.acc a0 l hd (pre.map Fin.val)).size ≤ 10000 * (pre.length + 1) ∧ g + 3 ≤ b ∧ b < B) ∧ (∃ v, W.heap[B]? = some (.cells #[v] 22)) ∧ (∃ v, W.heap[B + 1]? = some (.cells #[v] 3))
theorem recfile_Lay.ready_keep {a0 : Int} {l : List ByteArray} {hd : ByteArray} {g b B : Nat} {pre : List (Fin (recfile_Lay.nb l))} {W W' : World} (h : recfile_Lay.Ready a0 l hd g b B pre W) (k : recfile_Lay.Cells W W') : recfile_Lay.Ready a0 l hd g b B pre W' :=
  ⟨recfile_Lay.bld_keep h.1 k, k _ _ _ _ h.2.1, k _ _ _ _ h.2.2.1, k _ _ _ _ h.2.2.2.1, h.2.2.2.2.1, h.2.2.2.2.2.1.elim (fun v hv => ⟨v, k _ _ _ _ hv⟩), h.2.2.2.2.2.2.elim (fun v hv => ⟨v, k _ _ _ _ hv⟩)⟩
/-- How a round leaves: a block that cannot be. -/
def recfile_Lay.Gone (a0 : Int) (l : List ByteArray) (g : Nat) (c : Code) (pre : List (Fin (recfile_Lay.nb l))) (W : World) : Prop :=
  c = .ret ∧ (∃ j ∈ pre, (recfile_Lay.pt a0 l j.val).2 = false) ∧ W.heap[g + 1]? = some (.cells #[.string ⟨#[]⟩] 9) ∧ W.heap[g + 1 + 1]? = some (.cells #[.bool false] 4)
theorem recfile_Lay.gone_keep {a0 : Int} {l : List ByteArray} {g : Nat} {c : Code} {pre : List (Fin (recfile_Lay.nb l))} {W W' : World} (h : recfile_Lay.Gone a0 l g c pre W) (k : recfile_Lay.Cells W W') : recfile_Lay.Gone a0 l g c pre W' :=
  ⟨h.1, h.2.1, k _ _ _ _ h.2.2.1, k _ _ _ _ h.2.2.2⟩
theorem recfile_Lay.others_of {b : Nat} {cs : Array Value} {W W1 W2 : World} (h : Below W.heap.size W W1) (hb : W1.heap[b]? = some (.cells cs 92)) (k : Lib.OthersKept 5 (some b) W1 W2) (hz : W1.heap.size ≤ W2.heap.size) : KeepsOthers W W2 :=
  ⟨Nat.le_trans h.size hz, fun i o hi ho => by
    have h1 := blk_below hi h
    exact k i o h1 (fun e => by obtain rfl := Option.some.inj e; rw [h1] at hb; cases hb; cases ho) (fun c fz e => by subst e; cases ho)⟩
theorem recfile_Lay.keep_of {b B : Nat} {W W1 W2 : World} (h : Below W.heap.size W W1) (hB0 : ∃ v, W.heap[B]? = some (.cells #[v] 22)) (hB1 : ∃ v, W.heap[B + 1]? = some (.cells #[v] 3)) (hb : b < B) (k : Lib.OthersKept 5 (some b) W1 W2) : recfile_Lay.Keep B W W2 := fun i hi cs t fz hc => by
  have h1 := blk_below hc h
  refine k i _ h1 (fun e => by obtain rfl := Option.some.inj e; omega) (fun c fz e => ?_)
  cases e
  rcases hi with rfl | rfl
  · obtain ⟨v, hv⟩ := hB0; rw [hv] at hc; cases hc
  · obtain ⟨v, hv⟩ := hB1; rw [hv] at hc; cases hc
theorem recfile_Lay.results_ss {fn : Func} {p p' : Tmp} (h : fn.results = #[.cell p 9, .cell p' 4]) (tmps : Array Value) (w : World) (g g' : Nat) (v v' : Value)
    (hp : tmps.getD p undef = .pointer (some ⟨g, 0, none⟩)) (hc : w.cell? ⟨g, 0, none⟩ = some v) (hp' : tmps.getD p' undef = .pointer (some ⟨g', 0, none⟩)) (hc' : w.cell? ⟨g', 0, none⟩ = some v') :
    (results fn tmps).run Try.prog w = .ok (.tuple #[v, v']) w := by
  have h1 : tmps[p]?.getD undef = .pointer (some ⟨g, 0, none⟩) := by simpa using hp
  have h2 : tmps[p']?.getD undef = .pointer (some ⟨g', 0, none⟩) := by simpa using hp'
  simp [results, h, h1, h2, asAddr, loadVar, Try.isAgg9, Try.isAgg4, hc, hc', go_sem]
set_option maxRecDepth 100000 in
set_option maxHeartbeats 4000000 in
theorem recfile_Lay.calls (a0 : Int) (A1 : Option Addr) (c1 : Nat) (l1 : List ByteArray) (r1 : ByteArray) (r2 : Bool) (w : World) (hr1 : Kd.C Kd.string w A1 l1.length l1) (hc1 : l1.length ≤ c1) (h : recfile_Lay.f a0 l1 = some (r1, r2)) :
    Calls Try.prog 11 #[.int .i64 a0, .slice A1 l1.length c1] w fun e w' => e = .returned (.tuple #[.string r1, .bool r2]) ∧ Below w.heap.size w w' := by
  unfold recfile_Lay.f at h
  obtain ⟨⟨hd, ok⟩, hh, h1⟩ := Option.bind_eq_some_iff.mp h
  clear h
  have hH := fun W => recfile_PutHead.calls a0 hd ok W hh
  clear hh
  cases ok with
  | false =>
    obtain ⟨e1, e2⟩ := Prod.mk.inj (Option.some.inj h1)
    clear h1
    subst e1 e2
    obtain ⟨W3, hW3⟩ : ∃ W3, ((w.alloc (.cells #[.int .i64 a0] 3)).alloc (.cells #[.string ⟨#[]⟩] 9)).alloc (.cells #[.bool false] 4) = W3 := ⟨_, rfl⟩
    have q0 : W3.heap[w.heap.size]? = some (.cells #[.int .i64 a0] 3) := by rw [← hW3]; exact blk_alloc (blk_alloc (blk_new _ _) _) _
    have q1 : W3.heap[w.heap.size + 1]? = some (.cells #[.string ⟨#[]⟩] 9) := by rw [← hW3]; refine blk_alloc ?_ _; have := blk_new (w.alloc (.cells #[.int .i64 a0] 3)) (.cells #[.string ⟨#[]⟩] 9); rwa [World.size_alloc] at this
    have q2 : W3.heap[w.heap.size + 1 + 1]? = some (.cells #[.bool false] 4) := by rw [← hW3]; have := blk_new ((w.alloc (.cells #[.int .i64 a0] 3)).alloc (.cells #[.string ⟨#[]⟩] 9)) (.cells #[.bool false] 4); rwa [World.size_alloc, World.size_alloc] at this
    have b3 : Below w.heap.size w W3 := by rw [← hW3]; exact below_alloc (below_alloc (below_alloc (Below.refl _ _) _) _) _
    have z3 : W3.heap.size = w.heap.size + 1 + 1 + 1 := by rw [← hW3]; simp only [World.size_alloc]
    have c0 : W3.cell? ⟨w.heap.size, 0, none⟩ = some (.int .i64 a0) := (blk_cell q0 0).trans rfl
    refine (callsIn_wide (n := 5)).1 ?_
    refine callsIn_of_wp_marks Try.func11 rfl trivial ?_ rfl
    simp only [Try.ntmps11, List.size_toArray, List.length_cons, List.length_nil, Nat.reduceAdd, Nat.reduceSub, Array.replicate_succ, Array.replicate_zero, List.push_toArray, List.append_toArray, List.nil_append, List.cons_append]
    gi_wp2_with (first | (refine ⟨trivial, ?_⟩; gi_at_call 15; (try rw [hW3]); (refine (callsIn_wide.2 (hH W3)).mono ?_); rintro e w1 ⟨rfl, hb1⟩; have k1 := blk_below q1 hb1; have k2 := blk_below q2 hb1; have c1 : w1.cell? ⟨w.heap.size + 1, 0, none⟩ = some (.string ⟨#[]⟩) := (blk_cell k1 0).trans rfl; have f1 := blk_frozen k1 0; have c2 : w1.cell? ⟨w.heap.size + 1 + 1, 0, none⟩ = some (.bool false) := (blk_cell k2 0).trans rfl; have f2 := blk_frozen k2 0))
    refine ⟨_, recfile_Lay.results_ss rfl _ _ (w.heap.size + 1) (w.heap.size + 1 + 1) (.string ⟨#[]⟩) (.bool false) rfl ?_ rfl ?_, rfl, ?_⟩
    · exact (World.cell?_setCell_far _ _ _ _ (by simp)).trans (World.cell?_setCell_same' _ _ _ (by rw [c1]; rfl))
    · exact World.cell?_setCell_same' _ _ _ (by rw [World.cell?_setCell_far _ _ _ _ (by simp), c2]; rfl)
    · have b4 : Below w.heap.size w w1 := below_step b3 hb1
      exact below_set (below_set b4 (show w.heap.size ≤ w.heap.size + 1 by omega)) (show w.heap.size ≤ w.heap.size + 1 + 1 by omega)
  | true =>
    rw [if_pos rfl] at h1
    split at h1
    case isFalse => cases h1
    case isTrue hcs =>
    obtain ⟨hlen, hsz, htold⟩ := hcs
    have H1 := Aside0.mk h1
    clear h1
    obtain ⟨W3, hW3⟩ : ∃ W3, ((w.alloc (.cells #[.int .i64 a0] 3)).alloc (.cells #[.string ⟨#[]⟩] 9)).alloc (.cells #[.bool false] 4) = W3 := ⟨_, rfl⟩
    have q0 : W3.heap[w.heap.size]? = some (.cells #[.int .i64 a0] 3) := by rw [← hW3]; exact blk_alloc (blk_alloc (blk_new _ _) _) _
    have q1 : W3.heap[w.heap.size + 1]? = some (.cells #[.string ⟨#[]⟩] 9) := by rw [← hW3]; refine blk_alloc ?_ _; have := blk_new (w.alloc (.cells #[.int .i64 a0] 3)) (.cells #[.string ⟨#[]⟩] 9); rwa [World.size_alloc] at this
    have q2 : W3.heap[w.heap.size + 1 + 1]? = some (.cells #[.bool false] 4) := by rw [← hW3]; have := blk_new ((w.alloc (.cells #[.int .i64 a0] 3)).alloc (.cells #[.string ⟨#[]⟩] 9)) (.cells #[.bool false] 4); rwa [World.size_alloc, World.size_alloc] at this
    have b3 : Below w.heap.size w W3 := by rw [← hW3]; exact below_alloc (below_alloc (below_alloc (Below.refl _ _) _) _) _
    have z3 : W3.heap.size = w.heap.size + 1 + 1 + 1 := by rw [← hW3]; simp only [World.size_alloc]
    have c0 : W3.cell? ⟨w.heap.size, 0, none⟩ = some (.int .i64 a0) := (blk_cell q0 0).trans rfl
    refine (callsIn_wide (n := 5)).1 ?_
    refine callsIn_of_wp_marks Try.func11 rfl trivial ?_ rfl
    simp only [Try.ntmps11, List.size_toArray, List.length_cons, List.length_nil, Nat.reduceAdd, Nat.reduceSub, Array.replicate_succ, Array.replicate_zero, List.push_toArray, List.append_toArray, List.nil_append, List.cons_append]
    have HC := Aside0.mk hr1
    clear hr1
    gi_wp2_with (first | (refine ⟨trivial, ?_⟩; gi_at_call 15; (try rw [hW3]); (refine (callsIn_wide.2 (hH W3)).mono ?_); rintro e w1 ⟨rfl, hb1⟩; have k0 := blk_below q0 hb1; have k1 := blk_below q1 hb1; have k2 := blk_below q2 hb1; have b1 : Below w.heap.size w w1 := below_step b3 hb1; have z1 := hb1.size; clear q0 q1 q2 c0 b3; have hfr := Lib.IsBuilderF.of (Lib.fresh_isBuilder 92 5 w1)) | (refine ⟨trivial, ?_⟩; gi_at_call 58; (refine (callsIn_wide.2 (Go.Proofs.YtahkkgnicgbncaaJ.bld_write w1.heap.size w1.heap.size [] hd _ hfr (by simp; omega) (by simp))).mono ?_); rintro e w2 ⟨rfl, hI2, hb2, ho2⟩) | (refine ⟨trivial, ?_⟩; gi_at_call 59; (refine (callsIn_wide.2 (recfile_Lay.chunk A1 l1.length c1 _)).mono ?_); rintro e w3 ⟨rfl, hw3⟩))
    subst hw3
    have hgb : w.heap.size + 3 ≤ w1.heap.size := by omega
    have m0 : w2.heap[w.heap.size]? = some (.cells #[.int .i64 a0] 3) := (hb2.block _ (by omega)).trans (blk_alloc k0 _)
    have m1 : w2.heap[w.heap.size + 1]? = some (.cells #[.string ⟨#[]⟩] 9) := (hb2.block _ (by omega)).trans (blk_alloc k1 _)
    have m2 : w2.heap[w.heap.size + 1 + 1]? = some (.cells #[.bool false] 4) := (hb2.block _ (by omega)).trans (blk_alloc k2 _)
    have bw2 : Below w.heap.size w w2 := (below_alloc b1 _).trans (hb2.mono (by omega))
    have hbz : w1.heap.size < w2.heap.size := hI2.lt
    obtain ⟨W5, hW5⟩ : ∃ W5, (w2.alloc (.cells #[.slice A1 l1.length c1] 22)).alloc (.cells #[.int .i64 4] 3) = W5 := ⟨_, rfl⟩
    have bx0 : W5.heap[w2.heap.size]? = some (.cells #[.slice A1 l1.length c1] 22) := by rw [← hW5]; exact blk_alloc (blk_new _ _) _
    have bx1 : W5.heap[w2.heap.size + 1]? = some (.cells #[.int .i64 4] 3) := by rw [← hW5]; have := blk_new (w2.alloc (.cells #[.slice A1 l1.length c1] 22)) (.cells #[.int .i64 4] 3); rwa [World.size_alloc] at this
    have c25 : recfile_Lay.Cells w2 W5 := by rw [← hW5]; exact fun i cs t fz hi => blk_alloc (blk_alloc hi _) _
    have hR5 : recfile_Lay.Ready a0 l1 hd w.heap.size w1.heap.size w2.heap.size [] W5 := ⟨recfile_Lay.bld_keep (.inr hI2) c25, c25 _ _ _ _ m0, c25 _ _ _ _ m1, c25 _ _ _ _ m2, ⟨by simp, by simpa [recfile_Lay.acc] using hsz, hgb, by omega⟩, ⟨_, bx0⟩, ⟨_, bx1⟩⟩
    have b5 : Below w.heap.size w W5 := by rw [← hW5]; exact below_alloc (below_alloc bw2 _) _
    have hz5 : W5.heap.size = w2.heap.size + 1 + 1 := by rw [← hW5]; simp only [World.size_alloc]
    rw [hW5]
    have HX := Aside0.mk (And.intro b5 hz5)
    clear k0 k1 k2 b1 z1 hfr hI2 hb2 ho2 m0 m1 m2 bw2 hW5 hb1 hW3 z3 hH c25
    refine wpIn_rangeFunc_ownF rfl (by decide) (gf := 115) (lb := #[.pointer (some ⟨w2.heap.size, 0, none⟩), .pointer (some ⟨w2.heap.size + 1, 0, none⟩)]) rfl trivial (enters_of Try.func115 (by kernel_rfl) rfl)
      (recfile_Lay.chunk_stops w2.heap.size A1 c1 l1.length (recfile_Lay.nb l1) (by omega) hc1 (fun h0 => by obtain ⟨ad, e, _⟩ := HC.out.2.2 h0; exact ⟨ad, e⟩) rfl W5 bx0 bx1) recfile_Lay.keep_t (fun W l o o' hl => recfile_Lay.keep_b (w := W5) W l o o' hl) (Below.refl _ _) (fun _ => rfl)
      (fun pre W => recfile_Lay.Ready a0 l1 hd w.heap.size w1.heap.size w2.heap.size pre W ∧ Below w.heap.size w W)
      (fun c pre W => recfile_Lay.Gone a0 l1 w.heap.size c pre W ∧ Below w.heap.size w W)
      (OwnFrom.and (Own.from (I := fun pre W => recfile_Lay.Ready a0 l1 hd w.heap.size w1.heap.size w2.heap.size pre W) (fun s A B_ row hs hg hr => recfile_Lay.ready_keep hs (recfile_Lay.cells_grown hg hr)) _) (ownFrom_below (by omega) (by omega)))
      (fun c => OwnFrom.and (Own.from (I := fun pre W => recfile_Lay.Gone a0 l1 w.heap.size c pre W) (fun s A B_ row hs hg hr => recfile_Lay.gone_keep hs (recfile_Lay.cells_grown hg hr)) _) (ownFrom_below (by omega) (by omega)))
      ⟨hR5, b5⟩
      (fun x => { tmps := #[.int .i64 a0, .slice A1 l1.length c1, .pointer (some ⟨w.heap.size, 0, none⟩), undef, .pointer (some ⟨w.heap.size + 1, 0, none⟩), .pointer (some ⟨w.heap.size + 1 + 1, 0, none⟩), .string hd, .bool true, .pointer (some ⟨w1.heap.size, 0, none⟩), recfile_Lay.piece A1 l1.length x.val, undef, undef, undef, .tuple #[.string hd, .bool true], .int .i64 a0, .tuple #[.string hd, .bool true], .string hd, .bool true, .bool true, .bool false, .string hd, .tuple #[.int .i64 hd.size, .nilIface], .slice A1 l1.length c1, .func (.func 115) #[] #[.pointer (some ⟨w2.heap.size, 0, none⟩), .pointer (some ⟨w2.heap.size + 1, 0, none⟩)], recfile_Lay.piece A1 l1.length x.val, undef, undef, undef, undef, undef, undef, undef, undef, undef, undef, undef, undef, undef, undef, undef, undef, undef, undef, undef, undef], defers := [] }) ?assign ?body ?done ?stop
    case assign =>
      intro l x W K hK
      gi_wp2
      exact hK
    case body =>
      rintro l pre x W ⟨hS, hBw⟩ hpl
      obtain ⟨hp, hps⟩ := recfile_Lay.pt_of htold x.val x.isLt
      have hC := recfile_Lay.pcC (Kd.C_below HC.out hBw) hc1 x.val x.isLt
      have hpc : recfile_Lay.piece A1 l1.length x.val = .slice (A1.map (·.add (4 * x.val))) (recfile_Lay.pc l1 x.val).length (recfile_Lay.pc l1 x.val).length := by unfold recfile_Lay.piece; rw [recfile_Lay.pc_len]
      have hP := frame_Put.calls a0 (A1.map (·.add (4 * x.val))) (recfile_Lay.pc l1 x.val).length (recfile_Lay.pc l1 x.val) _ _ W hC (Nat.le_refl _) hp
      obtain ⟨hI, r0, r1_, r2_, ⟨hall, haz, hgb_, hbB⟩, hx0, hx1⟩ := hS
      have hnb : recfile_Lay.nb l1 ≤ 250000 := by unfold recfile_Lay.nb; omega
      have hpn : pre.length < 250001 := by omega
      have c0 : W.cell? ⟨w.heap.size, 0, none⟩ = some (.int .i64 a0) := (blk_cell r0 0).trans rfl
      rw [hpc]
      generalize hT : (recfile_Lay.pt a0 l1 x.val).1 = T at hP hps
      cases hok : (recfile_Lay.pt a0 l1 x.val).2 with
      | true =>
        rw [hok] at hP
        gi_wp2_with (first | (refine ⟨trivial, ?_⟩; gi_at_call 60; (refine (CallsIn.inRound l (callsIn_wide.2 hP)).mono ?_); rintro e W1 ⟨rfl, hb1⟩; have hI1 := recfile_Lay.bld_keep hI (recfile_Lay.cells_below hb1); have hz1 := hb1.size; have hlt1 : w1.heap.size < W1.heap.size := hI1.elim (fun h => h.lt) (fun h => h.lt)) | (refine ⟨trivial, ?_⟩; gi_at_call 58; (refine (CallsIn.inRound l (callsIn_wide.2 (Go.Proofs.YtahkkgnicgbncaaJ.bld_write w1.heap.size w1.heap.size _ T W1 hI1 (by rw [Lib.strCells_length]; omega) (Nat.le_of_lt hlt1)))).mono ?_); rintro e W2 ⟨rfl, hI2, hb2, ho2⟩))
        obtain ⟨cs, hcs⟩ := recfile_Lay.bld_at hI1
        have hkp : recfile_Lay.Keep w2.heap.size W W2 := recfile_Lay.keep_of hb1 hx0 hx1 hbB ho2
        have hb12 : Below w.heap.size w W2 := (below_step hBw hb1).trans (hb2.mono (by omega))
        refine ⟨recfile_Lay.others_of hb1 hcs ho2 hb2.size, hkp, ⟨.inr ?_, (hb2.block _ (by omega)).trans (blk_below r0 hb1), (hb2.block _ (by omega)).trans (blk_below r1_ hb1), (hb2.block _ (by omega)).trans (blk_below r2_ hb1), ⟨?_, ?_, hgb_, hbB⟩, hx0.elim (fun v hv => ⟨v, hkp _ (.inl rfl) _ _ _ hv⟩), hx1.elim (fun v hv => ⟨v, hkp _ (.inr rfl) _ _ _ hv⟩)⟩, hb12⟩
        · rw [List.map_append, List.map_cons, List.map_nil, recfile_Lay.acc_snoc, hT, ← recfile_Lay.strCells_append]
          exact hI2
        · intro j hj
          rcases List.mem_append.mp hj with h | h
          · exact hall j h
          · rw [List.mem_singleton.mp h]; exact hok
        · rw [List.map_append, List.map_cons, List.map_nil, recfile_Lay.acc_snoc, hT, ByteArray.size_append, List.length_append]
          simp only [List.length_cons, List.length_nil]
          omega
      | false =>
        rw [hok] at hP
        gi_wp2_with (first | (refine ⟨trivial, ?_⟩; gi_at_call 60; (refine (CallsIn.inRound l (callsIn_wide.2 hP)).mono ?_); rintro e W1 ⟨rfl, hb1⟩; have k1 := blk_below r1_ hb1; have k2 := blk_below r2_ hb1; have c1 : W1.cell? ⟨w.heap.size + 1, 0, none⟩ = some (.string ⟨#[]⟩) := (blk_cell k1 0).trans rfl; have f1 := blk_frozen k1 0; have c2 : W1.cell? ⟨w.heap.size + 1 + 1, 0, none⟩ = some (.bool false) := (blk_cell k2 0).trans rfl; have f2 := blk_frozen k2 0))
        have hb12 : Below w.heap.size w W1 := below_step hBw hb1
        refine ⟨(show KeepsOthers W W1 from ⟨hb1.size, fun i o hi _ => blk_below hi hb1⟩).trans ((KeepsOthers.setCell _ _ _).trans (KeepsOthers.setCell _ _ _)), ⟨rfl, ⟨x, by simp, hok⟩, ?_, ?_⟩, below_set (below_set hb12 (show w.heap.size ≤ w.heap.size + 1 by omega)) (show w.heap.size ≤ w.heap.size + 1 + 1 by omega)⟩
        · exact blk_far (blk_put k1 0 _ rfl) (by simp) _
        · exact blk_put (blk_far k2 (by simp) _) 0 _ rfl
    case done =>
      rintro D ys W hD hys ⟨⟨hI, r0, r1_, r2_, ⟨hall, haz, hgb_, hbB⟩, _, _⟩, hBw⟩ hK
      have hz5 := HX.out.2
      have hyl : ys.length = recfile_Lay.nb l1 := by have := congrArg List.length hys; simpa using this
      have hnb : recfile_Lay.nb l1 ≤ 250000 := by unfold recfile_Lay.nb; omega
      have hr : recfile_Lay.right a0 l1 = true := by
        refine List.all_eq_true.mpr (fun j hj => ?_)
        rw [← hys] at hj
        obtain ⟨x, hx, rfl⟩ := List.mem_map.mp hj
        exact hall x hx
      have h1 := H1.out
      rw [if_pos hr, ← hys] at h1
      obtain ⟨⟨s1, s2⟩, hs, h2⟩ := Option.bind_eq_some_iff.mp h1
      obtain ⟨⟨en, eo⟩, he, h3⟩ := Option.bind_eq_some_iff.mp h2
      clear h1 h2
      split at h3
      case isFalse => cases h3
      case isTrue hes =>
      obtain ⟨e1, e2⟩ := Prod.mk.inj (Option.some.inj h3)
      clear h3
      simp only at hes
      have HE := Aside0.mk (And.intro e1 e2)
      clear e1 e2 hr hys
      have hC := Kd.C_below HC.out hBw
      have hS1 := recfile_Sum.calls A1 c1 l1 s1 s2 W hC hc1 hs
      have hE1 := fun W => frame_PutEnd.calls s1 s2 en eo W he
      clear hs he hC
      have hle : (recfile_Lay.acc a0 l1 hd (ys.map Fin.val)).size + en.size ≤ 140737488355328 := by omega
      gi_wp2_with (first | (refine ⟨trivial, ?_⟩; gi_at_call 22; (refine (callsIn_wide.2 hS1).mono ?_); rintro e W1 ⟨rfl, hb1⟩; have kk1 := recfile_Lay.cells_below hb1; have hK1 := blk_below hK hb1) | (refine ⟨trivial, ?_⟩; gi_at_call 61; (refine (callsIn_wide.2 (hE1 _)).mono ?_); rintro e W2 ⟨rfl, hb2⟩; have kk2 := recfile_Lay.cells_below hb2; have hK2 := blk_below hK1 hb2; have hI2 := recfile_Lay.bld_keep (recfile_Lay.bld_keep hI kk1) kk2; have hlt2 : w1.heap.size < W2.heap.size := hI2.elim (fun h => h.lt) (fun h => h.lt)) | (refine ⟨trivial, ?_⟩; gi_at_call 58; (refine (callsIn_wide.2 (Go.Proofs.YtahkkgnicgbncaaJ.bld_write w1.heap.size w1.heap.size _ en W2 hI2 (by rw [Lib.strCells_length]; exact hle) (Nat.le_of_lt hlt2))).mono ?_); rintro e W3_ ⟨rfl, hI3, hb3, ho3⟩; rw [recfile_Lay.strCells_append] at hI3; have hlt3 := hI3.lt) | (refine ⟨trivial, ?_⟩; gi_at_call 62; (refine (callsIn_wide.2 (Go.Proofs.YtahkkgnicgbncaaJ.bld_string w1.heap.size w1.heap.size (recfile_Lay.acc a0 l1 hd (ys.map Fin.val) ++ en).data.toList W3_ (.inr hI3) (Nat.le_of_lt hlt3))).mono ?_); rintro e W4 ⟨rfl, hI4, hb4, ho4⟩; have m1 := (hb4.block _ (by omega)).trans ((hb3.block _ (by omega)).trans (kk2 _ _ _ _ (kk1 _ _ _ _ r1_))); have m2 := (hb4.block _ (by omega)).trans ((hb3.block _ (by omega)).trans (kk2 _ _ _ _ (kk1 _ _ _ _ r2_))); have c1 : W4.cell? ⟨w.heap.size + 1, 0, none⟩ = some (.string ⟨#[]⟩) := (blk_cell m1 0).trans rfl; have f1 := blk_frozen m1 0; have c2 : W4.cell? ⟨w.heap.size + 1 + 1, 0, none⟩ = some (.bool false) := (blk_cell m2 0).trans rfl; have f2 := blk_frozen m2 0))
      have hz6 := HX.out.1.size
      have hDb : D ≠ w1.heap.size := by omega
      have hK4 := ho4 D _ (ho3 D _ hK2 (fun e => hDb (Option.some.inj e)) (fun c fz e => by cases e)) (fun e => hDb (Option.some.inj e)) (fun c fz e => by cases e)
      have b34 : Below w.heap.size w W4 := ((below_step (below_step hBw hb1) hb2).trans (hb3.mono (by omega))).trans (hb4.mono (by omega))
      have bF : Below w.heap.size w ((W4.setCell ⟨w.heap.size + 1, 0, none⟩ (.string { data := ((recfile_Lay.acc a0 l1 hd (ys.map Fin.val)).data.toList ++ en.data.toList).toArray })).setCell ⟨w.heap.size + 1 + 1, 0, none⟩ (.bool eo)) := below_set (below_set b34 (show w.heap.size ≤ w.heap.size + 1 by omega)) (show w.heap.size ≤ w.heap.size + 1 + 1 by omega)
      have g1 := blk_far (blk_put (cs' := #[.string { data := ((recfile_Lay.acc a0 l1 hd (ys.map Fin.val)).data.toList ++ en.data.toList).toArray }]) m1 0 _ rfl) (p := ⟨w.heap.size + 1 + 1, 0, none⟩) (show w.heap.size + 1 ≠ w.heap.size + 1 + 1 by omega) (.bool eo)
      have g2 := blk_put (cs' := #[.bool eo]) (blk_far m2 (p := ⟨w.heap.size + 1, 0, none⟩) (show w.heap.size + 1 + 1 ≠ w.heap.size + 1 by omega) (.string { data := ((recfile_Lay.acc a0 l1 hd (ys.map Fin.val)).data.toList ++ en.data.toList).toArray })) 0 _ rfl
      have hKF := (Below.heap_setCell _ ⟨w.heap.size + 1 + 1, 0, none⟩ (.bool eo) D (show D ≠ w.heap.size + 1 + 1 by omega)).trans ((Below.heap_setCell _ ⟨w.heap.size + 1, 0, none⟩ (.string { data := ((recfile_Lay.acc a0 l1 hd (ys.map Fin.val)).data.toList ++ en.data.toList).toArray }) D (show D ≠ w.heap.size + 1 by omega)).trans hK4)
      refine ⟨by simp, .inl ⟨_, _, rfl, run_takeDeferred hKF, ?_⟩⟩
      refine ⟨_, recfile_Lay.results_ss rfl _ _ (w.heap.size + 1) (w.heap.size + 1 + 1) _ _ rfl ((blk_cell ((World.putObj_heap_other (by omega)).trans g1) 0).trans rfl) rfl ((blk_cell ((World.putObj_heap_other (by omega)).trans g2) 0).trans rfl), ?_, bF.trans (belowK_b (w := W5) (by omega) _ D _ _ (by omega) hKF rfl rfl)⟩
      rw [← HE.out.1, ← HE.out.2]
      simp only [← Array.toList_append, ← ByteArray.data_append, Array.toArray_toList]
      rfl
    case stop =>
      rintro D c pre W hD ⟨kk, hkk, hpre⟩ ⟨⟨rfl, hbad, k1, k2⟩, hBw⟩ hK
      gi_wp2
      have hz5 := HX.out.2
      have hz6 := HX.out.1.size
      refine ⟨by simp, .inl ⟨_, _, rfl, run_takeDeferred hK, ?_⟩⟩
      refine ⟨_, recfile_Lay.results_ss rfl _ _ (w.heap.size + 1) (w.heap.size + 1 + 1) (.string ⟨#[]⟩) (.bool false) rfl ((blk_cell ((World.putObj_heap_other (by omega)).trans k1) 0).trans rfl) rfl ((blk_cell ((World.putObj_heap_other (by omega)).trans k2) 0).trans rfl), ?_, hBw.trans (belowK_b (w := W5) (by omega) W D _ _ (by omega) hK rfl rfl)⟩
      have hr : recfile_Lay.right a0 l1 = false := by
        obtain ⟨j, hj, hf⟩ := hbad
        refine Bool.eq_false_iff.mpr (fun hr => ?_)
        have := List.all_eq_true.mp hr j.val (List.mem_range.mpr j.isLt)
        rw [hf] at this
        cases this
      have h1 := H1.out
      rw [if_neg (by rw [hr]; decide)] at h1
      obtain ⟨e1, e2⟩ := Prod.mk.inj (Option.some.inj h1)
      rw [e1, e2]
end


/-! ### crc_Open: function 71 -/
def crc_Open.f (a0 : ByteArray) : Option (ByteArray × Bool) := if (wrap64 ((a0.size : Int) - 4)) < 0 then (some ((⟨#[]⟩ : ByteArray), false)) else (if 0 ≤ (wrap64 ((a0.size : Int) - 4)) then (if (wrap64 ((a0.size : Int) - 4)) ≤ (a0.size : Int) then ((crc_Close.f (a0.extract 0 ((wrap64 ((a0.size : Int) - 4)) : Int).toNat)).bind fun t112 => (if t112.toList = a0.toList then (some (a0.extract 0 ((wrap64 ((a0.size : Int) - 4)) : Int).toNat, true)) else (some ((⟨#[]⟩ : ByteArray), false)))) else (none)) else (none))
set_option maxHeartbeats 8000000 in
set_option maxRecDepth 100000 in
theorem crc_Open.calls (a0 : ByteArray) (r1 : ByteArray) (r2 : Bool) (w : World) (h : crc_Open.f a0 = some (r1, r2)) :
    Calls Try.prog 71 #[.string a0] w fun e w' => e = .returned (.tuple #[.string r1, .bool r2]) ∧ Below w.heap.size w w' := by
  have HB := Aside0.mk (Below.refl w.heap.size w)
  have H : (if (wrap64 ((a0.size : Int) - 4)) < 0 then (some ((⟨#[]⟩ : ByteArray), false)) else (if 0 ≤ (wrap64 ((a0.size : Int) - 4)) then (if (wrap64 ((a0.size : Int) - 4)) ≤ (a0.size : Int) then ((crc_Close.f (a0.extract 0 ((wrap64 ((a0.size : Int) - 4)) : Int).toNat)).bind fun t112 => (if t112.toList = a0.toList then (some (a0.extract 0 ((wrap64 ((a0.size : Int) - 4)) : Int).toNat, true)) else (some ((⟨#[]⟩ : ByteArray), false)))) else (none)) else (none))) = some (r1, r2) := h
  clear h
  by_cases c2 : (wrap64 ((a0.size : Int) - 4)) < 0
  · rw [if_pos c2] at H
    have c2b0 : decide ((wrap64 ((a0.size : Int) - 4)) < 0) = true := decide_eq_true c2
    clear c2
    simp only [Option.some.injEq, Prod.mk.injEq] at H
    obtain ⟨rfl, rfl⟩ := H
    go_enter Try.func71, Try.ntmps71
    go_wp2
    go_ret2
    exact ⟨by first | rfl | (simp [errW_none, errW_some] <;> rfl) | (simp [*, errW_none, errW_some] <;> rfl), by repeat (first | (with_reducible first | exact HB.out | apply below_alloc | apply pw_below_drewN | apply below_drew1) | exact HB.out)⟩
  · rw [if_neg c2] at H
    have c2b0 : decide ((wrap64 ((a0.size : Int) - 4)) < 0) = false := decide_eq_false c2
    clear c2
    obtain ⟨ji3, hji3⟩ : ∃ j_ : Int, (wrap64 ((a0.size : Int) - 4)) = j_ := ⟨_, rfl⟩
    replace H : (if 0 ≤ (ji3) then (if (ji3) ≤ (a0.size : Int) then ((crc_Close.f (a0.extract 0 ((ji3) : Int).toNat)).bind fun t112 => (if t112.toList = a0.toList then (some (a0.extract 0 ((ji3) : Int).toNat, true)) else (some ((⟨#[]⟩ : ByteArray), false)))) else (none)) else (none)) = some (r1, r2) := by first | (rw [hji3] at H; exact H) | (simp only [hji3] at H ⊢; exact H)
    (try rw [hji3] at c2b0)
    have hji3w : (IntKind.i64.wrap ((a0.size : Int) - 4)) = ji3 := (i64_w _).trans hji3
    by_cases c4 : 0 ≤ (ji3)
    · rw [if_pos c4] at H
      have c4b0 := eq_true c4
      have c4b1 : decide (0 ≤ (ji3)) = true := decide_eq_true c4
      clear c4
      by_cases c5 : (ji3) ≤ (a0.size : Int)
      · rw [if_pos c5] at H
        have c5b0 := eq_true c5
        have c5b1 : decide ((ji3) ≤ (a0.size : Int)) = true := decide_eq_true c5
        clear c5
        replace H := Option.bind_eq_some_iff.mp H
        obtain ⟨t112, A60, H⟩ := H
        replace H : (if t112.toList = a0.toList then (some (a0.extract 0 ((ji3) : Int).toNat, true)) else (some ((⟨#[]⟩ : ByteArray), false))) = some (r1, r2) := H
        have A6 := Aside0.mk A60
        clear A60
        by_cases c7 : t112.toList = a0.toList
        · rw [if_pos c7] at H
          have c7b0 : (t112.toList == a0.toList) = true := beq_iff_eq.mpr c7
          have c7b1 : (t112.toList != a0.toList) = false := bne_eq_false_iff_eq.mpr c7
          clear c7
          have c8b0 := eq_true (of_decide_eq_true (by first | (with_reducible assumption) | assumption) : 0 ≤ (ji3))
          have c9b0 := eq_true (of_decide_eq_true (by first | (with_reducible assumption) | assumption) : (ji3) ≤ (a0.size : Int))
          simp only [Option.some.injEq, Prod.mk.injEq] at H
          obtain ⟨rfl, rfl⟩ := H
          go_enter Try.func71, Try.ntmps71
          go_wp2_with (first | (go_at_call 69; (with_reducible refine (crc_Close.calls (a0.extract 0 ((ji3) : Int).toNat) t112 _ A6.out).mono ?_); rintro e w10 ⟨rfl, hb⟩; have n0_ := Aside0.mk (below_step (by repeat (first | (with_reducible first | exact HB.out | apply below_alloc | apply pw_below_drewN | apply below_drew1) | exact HB.out)) hb); clear HB; have HB := n0_; clear n0_; (try clear hb); (try clear hb2); (try clear hk); (try clear hi)))
          go_ret2
          exact ⟨by first | rfl | (simp [errW_none, errW_some] <;> rfl) | (simp only [← hji3]; first | rfl | (simp [errW_none, errW_some] <;> rfl)) | (simp [*, errW_none, errW_some] <;> rfl), by repeat (first | (with_reducible first | exact HB.out | apply below_alloc | apply pw_below_drewN | apply below_drew1) | exact HB.out)⟩
        · rw [if_neg c7] at H
          have c7b0 : (t112.toList == a0.toList) = false := beq_eq_false_iff_ne.mpr c7
          have c7b1 : (t112.toList != a0.toList) = true := bne_iff_ne.mpr c7
          simp only [Option.some.injEq, Prod.mk.injEq] at H
          obtain ⟨rfl, rfl⟩ := H
          go_enter Try.func71, Try.ntmps71
          go_wp2_with (first | (go_at_call 69; (with_reducible refine (crc_Close.calls (a0.extract 0 ((ji3) : Int).toNat) t112 _ A6.out).mono ?_); rintro e w11 ⟨rfl, hb⟩; have n0_ := Aside0.mk (below_step (by repeat (first | (with_reducible first | exact HB.out | apply below_alloc | apply pw_below_drewN | apply below_drew1) | exact HB.out)) hb); clear HB; have HB := n0_; clear n0_; (try clear hb); (try clear hb2); (try clear hk); (try clear hi)))
          go_ret2
          exact ⟨by first | rfl | (simp [errW_none, errW_some] <;> rfl) | (simp only [← hji3]; first | rfl | (simp [errW_none, errW_some] <;> rfl)) | (simp [*, errW_none, errW_some] <;> rfl), by repeat (first | (with_reducible first | exact HB.out | apply below_alloc | apply pw_below_drewN | apply below_drew1) | exact HB.out)⟩
      · rw [if_neg c5] at H
        exact absurd H (by simp)
    · rw [if_neg c4] at H
      exact absurd H (by simp)

/-! ### stringslite_HasPrefix: function 126 -/
def stringslite_HasPrefix.f (a0 : ByteArray) (a1 : ByteArray) : Option (Bool) := if (a0.size : Int) ≥ (a1.size : Int) then (if 0 ≤ (a1.size : Int) then (if (a1.size : Int) ≤ (a0.size : Int) then (some ((a0.extract 0 ((a1.size : Int) : Int).toNat).toList == a1.toList)) else (none)) else (none)) else (some false)
set_option maxHeartbeats 8000000 in
set_option maxRecDepth 100000 in
theorem stringslite_HasPrefix.calls (a0 : ByteArray) (a1 : ByteArray) (r : Bool) (w : World) (h : stringslite_HasPrefix.f a0 a1 = some r) :
    Calls Try.prog 126 #[.string a0, .string a1] w fun e w' => e = .returned (.bool r) ∧ Drawn0 w w' := by
  have H : (if (a0.size : Int) ≥ (a1.size : Int) then (if 0 ≤ (a1.size : Int) then (if (a1.size : Int) ≤ (a0.size : Int) then (some ((a0.extract 0 ((a1.size : Int) : Int).toNat).toList == a1.toList)) else (none)) else (none)) else (some false)) = some r := h
  clear h
  by_cases c3 : (a0.size : Int) ≥ (a1.size : Int)
  · rw [if_pos c3] at H
    have c3b0 : decide ((a1.size : Int) ≤ (a0.size : Int)) = true := decide_eq_true c3
    have c3b1 : decide (a1.size ≤ a0.size) = true := decide_eq_true (Int.ofNat_le.mp c3)
    clear c3
    by_cases c4 : 0 ≤ (a1.size : Int)
    · rw [if_pos c4] at H
      have c4b0 := eq_true c4
      have c4b1 : decide (0 ≤ (a1.size : Int)) = true := decide_eq_true c4
      clear c4
      by_cases c5 : (a1.size : Int) ≤ (a0.size : Int)
      · rw [if_pos c5] at H
        have c5b0 := eq_true c5
        have c5b1 : decide ((a1.size : Int) ≤ (a0.size : Int)) = true := decide_eq_true c5
        clear c5
        obtain rfl := Option.some.inj H
        go_enter Try.func126, Try.ntmps126
        go_wp2
        go_ret
        exact ⟨by first | rfl | (simp; done) | (simp [*]; done), by repeat (first | exact Drawn0.refl _ | apply Drawn0.step)⟩
      · rw [if_neg c5] at H
        exact absurd H (by simp)
    · rw [if_neg c4] at H
      exact absurd H (by simp)
  · rw [if_neg c3] at H
    have c3b0 : decide ((a1.size : Int) ≤ (a0.size : Int)) = false := decide_eq_false c3
    have c3b1 : decide (a1.size ≤ a0.size) = false := decide_eq_false (fun h => c3 (Int.ofNat_le.mpr h))
    clear c3
    obtain rfl := Option.some.inj H
    go_enter Try.func126, Try.ntmps126
    go_wp2
    go_ret
    exact ⟨by first | rfl | (simp; done) | (simp [*]; done), by repeat (first | exact Drawn0.refl _ | apply Drawn0.step)⟩

/-! ### strings_HasPrefix: function 72 -/
def strings_HasPrefix.f (a0 : ByteArray) (a1 : ByteArray) : Option (Bool) := (stringslite_HasPrefix.f a0 a1).bind fun t113 => (some t113)
set_option maxHeartbeats 8000000 in
set_option maxRecDepth 100000 in
theorem strings_HasPrefix.calls (a0 : ByteArray) (a1 : ByteArray) (r : Bool) (w : World) (h : strings_HasPrefix.f a0 a1 = some r) :
    Calls Try.prog 72 #[.string a0, .string a1] w fun e w' => e = .returned (.bool r) ∧ Drawn0 w w' := by
  have H : ((stringslite_HasPrefix.f a0 a1).bind fun t113 => (some t113)) = some r := h
  clear h
  replace H := Option.bind_eq_some_iff.mp H
  obtain ⟨t113, A30, H⟩ := H
  replace H : (some t113) = some r := H
  have A3 := Aside0.mk A30
  clear A30
  obtain rfl := Option.some.inj H
  go_enter Try.func72, Try.ntmps72
  go_wp2_with (first | ((with_reducible refine gate_callee (f := 126) rfl ?_); refine goesL_ (some 7) rfl rfl Try.func126 (by kernel_rfl) rfl #[.string a0, .string a1] rfl (by (try simp only [List.map_toArray, List.map_cons, List.map_nil]); first | done | rfl | (simp only [List.length_drop, List.length_take]; rfl)) ?_; (with_reducible refine (stringslite_HasPrefix.calls a0 a1 t113 _ A3.out).mono ?_); rintro e w' ⟨rfl, ⟨nd, rfl⟩⟩; refine ⟨_, rfl, ?_⟩) | (go_at_call 126; refine calls_of_args (args' := #[.string a0, .string a1]) (by first | rfl) ?_; (with_reducible refine (stringslite_HasPrefix.calls a0 a1 t113 _ A3.out).mono ?_); rintro e w' ⟨rfl, ⟨nd, rfl⟩⟩))
  go_ret
  exact ⟨by first | rfl | (simp; done) | (simp [*]; done), by repeat (first | exact Drawn0.refl _ | apply Drawn0.step)⟩

/-! ### recfile_GetHead: function 17 -/
def recfile_GetHead.j0 : Nat → ByteArray → Bool → Option (Int × Bool)
  | 0, _, _ => none
  | k + 1, x4, x23 => if x23 = true then (some (0, false)) else (if 6 < (x4.size : Int) then (if (wrap64 (bt x4 6)) < 1 then (some (0, false)) else (if (wrap64 (bt x4 6)) > 64 then (some (0, false)) else (some (wrap64 (bt x4 6), true)))) else (none))
def recfile_GetHead.f (k : Nat) (a0 : ByteArray) : Option (Int × Bool) := (crc_Open.f a0).bind fun bt114 => (if bt114.2 = true then (if (a0.size : Int) = 11 then ((strings_HasPrefix.f bt114.1 (⟨#[67, 72, 65, 73, 78, 49]⟩ : ByteArray)).bind fun t116 => (recfile_GetHead.j0 k bt114.1 (!t116))) else (recfile_GetHead.j0 k bt114.1 true)) else (recfile_GetHead.j0 k bt114.1 true))
theorem recfile_GetHead.mono_l : ∀ k, (∀ y0 y1, LeO (recfile_GetHead.j0 k y0 y1) (recfile_GetHead.j0 (k + 1) y0 y1))
  | 0 => fun _ _ r h => by simp [recfile_GetHead.j0] at h
  | k + 1 => by
    have ih0 := recfile_GetHead.mono_l k
    · intro y0 y1
      unfold recfile_GetHead.j0
      repeat' first
      | (with_reducible exact ih0 _ _)
      | (with_reducible exact LeO.refl _)
      | (with_reducible exact LeO.none _)
      | (with_reducible refine LeO.ite ?_ ?_)
      | (with_reducible refine LeO.bind ?_ (fun _ => ?_))
      | exact ih0 _ _
      | exact LeO.none _
      | refine LeO.ite ?_ ?_
      | refine LeO.bind ?_ (fun _ => ?_)
theorem recfile_GetHead.mono : ∀ a0 k, LeO (recfile_GetHead.f k a0) (recfile_GetHead.f (k + 1) a0) := by
  intro a0 k
  have ih0 := recfile_GetHead.mono_l k
  unfold recfile_GetHead.f
  repeat' first
      | (with_reducible exact ih0 _ _)
      | (with_reducible exact LeO.refl _)
      | (with_reducible exact LeO.none _)
      | (with_reducible refine LeO.ite ?_ ?_)
      | (with_reducible refine LeO.bind ?_ (fun _ => ?_))
      | exact ih0 _ _
      | exact LeO.none _
      | refine LeO.ite ?_ ?_
      | refine LeO.bind ?_ (fun _ => ?_)
set_option maxHeartbeats 8000000 in
set_option maxRecDepth 100000 in
theorem recfile_GetHead.calls (k : Nat) (a0 : ByteArray) (r1 : Int) (r2 : Bool) (w : World) (h : recfile_GetHead.f k a0 = some (r1, r2)) :
    Calls Try.prog 17 #[.string a0] w fun e w' => e = .returned (.tuple #[.int .i64 r1, .bool r2]) ∧ Below w.heap.size w w' := by
  have HB := Aside0.mk (Below.refl w.heap.size w)
  have H : ((crc_Open.f a0).bind fun bt114 => (if bt114.2 = true then (if (a0.size : Int) = 11 then ((strings_HasPrefix.f bt114.1 (⟨#[67, 72, 65, 73, 78, 49]⟩ : ByteArray)).bind fun t116 => (recfile_GetHead.j0 k bt114.1 (!t116))) else (recfile_GetHead.j0 k bt114.1 true)) else (recfile_GetHead.j0 k bt114.1 true))) = some (r1, r2) := h
  clear h
  replace H := Option.bind_eq_some_iff.mp H
  obtain ⟨⟨t114, t115⟩, A20, H⟩ := H
  replace H : (if t115 = true then (if (a0.size : Int) = 11 then ((strings_HasPrefix.f t114 (⟨#[67, 72, 65, 73, 78, 49]⟩ : ByteArray)).bind fun t116 => (recfile_GetHead.j0 k t114 (!t116))) else (recfile_GetHead.j0 k t114 true)) else (recfile_GetHead.j0 k t114 true)) = some (r1, r2) := H
  have A2 := Aside0.mk A20
  clear A20
  have HC3 := Aside0.mk H
  clear H
  go_enter Try.func17, Try.ntmps17
  go_upto_region 2 with (first | ((with_reducible refine gate_callee (f := 71) rfl ?_); refine goesL_ (some 9) rfl rfl Try.func71 (by kernel_rfl) rfl #[.string a0] rfl (by (try simp only [List.map_toArray, List.map_cons, List.map_nil]); first | done | rfl | (simp only [List.length_drop, List.length_take]; rfl)) ?_; (with_reducible refine (crc_Open.calls a0 t114 t115 _ A2.out).mono ?_); rintro e w4 ⟨rfl, hb⟩; refine ⟨_, rfl, ?_⟩; have n0_ := Aside0.mk (below_step (by repeat (first | (with_reducible first | exact HB.out | apply below_alloc | apply pw_below_drewN | apply below_drew1) | exact HB.out)) hb); clear HB; have HB := n0_; clear n0_; (try clear hb); (try clear hb2); (try clear hk); (try clear hi)))
  (try simp only [Act.put, List.setIfInBounds_toArray, List.set_cons_zero, List.set_cons_succ])
  go_cut [23] (fun v23 wc => ∃ (kq : Nat) (x23_2 : Bool), v23 = .bool x23_2 ∧ Aside0 (recfile_GetHead.j0 kq t114 x23_2 = some (r1, r2)) ∧ Aside0 (kq ≤ k) ∧ Aside0 (Below w.heap.size w wc))
  case first =>
    have H := HC3.out
    clear HC3
    by_cases c5 : t115 = true
    · subst c5
      have H1 : (if (a0.size : Int) = 11 then ((strings_HasPrefix.f t114 (⟨#[67, 72, 65, 73, 78, 49]⟩ : ByteArray)).bind fun t116 => (recfile_GetHead.j0 k t114 (!t116))) else (recfile_GetHead.j0 k t114 true)) = some (r1, r2) := by rw [if_pos rfl] at H; exact H
      clear H
      have H := H1
      clear H1
      by_cases c6 : (a0.size : Int) = 11
      · rw [if_pos c6] at H
        have c6b0 : ((a0.size : Int) == 11) = true := beq_iff_eq.mpr c6
        have c6b1 : ((a0.size : Int) != 11) = false := bne_eq_false_iff_eq.mpr c6
        clear c6
        (first | rw [c6b0] | (simp only [i64_w, i32_w]; rw [c6b0]) | skip)
        replace H := Option.bind_eq_some_iff.mp H
        obtain ⟨t116, A70, H⟩ := H
        replace H : (recfile_GetHead.j0 k t114 (!t116)) = some (r1, r2) := H
        have A7 := Aside0.mk A70
        clear A70
        have H' := Aside0.mk H
        clear H
        go_wp2_with (first | (go_at_call 72; (with_reducible refine (strings_HasPrefix.calls t114 (⟨#[67, 72, 65, 73, 78, 49]⟩ : ByteArray) t116 _ A7.out).mono ?_); rintro e w' ⟨rfl, ⟨nd, rfl⟩⟩) | (go_at_call 72; refine calls_of_args (args' := #[.string t114, .string (⟨#[67, 72, 65, 73, 78, 49]⟩ : ByteArray)]) (by first | rfl) ?_; (with_reducible refine (strings_HasPrefix.calls t114 (⟨#[67, 72, 65, 73, 78, 49]⟩ : ByteArray) t116 _ A7.out).mono ?_); rintro e w' ⟨rfl, ⟨nd, rfl⟩⟩))
        go_meet
        case rel => exact ⟨_, (!t116), (by first | rfl | (simp; done) | (simp [*]; done)), H', ⟨by first | omega | exact Nat.le_refl _⟩, ⟨by repeat (first | (with_reducible first | exact HB.out | apply below_alloc | apply pw_below_drewN | apply below_drew1) | exact HB.out)⟩⟩
      · rw [if_neg c6] at H
        have c6b0 : ((a0.size : Int) == 11) = false := beq_eq_false_iff_ne.mpr c6
        have c6b1 : ((a0.size : Int) != 11) = true := bne_iff_ne.mpr c6
        (first | rw [c6b0] | (simp only [i64_w, i32_w]; rw [c6b0]) | skip)
        have H' := Aside0.mk H
        clear H
        go_wp2
        go_meet
        case rel => exact ⟨_, (true), (by first | rfl | (simp; done) | (simp [*]; done)), H', ⟨by first | omega | exact Nat.le_refl _⟩, ⟨by repeat (first | (with_reducible first | exact HB.out | apply below_alloc | apply pw_below_drewN | apply below_drew1) | exact HB.out)⟩⟩
    · replace c5 := Bool.eq_false_iff.mpr c5
      subst c5
      have H1 : (recfile_GetHead.j0 k t114 true) = some (r1, r2) := by rw [if_neg (show ¬ (false = true) by decide)] at H; exact H
      clear H
      have H := H1
      clear H1
      have H' := Aside0.mk H
      clear H
      go_wp2
      go_meet
      case rel => exact ⟨_, (true), (by first | rfl | (simp; done) | (simp [*]; done)), H', ⟨by first | omega | exact Nat.le_refl _⟩, ⟨by repeat (first | (with_reducible first | exact HB.out | apply below_alloc | apply pw_below_drewN | apply below_drew1) | exact HB.out)⟩⟩
  case rest =>
    clear HC3
    try clear c1
    try clear p2
    try clear c5
    try clear c6
    try clear c6b0
    try clear c6b1
    try clear c7
    obtain ⟨kq, x23_2, rfl, HA, HJ2, HB⟩ := hcut
    cases kq with
    | zero => exact absurd HA.out (by simp [recfile_GetHead.j0])
    | succ kj2 =>
      have H := HA.out
      clear HA
      simp only [recfile_GetHead.j0] at H
      by_cases c8 : x23_2 = true
      · subst c8
        have H1 : (some (0, false)) = some (r1, r2) := by rw [if_pos rfl] at H; exact H
        clear H
        have H := H1
        clear H1
        simp only [Option.some.injEq, Prod.mk.injEq] at H
        obtain ⟨rfl, rfl⟩ := H
        go_wp2
        go_ret2
        exact ⟨by first | rfl | (simp [errW_none, errW_some] <;> rfl) | (simp [*, errW_none, errW_some] <;> rfl), by repeat (first | (with_reducible first | exact HB.out | apply below_alloc | apply pw_below_drewN | apply below_drew1) | exact HB.out)⟩
      · replace c8 := Bool.eq_false_iff.mpr c8
        subst c8
        have H1 : (if 6 < (t114.size : Int) then (if (wrap64 (bt t114 6)) < 1 then (some (0, false)) else (if (wrap64 (bt t114 6)) > 64 then (some (0, false)) else (some (wrap64 (bt t114 6), true)))) else (none)) = some (r1, r2) := by rw [if_neg (show ¬ (false = true) by decide)] at H; exact H
        clear H
        have H := H1
        clear H1
        by_cases c9 : 6 < (t114.size : Int)
        · rw [if_pos c9] at H
          have c9b0 : decide (6 < (t114.size : Int)) = true := decide_eq_true c9
          have c9b1 : decide (6 < t114.size) = true := decide_eq_true (by omega)
          clear c9
          by_cases c11 : (wrap64 (bt t114 6)) < 1
          · rw [if_pos c11] at H
            have c11b0 : decide ((wrap64 (bt t114 6)) < 1) = true := decide_eq_true c11
            clear c11
            simp only [Option.some.injEq, Prod.mk.injEq] at H
            obtain ⟨rfl, rfl⟩ := H
            have p10 : 0 ≤ (6 : Int) := (by omega)
            have q10 : 6 < t114.size := (by have : (6 : Int) < (t114.size : Int) := of_decide_eq_true (by first | (with_reducible assumption) | assumption); omega)
            have hx10 : ∀ h : 6 < t114.size, ((t114[6]'h).toNat : Int) = bt t114 6 := bt_at t114 6
            clear p10
            have qi10 : (6 < (t114.size : Int)) = True := eq_true (of_decide_eq_true (by first | (with_reducible assumption) | assumption))
            replace q10 := eq_true q10
            go_wp2
            go_ret2
            exact ⟨by first | rfl | (simp [errW_none, errW_some] <;> rfl) | (simp [*, errW_none, errW_some] <;> rfl), by repeat (first | (with_reducible first | exact HB.out | apply below_alloc | apply pw_below_drewN | apply below_drew1) | exact HB.out)⟩
          · rw [if_neg c11] at H
            have c11b0 : decide ((wrap64 (bt t114 6)) < 1) = false := decide_eq_false c11
            clear c11
            by_cases c12 : (wrap64 (bt t114 6)) > 64
            · rw [if_pos c12] at H
              have c12b0 : decide (64 < (wrap64 (bt t114 6))) = true := decide_eq_true c12
              clear c12
              simp only [Option.some.injEq, Prod.mk.injEq] at H
              obtain ⟨rfl, rfl⟩ := H
              have p10 : 0 ≤ (6 : Int) := (by omega)
              have q10 : 6 < t114.size := (by have : (6 : Int) < (t114.size : Int) := of_decide_eq_true (by first | (with_reducible assumption) | assumption); omega)
              have hx10 : ∀ h : 6 < t114.size, ((t114[6]'h).toNat : Int) = bt t114 6 := bt_at t114 6
              clear p10
              have qi10 : (6 < (t114.size : Int)) = True := eq_true (of_decide_eq_true (by first | (with_reducible assumption) | assumption))
              replace q10 := eq_true q10
              go_wp2
              go_ret2
              exact ⟨by first | rfl | (simp [errW_none, errW_some] <;> rfl) | (simp [*, errW_none, errW_some] <;> rfl), by repeat (first | (with_reducible first | exact HB.out | apply below_alloc | apply pw_below_drewN | apply below_drew1) | exact HB.out)⟩
            · rw [if_neg c12] at H
              have c12b0 : decide (64 < (wrap64 (bt t114 6))) = false := decide_eq_false c12
              clear c12
              simp only [Option.some.injEq, Prod.mk.injEq] at H
              obtain ⟨rfl, rfl⟩ := H
              have p10 : 0 ≤ (6 : Int) := (by omega)
              have q10 : 6 < t114.size := (by have : (6 : Int) < (t114.size : Int) := of_decide_eq_true (by first | (with_reducible assumption) | assumption); omega)
              have hx10 : ∀ h : 6 < t114.size, ((t114[6]'h).toNat : Int) = bt t114 6 := bt_at t114 6
              clear p10
              have qi10 : (6 < (t114.size : Int)) = True := eq_true (of_decide_eq_true (by first | (with_reducible assumption) | assumption))
              replace q10 := eq_true q10
              go_wp2
              go_ret2
              exact ⟨by first | rfl | (simp [errW_none, errW_some] <;> rfl) | (simp [*, errW_none, errW_some] <;> rfl), by repeat (first | (with_reducible first | exact HB.out | apply below_alloc | apply pw_below_drewN | apply below_drew1) | exact HB.out)⟩
        · rw [if_neg c9] at H
          exact absurd H (by simp)

/-! ### octet_Get: function 122 -/
def octet_Get.join (n : Int) (b : Int) : Int := Go.bits .or .u64 (IntKind.u64.wrap (n * 256)) b
def octet_Get.num (l : List Int) : Int := l.foldl octet_Get.join 0
def octet_Get.f (a0 : ByteArray) (a1 a2 : Int) : Option (Int × Bool) :=
  if a0.size ≤ 1000000000 ∧ -9223372036854775808 ≤ a1 ∧ a1 ≤ 9223372036854775807 then
    if a2 < 1 ∨ 8 < a2 ∨ a1 < 0 ∨ (a0.size : Int) - a2 < a1 then some (0, false)
    else if octet_Get.num (bytesOf (a0.extract a1.toNat (a1 + a2).toNat)) < 9223372036854775808 then some (octet_Get.num (bytesOf (a0.extract a1.toNat (a1 + a2).toNat)), true) else some (0, false)
  else none
theorem octet_Get.join_range (n b : Int) : 0 ≤ octet_Get.join n b ∧ octet_Get.join n b < 18446744073709551616 := by
  unfold octet_Get.join Go.bits IntKind.wrap
  simp [IntKind.bits, IntKind.signed]
  omega
theorem octet_Get.num_snoc (l : List Int) (b : Int) : octet_Get.num (l ++ [b]) = octet_Get.join (octet_Get.num l) b := by
  unfold octet_Get.num
  rw [List.foldl_append]; rfl
theorem octet_Get.num_range (l : List Int) : 0 ≤ octet_Get.num l ∧ octet_Get.num l < 18446744073709551616 := by
  rcases List.eq_nil_or_concat l with rfl | ⟨m, b, rfl⟩
  · exact ⟨Int.le_refl _, by decide⟩
  · rw [List.concat_eq_append, octet_Get.num_snoc]; exact octet_Get.join_range _ _
theorem octet_Get.bytes_take (s : ByteArray) (k : Nat) (h : k < s.size) : (bytesOf s).take (k + 1) = (bytesOf s).take k ++ [((s.data.toList.getD k 0).toNat : Int)] := by
  have h' : k < (bytesOf s).length := by simpa [bytesOf] using h
  have h2 : k < s.data.toList.length := by simpa using h
  rw [List.take_succ_eq_append_getElem h']
  congr 2
  rw [List.getD_eq_getElem?_getD, List.getElem?_eq_getElem h2]
  simp [bytesOf]
set_option maxHeartbeats 2000000 in
set_option maxRecDepth 100000 in
theorem octet_Get.calls (a0 : ByteArray) (a1 a2 : Int) (r1 : Int) (r2 : Bool) (w : World) (h : octet_Get.f a0 a1 a2 = some (r1, r2)) :
    Calls Try.prog 122 #[.string a0, .int .i64 a1, .int .i64 a2] w fun e w' => e = .returned (.tuple #[.int .i64 r1, .bool r2]) ∧ Below w.heap.size w w' := by
  unfold octet_Get.f at h
  by_cases hg : a0.size ≤ 1000000000 ∧ -9223372036854775808 ≤ a1 ∧ a1 ≤ 9223372036854775807
  · rw [if_pos hg] at h
    obtain ⟨hs, hl, hu⟩ := hg
    by_cases c1 : a2 < 1
    · rw [if_pos (.inl c1)] at h
      simp only [Option.some.injEq, Prod.mk.injEq] at h
      obtain ⟨rfl, rfl⟩ := h
      go_enter Try.func122, Try.ntmps122
      go_wp2
      go_ret2
      exact ⟨rfl, Below.refl _ _⟩
    · by_cases c2 : 8 < a2
      · rw [if_pos (.inr (.inl c2))] at h
        simp only [Option.some.injEq, Prod.mk.injEq] at h
        obtain ⟨rfl, rfl⟩ := h
        go_enter Try.func122, Try.ntmps122
        go_wp2
        go_ret2
        exact ⟨rfl, Below.refl _ _⟩
      · by_cases c3 : a1 < 0
        · rw [if_pos (.inr (.inr (.inl c3)))] at h
          simp only [Option.some.injEq, Prod.mk.injEq] at h
          obtain ⟨rfl, rfl⟩ := h
          go_enter Try.func122, Try.ntmps122
          go_wp2
          go_ret2
          exact ⟨rfl, Below.refl _ _⟩
        · by_cases c4 : (a0.size : Int) - a2 < a1
          · rw [if_pos (.inr (.inr (.inr c4)))] at h
            simp only [Option.some.injEq, Prod.mk.injEq] at h
            obtain ⟨rfl, rfl⟩ := h
            go_enter Try.func122, Try.ntmps122
            go_wp2
            go_ret2
            exact ⟨rfl, Below.refl _ _⟩
          · rw [if_neg (by omega)] at h
            obtain ⟨i, rfl⟩ : ∃ i : Nat, a1 = (i : Int) := ⟨a1.toNat, by omega⟩
            obtain ⟨k, rfl⟩ : ∃ k : Nat, a2 = (k : Int) := ⟨a2.toNat, by omega⟩
            rw [Int.toNat_natCast, show ((i : Int) + (k : Int)).toNat = i + k from by omega] at h
            have hik : i + k ≤ a0.size := by omega
            have hes : (a0.extract i (i + k)).size = k := by rw [ByteArray.size_extract]; omega
            have H := Aside0.mk h
            have hsl : ∀ w, (Instr.slice 9 (.string a0) (some (.int .i64 (i : Int))) (some (.int .i64 ((i : Int) + (k : Int)))) none).run Try.prog w = .ok (.string (a0.extract i (i + k))) w := fun w => by
              rw [run_slice_string w 9 a0 .i64 .i64 _ _ Try.underlying9 (by omega) (by omega) (by omega)]
              rw [Int.toNat_natCast, show ((i : Int) + (k : Int)).toNat = i + k from by omega]
            clear h
            generalize a0.extract i (i + k) = z at H hsl hes
            have hconv := fun w : World => Lib.run_convert_string_bytes (P := Try.prog) w 9 76 5 z Try.underlying9 Try.underlying76 Try.underlying5
            go_enter Try.func122, Try.ntmps122
            go_wp2
            obtain ⟨W1, hW1⟩ : ∃ W1, W1 = Lib.bytesWorld w 5 z := ⟨_, rfl⟩
            have hB : ∀ t, t < z.size → W1.cell? ⟨w.heap.size, t, none⟩ = some (.int .u8 (z.data.toList.getD t 0).toNat) := fun t ht => by rw [hW1]; exact Lib.bytesWorld_cell w 5 z t ht
            have hwW : Below w.heap.size w W1 := by rw [hW1]; exact ⟨rfl, rfl, rfl, by rw [Lib.bytesWorld_size]; omega, fun j hj => Lib.bytesWorld_at_old w 5 z j hj⟩
            rw [← hW1]
            rw [hes] at hB
            have HW := Aside0.mk hW1
            have HB := Aside0.mk hB
            have HC := Aside0.mk hconv
            have HN := Aside0.mk hwW
            have HE := Aside0.mk hes
            clear hW1 hB hconv hwW hes hsl
            have hk8 : k ≤ 8 := by omega
            have h64 : (k : Int) ≤ 8 := by omega
            go_loop [8, 37] (fun n i => ∃ j : Nat, j ≤ k ∧ i = .int .i64 j ∧ n = .int .u64 (octet_Get.num ((bytesOf z).take j))) (fun _ i => k - (intOf i).toNat)
            case atStart => exact ⟨0, Nat.zero_le _, rfl, rfl⟩
            case round =>
              obtain ⟨j, hj, rfl, rfl⟩ := hrel
              by_cases hlt : j < k
              · have hc := HB.out j hlt
                have HS : Aside0 (octet_Get.num ((bytesOf z).take (j + 1)) = octet_Get.join (octet_Get.num ((bytesOf z).take j)) ((z.data.toList.getD j 0).toNat : Int)) := ⟨by
                  rw [octet_Get.bytes_take z j (by rw [HE.out]; exact hlt), octet_Get.num_snoc]⟩
                have hr := octet_Get.num_range ((bytesOf z).take j)
                generalize octet_Get.num ((bytesOf z).take j) = n at HS hr ⊢
                obtain ⟨c, hcc⟩ : ∃ c, c = z.data.toList.getD j 0 := ⟨_, rfl⟩
                rw [← hcc] at hc HS
                clear hcc
                have hc0 : (c.toNat : Int) < 256 := by have := c.toNat_lt; omega
                go_wp2
                go_round
                case rel => exact ⟨j + 1, by omega, by go_num, by rw [HS.out]; rfl⟩
                case measure => simp [intOf]; omega
              · obtain rfl : j = k := by omega
                have HT : Aside0 ((bytesOf z).take j = bytesOf z) := ⟨List.take_of_length_le (by have := HE.out; simp [bytesOf] at *; omega)⟩
                rw [HT.out]
                have hr := octet_Get.num_range (bytesOf z)
                have H' := H.out
                by_cases hlim : octet_Get.num (bytesOf z) < 9223372036854775808
                · rw [if_pos hlim] at H'
                  simp only [Option.some.injEq, Prod.mk.injEq] at H'
                  have HR := Aside0.mk H'
                  clear H' H
                  generalize octet_Get.num (bytesOf z) = n at hr hlim HR ⊢
                  have hsh : decide (0 < n / 9223372036854775808) = false := decide_eq_false (by omega)
                  have hwr : (n + 9223372036854775808) % 18446744073709551616 - 9223372036854775808 = n := by omega
                  go_wp2
                  go_ret2
                  exact ⟨by rw [← HR.out.1, ← HR.out.2]; rfl, HN.out⟩
                · rw [if_neg hlim] at H'
                  simp only [Option.some.injEq, Prod.mk.injEq] at H'
                  have HR := Aside0.mk H'
                  clear H' H
                  generalize octet_Get.num (bytesOf z) = n at hr hlim HR ⊢
                  have hsh : decide (0 < n / 9223372036854775808) = true := decide_eq_true (by omega)
                  go_wp2
                  go_ret2
                  exact ⟨by rw [← HR.out.1, ← HR.out.2]; rfl, HN.out⟩
  · rw [if_neg hg] at h
    cases h


end Go.Proofs.Ytahkkgnicgbncaa.PRecfileTells
