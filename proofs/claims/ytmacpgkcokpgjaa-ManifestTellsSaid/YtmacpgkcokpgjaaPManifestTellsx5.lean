/- The Go functions that the law reaches, as plain Lean functions, and proofs that the calls of the machine come to them, or the row of the law over them, for every input that the row speaks of; written by a program of this session (wip/tool/mkprint.py) out of the translation and of hand-made templates. -/
import Derived.Test.YtmacpgkcokpgjaaPManifestTellsx0
import Derived.Test.YtmacpgkcokpgjaaPManifestTellsx2
import Derived.Test.YtmacpgkcokpgjaaPManifestTellsx3
import Derived.Test.YtmacpgkcokpgjaaPManifestTellsx4
namespace Go.Proofs.Ytmacpgkcokpgjaa.PManifestTells
open Go.RowKit Go.Proofs.YtmacpgkcokpgjaaW.PrintWords Go.Proofs.YtmacpgkcokpgjaaW.PrintLast Go.Proofs.YtmacpgkcokpgjaaW.PrintMore
attribute [local go_sem] max2_int min2_int max_two min_two max_three min_three max_four min_four   -- for this text's walks alone
set_option linter.unusedVariables false
set_option linter.unusedSimpArgs false

/-! ### manifest_Put: function 64 -/
def manifest_Put.rowO (x : S82) : Option ByteArray := (octet_Put.f x.f0.size 1).bind fun n => (octet_Put.f x.f1 1).bind fun s => (octet_Put.f x.f2 8).bind fun c => (octet_Put.f (wrap64 x.f3) 4).bind fun k => if x.f0.size ≤ 1000 ∧ n.1.size ≤ 1000 ∧ s.1.size ≤ 1000 ∧ c.1.size ≤ 1000 ∧ k.1.size ≤ 1000 then some ((((n.1 ++ x.f0) ++ s.1) ++ c.1) ++ k.1) else none
def manifest_Put.told (l : List S82) : Bool := l.all fun x => (manifest_Put.rowO x).isSome
def manifest_Put.acc (l : List S82) (h : ByteArray) : ByteArray := l.foldl (fun s x => s ++ (manifest_Put.rowO x).getD ⟨#[]⟩) h
def manifest_Put.f (a0_0 : Int) (a0_1 : Int) (l0_2 : List S82) : Option (ByteArray × Bool) :=
  (manifest_Right.f a0_0 a0_1 l0_2).bind fun ok => if ok = true then
    ((octet_Put.f a0_0 2).bind fun p1 => (octet_Put.f a0_1 2).bind fun p2 => (octet_Put.f (l0_2.length : Int) 1).bind fun p3 =>
      if p1.1.size ≤ 10000 ∧ p2.1.size ≤ 10000 ∧ p3.1.size ≤ 10000 ∧ l0_2.length ≤ 100 ∧ manifest_Put.told l0_2 = true then
        (crc_Close.f (manifest_Put.acc l0_2 ((((⟨#[77, 65, 78, 49]⟩ : ByteArray) ++ p1.1) ++ p2.1) ++ p3.1))).bind fun c => some (c, true)
      else none)
    else some (⟨#[]⟩, false)
theorem manifest_Put.acc_step (l : List S82) (h : ByteArray) (x : Nat) (hx : x < l.length) : manifest_Put.acc (l.take (x + 1)) h = manifest_Put.acc (l.take x) h ++ (manifest_Put.rowO l[x]).getD ⟨#[]⟩ := by
  unfold manifest_Put.acc
  rw [List.take_succ_eq_append_getElem hx, List.foldl_append]
  rfl
theorem manifest_Put.told_at {l : List S82} (h : manifest_Put.told l = true) (x : Nat) (hx : x < l.length) : ∃ p1 o1 p2 o2 p3 o3 p4 o4, octet_Put.f l[x].f0.size 1 = some (p1, o1) ∧ octet_Put.f l[x].f1 1 = some (p2, o2) ∧ octet_Put.f l[x].f2 8 = some (p3, o3) ∧ octet_Put.f (wrap64 l[x].f3) 4 = some (p4, o4) ∧ (l[x].f0.size ≤ 1000 ∧ p1.size ≤ 1000 ∧ p2.size ≤ 1000 ∧ p3.size ≤ 1000 ∧ p4.size ≤ 1000) ∧ (manifest_Put.rowO l[x]).getD ⟨#[]⟩ = (((p1 ++ l[x].f0) ++ p2) ++ p3) ++ p4 := by
  have h1 := List.all_eq_true.mp h l[x] (List.getElem_mem hx)
  obtain ⟨v, hv⟩ := Option.isSome_iff_exists.mp h1
  have hv0 := hv
  unfold manifest_Put.rowO at hv
  obtain ⟨⟨p1, o1⟩, e1, h2⟩ := Option.bind_eq_some_iff.mp hv
  obtain ⟨⟨p2, o2⟩, e2, h3⟩ := Option.bind_eq_some_iff.mp h2
  obtain ⟨⟨p3, o3⟩, e3, h4⟩ := Option.bind_eq_some_iff.mp h3
  obtain ⟨⟨p4, o4⟩, e4, h5⟩ := Option.bind_eq_some_iff.mp h4
  split at h5
  case isFalse => cases h5
  case isTrue hs =>
  refine ⟨p1, o1, p2, o2, p3, o3, p4, o4, e1, e2, e3, e4, hs, ?_⟩
  rw [hv0, ← Option.some.inj h5]
  rfl
theorem manifest_Put.acc_size {l : List S82} (h : manifest_Put.told l = true) (hd : ByteArray) : ∀ x, x ≤ l.length → (manifest_Put.acc (l.take x) hd).size ≤ hd.size + 5000 * x := by
  intro x
  induction x with
  | zero => intro _; unfold manifest_Put.acc; rw [List.take_zero]; exact Nat.le_refl _
  | succ n ih =>
    intro hn
    have h1 := ih (by omega)
    rw [manifest_Put.acc_step l hd n (by omega), ByteArray.size_append]
    obtain ⟨p1, o1, p2, o2, p3, o3, p4, o4, _, _, _, _, hs, e⟩ := manifest_Put.told_at h n (by omega)
    rw [e, ByteArray.size_append, ByteArray.size_append, ByteArray.size_append, ByteArray.size_append]
    omega
section
open Go.Shelf
/-- What stands between two calls: the builder's bytes, the manifest, all that was there. -/
def manifest_Put.Ready (w : World) (b : Nat) (cells : Array Value) (s : ByteArray) (W : World) : Prop :=
  Lib.IsBuilderF 133 5 b b (Lib.strCells s) W ∧ W.heap[w.heap.size]? = some (.cells cells 80) ∧ Below w.heap.size w W ∧ w.heap.size < b
theorem manifest_Put.Ready.keep {w : World} {b : Nat} {cells : Array Value} {s : ByteArray} {W W' : World} (h : manifest_Put.Ready w b cells s W) (k : Below W.heap.size W W') : manifest_Put.Ready w b cells s W' :=
  ⟨manifest_lay.keep h.1 k, blk_below h.2.1 k, below_step h.2.2.1 k, h.2.2.2⟩
theorem manifest_Put.kept {w : World} {b : Nat} {cells : Array Value} {s t : ByteArray} {W W' : World} (h : manifest_Put.Ready w b cells s W) (hI : Lib.IsBuilderF 133 5 b b (Lib.strCells t) W') (hB : Below b W W') : manifest_Put.Ready w b cells t W' :=
  ⟨hI, (hB.block _ h.2.2.2).trans h.2.1, h.2.2.1.trans (hB.mono (Nat.le_of_lt h.2.2.2)), h.2.2.2⟩
theorem manifest_Put.lays {w : World} {b : Nat} {cells : Array Value} {s : ByteArray} {W : World} (h : manifest_Put.Ready w b cells s W) {n k : Int} {p : ByteArray} {o : Bool} (hp : octet_Put.f n k = some (p, o)) (hl : s.size + p.size ≤ 1000000000) :
    Calls Try.prog 126 #[.pointer (some ⟨b, 0, none⟩), .int .i64 n, .int .i64 k] W fun e w' => (∃ v, e = .returned v) ∧ manifest_Put.Ready w b cells (s ++ p) w' ∧ Lib.OthersKept 5 (some b) W w' := by
  refine (manifest_lay.calls b s n k p o W h.1 hp hl).mono ?_
  rintro e w' ⟨hv, hI, hB, hO⟩
  exact ⟨hv, manifest_Put.kept h hI hB, hO⟩
theorem manifest_Put.writes {w : World} {b : Nat} {cells : Array Value} {s : ByteArray} {W : World} (h : manifest_Put.Ready w b cells s W) (p : ByteArray) (hl : s.size + p.size ≤ 1000000000) :
    Calls Try.prog 125 #[.pointer (some ⟨b, 0, none⟩), .string p] W fun e w' => (∃ v, e = .returned v) ∧ manifest_Put.Ready w b cells (s ++ p) w' ∧ Lib.OthersKept 5 (some b) W w' := by
  refine (Go.Proofs.YtmacpgkcokpgjaaJ.bld_write b b _ p W h.1 (by rw [Lib.strCells_length]; omega) (Nat.le_of_lt (manifest_lay.lt h.1))).mono ?_
  rintro e w' ⟨rfl, hI, hB, hO⟩
  rw [manifest_lay.cells_append] at hI
  exact ⟨⟨_, rfl⟩, manifest_Put.kept h (.inr hI) hB, hO⟩
theorem manifest_Put.reads {w : World} {b : Nat} {cells : Array Value} {s : ByteArray} {W : World} (h : manifest_Put.Ready w b cells s W) :
    Calls Try.prog 127 #[.pointer (some ⟨b, 0, none⟩)] W fun e w' => e = .returned (.string s) ∧ Below w.heap.size w w' := by
  have h1 : Lib.IsBuilderF 133 5 b b (Lib.byteCells s.data.toList) W := by
    have e : Lib.byteCells s.data.toList = Lib.strCells s := by simp [Lib.byteCells, Lib.strCells]
    rw [e]; exact h.1
  refine (Go.Proofs.YtmacpgkcokpgjaaJ.bld_string b b s.data.toList W h1 (Nat.le_of_lt (manifest_lay.lt h.1))).mono ?_
  rintro e w' ⟨rfl, _, hB, _⟩
  exact ⟨by simp, h.2.2.1.trans (hB.mono (Nat.le_of_lt h.2.2.2))⟩
end
section
open Go.Shelf
theorem manifest_Put.others {b i : Nat} {cs : Array Value} {W W' : World} (ho : Lib.OthersKept 5 (some b) W W') (hi : W.heap[i]? = some (.cells cs 82)) (hne : i ≠ b) : W'.heap[i]? = some (.cells cs 82) :=
  ho i _ hi (fun e => hne (Option.some.inj e)) (fun c fz e => by cases e)
set_option maxHeartbeats 4000000 in
set_option maxRecDepth 100000 in
theorem manifest_Put.calls (a0_0 : Int) (a0_1 : Int) (A0_2 : Option Addr) (c0_2 : Nat) (l0_2 : List S82) (r1 : ByteArray) (r2 : Bool) (w : World) (hr0_2 : Kd.C k82 w A0_2 l0_2.length l0_2) (hc0_2 : l0_2.length ≤ c0_2) (h : manifest_Put.f a0_0 a0_1 l0_2 = some (r1, r2)) :
    Calls Try.prog 64 #[.agg #[.int .i64 a0_0, .int .i64 a0_1, .slice A0_2 l0_2.length c0_2]] w fun e w' => e = .returned (.tuple #[.string r1, .bool r2]) ∧ Below w.heap.size w w' := by
  unfold manifest_Put.f at h
  obtain ⟨okR, hR, h1⟩ := Option.bind_eq_some_iff.mp h
  clear h
  have hu82 := Try.underlying82
  have hu80 := Try.underlying80
  obtain ⟨W1, hW1⟩ : ∃ W1, w.alloc (.cells #[.int .i64 a0_0, .int .i64 a0_1, .slice A0_2 l0_2.length c0_2] 80) = W1 := ⟨_, rfl⟩
  have HX1 := Aside0.mk (show Below w.heap.size w W1 by rw [← hW1]; exact below_alloc (Below.refl _ _) _)
  have kb1 : W1.heap[w.heap.size]? = some (.cells #[.int .i64 a0_0, .int .i64 a0_1, .slice A0_2 l0_2.length c0_2] 80) := by rw [← hW1]; exact blk_new _ _
  have m0 : W1.cell? ⟨w.heap.size, 0, none⟩ = some (.int .i64 a0_0) := (blk_cell kb1 0).trans rfl
  have m1 : W1.cell? ⟨w.heap.size, 1, none⟩ = some (.int .i64 a0_1) := (blk_cell kb1 1).trans rfl
  have m2 : W1.cell? ⟨w.heap.size, 2, none⟩ = some (.slice A0_2 l0_2.length c0_2) := (blk_cell kb1 2).trans rfl
  have HR := Aside0.mk hr0_2
  have hRt := manifest_Right.calls a0_0 a0_1 A0_2 c0_2 l0_2 okR W1 (Kd.C_below hr0_2 HX1.out) hc0_2 hR
  clear hR hr0_2
  cases okR with
  | false =>
    rw [if_neg (by decide)] at h1
    obtain ⟨q1, q2⟩ := Prod.mk.inj (Option.some.inj h1)
    subst q1 q2
    clear h1
    go_enter Try.func64, Try.ntmps64
    go_wp2_with (first | (go_at_call 70; refine hRt.mono ?_; rintro e wR ⟨rfl, hbR⟩; have HXR := Aside0.mk (below_step HX1.out hbR); clear hbR))
    go_ret2
    exact ⟨rfl, HXR.out⟩
  | true =>
    rw [if_pos rfl] at h1
    obtain ⟨p1, hp1, h2⟩ := Option.bind_eq_some_iff.mp h1
    obtain ⟨p2, hp2, h3⟩ := Option.bind_eq_some_iff.mp h2
    obtain ⟨p3, hp3, h4⟩ := Option.bind_eq_some_iff.mp h3
    split at h4
    case isFalse => cases h4
    case isTrue hcc =>
    obtain ⟨hs1, hs2, hs3, hln, htl⟩ := hcc
    obtain ⟨c, hc, h5⟩ := Option.bind_eq_some_iff.mp h4
    obtain ⟨q1, q2⟩ := Prod.mk.inj (Option.some.inj h5)
    subst q1 q2
    clear h1 h2 h3 h4 h5
    obtain ⟨p1, o1⟩ := p1
    obtain ⟨p2, o2⟩ := p2
    obtain ⟨p3, o3⟩ := p3
    dsimp only at hs1 hs2 hs3 hc
    obtain ⟨hd, hhd⟩ : ∃ hd, (⟨#[77, 65, 78, 49]⟩ : ByteArray) ++ p1 ++ p2 ++ p3 = hd := ⟨_, rfl⟩
    have hsz1 : (⟨#[77, 65, 78, 49]⟩ : ByteArray).size + p1.size ≤ 1000000000 := by show 4 + _ ≤ _; omega
    have hsz2 : ((⟨#[77, 65, 78, 49]⟩ : ByteArray) ++ p1).size + p2.size ≤ 1000000000 := by rw [ByteArray.size_append]; show 4 + _ + _ ≤ _; omega
    have hsz3 : ((⟨#[77, 65, 78, 49]⟩ : ByteArray) ++ p1 ++ p2).size + p3.size ≤ 1000000000 := by rw [ByteArray.size_append, ByteArray.size_append]; show 4 + _ + _ + _ ≤ _; omega
    have hszd : hd.size ≤ 40000 := by rw [← hhd, ByteArray.size_append, ByteArray.size_append, ByteArray.size_append]; show 4 + _ + _ + _ ≤ _; omega
    rw [hhd] at hc
    have HC := Aside0.mk hc
    have HD := Aside0.mk hszd
    have HT := Aside0.mk htl
    have HS1 := Aside0.mk hsz1
    have HS2 := Aside0.mk hsz2
    have HS3 := Aside0.mk hsz3
    have HP1 := Aside0.mk hp1
    have HP2 := Aside0.mk hp2
    have HP3 := Aside0.mk hp3
    have HHD := Aside0.mk hhd
    clear hc hszd htl hsz1 hsz2 hsz3 hp1 hp2 hp3 hhd hs1 hs2 hs3
    go_enter Try.func64, Try.ntmps64
    go_wp2_with (first | (go_at_call 70; refine hRt.mono ?_; rintro e wR ⟨rfl, hbR⟩; have HRd := Aside0.mk (show manifest_Put.Ready w wR.heap.size #[.int .i64 a0_0, .int .i64 a0_1, .slice A0_2 l0_2.length c0_2] ⟨#[]⟩ (wR.alloc (.cells #[.pointer none, .slice none 0 0] 133)) from ⟨Lib.IsBuilderF.of (Lib.fresh_isBuilder 133 5 wR), blk_alloc (blk_below kb1 hbR) _, below_alloc (below_step HX1.out hbR) _, Nat.lt_of_lt_of_le (blk_lt kb1) hbR.size⟩); clear hbR m0 m1 m2 hRt kb1) | (go_at_call 125; have hc := manifest_Put.writes HRd.out ⟨#[77, 65, 78, 49]⟩ (by decide); refine Calls.mono hc ?_; clear hc; rintro e w2 ⟨⟨v2, rfl⟩, hr, ho⟩; have HR2 := Aside0.mk (show manifest_Put.Ready w wR.heap.size #[.int .i64 a0_0, .int .i64 a0_1, .slice A0_2 l0_2.length c0_2] ⟨#[77, 65, 78, 49]⟩ w2 from hr); have m0 : w2.cell? ⟨w.heap.size, 0, none⟩ = some (.int .i64 a0_0) := (blk_cell hr.2.1 0).trans rfl; clear hr ho HRd) | (go_at_call 126; have hc := manifest_Put.lays HR2.out HP1.out HS1.out; refine Calls.mono hc ?_; clear hc; rintro e w3 ⟨⟨v3, rfl⟩, hr, ho⟩; have HR3 := Aside0.mk hr; have m1 : w3.cell? ⟨w.heap.size, 1, none⟩ = some (.int .i64 a0_1) := (blk_cell hr.2.1 1).trans rfl; clear hr ho m0 HR2) | (go_at_call 126; have hc := manifest_Put.lays HR3.out HP2.out HS2.out; refine Calls.mono hc ?_; clear hc; rintro e w4 ⟨⟨v4, rfl⟩, hr, ho⟩; have HR4 := Aside0.mk hr; have m2 : w4.cell? ⟨w.heap.size, 2, none⟩ = some (.slice A0_2 l0_2.length c0_2) := (blk_cell hr.2.1 2).trans rfl; clear hr ho m1 HR3) | (go_at_call 126; have hc := manifest_Put.lays HR4.out HP3.out HS3.out; refine Calls.mono hc ?_; clear hc; rintro e w5 ⟨⟨v5, rfl⟩, hr, ho⟩; have HR5 := Aside0.mk hr; have m3 : w5.cell? ⟨w.heap.size, 2, none⟩ = some (.slice A0_2 l0_2.length c0_2) := (blk_cell hr.2.1 2).trans rfl; clear hr ho m2 HR4))
    have hR0 : manifest_Put.Ready w wR.heap.size #[.int .i64 a0_0, .int .i64 a0_1, .slice A0_2 l0_2.length c0_2] hd w5 := by
      have h5 := HR5.out
      rw [HHD.out] at h5
      exact h5
    have HR0 := Aside0.mk hR0
    clear hR0 m3 HR5 HHD HP1 HP2 HP3 HS1 HS2 HS3
    go_loopw [30] (fun i wr => ∃ x : Nat, i = .int .i64 (x : Int) ∧ x ≤ l0_2.length ∧ Aside0 (manifest_Put.Ready w wR.heap.size #[.int .i64 a0_0, .int .i64 a0_1, .slice A0_2 l0_2.length c0_2] (manifest_Put.acc (l0_2.take x) hd) wr)) (fun i _ => l0_2.length - (intOf i).toNat)
    case atStart => exact ⟨0, rfl, Nat.zero_le _, ⟨by rw [List.take_zero]; exact HR0.out⟩⟩
    case round =>
      obtain ⟨x, rfl, hx, HB⟩ := hrel
      by_cases hlt : x < l0_2.length
      case neg =>
        obtain rfl : x = l0_2.length := by omega
        rw [List.take_length] at HB
        have d1 : decide ((l0_2.length : Int) < (l0_2.length : Int)) = false := decide_eq_false (by omega)
        go_wp2_with (first | (go_at_call 127; have hc := manifest_Put.reads HB.out; refine Calls.mono hc ?_; clear hc; rintro e w6 ⟨rfl, hb6⟩; have HX6 := Aside0.mk hb6; clear hb6 HB) | (go_at_call 97; have hc := crc_Close.calls _ c w6 HC.out; refine Calls.mono hc ?_; clear hc; rintro e w7 ⟨rfl, hb7⟩; have HX7 := Aside0.mk (below_step HX6.out hb7); clear hb7 HX6))
        go_ret2
        exact ⟨rfl, HX7.out⟩
      obtain ⟨u1, o1, u2, o2, u3, o3, u4, o4, g1, g2, g3, g4, hs, hacc⟩ := manifest_Put.told_at HT.out x hlt
      have hstep := manifest_Put.acc_step l0_2 hd x hlt
      rw [hacc] at hstep
      have hsz := manifest_Put.acc_size HT.out hd x hx
      have hszA : (manifest_Put.acc (l0_2.take x) hd).size ≤ 540000 := by have := HD.out; omega
      obtain ⟨ad, ead, h0, h1, h2, h3⟩ := at_T82 (Kd.C_below HR.out HB.out.2.2.1) (x : Int) (by omega) (by omega)
      cases ead
      rw [api_File_122.rd l0_2 x hlt] at h0 h1 h2 h3
      rw [Int.toNat_natCast] at h0 h1 h2 h3
      generalize hz : l0_2[x] = z at h0 h1 h2 h3 g1 g2 g3 g4 hs hstep
      obtain ⟨A, hA⟩ : ∃ A, manifest_Put.acc (l0_2.take x) hd = A := ⟨_, rfl⟩
      rw [hA] at hstep hszA HB
      have HX := Aside0.mk hlt
      have HST := Aside0.mk hstep
      have HG1 := Aside0.mk g1
      have HG2 := Aside0.mk g2
      have HG3 := Aside0.mk g3
      have HG4 := Aside0.mk g4
      have HZ1 := Aside0.mk (show A.size + u1.size ≤ 1000000000 by omega)
      have HZ2 := Aside0.mk (show (A ++ u1).size + z.f0.size ≤ 1000000000 by rw [ByteArray.size_append]; omega)
      have HZ3 := Aside0.mk (show ((A ++ u1) ++ z.f0).size + u2.size ≤ 1000000000 by rw [ByteArray.size_append, ByteArray.size_append]; omega)
      have HZ4 := Aside0.mk (show (((A ++ u1) ++ z.f0) ++ u2).size + u3.size ≤ 1000000000 by rw [ByteArray.size_append, ByteArray.size_append, ByteArray.size_append]; omega)
      have HZ5 := Aside0.mk (show ((((A ++ u1) ++ z.f0) ++ u2) ++ u3).size + u4.size ≤ 1000000000 by rw [ByteArray.size_append, ByteArray.size_append, ByteArray.size_append, ByteArray.size_append]; omega)
      clear hz hacc hsz hszA hs g1 g2 g3 g4 hA hstep
      have d1 : decide ((x : Int) < (l0_2.length : Int)) = true := decide_eq_true (by omega)
      have d2 : ((0 : Int) ≤ (x : Int)) = True := eq_true (by omega)
      have d3 : ((x : Int) < (l0_2.length : Int)) = True := eq_true (by omega)
      go_upto_region 11 with (fail)
      clear h0 h1 h2 h3 d1 d3
      obtain ⟨WA, hWA⟩ : ∃ WA, wr.alloc (.cells #[.string z.f0, .int .i64 z.f1, .int .i64 z.f2, .int .u32 z.f3] 82) = WA := ⟨_, rfl⟩
      have kz : WA.heap[wr.heap.size]? = some (.cells #[.string z.f0, .int .i64 z.f1, .int .i64 z.f2, .int .u32 z.f3] 82) := by rw [← hWA]; exact blk_new _ _
      have HQ1 := Aside0.mk (manifest_Put.Ready.keep HB.out (show Below wr.heap.size wr WA by rw [← hWA]; exact below_alloc (Below.refl _ _) _))
      have HNE := Aside0.mk (show wr.heap.size ≠ wR.heap.size from Nat.ne_of_gt (manifest_lay.lt HB.out.1))
      try rw [hWA]
      clear hWA
      have e0 : WA.cell? ⟨wr.heap.size, 0, none⟩ = some (.string z.f0) := (blk_cell kz 0).trans rfl
      have HK1 := Aside0.mk kz
      clear kz
      go_wp2_with (first | (go_at_call 126; have hc := manifest_Put.lays HQ1.out HG1.out HZ1.out; refine Calls.mono hc ?_; clear hc; rintro e w6 ⟨⟨v6, rfl⟩, hr, ho⟩; have HQ2 := Aside0.mk hr; have kz := manifest_Put.others ho HK1.out HNE.out; clear e0; have e0 : w6.cell? ⟨wr.heap.size, 0, none⟩ = some (.string z.f0) := (blk_cell kz 0).trans rfl; have HK2 := Aside0.mk kz; clear kz hr ho HQ1 HK1) | (go_at_call 125; have hc := manifest_Put.writes HQ2.out z.f0 HZ2.out; refine Calls.mono hc ?_; clear hc; rintro e w7 ⟨⟨v7, rfl⟩, hr, ho⟩; have HQ3 := Aside0.mk hr; have kz := manifest_Put.others ho HK2.out HNE.out; clear e0; have e1 : w7.cell? ⟨wr.heap.size, 1, none⟩ = some (.int .i64 z.f1) := (blk_cell kz 1).trans rfl; have HK3 := Aside0.mk kz; clear kz hr ho HQ2 HK2) | (go_at_call 126; have hc := manifest_Put.lays HQ3.out HG2.out HZ3.out; refine Calls.mono hc ?_; clear hc; rintro e w8 ⟨⟨v8, rfl⟩, hr, ho⟩; have HQ4 := Aside0.mk hr; have kz := manifest_Put.others ho HK3.out HNE.out; clear e1; have e2 : w8.cell? ⟨wr.heap.size, 2, none⟩ = some (.int .i64 z.f2) := (blk_cell kz 2).trans rfl; have HK4 := Aside0.mk kz; clear kz hr ho HQ3 HK3) | (go_at_call 126; have hc := manifest_Put.lays HQ4.out HG3.out HZ4.out; refine Calls.mono hc ?_; clear hc; rintro e w9 ⟨⟨v9, rfl⟩, hr, ho⟩; have HQ5 := Aside0.mk hr; have kz := manifest_Put.others ho HK4.out HNE.out; clear e2; have e3 : w9.cell? ⟨wr.heap.size, 3, none⟩ = some (.int .u32 z.f3) := (blk_cell kz 3).trans rfl; have HK5 := Aside0.mk kz; clear kz hr ho HQ4 HK4) | (go_at_call 126; have hc := manifest_Put.lays HQ5.out HG4.out HZ5.out; refine Calls.mono hc ?_; clear hc; rintro e w10 ⟨⟨v10, rfl⟩, hr, ho⟩; have HQ6 := Aside0.mk hr; have kz := manifest_Put.others ho HK5.out HNE.out; clear e3; skip; have HK6 := Aside0.mk kz; clear kz hr ho HQ5 HK5))
      have HN := Aside0.mk (show manifest_Put.Ready w wR.heap.size #[.int .i64 a0_0, .int .i64 a0_1, .slice (some ad) l0_2.length c0_2] (manifest_Put.acc (l0_2.take (x + 1)) hd) w10 by rw [HST.out]; have h6 := HQ6.out; simp only [ByteArray.append_assoc] at h6 ⊢; exact h6)
      go_roundw
      case rel => exact ⟨x + 1, by go_num, HX.out, HN⟩
      case measure => have := HX.out; simp [intOf]; omega
end


/-! ### crc_Open: function 100 -/
def crc_Open.f (a0 : ByteArray) : Option (ByteArray × Bool) := if (wrap64 ((a0.size : Int) - 4)) < 0 then (some ((⟨#[]⟩ : ByteArray), false)) else (if 0 ≤ (wrap64 ((a0.size : Int) - 4)) then (if (wrap64 ((a0.size : Int) - 4)) ≤ (a0.size : Int) then ((crc_Close.f (a0.extract 0 ((wrap64 ((a0.size : Int) - 4)) : Int).toNat)).bind fun t106 => (if t106.toList = a0.toList then (some (a0.extract 0 ((wrap64 ((a0.size : Int) - 4)) : Int).toNat, true)) else (some ((⟨#[]⟩ : ByteArray), false)))) else (none)) else (none))
set_option maxHeartbeats 8000000 in
set_option maxRecDepth 100000 in
theorem crc_Open.calls (a0 : ByteArray) (r1 : ByteArray) (r2 : Bool) (w : World) (h : crc_Open.f a0 = some (r1, r2)) :
    Calls Try.prog 100 #[.string a0] w fun e w' => e = .returned (.tuple #[.string r1, .bool r2]) ∧ Below w.heap.size w w' := by
  have HB := Aside0.mk (Below.refl w.heap.size w)
  have H : (if (wrap64 ((a0.size : Int) - 4)) < 0 then (some ((⟨#[]⟩ : ByteArray), false)) else (if 0 ≤ (wrap64 ((a0.size : Int) - 4)) then (if (wrap64 ((a0.size : Int) - 4)) ≤ (a0.size : Int) then ((crc_Close.f (a0.extract 0 ((wrap64 ((a0.size : Int) - 4)) : Int).toNat)).bind fun t106 => (if t106.toList = a0.toList then (some (a0.extract 0 ((wrap64 ((a0.size : Int) - 4)) : Int).toNat, true)) else (some ((⟨#[]⟩ : ByteArray), false)))) else (none)) else (none))) = some (r1, r2) := h
  clear h
  by_cases c2 : (wrap64 ((a0.size : Int) - 4)) < 0
  · rw [if_pos c2] at H
    have c2b0 : decide ((wrap64 ((a0.size : Int) - 4)) < 0) = true := decide_eq_true c2
    clear c2
    simp only [Option.some.injEq, Prod.mk.injEq] at H
    obtain ⟨rfl, rfl⟩ := H
    go_enter Try.func100, Try.ntmps100
    go_wp2
    go_ret2
    exact ⟨by first | rfl | (simp [errW_none, errW_some] <;> rfl) | (simp [*, errW_none, errW_some] <;> rfl), by repeat (first | (with_reducible first | exact HB.out | apply below_alloc | apply pw_below_drewN | apply below_drew1) | exact HB.out)⟩
  · rw [if_neg c2] at H
    have c2b0 : decide ((wrap64 ((a0.size : Int) - 4)) < 0) = false := decide_eq_false c2
    clear c2
    obtain ⟨ji3, hji3⟩ : ∃ j_ : Int, (wrap64 ((a0.size : Int) - 4)) = j_ := ⟨_, rfl⟩
    replace H : (if 0 ≤ (ji3) then (if (ji3) ≤ (a0.size : Int) then ((crc_Close.f (a0.extract 0 ((ji3) : Int).toNat)).bind fun t106 => (if t106.toList = a0.toList then (some (a0.extract 0 ((ji3) : Int).toNat, true)) else (some ((⟨#[]⟩ : ByteArray), false)))) else (none)) else (none)) = some (r1, r2) := by first | (rw [hji3] at H; exact H) | (simp only [hji3] at H ⊢; exact H)
    (try rw [hji3] at c2b0)
    have hji3w : (IntKind.i64.wrap ((a0.size : Int) - 4)) = ji3 := (i64_w _).trans hji3
    by_cases c4 : 0 ≤ (ji3)
    · rw [if_pos c4] at H
      have c4b0 := eq_true c4
      have c4b1 : decide (0 ≤ (ji3)) = true := decide_eq_true c4
      clear c4
      by_cases c5 : (ji3) ≤ (a0.size : Int)
      · rw [if_pos c5] at H
        have c5b0 := eq_true c5
        have c5b1 : decide ((ji3) ≤ (a0.size : Int)) = true := decide_eq_true c5
        clear c5
        replace H := Option.bind_eq_some_iff.mp H
        obtain ⟨t106, A60, H⟩ := H
        replace H : (if t106.toList = a0.toList then (some (a0.extract 0 ((ji3) : Int).toNat, true)) else (some ((⟨#[]⟩ : ByteArray), false))) = some (r1, r2) := H
        have A6 := Aside0.mk A60
        clear A60
        by_cases c7 : t106.toList = a0.toList
        · rw [if_pos c7] at H
          have c7b0 : (t106.toList == a0.toList) = true := beq_iff_eq.mpr c7
          have c7b1 : (t106.toList != a0.toList) = false := bne_eq_false_iff_eq.mpr c7
          clear c7
          have c8b0 := eq_true (of_decide_eq_true (by first | (with_reducible assumption) | assumption) : 0 ≤ (ji3))
          have c9b0 := eq_true (of_decide_eq_true (by first | (with_reducible assumption) | assumption) : (ji3) ≤ (a0.size : Int))
          simp only [Option.some.injEq, Prod.mk.injEq] at H
          obtain ⟨rfl, rfl⟩ := H
          go_enter Try.func100, Try.ntmps100
          go_wp2_with (first | (go_at_call 97; (with_reducible refine (crc_Close.calls (a0.extract 0 ((ji3) : Int).toNat) t106 _ A6.out).mono ?_); rintro e w10 ⟨rfl, hb⟩; have n0_ := Aside0.mk (below_step (by repeat (first | (with_reducible first | exact HB.out | apply below_alloc | apply pw_below_drewN | apply below_drew1) | exact HB.out)) hb); clear HB; have HB := n0_; clear n0_; (try clear hb); (try clear hb2); (try clear hk); (try clear hi)))
          go_ret2
          exact ⟨by first | rfl | (simp [errW_none, errW_some] <;> rfl) | (simp only [← hji3]; first | rfl | (simp [errW_none, errW_some] <;> rfl)) | (simp [*, errW_none, errW_some] <;> rfl), by repeat (first | (with_reducible first | exact HB.out | apply below_alloc | apply pw_below_drewN | apply below_drew1) | exact HB.out)⟩
        · rw [if_neg c7] at H
          have c7b0 : (t106.toList == a0.toList) = false := beq_eq_false_iff_ne.mpr c7
          have c7b1 : (t106.toList != a0.toList) = true := bne_iff_ne.mpr c7
          simp only [Option.some.injEq, Prod.mk.injEq] at H
          obtain ⟨rfl, rfl⟩ := H
          go_enter Try.func100, Try.ntmps100
          go_wp2_with (first | (go_at_call 97; (with_reducible refine (crc_Close.calls (a0.extract 0 ((ji3) : Int).toNat) t106 _ A6.out).mono ?_); rintro e w11 ⟨rfl, hb⟩; have n0_ := Aside0.mk (below_step (by repeat (first | (with_reducible first | exact HB.out | apply below_alloc | apply pw_below_drewN | apply below_drew1) | exact HB.out)) hb); clear HB; have HB := n0_; clear n0_; (try clear hb); (try clear hb2); (try clear hk); (try clear hi)))
          go_ret2
          exact ⟨by first | rfl | (simp [errW_none, errW_some] <;> rfl) | (simp only [← hji3]; first | rfl | (simp [errW_none, errW_some] <;> rfl)) | (simp [*, errW_none, errW_some] <;> rfl), by repeat (first | (with_reducible first | exact HB.out | apply below_alloc | apply pw_below_drewN | apply below_drew1) | exact HB.out)⟩
      · rw [if_neg c5] at H
        exact absurd H (by simp)
    · rw [if_neg c4] at H
      exact absurd H (by simp)

/-! ### stringslite_HasPrefix: function 161 -/
def stringslite_HasPrefix.f (a0 : ByteArray) (a1 : ByteArray) : Option (Bool) := if (a0.size : Int) ≥ (a1.size : Int) then (if 0 ≤ (a1.size : Int) then (if (a1.size : Int) ≤ (a0.size : Int) then (some ((a0.extract 0 ((a1.size : Int) : Int).toNat).toList == a1.toList)) else (none)) else (none)) else (some false)
set_option maxHeartbeats 8000000 in
set_option maxRecDepth 100000 in
theorem stringslite_HasPrefix.calls (a0 : ByteArray) (a1 : ByteArray) (r : Bool) (w : World) (h : stringslite_HasPrefix.f a0 a1 = some r) :
    Calls Try.prog 161 #[.string a0, .string a1] w fun e w' => e = .returned (.bool r) ∧ Drawn0 w w' := by
  have H : (if (a0.size : Int) ≥ (a1.size : Int) then (if 0 ≤ (a1.size : Int) then (if (a1.size : Int) ≤ (a0.size : Int) then (some ((a0.extract 0 ((a1.size : Int) : Int).toNat).toList == a1.toList)) else (none)) else (none)) else (some false)) = some r := h
  clear h
  by_cases c3 : (a0.size : Int) ≥ (a1.size : Int)
  · rw [if_pos c3] at H
    have c3b0 : decide ((a1.size : Int) ≤ (a0.size : Int)) = true := decide_eq_true c3
    have c3b1 : decide (a1.size ≤ a0.size) = true := decide_eq_true (Int.ofNat_le.mp c3)
    clear c3
    by_cases c4 : 0 ≤ (a1.size : Int)
    · rw [if_pos c4] at H
      have c4b0 := eq_true c4
      have c4b1 : decide (0 ≤ (a1.size : Int)) = true := decide_eq_true c4
      clear c4
      by_cases c5 : (a1.size : Int) ≤ (a0.size : Int)
      · rw [if_pos c5] at H
        have c5b0 := eq_true c5
        have c5b1 : decide ((a1.size : Int) ≤ (a0.size : Int)) = true := decide_eq_true c5
        clear c5
        obtain rfl := Option.some.inj H
        go_enter Try.func161, Try.ntmps161
        go_wp2
        go_ret
        exact ⟨by first | rfl | (simp; done) | (simp [*]; done), by repeat (first | exact Drawn0.refl _ | apply Drawn0.step)⟩
      · rw [if_neg c5] at H
        exact absurd H (by simp)
    · rw [if_neg c4] at H
      exact absurd H (by simp)
  · rw [if_neg c3] at H
    have c3b0 : decide ((a1.size : Int) ≤ (a0.size : Int)) = false := decide_eq_false c3
    have c3b1 : decide (a1.size ≤ a0.size) = false := decide_eq_false (fun h => c3 (Int.ofNat_le.mpr h))
    clear c3
    obtain rfl := Option.some.inj H
    go_enter Try.func161, Try.ntmps161
    go_wp2
    go_ret
    exact ⟨by first | rfl | (simp; done) | (simp [*]; done), by repeat (first | exact Drawn0.refl _ | apply Drawn0.step)⟩

/-! ### strings_HasPrefix: function 120 -/
def strings_HasPrefix.f (a0 : ByteArray) (a1 : ByteArray) : Option (Bool) := (stringslite_HasPrefix.f a0 a1).bind fun t107 => (some t107)
set_option maxHeartbeats 8000000 in
set_option maxRecDepth 100000 in
theorem strings_HasPrefix.calls (a0 : ByteArray) (a1 : ByteArray) (r : Bool) (w : World) (h : strings_HasPrefix.f a0 a1 = some r) :
    Calls Try.prog 120 #[.string a0, .string a1] w fun e w' => e = .returned (.bool r) ∧ Drawn0 w w' := by
  have H : ((stringslite_HasPrefix.f a0 a1).bind fun t107 => (some t107)) = some r := h
  clear h
  replace H := Option.bind_eq_some_iff.mp H
  obtain ⟨t107, A30, H⟩ := H
  replace H : (some t107) = some r := H
  have A3 := Aside0.mk A30
  clear A30
  obtain rfl := Option.some.inj H
  go_enter Try.func120, Try.ntmps120
  go_wp2_with (first | ((with_reducible refine gate_callee (f := 161) rfl ?_); refine goesL_ (some 7) rfl rfl Try.func161 (by kernel_rfl) rfl #[.string a0, .string a1] rfl (by (try simp only [List.map_toArray, List.map_cons, List.map_nil]); first | done | rfl | (simp only [List.length_drop, List.length_take]; rfl)) ?_; (with_reducible refine (stringslite_HasPrefix.calls a0 a1 t107 _ A3.out).mono ?_); rintro e w' ⟨rfl, ⟨nd, rfl⟩⟩; refine ⟨_, rfl, ?_⟩) | (go_at_call 161; refine calls_of_args (args' := #[.string a0, .string a1]) (by first | rfl) ?_; (with_reducible refine (stringslite_HasPrefix.calls a0 a1 t107 _ A3.out).mono ?_); rintro e w' ⟨rfl, ⟨nd, rfl⟩⟩))
  go_ret
  exact ⟨by first | rfl | (simp; done) | (simp [*]; done), by repeat (first | exact Drawn0.refl _ | apply Drawn0.step)⟩

/-! ### octet_Get: function 103 -/
def octet_Get.join (n : Int) (b : Int) : Int := Go.bits .or .u64 (IntKind.u64.wrap (n * 256)) b
def octet_Get.num (l : List Int) : Int := l.foldl octet_Get.join 0
def octet_Get.f (a0 : ByteArray) (a1 a2 : Int) : Option (Int × Bool) :=
  if a0.size ≤ 1000000000 ∧ -9223372036854775808 ≤ a1 ∧ a1 ≤ 9223372036854775807 then
    if a2 < 1 ∨ 8 < a2 ∨ a1 < 0 ∨ (a0.size : Int) - a2 < a1 then some (0, false)
    else if octet_Get.num (bytesOf (a0.extract a1.toNat (a1 + a2).toNat)) < 9223372036854775808 then some (octet_Get.num (bytesOf (a0.extract a1.toNat (a1 + a2).toNat)), true) else some (0, false)
  else none
theorem octet_Get.join_range (n b : Int) : 0 ≤ octet_Get.join n b ∧ octet_Get.join n b < 18446744073709551616 := by
  unfold octet_Get.join Go.bits IntKind.wrap
  simp [IntKind.bits, IntKind.signed]
  omega
theorem octet_Get.num_snoc (l : List Int) (b : Int) : octet_Get.num (l ++ [b]) = octet_Get.join (octet_Get.num l) b := by
  unfold octet_Get.num
  rw [List.foldl_append]; rfl
theorem octet_Get.num_range (l : List Int) : 0 ≤ octet_Get.num l ∧ octet_Get.num l < 18446744073709551616 := by
  rcases List.eq_nil_or_concat l with rfl | ⟨m, b, rfl⟩
  · exact ⟨Int.le_refl _, by decide⟩
  · rw [List.concat_eq_append, octet_Get.num_snoc]; exact octet_Get.join_range _ _
theorem octet_Get.bytes_take (s : ByteArray) (k : Nat) (h : k < s.size) : (bytesOf s).take (k + 1) = (bytesOf s).take k ++ [((s.data.toList.getD k 0).toNat : Int)] := by
  have h' : k < (bytesOf s).length := by simpa [bytesOf] using h
  have h2 : k < s.data.toList.length := by simpa using h
  rw [List.take_succ_eq_append_getElem h']
  congr 2
  rw [List.getD_eq_getElem?_getD, List.getElem?_eq_getElem h2]
  simp [bytesOf]
set_option maxHeartbeats 2000000 in
set_option maxRecDepth 100000 in
theorem octet_Get.calls (a0 : ByteArray) (a1 a2 : Int) (r1 : Int) (r2 : Bool) (w : World) (h : octet_Get.f a0 a1 a2 = some (r1, r2)) :
    Calls Try.prog 103 #[.string a0, .int .i64 a1, .int .i64 a2] w fun e w' => e = .returned (.tuple #[.int .i64 r1, .bool r2]) ∧ Below w.heap.size w w' := by
  unfold octet_Get.f at h
  by_cases hg : a0.size ≤ 1000000000 ∧ -9223372036854775808 ≤ a1 ∧ a1 ≤ 9223372036854775807
  · rw [if_pos hg] at h
    obtain ⟨hs, hl, hu⟩ := hg
    by_cases c1 : a2 < 1
    · rw [if_pos (.inl c1)] at h
      simp only [Option.some.injEq, Prod.mk.injEq] at h
      obtain ⟨rfl, rfl⟩ := h
      go_enter Try.func103, Try.ntmps103
      go_wp2
      go_ret2
      exact ⟨rfl, Below.refl _ _⟩
    · by_cases c2 : 8 < a2
      · rw [if_pos (.inr (.inl c2))] at h
        simp only [Option.some.injEq, Prod.mk.injEq] at h
        obtain ⟨rfl, rfl⟩ := h
        go_enter Try.func103, Try.ntmps103
        go_wp2
        go_ret2
        exact ⟨rfl, Below.refl _ _⟩
      · by_cases c3 : a1 < 0
        · rw [if_pos (.inr (.inr (.inl c3)))] at h
          simp only [Option.some.injEq, Prod.mk.injEq] at h
          obtain ⟨rfl, rfl⟩ := h
          go_enter Try.func103, Try.ntmps103
          go_wp2
          go_ret2
          exact ⟨rfl, Below.refl _ _⟩
        · by_cases c4 : (a0.size : Int) - a2 < a1
          · rw [if_pos (.inr (.inr (.inr c4)))] at h
            simp only [Option.some.injEq, Prod.mk.injEq] at h
            obtain ⟨rfl, rfl⟩ := h
            go_enter Try.func103, Try.ntmps103
            go_wp2
            go_ret2
            exact ⟨rfl, Below.refl _ _⟩
          · rw [if_neg (by omega)] at h
            obtain ⟨i, rfl⟩ : ∃ i : Nat, a1 = (i : Int) := ⟨a1.toNat, by omega⟩
            obtain ⟨k, rfl⟩ : ∃ k : Nat, a2 = (k : Int) := ⟨a2.toNat, by omega⟩
            rw [Int.toNat_natCast, show ((i : Int) + (k : Int)).toNat = i + k from by omega] at h
            have hik : i + k ≤ a0.size := by omega
            have hes : (a0.extract i (i + k)).size = k := by rw [ByteArray.size_extract]; omega
            have H := Aside0.mk h
            have hsl : ∀ w, (Instr.slice 9 (.string a0) (some (.int .i64 (i : Int))) (some (.int .i64 ((i : Int) + (k : Int)))) none).run Try.prog w = .ok (.string (a0.extract i (i + k))) w := fun w => by
              rw [run_slice_string w 9 a0 .i64 .i64 _ _ Try.underlying9 (by omega) (by omega) (by omega)]
              rw [Int.toNat_natCast, show ((i : Int) + (k : Int)).toNat = i + k from by omega]
            clear h
            generalize a0.extract i (i + k) = z at H hsl hes
            have hconv := fun w : World => Lib.run_convert_string_bytes (P := Try.prog) w 9 109 5 z Try.underlying9 Try.underlying109 Try.underlying5
            go_enter Try.func103, Try.ntmps103
            go_wp2
            obtain ⟨W1, hW1⟩ : ∃ W1, W1 = Lib.bytesWorld w 5 z := ⟨_, rfl⟩
            have hB : ∀ t, t < z.size → W1.cell? ⟨w.heap.size, t, none⟩ = some (.int .u8 (z.data.toList.getD t 0).toNat) := fun t ht => by rw [hW1]; exact Lib.bytesWorld_cell w 5 z t ht
            have hwW : Below w.heap.size w W1 := by rw [hW1]; exact ⟨rfl, rfl, rfl, by rw [Lib.bytesWorld_size]; omega, fun j hj => Lib.bytesWorld_at_old w 5 z j hj⟩
            rw [← hW1]
            rw [hes] at hB
            have HW := Aside0.mk hW1
            have HB := Aside0.mk hB
            have HC := Aside0.mk hconv
            have HN := Aside0.mk hwW
            have HE := Aside0.mk hes
            clear hW1 hB hconv hwW hes hsl
            have hk8 : k ≤ 8 := by omega
            have h64 : (k : Int) ≤ 8 := by omega
            go_loop [8, 37] (fun n i => ∃ j : Nat, j ≤ k ∧ i = .int .i64 j ∧ n = .int .u64 (octet_Get.num ((bytesOf z).take j))) (fun _ i => k - (intOf i).toNat)
            case atStart => exact ⟨0, Nat.zero_le _, rfl, rfl⟩
            case round =>
              obtain ⟨j, hj, rfl, rfl⟩ := hrel
              by_cases hlt : j < k
              · have hc := HB.out j hlt
                have HS : Aside0 (octet_Get.num ((bytesOf z).take (j + 1)) = octet_Get.join (octet_Get.num ((bytesOf z).take j)) ((z.data.toList.getD j 0).toNat : Int)) := ⟨by
                  rw [octet_Get.bytes_take z j (by rw [HE.out]; exact hlt), octet_Get.num_snoc]⟩
                have hr := octet_Get.num_range ((bytesOf z).take j)
                generalize octet_Get.num ((bytesOf z).take j) = n at HS hr ⊢
                obtain ⟨c, hcc⟩ : ∃ c, c = z.data.toList.getD j 0 := ⟨_, rfl⟩
                rw [← hcc] at hc HS
                clear hcc
                have hc0 : (c.toNat : Int) < 256 := by have := c.toNat_lt; omega
                go_wp2
                go_round
                case rel => exact ⟨j + 1, by omega, by go_num, by rw [HS.out]; rfl⟩
                case measure => simp [intOf]; omega
              · obtain rfl : j = k := by omega
                have HT : Aside0 ((bytesOf z).take j = bytesOf z) := ⟨List.take_of_length_le (by have := HE.out; simp [bytesOf] at *; omega)⟩
                rw [HT.out]
                have hr := octet_Get.num_range (bytesOf z)
                have H' := H.out
                by_cases hlim : octet_Get.num (bytesOf z) < 9223372036854775808
                · rw [if_pos hlim] at H'
                  simp only [Option.some.injEq, Prod.mk.injEq] at H'
                  have HR := Aside0.mk H'
                  clear H' H
                  generalize octet_Get.num (bytesOf z) = n at hr hlim HR ⊢
                  have hsh : decide (0 < n / 9223372036854775808) = false := decide_eq_false (by omega)
                  have hwr : (n + 9223372036854775808) % 18446744073709551616 - 9223372036854775808 = n := by omega
                  go_wp2
                  go_ret2
                  exact ⟨by rw [← HR.out.1, ← HR.out.2]; rfl, HN.out⟩
                · rw [if_neg hlim] at H'
                  simp only [Option.some.injEq, Prod.mk.injEq] at H'
                  have HR := Aside0.mk H'
                  clear H' H
                  generalize octet_Get.num (bytesOf z) = n at hr hlim HR ⊢
                  have hsh : decide (0 < n / 9223372036854775808) = true := decide_eq_true (by omega)
                  go_wp2
                  go_ret2
                  exact ⟨by rw [← HR.out.1, ← HR.out.2]; rfl, HN.out⟩
  · rw [if_neg hg] at h
    cases h


/-! ### manifest_bytes_take: function 164 -/
/-- What is taken, whether it is there, what is left. -/
def manifest_bytes_take.f (rest : ByteArray) (n : Int) : Option (ByteArray × Bool × ByteArray) := if n > (rest.size : Int) then some (⟨#[]⟩, false, rest) else if 0 ≤ n then some (rest.extract 0 n.toNat, true, rest.extract n.toNat rest.size) else none
/-- All but one block stays. -/
def manifest_bytes_take.But (b : Nat) (w w' : World) : Prop := Below b w w' ∧ ∀ i, i < w.heap.size → i ≠ b → w'.heap[i]? = w.heap[i]?
theorem manifest_bytes_take.But.refl (b : Nat) (w : World) : manifest_bytes_take.But b w w := ⟨Below.refl _ _, fun _ _ _ => rfl⟩
theorem manifest_bytes_take.But.trans {b : Nat} {w w' w'' : World} (h : manifest_bytes_take.But b w w') (k : manifest_bytes_take.But b w' w'') : manifest_bytes_take.But b w w'' :=
  ⟨h.1.trans k.1, fun i hi hne => (k.2 i (Nat.lt_of_lt_of_le hi h.1.size) hne).trans (h.2 i hi hne)⟩
theorem manifest_bytes_take.But.of {b : Nat} {w w' : World} (h : Below w.heap.size w w') (hb : b ≤ w.heap.size) : manifest_bytes_take.But b w w' := ⟨h.mono hb, fun i hi _ => h.block i hi⟩
theorem manifest_bytes_take.But.at {b i : Nat} {o : Obj} {w w' : World} (h : manifest_bytes_take.But b w w') (hi : w.heap[i]? = some o) (hne : i ≠ b) : w'.heap[i]? = some o :=
  (h.2 i (blk_lt hi) hne).trans hi
theorem manifest_bytes_take.But.set {b k : Nat} {w w' : World} (h : manifest_bytes_take.But b w w') (v : Value) : manifest_bytes_take.But b w (w'.setCell ⟨b, k, none⟩ v) :=
  ⟨h.1.setCell (Nat.le_refl _) _, fun i hi hne => (Below.heap_setCell w' ⟨b, k, none⟩ v i hne).trans (h.2 i hi hne)⟩
set_option maxHeartbeats 1000000 in
set_option maxRecDepth 100000 in
theorem manifest_bytes_take.calls (b : Nat) (rest : ByteArray) (bad : Bool) (n : Int) (s : ByteArray) (ok : Bool) (rest' : ByteArray) (w : World) (hw : w.heap[b]? = some (.cells #[.string rest, .bool bad] 144)) (hs : rest.size ≤ 1000000000) (h : manifest_bytes_take.f rest n = some (s, ok, rest')) :
    Calls Try.prog 164 #[.pointer (some ⟨b, 0, none⟩), .int .i64 n] w fun e w' => e = .returned (.tuple #[.string s, .bool ok]) ∧ w'.heap[b]? = some (.cells #[.string rest', .bool bad] 144) ∧ manifest_bytes_take.But b w w' := by
  have m0 : w.cell? ⟨b, 0, none⟩ = some (.string rest) := (blk_cell hw 0).trans rfl
  have f0 := blk_frozen hw 0
  unfold manifest_bytes_take.f at h
  by_cases h1 : n > (rest.size : Int)
  · rw [if_pos h1] at h
    simp only [Option.some.injEq, Prod.mk.injEq] at h
    obtain ⟨rfl, rfl, rfl⟩ := h
    have b1 : decide ((rest.size : Int) < n) = true := decide_eq_true h1
    go_enter Try.func164, Try.ntmps164
    go_wp2
    go_ret2
    exact ⟨rfl, hw, manifest_bytes_take.But.refl _ _⟩
  · rw [if_neg h1] at h
    by_cases h2 : 0 ≤ n
    · rw [if_pos h2] at h
      simp only [Option.some.injEq, Prod.mk.injEq] at h
      obtain ⟨rfl, rfl, rfl⟩ := h
      have b1 : decide ((rest.size : Int) < n) = false := decide_eq_false h1
      obtain ⟨q, rfl⟩ := Int.eq_ofNat_of_zero_le h2
      have hq : q ≤ rest.size := by omega
      have d1 : ((q : Int) ≤ (rest.size : Int)) = True := eq_true (by omega)
      have d2 : ((0 : Int) ≤ (q : Int)) = True := eq_true (by omega)
      go_enter Try.func164, Try.ntmps164
      go_wp2
      go_ret2
      exact ⟨rfl, blk_put hw 0 _ rfl, (manifest_bytes_take.But.refl _ _).set _⟩
    · rw [if_neg h2] at h; cases h

/-! ### manifest_cursor_number: function 128 -/
def manifest_cursor_number.f (rest : ByteArray) (bad : Bool) (k : Int) : Option (Int × ByteArray × Bool) := (manifest_bytes_take.f rest k).bind fun t => (octet_Get.f t.1 0 k).bind fun g => some (g.1, t.2.2, (bad || !t.2.1) || !g.2)
theorem manifest_cursor_number.left {rest : ByteArray} {n : Int} {s : ByteArray} {ok : Bool} {rest' : ByteArray} (h : manifest_bytes_take.f rest n = some (s, ok, rest')) : rest'.size ≤ rest.size := by
  unfold manifest_bytes_take.f at h
  split at h
  · simp only [Option.some.injEq, Prod.mk.injEq] at h
    obtain ⟨_, _, rfl⟩ := h
    exact Nat.le_refl _
  · split at h
    · simp only [Option.some.injEq, Prod.mk.injEq] at h
      obtain ⟨_, _, rfl⟩ := h
      simp only [ByteArray.size_extract]
      omega
    · cases h
theorem manifest_cursor_number.less {rest : ByteArray} {bad : Bool} {k v : Int} {rest' : ByteArray} {bad' : Bool} (h : manifest_cursor_number.f rest bad k = some (v, rest', bad')) : rest'.size ≤ rest.size := by
  unfold manifest_cursor_number.f at h
  obtain ⟨⟨s, ok, q⟩, h1, h⟩ := Option.bind_eq_some_iff.mp h
  obtain ⟨g, _, h⟩ := Option.bind_eq_some_iff.mp h
  simp only [Option.some.injEq, Prod.mk.injEq] at h
  rw [← h.2.1]
  exact manifest_cursor_number.left h1
set_option maxHeartbeats 1000000 in
set_option maxRecDepth 100000 in
theorem manifest_cursor_number.calls (b : Nat) (rest : ByteArray) (bad : Bool) (k v : Int) (rest' : ByteArray) (bad' : Bool) (w : World) (hw : w.heap[b]? = some (.cells #[.string rest, .bool bad] 144)) (hs : rest.size ≤ 1000000000) (h : manifest_cursor_number.f rest bad k = some (v, rest', bad')) :
    Calls Try.prog 128 #[.pointer (some ⟨b, 0, none⟩), .int .i64 k] w fun e w' => e = .returned (.int .i64 v) ∧ w'.heap[b]? = some (.cells #[.string rest', .bool bad'] 144) ∧ manifest_bytes_take.But b w w' := by
  unfold manifest_cursor_number.f at h
  obtain ⟨⟨s, ok, q⟩, ht, h⟩ := Option.bind_eq_some_iff.mp h
  obtain ⟨⟨g, is⟩, hg, h⟩ := Option.bind_eq_some_iff.mp h
  simp only [Option.some.injEq, Prod.mk.injEq] at h
  obtain ⟨rfl, rfl, rfl⟩ := h
  have HT := manifest_bytes_take.calls b rest bad k s ok q w hw hs ht
  have HG := fun W => octet_Get.calls s 0 k g is W hg
  have HB := Aside0.mk (blk_lt hw)
  clear ht hg hs
  cases bad <;> cases ok <;> cases is
  all_goals
    go_enter Try.func128, Try.ntmps128
    go_wp2_with (first | (go_at_call 164; refine HT.mono ?_; rintro e w1 ⟨rfl, hw1, ht1⟩; have HW1 := Aside0.mk hw1; have HT1 := Aside0.mk ht1; clear HT hw1 ht1) | (go_at_call 103; refine (HG _).mono ?_; rintro e w2 ⟨rfl, hb2⟩; have hw2 := blk_below HW1.out hb2; have HT2 := Aside0.mk (HT1.out.trans (manifest_bytes_take.But.of hb2 (Nat.le_of_lt (Nat.lt_of_lt_of_le HB.out HT1.out.1.size)))); clear hb2; have m1 : w2.cell? ⟨b, 1, none⟩ = some (.bool _) := (blk_cell hw2 1).trans rfl; have f1 := blk_frozen hw2 1))
    go_ret
    exact ⟨rfl, blk_put hw2 1 _ rfl, HT2.out.set _⟩

/-! ### manifest_cursor_text: function 165 -/
def manifest_cursor_text.f (rest : ByteArray) (bad : Bool) (k : Int) : Option (ByteArray × ByteArray × Bool) := (manifest_bytes_take.f rest k).bind fun t => some (t.1, t.2.2, bad || !t.2.1)
theorem manifest_cursor_text.less {rest : ByteArray} {bad : Bool} {k : Int} {v rest' : ByteArray} {bad' : Bool} (h : manifest_cursor_text.f rest bad k = some (v, rest', bad')) : rest'.size ≤ rest.size := by
  unfold manifest_cursor_text.f at h
  obtain ⟨⟨s, ok, q⟩, h1, h⟩ := Option.bind_eq_some_iff.mp h
  simp only [Option.some.injEq, Prod.mk.injEq] at h
  rw [← h.2.1]
  exact manifest_cursor_number.left h1
set_option maxHeartbeats 1000000 in
set_option maxRecDepth 100000 in
theorem manifest_cursor_text.calls (b : Nat) (rest : ByteArray) (bad : Bool) (k : Int) (v rest' : ByteArray) (bad' : Bool) (w : World) (hw : w.heap[b]? = some (.cells #[.string rest, .bool bad] 144)) (hs : rest.size ≤ 1000000000) (h : manifest_cursor_text.f rest bad k = some (v, rest', bad')) :
    Calls Try.prog 165 #[.pointer (some ⟨b, 0, none⟩), .int .i64 k] w fun e w' => e = .returned (.string v) ∧ w'.heap[b]? = some (.cells #[.string rest', .bool bad'] 144) ∧ manifest_bytes_take.But b w w' := by
  unfold manifest_cursor_text.f at h
  obtain ⟨⟨s, ok, q⟩, ht, h⟩ := Option.bind_eq_some_iff.mp h
  simp only [Option.some.injEq, Prod.mk.injEq] at h
  obtain ⟨rfl, rfl, rfl⟩ := h
  have HT := manifest_bytes_take.calls b rest bad k s ok q w hw hs ht
  clear ht hs
  cases bad <;> cases ok
  all_goals
    go_enter Try.func165, Try.ntmps165
    go_wp2_with (first | (go_at_call 164; refine HT.mono ?_; rintro e w1 ⟨rfl, hw1, ht1⟩; have HT1 := Aside0.mk ht1; have m1 : w1.cell? ⟨b, 1, none⟩ = some (.bool _) := (blk_cell hw1 1).trans rfl; have f1 := blk_frozen hw1 1; clear HT ht1))
    go_ret
    exact ⟨rfl, blk_put hw1 1 _ rfl, HT1.out.set _⟩

/-! ### manifest_cursor_file: function 129 -/
def manifest_cursor_file.f (rest : ByteArray) (bad : Bool) : Option (S82 × ByteArray × Bool) :=
  (manifest_cursor_number.f rest bad 1).bind fun n => (manifest_cursor_text.f n.2.1 n.2.2 n.1).bind fun t => (manifest_cursor_number.f t.2.1 t.2.2 1).bind fun s => (manifest_cursor_number.f s.2.1 s.2.2 8).bind fun c => (manifest_cursor_number.f c.2.1 c.2.2 4).bind fun k => some (⟨t.1, s.1, c.1, IntKind.u32.wrap k.1⟩, k.2.1, k.2.2)
theorem manifest_cursor_file.less {rest : ByteArray} {bad : Bool} {v : S82} {rest' : ByteArray} {bad' : Bool} (h : manifest_cursor_file.f rest bad = some (v, rest', bad')) : rest'.size ≤ rest.size := by
  unfold manifest_cursor_file.f at h
  obtain ⟨⟨n, q1, b1⟩, h1, h⟩ := Option.bind_eq_some_iff.mp h
  obtain ⟨⟨t, q2, b2⟩, h2, h⟩ := Option.bind_eq_some_iff.mp h
  obtain ⟨⟨s, q3, b3⟩, h3, h⟩ := Option.bind_eq_some_iff.mp h
  obtain ⟨⟨c, q4, b4⟩, h4, h⟩ := Option.bind_eq_some_iff.mp h
  obtain ⟨⟨k, q5, b5⟩, h5, h⟩ := Option.bind_eq_some_iff.mp h
  simp only [Option.some.injEq, Prod.mk.injEq] at h
  rw [← h.2.1]
  have e1 := manifest_cursor_number.less h1
  have e2 := manifest_cursor_text.less h2
  have e3 := manifest_cursor_number.less h3
  have e4 := manifest_cursor_number.less h4
  have e5 := manifest_cursor_number.less h5
  dsimp only at e2 e3 e4 e5
  omega
set_option maxHeartbeats 2000000 in
set_option maxRecDepth 100000 in
theorem manifest_cursor_file.calls (b : Nat) (rest : ByteArray) (bad : Bool) (v : S82) (rest' : ByteArray) (bad' : Bool) (w : World) (hw : w.heap[b]? = some (.cells #[.string rest, .bool bad] 144)) (hs : rest.size ≤ 1000000000) (h : manifest_cursor_file.f rest bad = some (v, rest', bad')) :
    Calls Try.prog 129 #[.pointer (some ⟨b, 0, none⟩)] w fun e w' => e = .returned (manifest_named.val v) ∧ w'.heap[b]? = some (.cells #[.string rest', .bool bad'] 144) ∧ manifest_bytes_take.But b w w' := by
  unfold manifest_cursor_file.f at h
  obtain ⟨⟨n, q1, b1⟩, h1, h⟩ := Option.bind_eq_some_iff.mp h
  obtain ⟨⟨t, q2, b2⟩, h2, h⟩ := Option.bind_eq_some_iff.mp h
  obtain ⟨⟨s, q3, b3⟩, h3, h⟩ := Option.bind_eq_some_iff.mp h
  obtain ⟨⟨c, q4, b4⟩, h4, h⟩ := Option.bind_eq_some_iff.mp h
  obtain ⟨⟨k, q5, b5⟩, h5, h⟩ := Option.bind_eq_some_iff.mp h
  simp only [Option.some.injEq, Prod.mk.injEq] at h
  obtain ⟨rfl, rfl, rfl⟩ := h
  dsimp only at h2 h3 h4 h5
  have e1 := manifest_cursor_number.less h1
  have e2 := manifest_cursor_text.less h2
  have e3 := manifest_cursor_number.less h3
  have e4 := manifest_cursor_number.less h4
  have hu82 := Try.underlying82
  obtain ⟨W, hW⟩ : ∃ W, w.alloc (.cells #[.string ⟨#[]⟩, .int .i64 0, .int .i64 0, .int .u32 0] 82) = W := ⟨_, rfl⟩
  have HBW := Aside0.mk (show Below w.heap.size w W by rw [← hW]; exact below_alloc (Below.refl _ _) _)
  have kz : W.heap[w.heap.size]? = some (.cells #[.string ⟨#[]⟩, .int .i64 0, .int .i64 0, .int .u32 0] 82) := by rw [← hW]; exact blk_new _ _
  have HLT := Aside0.mk (blk_lt hw)
  have HX0 := Aside0.mk (manifest_bytes_take.But.of HBW.out (Nat.le_of_lt HLT.out))
  have H1 := Aside0.mk (manifest_cursor_number.calls b rest bad 1 n q1 b1 W (blk_below hw HBW.out) hs h1)
  have H2 := fun W' h => manifest_cursor_text.calls b q1 b1 n t q2 b2 W' h (by omega) h2
  have H3 := fun W' h => manifest_cursor_number.calls b q2 b2 1 s q3 b3 W' h (by omega) h3
  have H4 := fun W' h => manifest_cursor_number.calls b q3 b3 8 c q4 b4 W' h (by omega) h4
  have H5 := fun W' h => manifest_cursor_number.calls b q4 b4 4 k q5 b5 W' h (by omega) h5
  have HKZ := Aside0.mk kz
  clear h1 h2 h3 h4 h5 e1 e2 e3 e4 hs kz
  go_enter Try.func129, Try.ntmps129
  go_upto_region 3 with (first | (go_at_call 128; refine H1.out.mono ?_; rintro e w1 ⟨rfl, g1, t1⟩; have HG1 := Aside0.mk g1; have HT1 := Aside0.mk (HX0.out.trans t1); have HZ1 := Aside0.mk (t1.at HKZ.out (Nat.ne_of_gt HLT.out)); clear H1 g1 t1 HKZ) | (go_at_call 165; refine (H2 _ HG1.out).mono ?_; rintro e w2 ⟨rfl, g1, t1⟩; have HG2 := Aside0.mk g1; have HT2 := Aside0.mk (HT1.out.trans t1); have HZ2 := Aside0.mk (t1.at HZ1.out (Nat.ne_of_gt HLT.out)); clear H2 g1 t1 HZ1 HG1) | (go_at_call 128; refine (H3 _ HG2.out).mono ?_; rintro e w3 ⟨rfl, g1, t1⟩; have HG3 := Aside0.mk g1; have HT3 := Aside0.mk (HT2.out.trans t1); have HZ3 := Aside0.mk (t1.at HZ2.out (Nat.ne_of_gt HLT.out)); clear H3 g1 t1 HZ2 HG2) | (go_at_call 128; refine (H4 _ HG3.out).mono ?_; rintro e w4 ⟨rfl, g1, t1⟩; have HG4 := Aside0.mk g1; have HT4 := Aside0.mk (HT3.out.trans t1); have HZ4 := Aside0.mk (t1.at HZ3.out (Nat.ne_of_gt HLT.out)); clear H4 g1 t1 HZ3 HG3))
  go_wp2_with (first | (go_at_call 128; refine (H5 _ HG4.out).mono ?_; rintro e w5 ⟨rfl, g1, t1⟩; have HG5 := Aside0.mk g1; have HT5 := Aside0.mk (HT4.out.trans t1); have HZ5 := Aside0.mk (t1.at HZ4.out (Nat.ne_of_gt HLT.out)); have z0 := blk_frozen HZ5.out 0; have z1 := blk_frozen HZ5.out 1; have z2 := blk_frozen HZ5.out 2; have z3 := blk_frozen HZ5.out 3; have y0 := blk_cell HZ5.out 0; have y1 := blk_cell HZ5.out 1; have y2 := blk_cell HZ5.out 2; have y3 := blk_cell HZ5.out 3; clear H5 g1 t1 HZ4 HG4))
  refine bodyPost_ret (results_cell_row rfl _ _ w.heap.size 82 #[.string t, .int .i64 s, .int .i64 c, .int .u32 (IntKind.u32.wrap k)] (0, 0) _ rfl (by refine blk_put (cs := #[.string t, .int .i64 s, .int .i64 c, .int .u32 0]) ?_ 3 _ rfl; refine blk_put (cs := #[.string t, .int .i64 s, .int .i64 0, .int .u32 0]) ?_ 2 _ rfl; refine blk_put (cs := #[.string t, .int .i64 0, .int .i64 0, .int .u32 0]) ?_ 1 _ rfl; refine blk_put (cs := #[.string ⟨#[]⟩, .int .i64 0, .int .i64 0, .int .u32 0]) ?_ 0 _ rfl; exact HZ5.out) hu82 rfl (by kernel_rfl)) rfl ?_
  have hne : b ≠ w.heap.size := Nat.ne_of_lt HLT.out
  refine ⟨rfl, ?_, ?_⟩
  · refine blk_far ?_ hne _
    refine blk_far ?_ hne _
    refine blk_far ?_ hne _
    refine blk_far ?_ hne _
    exact HG5.out
  · have h5 := HT5.out
    have hb := Nat.le_of_lt HLT.out
    exact ⟨(((h5.1.setCell hb _).setCell hb _).setCell hb _).setCell hb _, fun i hi hnb => by
      have hn : i ≠ w.heap.size := Nat.ne_of_lt hi
      rw [Below.heap_setCell _ _ _ _ hn, Below.heap_setCell _ _ _ _ hn, Below.heap_setCell _ _ _ _ hn, Below.heap_setCell _ _ _ _ hn]
      exact h5.2 i hi hnb⟩

end Go.Proofs.Ytmacpgkcokpgjaa.PManifestTells
