/- The Go functions that the law reaches, as plain Lean functions, and proofs that the calls of the machine come to them, or the row of the law over them, for every input that the row speaks of; written by a program of this session (wip/tool/mkprint.py) out of the translation and of hand-made templates. -/
import Derived.Test.YtpdgjegnbcillaaPCrcTurnedx0
namespace Go.Proofs.Ytpdgjegnbcillaa.PCrcTurned
open Go.RowKit Go.Proofs.YtpdgjegnbcillaaW.PrintWords Go.Proofs.YtpdgjegnbcillaaW.PrintLast Go.Proofs.YtpdgjegnbcillaaW.PrintMore
attribute [local go_sem] max2_int min2_int max_two min_two max_three min_three max_four min_four   -- for this text's walks alone
set_option linter.unusedVariables false
set_option linter.unusedSimpArgs false

/-! ### crc_nibble: function 70 -/
def crc_nibble.tab : List Int := [0, 498536548, 997073096, 651767980, 1994146192, 1802195444, 1303535960, 1342533948, 3988292384, 4027552580, 3604390888, 3412177804, 2607071920, 2262029012, 2685067896, 3183342108]
def crc_nibble.f (a0 : Int) : Option Int := if 0 ≤ a0 then some (crc_nibble.tab.getD (a0 % 16).toNat 0) else none
theorem crc_nibble.idx (a0 : Int) : Go.bits .and .u32 a0 15 = a0 % 16 := by
  have h : (Go.bits .and .u32 a0 15) = IntKind.u32.wrap ((BitVec.ofInt 32 a0 &&& 15#32).toNat : Int) := rfl
  rw [h, BitVec.toNat_and, show (15#32).toNat = 2 ^ 4 - 1 from rfl, Nat.and_two_pow_sub_one_eq_mod, BitVec.toNat_ofInt, IntKind.wrap_u32]
  omega
theorem crc_nibble.look : ∀ j : Nat, j < 16 → [Value.int IntKind.u32 0, Value.int IntKind.u32 498536548, Value.int IntKind.u32 997073096, Value.int IntKind.u32 651767980, Value.int IntKind.u32 1994146192, Value.int IntKind.u32 1802195444, Value.int IntKind.u32 1303535960, Value.int IntKind.u32 1342533948, Value.int IntKind.u32 3988292384, Value.int IntKind.u32 4027552580, Value.int IntKind.u32 3604390888, Value.int IntKind.u32 3412177804, Value.int IntKind.u32 2607071920, Value.int IntKind.u32 2262029012, Value.int IntKind.u32 2685067896, Value.int IntKind.u32 3183342108][j]? = some (Value.int IntKind.u32 (crc_nibble.tab.getD j 0)) := by
  intro j hj
  have : j = 0 ∨ j = 1 ∨ j = 2 ∨ j = 3 ∨ j = 4 ∨ j = 5 ∨ j = 6 ∨ j = 7 ∨ j = 8 ∨ j = 9 ∨ j = 10 ∨ j = 11 ∨ j = 12 ∨ j = 13 ∨ j = 14 ∨ j = 15 := by omega
  rcases this with rfl | rfl | rfl | rfl | rfl | rfl | rfl | rfl | rfl | rfl | rfl | rfl | rfl | rfl | rfl | rfl <;> rfl
set_option maxHeartbeats 1000000 in
set_option maxRecDepth 100000 in
theorem crc_nibble.calls (a0 : Int) (r : Int) (w : World) (h : crc_nibble.f a0 = some r) :
    Calls Try.prog 70 #[.int .u32 a0] w fun e w' => e = .returned (.int .u32 r) ∧ Below w.heap.size w w' := by
  unfold crc_nibble.f at h
  obtain ⟨j, hj⟩ : ∃ j : Nat, a0 % 16 = (j : Int) := ⟨(a0 % 16).toNat, by omega⟩
  have hlt : j < 16 := by omega
  have hi := crc_nibble.idx a0
  rw [hj] at hi h
  by_cases h0 : 0 ≤ a0
  · rw [if_pos h0] at h
    obtain rfl := Option.some.inj h
    rw [Int.toNat_natCast]
    have hl := crc_nibble.look j hlt
    clear hj h h0
    go_enter Try.func70, Try.ntmps70
    go_wp2
    go_ret
    obtain ⟨_, hv⟩ := List.getElem?_eq_some_iff.1 hl
    exact ⟨congrArg Ending.returned hv, (Below.refl _ _).alloc (Nat.le_refl _) _⟩
  · rw [if_neg h0] at h
    cases h

/-! ### crc_More: function 33 -/
def crc_More.half (n : Int) : Int := Go.bits .xor .u32 (n / 16) (crc_nibble.tab.getD (n % 16).toNat 0)
def crc_More.byte (n b : Int) : Int := crc_More.half (crc_More.half (Go.bits .xor .u32 n b))
def crc_More.feed (n : Int) (l : List UInt8) : Int := l.foldl (fun n b => crc_More.byte n (b.toNat : Int)) n
def crc_More.f (a0 : Int) (a1 : ByteArray) : Option Int := if a1.size ≤ 9223372036854775807 then some (Go.bits .xor .u32 4294967295 (crc_More.feed (Go.bits .xor .u32 4294967295 a0) a1.data.toList)) else none
theorem crc_More.bits_range (op : BinOp) (a b : Int) : 0 ≤ Go.bits op .u32 a b ∧ Go.bits op .u32 a b < 4294967296 := by
  unfold Go.bits
  rw [IntKind.wrap_u32]
  omega
theorem crc_More.feed_snoc (n : Int) (l : List UInt8) (b : UInt8) : crc_More.feed n (l ++ [b]) = crc_More.byte (crc_More.feed n l) (b.toNat : Int) := by
  unfold crc_More.feed
  rw [List.foldl_append]
  rfl
theorem crc_More.take_snoc (s : ByteArray) (k : Nat) (h : k < s.size) : s.data.toList.take (k + 1) = s.data.toList.take k ++ [s.data.toList.getD k 0] := by
  have h' : k < s.data.toList.length := by simpa using h
  rw [List.take_succ_eq_append_getElem h', List.getD_eq_getElem?_getD, List.getElem?_eq_getElem h']; rfl
theorem crc_More.nib (n : Int) (h0 : 0 ≤ n) (w : World) : Calls Try.prog 70 #[.int .u32 n] w fun e w' => e = .returned (.int .u32 (crc_nibble.tab.getD (n % 16).toNat 0)) ∧ Below w.heap.size w w' :=
  crc_nibble.calls n _ w (by unfold crc_nibble.f; rw [if_pos h0])
set_option maxHeartbeats 1000000 in
set_option maxRecDepth 100000 in
theorem crc_More.calls (a0 : Int) (a1 : ByteArray) (r : Int) (w : World) (h : crc_More.f a0 a1 = some r) :
    Calls Try.prog 33 #[.int .u32 a0, .string a1] w fun e w' => e = .returned (.int .u32 r) ∧ Below w.heap.size w w' := by
  unfold crc_More.f at h
  by_cases hs : a1.size ≤ 9223372036854775807
  · rw [if_pos hs] at h
    have H := Aside0.mk (Option.some.inj h)
    clear h
    have hconv := fun w : World => Lib.run_convert_string_bytes (P := Try.prog) w 9 83 5 a1 Try.underlying9 Try.underlying83 Try.underlying5
    obtain ⟨W1, hW1⟩ : ∃ W1, W1 = Lib.bytesWorld w 5 a1 := ⟨_, rfl⟩
    have hB : ∀ t, t < a1.size → W1.cell? ⟨w.heap.size, t, none⟩ = some (.int .u8 (a1.data.toList.getD t 0).toNat) := fun t ht => by rw [hW1]; exact Lib.bytesWorld_cell w 5 a1 t ht
    have hwW : Below w.heap.size w W1 := by rw [hW1]; exact ⟨rfl, rfl, rfl, by rw [Lib.bytesWorld_size]; omega, fun j hj => Lib.bytesWorld_at_old w 5 a1 j hj⟩
    have hz : w.heap.size < W1.heap.size := by rw [hW1, Lib.bytesWorld_size]; omega
    have hsg : IntKind.u32.signed = false := rfl
    have hmx : IntKind.u32.max = 4294967295 := rfl
    go_enter Try.func33, Try.ntmps33
    go_wp2
    rw [← hW1]
    have HW := Aside0.mk hW1
    have HB := Aside0.mk hB
    have HC := Aside0.mk hconv
    have HN := Aside0.mk hwW
    clear hW1 hB hconv hwW
    go_loopw [5, 13] (fun n i wr => ∃ k : Nat, k ≤ a1.size ∧ i = .int .i64 k ∧ n = .int .u32 (crc_More.feed (Go.bits .xor .u32 4294967295 a0) (a1.data.toList.take k)) ∧ Aside0 (Below W1.heap.size W1 wr)) (fun _ i _ => a1.size - (intOf i).toNat)
    case atStart => exact ⟨0, Nat.zero_le _, rfl, rfl, ⟨Below.refl _ _⟩⟩
    case round =>
      obtain ⟨k, hk, rfl, rfl, hb⟩ := hrel
      by_cases hlt : k < a1.size
      · have hc : wr.cell? ⟨w.heap.size, k, none⟩ = some (.int .u8 (a1.data.toList.getD k 0).toNat) := (hb.out.cell (p := ⟨w.heap.size, k, none⟩) hz).trans (HB.out k hlt)
        obtain ⟨c, hcc⟩ : ∃ c, c = a1.data.toList.getD k 0 := ⟨_, rfl⟩
        rw [← hcc] at hc
        have HS : Aside0 (crc_More.feed (Go.bits .xor .u32 4294967295 a0) (a1.data.toList.take (k + 1)) = crc_More.byte (crc_More.feed (Go.bits .xor .u32 4294967295 a0) (a1.data.toList.take k)) (c.toNat : Int)) := ⟨by
          rw [crc_More.take_snoc a1 k hlt, crc_More.feed_snoc, hcc]⟩
        clear hcc
        generalize crc_More.feed (Go.bits .xor .u32 4294967295 a0) (a1.data.toList.take k) = n at HS ⊢
        have hc0 : (c.toNat : Int) < 256 := by have := c.toNat_lt; omega
        go_wp2_with fail
        refine (crc_More.nib _ (crc_More.bits_range _ _ _).1 _).mono ?_
        rintro e w1 ⟨rfl, hb1⟩
        have H1 : Aside0 (Below W1.heap.size W1 w1) := ⟨below_then hb.out hb.out.size hb1⟩
        clear hb1
        go_wp2_with fail
        refine (crc_More.nib _ (crc_More.bits_range _ _ _).1 _).mono ?_
        rintro e w2 ⟨rfl, hb2⟩
        have H2 : Aside0 (Below W1.heap.size W1 w2) := ⟨below_then H1.out H1.out.size hb2⟩
        clear hb2
        go_wp2
        go_roundw
        case rel => exact ⟨k + 1, by omega, by go_num, by rw [HS.out]; rfl, H2⟩
        case measure => simp [intOf]; omega
      · have hke : k = a1.size := by omega
        have HT : Aside0 (a1.data.toList.take k = a1.data.toList) := ⟨List.take_of_length_le (by rw [hke]; simp)⟩
        clear hke
        go_wp2
        go_ret
        exact ⟨by rw [HT.out, H.out]; rfl, below_then HN.out (Nat.le_of_lt hz) hb.out⟩
  · rw [if_neg hs] at h
    cases h

/-! ### crc_Of: function 31 -/
def crc_Of.f (a0 : ByteArray) : Option (Int) := (crc_More.f 0 a0).bind fun t101 => (some t101)
set_option maxHeartbeats 8000000 in
set_option maxRecDepth 100000 in
theorem crc_Of.calls (a0 : ByteArray) (r : Int) (w : World) (h : crc_Of.f a0 = some r) :
    Calls Try.prog 31 #[.string a0] w fun e w' => e = .returned (.int .u32 r) ∧ Below w.heap.size w w' := by
  have HB := Aside0.mk (Below.refl w.heap.size w)
  have H : ((crc_More.f 0 a0).bind fun t101 => (some t101)) = some r := h
  clear h
  replace H := Option.bind_eq_some_iff.mp H
  obtain ⟨t101, A20, H⟩ := H
  replace H : (some t101) = some r := H
  have A2 := Aside0.mk A20
  clear A20
  obtain rfl := Option.some.inj H
  go_enter Try.func31, Try.ntmps31
  go_wp2_with (first | ((with_reducible refine gate_callee (f := 33) rfl ?_); refine goesL_ (some 4) rfl rfl Try.func33 (by kernel_rfl) rfl #[.int .u32 0, .string a0] rfl (by (try simp only [List.map_toArray, List.map_cons, List.map_nil]); first | done | rfl | (simp only [List.length_drop, List.length_take]; rfl)) ?_; (with_reducible refine (crc_More.calls 0 a0 t101 _ A2.out).mono ?_); rintro e w3 ⟨rfl, hb⟩; refine ⟨_, rfl, ?_⟩; have n0_ := Aside0.mk (below_step (by repeat (first | (with_reducible first | exact HB.out | apply below_alloc | apply pw_below_drewN | apply below_drew1) | exact HB.out)) hb); clear HB; have HB := n0_; clear n0_; (try clear hb); (try clear hb2); (try clear hk); (try clear hi)))
  go_ret
  exact ⟨by first | rfl | (simp [errW_none, errW_some] <;> rfl) | (simp [*, errW_none, errW_some] <;> rfl), by repeat (first | (with_reducible first | exact HB.out | apply below_alloc | apply pw_below_drewN | apply below_drew1) | exact HB.out)⟩

/-! ### crc_Close: function 35 -/
def crc_Close.tail (n : Int) : List Int := [n % 256, n / 256 % 256, n / 65536 % 256, n / 16777216 % 256]
def crc_Close.f (a0 : ByteArray) : Option ByteArray := (crc_Of.f a0).bind fun n => if 0 ≤ n then if a0.size + 4 ≤ 9223372036854775807 then some (a0 ++ strOfNums (crc_Close.tail n)) else none else none
def crc_Close.arr (n : Int) (k : Nat) : Array Value := #[.int .u8 (if 0 < k then n % 256 else 0), .int .u8 (if 1 < k then n / 256 % 256 else 0), .int .u8 (if 2 < k then n / 65536 % 256 else 0), .int .u8 (if 3 < k then n / 16777216 % 256 else 0)]
theorem crc_Close.arr_at (n : Int) (k : Nat) (h : k < 4) : (crc_Close.arr n k)[k]? = some (.int .u8 0) := by
  have : k = 0 ∨ k = 1 ∨ k = 2 ∨ k = 3 := by omega
  rcases this with rfl | rfl | rfl | rfl <;> rfl
theorem crc_Close.arr_set (n : Int) (k : Nat) (h : k < 4) : (crc_Close.arr n k).setIfInBounds k (.int .u8 (n / 2 ^ (8 * k) % 256)) = crc_Close.arr n (k + 1) := by
  have : k = 0 ∨ k = 1 ∨ k = 2 ∨ k = 3 := by omega
  rcases this with rfl | rfl | rfl | rfl <;> simp [crc_Close.arr]
set_option maxHeartbeats 1000000 in
set_option maxRecDepth 100000 in
theorem crc_Close.calls (a0 : ByteArray) (r : ByteArray) (w : World) (h : crc_Close.f a0 = some r) :
    Calls Try.prog 35 #[.string a0] w fun e w' => e = .returned (.string r) ∧ Below w.heap.size w w' := by
  unfold crc_Close.f at h
  obtain ⟨n, hn0, h⟩ := Option.bind_eq_some_iff.mp h
  have hn := Aside0.mk hn0
  clear hn0
  by_cases h0 : 0 ≤ n
  · rw [if_pos h0] at h
    by_cases hs : a0.size + 4 ≤ 9223372036854775807
    · rw [if_pos hs] at h
      have H := Aside0.mk (Option.some.inj h)
      clear h
      go_enter Try.func35, Try.ntmps35
      go_wp2_with fail
      refine (crc_Of.calls a0 n _ hn.out).mono ?_
      rintro e w1 ⟨rfl, hb1⟩
      have hblk : w1.heap[w.heap.size]? = some (.cells (crc_Close.arr n 0) 85 (0, 0)) := blk_below (blk_new w _) hb1
      have hbel : Below w.heap.size w w1 := below_then (below_alloc (Below.refl w.heap.size w) _) (by simp) hb1
      have HN := Aside0.mk hbel
      have HB := Aside0.mk hblk
      clear hb1 hblk hbel
      go_wp2_with fail
      go_loopw [8] (fun i wr => ∃ k : Nat, k ≤ 4 ∧ i = .int .i64 k ∧ Aside0 (wr.heap[w.heap.size]? = some (.cells (crc_Close.arr n k) 85 (0, 0))) ∧ Aside0 (Below w.heap.size w wr)) (fun i _ => 4 - (intOf i).toNat)
      case atStart => exact ⟨0, by omega, rfl, HB, HN⟩
      case round =>
        obtain ⟨k, hk, rfl, hb, hw⟩ := hrel
        by_cases hlt : k < 4
        · have hc : wr.cell? ⟨w.heap.size, k, none⟩ = some (.int .u8 0) := by rw [blk_cell hb.out]; exact crc_Close.arr_at n k hlt
          have hf : wr.frozen? ⟨w.heap.size, k, none⟩ = false := blk_frozen hb.out k
          go_wp2
          go_roundw
          case rel => exact ⟨k + 1, by omega, by go_num, ⟨by rw [← crc_Close.arr_set n k hlt]; exact blk_set hb.out k _⟩, ⟨hw.out.setCell (p := ⟨w.heap.size, k, none⟩) (Nat.le_refl _) _⟩⟩
          case measure => simp [intOf]; omega
        · obtain rfl : k = 4 := by omega
          have hcv := run_convert_bytes_arg (P := Try.prog) wr 83 5 Try.underlying83 Try.underlying5 w.heap.size 0 4 4 (crc_Close.tail n) rfl (fun i hi => by
            rw [blk_cell hb.out]
            have : i = 0 ∨ i = 1 ∨ i = 2 ∨ i = 3 := by omega
            rcases this with rfl | rfl | rfl | rfl <;> rfl) 9 Try.underlying9
          have hsz : (strOfNums (crc_Close.tail n)).size = 4 := strOfNums_size _
          generalize strOfNums (crc_Close.tail n) = z at hcv hsz H
          go_wp2
          go_ret
          exact ⟨by rw [← H.out]; rfl, hw.out⟩
    · rw [if_neg hs] at h
      cases h
  · rw [if_neg h0] at h
    cases h

/-! ### crc_Open: function 29 -/
def crc_Open.f (a0 : ByteArray) : Option (ByteArray × Bool) := if (wrap64 ((a0.size : Int) - 4)) < 0 then (some ((⟨#[]⟩ : ByteArray), false)) else (if 0 ≤ (wrap64 ((a0.size : Int) - 4)) then (if (wrap64 ((a0.size : Int) - 4)) ≤ (a0.size : Int) then ((crc_Close.f (a0.extract 0 ((wrap64 ((a0.size : Int) - 4)) : Int).toNat)).bind fun t102 => (if t102.toList = a0.toList then (some (a0.extract 0 ((wrap64 ((a0.size : Int) - 4)) : Int).toNat, true)) else (some ((⟨#[]⟩ : ByteArray), false)))) else (none)) else (none))
set_option maxHeartbeats 8000000 in
set_option maxRecDepth 100000 in
theorem crc_Open.calls (a0 : ByteArray) (r1 : ByteArray) (r2 : Bool) (w : World) (h : crc_Open.f a0 = some (r1, r2)) :
    Calls Try.prog 29 #[.string a0] w fun e w' => e = .returned (.tuple #[.string r1, .bool r2]) ∧ Below w.heap.size w w' := by
  have HB := Aside0.mk (Below.refl w.heap.size w)
  have H : (if (wrap64 ((a0.size : Int) - 4)) < 0 then (some ((⟨#[]⟩ : ByteArray), false)) else (if 0 ≤ (wrap64 ((a0.size : Int) - 4)) then (if (wrap64 ((a0.size : Int) - 4)) ≤ (a0.size : Int) then ((crc_Close.f (a0.extract 0 ((wrap64 ((a0.size : Int) - 4)) : Int).toNat)).bind fun t102 => (if t102.toList = a0.toList then (some (a0.extract 0 ((wrap64 ((a0.size : Int) - 4)) : Int).toNat, true)) else (some ((⟨#[]⟩ : ByteArray), false)))) else (none)) else (none))) = some (r1, r2) := h
  clear h
  by_cases c2 : (wrap64 ((a0.size : Int) - 4)) < 0
  · rw [if_pos c2] at H
    have c2b0 : decide ((wrap64 ((a0.size : Int) - 4)) < 0) = true := decide_eq_true c2
    clear c2
    simp only [Option.some.injEq, Prod.mk.injEq] at H
    obtain ⟨rfl, rfl⟩ := H
    go_enter Try.func29, Try.ntmps29
    go_wp2
    go_ret2
    exact ⟨by first | rfl | (simp [errW_none, errW_some] <;> rfl) | (simp [*, errW_none, errW_some] <;> rfl), by repeat (first | (with_reducible first | exact HB.out | apply below_alloc | apply pw_below_drewN | apply below_drew1) | exact HB.out)⟩
  · rw [if_neg c2] at H
    have c2b0 : decide ((wrap64 ((a0.size : Int) - 4)) < 0) = false := decide_eq_false c2
    clear c2
    obtain ⟨ji3, hji3⟩ : ∃ j_ : Int, (wrap64 ((a0.size : Int) - 4)) = j_ := ⟨_, rfl⟩
    replace H : (if 0 ≤ (ji3) then (if (ji3) ≤ (a0.size : Int) then ((crc_Close.f (a0.extract 0 ((ji3) : Int).toNat)).bind fun t102 => (if t102.toList = a0.toList then (some (a0.extract 0 ((ji3) : Int).toNat, true)) else (some ((⟨#[]⟩ : ByteArray), false)))) else (none)) else (none)) = some (r1, r2) := by first | (rw [hji3] at H; exact H) | (simp only [hji3] at H ⊢; exact H)
    (try rw [hji3] at c2b0)
    have hji3w : (IntKind.i64.wrap ((a0.size : Int) - 4)) = ji3 := (i64_w _).trans hji3
    by_cases c4 : 0 ≤ (ji3)
    · rw [if_pos c4] at H
      have c4b0 := eq_true c4
      have c4b1 : decide (0 ≤ (ji3)) = true := decide_eq_true c4
      clear c4
      by_cases c5 : (ji3) ≤ (a0.size : Int)
      · rw [if_pos c5] at H
        have c5b0 := eq_true c5
        have c5b1 : decide ((ji3) ≤ (a0.size : Int)) = true := decide_eq_true c5
        clear c5
        replace H := Option.bind_eq_some_iff.mp H
        obtain ⟨t102, A60, H⟩ := H
        replace H : (if t102.toList = a0.toList then (some (a0.extract 0 ((ji3) : Int).toNat, true)) else (some ((⟨#[]⟩ : ByteArray), false))) = some (r1, r2) := H
        have A6 := Aside0.mk A60
        clear A60
        by_cases c7 : t102.toList = a0.toList
        · rw [if_pos c7] at H
          have c7b0 : (t102.toList == a0.toList) = true := beq_iff_eq.mpr c7
          have c7b1 : (t102.toList != a0.toList) = false := bne_eq_false_iff_eq.mpr c7
          clear c7
          have c8b0 := eq_true (of_decide_eq_true (by first | (with_reducible assumption) | assumption) : 0 ≤ (ji3))
          have c9b0 := eq_true (of_decide_eq_true (by first | (with_reducible assumption) | assumption) : (ji3) ≤ (a0.size : Int))
          simp only [Option.some.injEq, Prod.mk.injEq] at H
          obtain ⟨rfl, rfl⟩ := H
          go_enter Try.func29, Try.ntmps29
          go_wp2_with (first | (go_at_call 35; (with_reducible refine (crc_Close.calls (a0.extract 0 ((ji3) : Int).toNat) t102 _ A6.out).mono ?_); rintro e w10 ⟨rfl, hb⟩; have n0_ := Aside0.mk (below_step (by repeat (first | (with_reducible first | exact HB.out | apply below_alloc | apply pw_below_drewN | apply below_drew1) | exact HB.out)) hb); clear HB; have HB := n0_; clear n0_; (try clear hb); (try clear hb2); (try clear hk); (try clear hi)))
          go_ret2
          exact ⟨by first | rfl | (simp [errW_none, errW_some] <;> rfl) | (simp only [← hji3]; first | rfl | (simp [errW_none, errW_some] <;> rfl)) | (simp [*, errW_none, errW_some] <;> rfl), by repeat (first | (with_reducible first | exact HB.out | apply below_alloc | apply pw_below_drewN | apply below_drew1) | exact HB.out)⟩
        · rw [if_neg c7] at H
          have c7b0 : (t102.toList == a0.toList) = false := beq_eq_false_iff_ne.mpr c7
          have c7b1 : (t102.toList != a0.toList) = true := bne_iff_ne.mpr c7
          simp only [Option.some.injEq, Prod.mk.injEq] at H
          obtain ⟨rfl, rfl⟩ := H
          go_enter Try.func29, Try.ntmps29
          go_wp2_with (first | (go_at_call 35; (with_reducible refine (crc_Close.calls (a0.extract 0 ((ji3) : Int).toNat) t102 _ A6.out).mono ?_); rintro e w11 ⟨rfl, hb⟩; have n0_ := Aside0.mk (below_step (by repeat (first | (with_reducible first | exact HB.out | apply below_alloc | apply pw_below_drewN | apply below_drew1) | exact HB.out)) hb); clear HB; have HB := n0_; clear n0_; (try clear hb); (try clear hb2); (try clear hk); (try clear hi)))
          go_ret2
          exact ⟨by first | rfl | (simp [errW_none, errW_some] <;> rfl) | (simp only [← hji3]; first | rfl | (simp [errW_none, errW_some] <;> rfl)) | (simp [*, errW_none, errW_some] <;> rfl), by repeat (first | (with_reducible first | exact HB.out | apply below_alloc | apply pw_below_drewN | apply below_drew1) | exact HB.out)⟩
      · rw [if_neg c5] at H
        exact absurd H (by simp)
    · rw [if_neg c4] at H
      exact absurd H (by simp)

/-! ### chainmanlaw03_awake: function 28 -/
def chainmanlaw03_awake.f  : Option (Bool) := (crc_Open.f (⟨#[97, 98, 99]⟩ : ByteArray)).bind fun bt103 => ((crc_Of.f (⟨#[49, 50, 51, 52, 53, 54, 55, 56, 57]⟩ : ByteArray)).bind fun t105 => (if t105 = 3421780262 then (if bt103.2 = true then (some false) else ((crc_Close.f (⟨#[]⟩ : ByteArray)).bind fun t106 => (some ((t106.size : Int) == 4)))) else (some false)))
set_option maxHeartbeats 8000000 in
set_option maxRecDepth 100000 in
theorem chainmanlaw03_awake.calls  (r : Bool) (w : World) (h : chainmanlaw03_awake.f  = some r) :
    Calls Try.prog 28 #[] w fun e w' => e = .returned (.bool r) ∧ Below w.heap.size w w' := by
  have HB := Aside0.mk (Below.refl w.heap.size w)
  have H : ((crc_Open.f (⟨#[97, 98, 99]⟩ : ByteArray)).bind fun bt103 => ((crc_Of.f (⟨#[49, 50, 51, 52, 53, 54, 55, 56, 57]⟩ : ByteArray)).bind fun t105 => (if t105 = 3421780262 then (if bt103.2 = true then (some false) else ((crc_Close.f (⟨#[]⟩ : ByteArray)).bind fun t106 => (some ((t106.size : Int) == 4)))) else (some false)))) = some r := h
  clear h
  replace H := Option.bind_eq_some_iff.mp H
  obtain ⟨⟨t103, t104⟩, A10, H⟩ := H
  replace H : ((crc_Of.f (⟨#[49, 50, 51, 52, 53, 54, 55, 56, 57]⟩ : ByteArray)).bind fun t105 => (if t105 = 3421780262 then (if t104 = true then (some false) else ((crc_Close.f (⟨#[]⟩ : ByteArray)).bind fun t106 => (some ((t106.size : Int) == 4)))) else (some false))) = some r := H
  have A1 := Aside0.mk A10
  clear A10
  replace H := Option.bind_eq_some_iff.mp H
  obtain ⟨t105, A20, H⟩ := H
  replace H : (if t105 = 3421780262 then (if t104 = true then (some false) else ((crc_Close.f (⟨#[]⟩ : ByteArray)).bind fun t106 => (some ((t106.size : Int) == 4)))) else (some false)) = some r := H
  have A2 := Aside0.mk A20
  clear A20
  by_cases c3 : t105 = 3421780262
  · rw [if_pos c3] at H
    have c3b0 : (t105 == 3421780262) = true := beq_iff_eq.mpr c3
    have c3b1 : (t105 != 3421780262) = false := bne_eq_false_iff_eq.mpr c3
    clear c3
    by_cases c4 : t104 = true
    · subst c4
      have H1 : (some false) = some r := by rw [if_pos rfl] at H; exact H
      clear H
      have H := H1
      clear H1
      obtain rfl := Option.some.inj H
      go_enter Try.func28, Try.ntmps28
      go_wp2_with (first | ((with_reducible refine gate_callee (f := 29) rfl ?_); refine goesL_ (some 4) rfl rfl Try.func29 (by kernel_rfl) rfl #[.string (⟨#[97, 98, 99]⟩ : ByteArray)] rfl (by (try simp only [List.map_toArray, List.map_cons, List.map_nil]); first | done | rfl | (simp only [List.length_drop, List.length_take]; rfl)) ?_; (with_reducible refine (crc_Open.calls (⟨#[97, 98, 99]⟩ : ByteArray) t103 true _ A1.out).mono ?_); rintro e w5 ⟨rfl, hb⟩; refine ⟨_, rfl, ?_⟩; have n0_ := Aside0.mk (below_step (by repeat (first | (with_reducible first | exact HB.out | apply below_alloc | apply pw_below_drewN | apply below_drew1) | exact HB.out)) hb); clear HB; have HB := n0_; clear n0_; (try clear hb); (try clear hb2); (try clear hk); (try clear hi)) | ((with_reducible refine gate_callee (f := 31) rfl ?_); refine goesL_ (some 7) rfl rfl Try.func31 (by kernel_rfl) rfl #[.string (⟨#[49, 50, 51, 52, 53, 54, 55, 56, 57]⟩ : ByteArray)] rfl (by (try simp only [List.map_toArray, List.map_cons, List.map_nil]); first | done | rfl | (simp only [List.length_drop, List.length_take]; rfl)) ?_; (with_reducible refine (crc_Of.calls (⟨#[49, 50, 51, 52, 53, 54, 55, 56, 57]⟩ : ByteArray) t105 _ A2.out).mono ?_); rintro e w6 ⟨rfl, hb⟩; refine ⟨_, rfl, ?_⟩; have n0_ := Aside0.mk (below_step (by repeat (first | (with_reducible first | exact HB.out | apply below_alloc | apply pw_below_drewN | apply below_drew1) | exact HB.out)) hb); clear HB; have HB := n0_; clear n0_; (try clear hb); (try clear hb2); (try clear hk); (try clear hi)))
      go_ret
      exact ⟨by first | rfl | (simp [errW_none, errW_some] <;> rfl) | (simp [*, errW_none, errW_some] <;> rfl), by repeat (first | (with_reducible first | exact HB.out | apply below_alloc | apply pw_below_drewN | apply below_drew1) | exact HB.out)⟩
    · replace c4 := Bool.eq_false_iff.mpr c4
      subst c4
      have H1 : ((crc_Close.f (⟨#[]⟩ : ByteArray)).bind fun t106 => (some ((t106.size : Int) == 4))) = some r := by rw [if_neg (show ¬ (false = true) by decide)] at H; exact H
      clear H
      have H := H1
      clear H1
      replace H := Option.bind_eq_some_iff.mp H
      obtain ⟨t106, A70, H⟩ := H
      replace H : (some ((t106.size : Int) == 4)) = some r := H
      have A7 := Aside0.mk A70
      clear A70
      obtain rfl := Option.some.inj H
      go_enter Try.func28, Try.ntmps28
      go_wp2_with (first | ((with_reducible refine gate_callee (f := 29) rfl ?_); refine goesL_ (some 4) rfl rfl Try.func29 (by kernel_rfl) rfl #[.string (⟨#[97, 98, 99]⟩ : ByteArray)] rfl (by (try simp only [List.map_toArray, List.map_cons, List.map_nil]); first | done | rfl | (simp only [List.length_drop, List.length_take]; rfl)) ?_; (with_reducible refine (crc_Open.calls (⟨#[97, 98, 99]⟩ : ByteArray) t103 false _ A1.out).mono ?_); rintro e w8 ⟨rfl, hb⟩; refine ⟨_, rfl, ?_⟩; have n0_ := Aside0.mk (below_step (by repeat (first | (with_reducible first | exact HB.out | apply below_alloc | apply pw_below_drewN | apply below_drew1) | exact HB.out)) hb); clear HB; have HB := n0_; clear n0_; (try clear hb); (try clear hb2); (try clear hk); (try clear hi)) | ((with_reducible refine gate_callee (f := 31) rfl ?_); refine goesL_ (some 7) rfl rfl Try.func31 (by kernel_rfl) rfl #[.string (⟨#[49, 50, 51, 52, 53, 54, 55, 56, 57]⟩ : ByteArray)] rfl (by (try simp only [List.map_toArray, List.map_cons, List.map_nil]); first | done | rfl | (simp only [List.length_drop, List.length_take]; rfl)) ?_; (with_reducible refine (crc_Of.calls (⟨#[49, 50, 51, 52, 53, 54, 55, 56, 57]⟩ : ByteArray) t105 _ A2.out).mono ?_); rintro e w9 ⟨rfl, hb⟩; refine ⟨_, rfl, ?_⟩; have n0_ := Aside0.mk (below_step (by repeat (first | (with_reducible first | exact HB.out | apply below_alloc | apply pw_below_drewN | apply below_drew1) | exact HB.out)) hb); clear HB; have HB := n0_; clear n0_; (try clear hb); (try clear hb2); (try clear hk); (try clear hi)) | (go_at_call 35; (with_reducible refine (crc_Close.calls (⟨#[]⟩ : ByteArray) t106 _ A7.out).mono ?_); rintro e w10 ⟨rfl, hb⟩; have n0_ := Aside0.mk (below_step (by repeat (first | (with_reducible first | exact HB.out | apply below_alloc | apply pw_below_drewN | apply below_drew1) | exact HB.out)) hb); clear HB; have HB := n0_; clear n0_; (try clear hb); (try clear hb2); (try clear hk); (try clear hi)))
      go_ret
      exact ⟨by first | rfl | (simp [errW_none, errW_some] <;> rfl) | (simp [*, errW_none, errW_some] <;> rfl), by repeat (first | (with_reducible first | exact HB.out | apply below_alloc | apply pw_below_drewN | apply below_drew1) | exact HB.out)⟩
  · rw [if_neg c3] at H
    have c3b0 : (t105 == 3421780262) = false := beq_eq_false_iff_ne.mpr c3
    have c3b1 : (t105 != 3421780262) = true := bne_iff_ne.mpr c3
    obtain rfl := Option.some.inj H
    go_enter Try.func28, Try.ntmps28
    go_wp2_with (first | ((with_reducible refine gate_callee (f := 29) rfl ?_); refine goesL_ (some 4) rfl rfl Try.func29 (by kernel_rfl) rfl #[.string (⟨#[97, 98, 99]⟩ : ByteArray)] rfl (by (try simp only [List.map_toArray, List.map_cons, List.map_nil]); first | done | rfl | (simp only [List.length_drop, List.length_take]; rfl)) ?_; (with_reducible refine (crc_Open.calls (⟨#[97, 98, 99]⟩ : ByteArray) t103 t104 _ A1.out).mono ?_); rintro e w11 ⟨rfl, hb⟩; refine ⟨_, rfl, ?_⟩; have n0_ := Aside0.mk (below_step (by repeat (first | (with_reducible first | exact HB.out | apply below_alloc | apply pw_below_drewN | apply below_drew1) | exact HB.out)) hb); clear HB; have HB := n0_; clear n0_; (try clear hb); (try clear hb2); (try clear hk); (try clear hi)) | ((with_reducible refine gate_callee (f := 31) rfl ?_); refine goesL_ (some 7) rfl rfl Try.func31 (by kernel_rfl) rfl #[.string (⟨#[49, 50, 51, 52, 53, 54, 55, 56, 57]⟩ : ByteArray)] rfl (by (try simp only [List.map_toArray, List.map_cons, List.map_nil]); first | done | rfl | (simp only [List.length_drop, List.length_take]; rfl)) ?_; (with_reducible refine (crc_Of.calls (⟨#[49, 50, 51, 52, 53, 54, 55, 56, 57]⟩ : ByteArray) t105 _ A2.out).mono ?_); rintro e w12 ⟨rfl, hb⟩; refine ⟨_, rfl, ?_⟩; have n0_ := Aside0.mk (below_step (by repeat (first | (with_reducible first | exact HB.out | apply below_alloc | apply pw_below_drewN | apply below_drew1) | exact HB.out)) hb); clear HB; have HB := n0_; clear n0_; (try clear hb); (try clear hb2); (try clear hk); (try clear hi)))
    go_ret
    exact ⟨by first | rfl | (simp [errW_none, errW_some] <;> rfl) | (simp [*, errW_none, errW_some] <;> rfl), by repeat (first | (with_reducible first | exact HB.out | apply below_alloc | apply pw_below_drewN | apply below_drew1) | exact HB.out)⟩

/-! ### chainmanref03_Turned: function 37 -/
def chainmanref03_Turned.go (len : Nat) (first bits : Int) (l : List Int) : Nat → List Int × Bool
  | 0 => (l, false)
  | k + 1 => if first + (k : Int) < 8 * (len : Int) ∧ Go.bits .and .u32 (bits / 2 ^ k) 1 = 1 then ((chainmanref03_Turned.go len first bits l k).1.set ((first + (k : Int)) / 8).toNat (Go.bits .xor .u8 ((chainmanref03_Turned.go len first bits l k).1.getD ((first + (k : Int)) / 8).toNat 0) (2 ^ ((first + (k : Int)) % 8).toNat % 256)), true) else chainmanref03_Turned.go len first bits l k
def chainmanref03_Turned.f (a0 : ByteArray) (a1 a2 : Int) : Option (ByteArray × Bool) := if 0 ≤ a1 ∧ a1 ≤ 1000000 ∧ a0.size ≤ 1000000 then some (strOfNums (chainmanref03_Turned.go a0.size a1 a2 (bytesOf a0) 32).1, (chainmanref03_Turned.go a0.size a1 a2 (bytesOf a0) 32).2) else none
theorem chainmanref03_Turned.blk_set {w : World} {g : Nat} {t : TypeId} {cs : Array Value} {fr : Nat × Nat} (h : w.heap[g]? = some (.cells cs t fr)) (i : Nat) (u : Value) : (w.setCell ⟨g, i, none⟩ u).heap[g]? = some (.cells (cs.setIfInBounds i u) t fr) := by
  have hlt := blk_lt h
  have h' : w.heap[g] = .cells cs t fr := by simpa [Array.getElem?_eq_getElem hlt] using h
  show (w.heap.modify g _)[g]? = _
  rw [Array.getElem?_eq_getElem (by simpa using hlt), Array.getElem_modify_self, h']
  rfl
theorem chainmanref03_Turned.blk_free {w : World} {g : Nat} {t : TypeId} {cs : Array Value} {n : Nat} (h : w.heap[g]? = some (.cells cs t (n, n + 1))) (i : Nat) (hi : i < n) : w.frozen? ⟨g, i, none⟩ = false := by
  simp [World.frozen?, h]
  omega
/-- what the cells of the row of bytes hold -/
def chainmanref03_Turned.Row (w : World) (B : Nat) (len : Nat) (l : List Int) : Prop := ∃ (cs : Array Value) (n : Nat), w.heap[B]? = some (.cells cs 5 (n, n + 1)) ∧ len ≤ n ∧ cs.size = n ∧ l.length = len ∧ ∀ i, i < len → cs[i]? = some (.int .u8 (l.getD i 0))
theorem chainmanref03_Turned.Row.cell {w : World} {B len : Nat} {l : List Int} (h : chainmanref03_Turned.Row w B len l) (i : Nat) (hi : i < len) : w.cell? ⟨B, i, none⟩ = some (.int .u8 (l.getD i 0)) := by
  obtain ⟨cs, n, hb, _, _, _, hc⟩ := h
  rw [cell_of_row w B i cs _ _ hb]; exact hc i hi
theorem chainmanref03_Turned.Row.free {w : World} {B len : Nat} {l : List Int} (h : chainmanref03_Turned.Row w B len l) (i : Nat) (hi : i < len) : w.frozen? ⟨B, i, none⟩ = false := by
  obtain ⟨cs, n, hb, hn, _⟩ := h
  exact chainmanref03_Turned.blk_free hb i (by omega)
theorem chainmanref03_Turned.Row.set {w : World} {B len : Nat} {l : List Int} (h : chainmanref03_Turned.Row w B len l) (i : Nat) (hi : i < len) (v : Int) : chainmanref03_Turned.Row (w.setCell ⟨B, i, none⟩ (.int .u8 v)) B len (l.set i v) := by
  obtain ⟨cs, n, hb, hn, hs, hl, hc⟩ := h
  refine ⟨_, n, chainmanref03_Turned.blk_set hb i _, hn, by simpa using hs, by simpa using hl, fun j hj => ?_⟩
  by_cases e : i = j
  · subst e
    rw [Array.getElem?_setIfInBounds_self_of_lt (by omega)]
    simp [List.getD_eq_getElem?_getD, hl, hi]
  · rw [Array.getElem?_setIfInBounds_ne e, hc j hj]
    simp [List.getD_eq_getElem?_getD, e]
theorem chainmanref03_Turned.Row.alike {w w' : World} {B len : Nat} {l : List Int} (h : chainmanref03_Turned.Row w B len l) (e : w'.heap = w.heap) : chainmanref03_Turned.Row w' B len l := by
  obtain ⟨cs, n, hb, r⟩ := h
  exact ⟨cs, n, by rw [e]; exact hb, r⟩
set_option maxHeartbeats 2000000 in
set_option maxRecDepth 100000 in
theorem chainmanref03_Turned.calls (a0 : ByteArray) (a1 a2 : Int) (r1 : ByteArray) (r2 : Bool) (w : World) (h : chainmanref03_Turned.f a0 a1 a2 = some (r1, r2)) :
    Calls Try.prog 37 #[.string a0, .int .i64 a1, .int .u32 a2] w fun e w' => e = .returned (.tuple #[.string r1, .bool r2]) ∧ Below w.heap.size w w' := by
  unfold chainmanref03_Turned.f at h
  by_cases hs : 0 ≤ a1 ∧ a1 ≤ 1000000 ∧ a0.size ≤ 1000000
  · rw [if_pos hs] at h
    obtain ⟨f, rfl⟩ : ∃ f : Nat, a1 = (f : Int) := ⟨a1.toNat, by omega⟩
    have hf : f ≤ 1000000 := by omega
    have hz := hs.2.2
    clear hs
    have H := Aside0.mk (Option.some.inj h)
    clear h
    have hconv := fun w : World => Lib.run_convert_string_bytes (P := Try.prog) w 9 83 5 a0 Try.underlying9 Try.underlying83 Try.underlying5
    go_enter Try.func37, Try.ntmps37
    go_wp2
    obtain ⟨W1, hW1⟩ : ∃ W1, W1 = Lib.bytesWorld w 5 a0 := ⟨_, rfl⟩
    have hR : chainmanref03_Turned.Row W1 w.heap.size a0.size (bytesOf a0) := by
      refine ⟨_, _, by rw [hW1]; exact Lib.bytesWorld_at_new w 5 a0, ?_, rfl, by simp [bytesOf], fun i hi => ?_⟩
      · simp [Lib.bytesCells]
      · simp [Lib.bytesCells, bytesOf, Array.getElem?_append, List.getD, hi]
    have hwW : Below w.heap.size w W1 := by rw [hW1]; exact ⟨rfl, rfl, rfl, by rw [Lib.bytesWorld_size]; omega, fun j hj => Lib.bytesWorld_at_old w 5 a0 j hj⟩
    rw [← hW1]
    have HW := Aside0.mk hW1
    have HR := Aside0.mk hR
    have HC := Aside0.mk hconv
    have HN := Aside0.mk hwW
    clear hW1 hR hconv hwW
    go_loopw [9, 10] (fun b i wr => ∃ k : Nat, k ≤ 32 ∧ i = .int .i64 k ∧ b = .bool (chainmanref03_Turned.go a0.size f a2 (bytesOf a0) k).2 ∧ Aside0 (chainmanref03_Turned.Row wr w.heap.size a0.size (chainmanref03_Turned.go a0.size f a2 (bytesOf a0) k).1) ∧ Aside0 (Below w.heap.size w wr)) (fun _ i _ => 32 - (intOf i).toNat)
    case atStart => exact ⟨0, by omega, rfl, rfl, HR, HN⟩
    case round =>
      obtain ⟨k, hk, rfl, rfl, hb, hw⟩ := hrel
      by_cases hlt : k < 32
      · by_cases hin : f + k < 8 * a0.size
        · have hdec : decide (((f : Int) + (k : Int)) < 8 * (a0.size : Int)) = true := decide_eq_true (by omega)
          by_cases hbit : Go.bits .and .u32 (a2 / 2 ^ k) 1 = 1
          · have hb1 : (Go.bits .and .u32 (a2 / 2 ^ k) 1 == 1) = true := beq_iff_eq.2 hbit
            obtain ⟨j, hj⟩ : ∃ j : Nat, j = (f + k) / 8 := ⟨_, rfl⟩
            obtain ⟨m, hm⟩ : ∃ m : Nat, m = (f + k) % 8 := ⟨_, rfl⟩
            have hjl : j < a0.size := by omega
            have hm8 : m < 8 := by omega
            have e1 : IntKind.i64.wrap ((f : Int) + (k : Int)) = (f : Int) + (k : Int) := by rw [IntKind.wrap_i64]; omega
            have e2 : Int.tdiv ((f : Int) + (k : Int)) 8 = (j : Int) := by rw [Int.tdiv_eq_ediv_of_nonneg (by omega)]; omega
            have e3 : Int.tmod ((f : Int) + (k : Int)) 8 = (m : Int) := by rw [Int.tmod_eq_emod_of_nonneg (by omega)]; omega
            have e4 : ((f : Int) + (k : Int)) / 8 = (j : Int) := by omega
            have e5 : ((f : Int) + (k : Int)) % 8 = (m : Int) := by omega
            obtain ⟨x, hx⟩ : ∃ x, x = (chainmanref03_Turned.go a0.size f a2 (bytesOf a0) k).1.getD j 0 := ⟨_, rfl⟩
            have hc : wr.cell? ⟨w.heap.size, j, none⟩ = some (.int .u8 x) := by rw [hx]; exact hb.out.cell j hjl
            have hfz : wr.frozen? ⟨w.heap.size, j, none⟩ = false := hb.out.free j hjl
            have HX := Aside0.mk hx
            have HJ := Aside0.mk hj
            have HM := Aside0.mk hm
            have HB := Aside0.mk hbit
            clear hx hj hm hbit
            go_wp2_with fail
            go_region
            go_wp2
            go_roundw
            case rel =>
              have hgo : chainmanref03_Turned.go a0.size f a2 (bytesOf a0) (k + 1) = ((chainmanref03_Turned.go a0.size f a2 (bytesOf a0) k).1.set j (Go.bits .xor .u8 x (2 ^ m % 256)), true) := by
                rw [chainmanref03_Turned.go, if_pos ⟨by omega, HB.out⟩, show ((f : Int) + (k : Int)) / 8 = (j : Int) from e4, show ((f : Int) + (k : Int)) % 8 = (m : Int) from e5, Int.toNat_natCast, Int.toNat_natCast, ← HX.out]
              exact ⟨k + 1, by omega, by go_num, by rw [hgo], ⟨by rw [hgo]; exact (hb.out.set j hjl _).alike rfl⟩, ⟨below_drew (hw.out.setCell (p := ⟨w.heap.size, j, none⟩) (Nat.le_refl _) _)⟩⟩
            case measure => simp [intOf]; omega
          · have hb1 : (Go.bits .and .u32 (a2 / 2 ^ k) 1 == 1) = false := beq_eq_false_iff_ne.2 hbit
            have HB := Aside0.mk hbit
            clear hbit
            go_wp2
            go_roundw
            case rel =>
              have hgo : chainmanref03_Turned.go a0.size f a2 (bytesOf a0) (k + 1) = chainmanref03_Turned.go a0.size f a2 (bytesOf a0) k := by rw [chainmanref03_Turned.go, if_neg (fun h => HB.out h.2)]
              exact ⟨k + 1, by omega, by go_num, by rw [hgo], ⟨by rw [hgo]; exact hb.out⟩, hw⟩
            case measure => simp [intOf]; omega
        · have hdec : decide (((f : Int) + (k : Int)) < 8 * (a0.size : Int)) = false := decide_eq_false (by omega)
          have hend : ∀ d, chainmanref03_Turned.go a0.size f a2 (bytesOf a0) (k + d) = chainmanref03_Turned.go a0.size f a2 (bytesOf a0) k := by
            intro d
            induction d with
            | zero => rfl
            | succ d ih => rw [← Nat.add_assoc, chainmanref03_Turned.go, if_neg (fun h => by have := h.1; omega)]; exact ih
          have HE : Aside0 (chainmanref03_Turned.go a0.size f a2 (bytesOf a0) k = chainmanref03_Turned.go a0.size f a2 (bytesOf a0) 32) := ⟨by rw [← hend (32 - k), show k + (32 - k) = 32 from by omega]⟩
          clear hend
          rw [HE.out] at hb ⊢
          have hl := hb.out
          obtain ⟨cs, n, _, _, _, hlen, _⟩ := hl
          have hcv := run_convert_bytes_arg (P := Try.prog) wr 83 5 Try.underlying83 Try.underlying5 w.heap.size 0 a0.size (grownCap w a0.size 0 5) (chainmanref03_Turned.go a0.size f a2 (bytesOf a0) 32).1 hlen (fun i hi => by rw [Nat.zero_add]; exact hb.out.cell i hi) 9 Try.underlying9
          simp only [Prod.mk.injEq] at H
          generalize strOfNums (chainmanref03_Turned.go a0.size f a2 (bytesOf a0) 32).1 = z at hcv H
          go_wp2
          go_ret2
          exact ⟨by rw [← H.out.1, ← H.out.2]; rfl, hw.out⟩
      · obtain rfl : k = 32 := by omega
        have hl := hb.out
        obtain ⟨cs, n, _, _, _, hlen, _⟩ := hl
        have hcv := run_convert_bytes_arg (P := Try.prog) wr 83 5 Try.underlying83 Try.underlying5 w.heap.size 0 a0.size (grownCap w a0.size 0 5) (chainmanref03_Turned.go a0.size f a2 (bytesOf a0) 32).1 hlen (fun i hi => by rw [Nat.zero_add]; exact hb.out.cell i hi) 9 Try.underlying9
        simp only [Prod.mk.injEq] at H
        generalize strOfNums (chainmanref03_Turned.go a0.size f a2 (bytesOf a0) 32).1 = z at hcv H
        go_wp2
        go_ret2
        exact ⟨by rw [← H.out.1, ← H.out.2]; rfl, hw.out⟩
  · rw [if_neg hs] at h
    cases h

/-! ### chainmanlaw03_CrcTurned: function 8 -/
def chainmanlaw03_CrcTurned.j0 : Nat → ByteArray → Int → Int → ByteArray → Bool → Option (Bool)
  | 0, _, _, _, _, _ => none
  | k + 1, x0, x1, x2, x7, x39 => if x39 = true then (some false) else (if (wrap64 (8 * (x7.size : Int))) = 0 then (none) else ((chainmanref03_Turned.f x7 (Int.tmod (wrap64 (x1)) (wrap64 (8 * (x7.size : Int)))) x2).bind fun bt111 => ((crc_Open.f bt111.1).bind fun bt113 => (if (bt113.2 != bt111.2) = true then (if bt111.2 = true then (if bt113.1.toList = ([] : List UInt8) then ((chainmanlaw03_awake.f).bind fun t115 => (some t115)) else (some false)) else (if bt113.1.toList = x0.toList then ((chainmanlaw03_awake.f).bind fun t116 => (some t116)) else (some false))) else (some false)))))
def chainmanlaw03_CrcTurned.f (k : Nat) (a0 : ByteArray) (a1 : Int) (a2 : Int) : Option (Bool) := if (a0.size : Int) > 400 then ((chainmanlaw03_awake.f).bind fun t107 => (some t107)) else ((crc_Close.f a0).bind fun t108 => ((crc_Open.f t108).bind fun bt109 => (if bt109.2 = true then (if bt109.1.toList = a0.toList then (chainmanlaw03_CrcTurned.j0 k a0 a1 a2 t108 ((t108.size : Int) != (wrap64 ((a0.size : Int) + 4)))) else (chainmanlaw03_CrcTurned.j0 k a0 a1 a2 t108 true)) else (chainmanlaw03_CrcTurned.j0 k a0 a1 a2 t108 true))))
theorem chainmanlaw03_CrcTurned.mono_l : ∀ k, (∀ y0 y1 y2 y3 y4, LeO (chainmanlaw03_CrcTurned.j0 k y0 y1 y2 y3 y4) (chainmanlaw03_CrcTurned.j0 (k + 1) y0 y1 y2 y3 y4))
  | 0 => fun _ _ _ _ _ r h => by simp [chainmanlaw03_CrcTurned.j0] at h
  | k + 1 => by
    have ih0 := chainmanlaw03_CrcTurned.mono_l k
    · intro y0 y1 y2 y3 y4
      unfold chainmanlaw03_CrcTurned.j0
      repeat' first
      | (with_reducible exact ih0 _ _ _ _ _)
      | (with_reducible exact LeO.refl _)
      | (with_reducible exact LeO.none _)
      | (with_reducible refine LeO.ite ?_ ?_)
      | (with_reducible refine LeO.bind ?_ (fun _ => ?_))
      | exact ih0 _ _ _ _ _
      | exact LeO.none _
      | refine LeO.ite ?_ ?_
      | refine LeO.bind ?_ (fun _ => ?_)
theorem chainmanlaw03_CrcTurned.mono : ∀ a0 a1 a2 k, LeO (chainmanlaw03_CrcTurned.f k a0 a1 a2) (chainmanlaw03_CrcTurned.f (k + 1) a0 a1 a2) := by
  intro a0 a1 a2 k
  have ih0 := chainmanlaw03_CrcTurned.mono_l k
  unfold chainmanlaw03_CrcTurned.f
  repeat' first
      | (with_reducible exact ih0 _ _ _ _ _)
      | (with_reducible exact LeO.refl _)
      | (with_reducible exact LeO.none _)
      | (with_reducible refine LeO.ite ?_ ?_)
      | (with_reducible refine LeO.bind ?_ (fun _ => ?_))
      | exact ih0 _ _ _ _ _
      | exact LeO.none _
      | refine LeO.ite ?_ ?_
      | refine LeO.bind ?_ (fun _ => ?_)
set_option maxHeartbeats 8000000 in
set_option maxRecDepth 100000 in
theorem chainmanlaw03_CrcTurned.calls (k : Nat) (a0 : ByteArray) (a1 : Int) (a2 : Int) (r : Bool) (w : World) (h : chainmanlaw03_CrcTurned.f k a0 a1 a2 = some r) :
    Calls Try.prog 8 #[.string a0, .int .u16 a1, .int .u32 a2] w fun e w' => e = .returned (.bool r) ∧ Below w.heap.size w w' := by
  have HB := Aside0.mk (Below.refl w.heap.size w)
  have H : (if (a0.size : Int) > 400 then ((chainmanlaw03_awake.f).bind fun t107 => (some t107)) else ((crc_Close.f a0).bind fun t108 => ((crc_Open.f t108).bind fun bt109 => (if bt109.2 = true then (if bt109.1.toList = a0.toList then (chainmanlaw03_CrcTurned.j0 k a0 a1 a2 t108 ((t108.size : Int) != (wrap64 ((a0.size : Int) + 4)))) else (chainmanlaw03_CrcTurned.j0 k a0 a1 a2 t108 true)) else (chainmanlaw03_CrcTurned.j0 k a0 a1 a2 t108 true))))) = some r := h
  clear h
  by_cases c4 : (a0.size : Int) > 400
  · rw [if_pos c4] at H
    have c4b0 : decide (400 < (a0.size : Int)) = true := decide_eq_true c4
    have c4b1 : decide (400 < a0.size) = true := decide_eq_true (by omega)
    clear c4
    replace H := Option.bind_eq_some_iff.mp H
    obtain ⟨t107, A50, H⟩ := H
    replace H : (some t107) = some r := H
    have A5 := Aside0.mk A50
    clear A50
    obtain rfl := Option.some.inj H
    go_enter Try.func8, Try.ntmps8
    go_wp2_with (first | ((with_reducible refine gate_callee (f := 28) rfl ?_); refine goesL_ (some 17) rfl rfl Try.func28 (by kernel_rfl) rfl #[] rfl (by (try simp only [List.map_toArray, List.map_cons, List.map_nil]); first | done | rfl | (simp only [List.length_drop, List.length_take]; rfl)) ?_; (with_reducible refine (chainmanlaw03_awake.calls  t107 _ A5.out).mono ?_); rintro e w6 ⟨rfl, hb⟩; refine ⟨_, rfl, ?_⟩; have n0_ := Aside0.mk (below_step (by repeat (first | (with_reducible first | exact HB.out | apply below_alloc | apply pw_below_drewN | apply below_drew1) | exact HB.out)) hb); clear HB; have HB := n0_; clear n0_; (try clear hb); (try clear hb2); (try clear hk); (try clear hi)))
    go_ret
    exact ⟨by first | rfl | (simp [errW_none, errW_some] <;> rfl) | (simp [*, errW_none, errW_some] <;> rfl), by repeat (first | (with_reducible first | exact HB.out | apply below_alloc | apply pw_below_drewN | apply below_drew1) | exact HB.out)⟩
  · rw [if_neg c4] at H
    have c4b0 : decide (400 < (a0.size : Int)) = false := decide_eq_false c4
    have c4b1 : decide (400 < a0.size) = false := decide_eq_false (by omega)
    clear c4
    replace H := Option.bind_eq_some_iff.mp H
    obtain ⟨t108, A70, H⟩ := H
    replace H : ((crc_Open.f t108).bind fun bt109 => (if bt109.2 = true then (if bt109.1.toList = a0.toList then (chainmanlaw03_CrcTurned.j0 k a0 a1 a2 t108 ((t108.size : Int) != (wrap64 ((a0.size : Int) + 4)))) else (chainmanlaw03_CrcTurned.j0 k a0 a1 a2 t108 true)) else (chainmanlaw03_CrcTurned.j0 k a0 a1 a2 t108 true))) = some r := H
    have A7 := Aside0.mk A70
    clear A70
    replace H := Option.bind_eq_some_iff.mp H
    obtain ⟨⟨t109, t110⟩, A80, H⟩ := H
    replace H : (if t110 = true then (if t109.toList = a0.toList then (chainmanlaw03_CrcTurned.j0 k a0 a1 a2 t108 ((t108.size : Int) != (wrap64 ((a0.size : Int) + 4)))) else (chainmanlaw03_CrcTurned.j0 k a0 a1 a2 t108 true)) else (chainmanlaw03_CrcTurned.j0 k a0 a1 a2 t108 true)) = some r := H
    have A8 := Aside0.mk A80
    clear A80
    have HC9 := Aside0.mk H
    clear H
    go_enter Try.func8, Try.ntmps8
    go_upto_region 5 with (first | ((with_reducible refine gate_callee (f := 35) rfl ?_); refine goesL_ (some 19) rfl rfl Try.func35 (by kernel_rfl) rfl #[.string a0] rfl (by (try simp only [List.map_toArray, List.map_cons, List.map_nil]); first | done | rfl | (simp only [List.length_drop, List.length_take]; rfl)) ?_; (with_reducible refine (crc_Close.calls a0 t108 _ A7.out).mono ?_); rintro e w10 ⟨rfl, hb⟩; refine ⟨_, rfl, ?_⟩; have n0_ := Aside0.mk (below_step (by repeat (first | (with_reducible first | exact HB.out | apply below_alloc | apply pw_below_drewN | apply below_drew1) | exact HB.out)) hb); clear HB; have HB := n0_; clear n0_; (try clear hb); (try clear hb2); (try clear hk); (try clear hi)) | ((with_reducible refine gate_callee (f := 29) rfl ?_); refine goesL_ (some 22) rfl rfl Try.func29 (by kernel_rfl) rfl #[.string t108] rfl (by (try simp only [List.map_toArray, List.map_cons, List.map_nil]); first | done | rfl | (simp only [List.length_drop, List.length_take]; rfl)) ?_; (with_reducible refine (crc_Open.calls t108 t109 t110 _ A8.out).mono ?_); rintro e w11 ⟨rfl, hb⟩; refine ⟨_, rfl, ?_⟩; have n0_ := Aside0.mk (below_step (by repeat (first | (with_reducible first | exact HB.out | apply below_alloc | apply pw_below_drewN | apply below_drew1) | exact HB.out)) hb); clear HB; have HB := n0_; clear n0_; (try clear hb); (try clear hb2); (try clear hk); (try clear hi)))
    (try simp only [Act.put, List.setIfInBounds_toArray, List.set_cons_zero, List.set_cons_succ])
    go_cut [39] (fun v39 wc => ∃ (kq : Nat) (x39_8 : Bool), v39 = .bool x39_8 ∧ Aside0 (chainmanlaw03_CrcTurned.j0 kq a0 a1 a2 t108 x39_8 = some r) ∧ Aside0 (kq ≤ k) ∧ Aside0 (Below w.heap.size w wc))
    case first =>
      have H := HC9.out
      clear HC9
      by_cases c12 : t110 = true
      · subst c12
        have H1 : (if t109.toList = a0.toList then (chainmanlaw03_CrcTurned.j0 k a0 a1 a2 t108 ((t108.size : Int) != (wrap64 ((a0.size : Int) + 4)))) else (chainmanlaw03_CrcTurned.j0 k a0 a1 a2 t108 true)) = some r := by rw [if_pos rfl] at H; exact H
        clear H
        have H := H1
        clear H1
        by_cases c13 : t109.toList = a0.toList
        · rw [if_pos c13] at H
          have c13b0 : (t109.toList == a0.toList) = true := beq_iff_eq.mpr c13
          have c13b1 : (t109.toList != a0.toList) = false := bne_eq_false_iff_eq.mpr c13
          clear c13
          (first | rw [c13b0] | (simp only [i64_w, i32_w]; rw [c13b0]) | skip)
          have H' := Aside0.mk H
          clear H
          go_wp2
          go_meet
          case rel => exact ⟨_, (((t108.size : Int) != (wrap64 ((a0.size : Int) + 4)))), (by first | rfl | (simp; done) | (simp [*]; done)), H', ⟨by first | omega | exact Nat.le_refl _⟩, ⟨by repeat (first | (with_reducible first | exact HB.out | apply below_alloc | apply pw_below_drewN | apply below_drew1) | exact HB.out)⟩⟩
        · rw [if_neg c13] at H
          have c13b0 : (t109.toList == a0.toList) = false := beq_eq_false_iff_ne.mpr c13
          have c13b1 : (t109.toList != a0.toList) = true := bne_iff_ne.mpr c13
          (first | rw [c13b0] | (simp only [i64_w, i32_w]; rw [c13b0]) | skip)
          have H' := Aside0.mk H
          clear H
          go_wp2
          go_meet
          case rel => exact ⟨_, (true), (by first | rfl | (simp; done) | (simp [*]; done)), H', ⟨by first | omega | exact Nat.le_refl _⟩, ⟨by repeat (first | (with_reducible first | exact HB.out | apply below_alloc | apply pw_below_drewN | apply below_drew1) | exact HB.out)⟩⟩
      · replace c12 := Bool.eq_false_iff.mpr c12
        subst c12
        have H1 : (chainmanlaw03_CrcTurned.j0 k a0 a1 a2 t108 true) = some r := by rw [if_neg (show ¬ (false = true) by decide)] at H; exact H
        clear H
        have H := H1
        clear H1
        have H' := Aside0.mk H
        clear H
        go_wp2
        go_meet
        case rel => exact ⟨_, (true), (by first | rfl | (simp; done) | (simp [*]; done)), H', ⟨by first | omega | exact Nat.le_refl _⟩, ⟨by repeat (first | (with_reducible first | exact HB.out | apply below_alloc | apply pw_below_drewN | apply below_drew1) | exact HB.out)⟩⟩
    case rest =>
      clear HC9
      try clear c1
      try clear c2
      try clear p2
      try clear c3
      try clear c4
      try clear c4b0
      try clear c4b1
      try clear p6
      try clear c8
      try clear c12
      try clear c13
      try clear c13b0
      try clear c13b1
      obtain ⟨kq, x39_8, rfl, HA, HJ8, HB⟩ := hcut
      cases kq with
      | zero => exact absurd HA.out (by simp [chainmanlaw03_CrcTurned.j0])
      | succ kj8 =>
        have H := HA.out
        clear HA
        simp only [chainmanlaw03_CrcTurned.j0] at H
        by_cases c14 : x39_8 = true
        · subst c14
          have H1 : (some false) = some r := by rw [if_pos rfl] at H; exact H
          clear H
          have H := H1
          clear H1
          obtain rfl := Option.some.inj H
          go_wp2
          go_ret
          exact ⟨by first | rfl | (simp [errW_none, errW_some] <;> rfl) | (simp [*, errW_none, errW_some] <;> rfl), by repeat (first | (with_reducible first | exact HB.out | apply below_alloc | apply pw_below_drewN | apply below_drew1) | exact HB.out)⟩
        · replace c14 := Bool.eq_false_iff.mpr c14
          subst c14
          have H1 : (if (wrap64 (8 * (t108.size : Int))) = 0 then (none) else ((chainmanref03_Turned.f t108 (Int.tmod (wrap64 (a1)) (wrap64 (8 * (t108.size : Int)))) a2).bind fun bt111 => ((crc_Open.f bt111.1).bind fun bt113 => (if (bt113.2 != bt111.2) = true then (if bt111.2 = true then (if bt113.1.toList = ([] : List UInt8) then ((chainmanlaw03_awake.f).bind fun t115 => (some t115)) else (some false)) else (if bt113.1.toList = a0.toList then ((chainmanlaw03_awake.f).bind fun t116 => (some t116)) else (some false))) else (some false))))) = some r := by rw [if_neg (show ¬ (false = true) by decide)] at H; exact H
          clear H
          have H := H1
          clear H1
          by_cases c15 : (wrap64 (8 * (t108.size : Int))) = 0
          · rw [if_pos c15] at H
            exact absurd H (by simp)
          · rw [if_neg c15] at H
            have c15b0 : ((wrap64 (8 * (t108.size : Int))) == 0) = false := beq_eq_false_iff_ne.mpr c15
            have c15b1 : ((wrap64 (8 * (t108.size : Int))) != 0) = true := bne_iff_ne.mpr c15
            replace H := Option.bind_eq_some_iff.mp H
            obtain ⟨⟨t111, t112⟩, A160, H⟩ := H
            replace H : ((crc_Open.f t111).bind fun bt113 => (if (bt113.2 != t112) = true then (if t112 = true then (if bt113.1.toList = ([] : List UInt8) then ((chainmanlaw03_awake.f).bind fun t115 => (some t115)) else (some false)) else (if bt113.1.toList = a0.toList then ((chainmanlaw03_awake.f).bind fun t116 => (some t116)) else (some false))) else (some false))) = some r := H
            have A16 := Aside0.mk A160
            clear A160
            replace H := Option.bind_eq_some_iff.mp H
            obtain ⟨⟨t113, t114⟩, A170, H⟩ := H
            replace H : (if (t114 != t112) = true then (if t112 = true then (if t113.toList = ([] : List UInt8) then ((chainmanlaw03_awake.f).bind fun t115 => (some t115)) else (some false)) else (if t113.toList = a0.toList then ((chainmanlaw03_awake.f).bind fun t116 => (some t116)) else (some false))) else (some false)) = some r := H
            have A17 := Aside0.mk A170
            clear A170
            by_cases c18 : (t114 != t112) = true
            · rw [if_pos c18] at H
              have c18b0 : (t114 != t112) = true := c18
              (try (have c18b1 : decide (t114 = t112) = false := by simpa using c18))
              (try (have c18b2 : (t114 == t112) = false := by simpa using c18))
              (try (have c18b3 : ¬ (t114 = t112) := by simpa using c18))
              clear c18
              by_cases c19 : t112 = true
              · subst c19
                have H1 : (if t113.toList = ([] : List UInt8) then ((chainmanlaw03_awake.f).bind fun t115 => (some t115)) else (some false)) = some r := by rw [if_pos rfl] at H; exact H
                clear H
                have H := H1
                clear H1
                by_cases c20 : t113.toList = ([] : List UInt8)
                · rw [if_pos c20] at H
                  have c20b0 : (t113.toList == ([] : List UInt8)) = true := beq_iff_eq.mpr c20
                  have c20b1 : (t113.toList != ([] : List UInt8)) = false := bne_eq_false_iff_eq.mpr c20
                  clear c20
                  replace H := Option.bind_eq_some_iff.mp H
                  obtain ⟨t115, A210, H⟩ := H
                  replace H : (some t115) = some r := H
                  have A21 := Aside0.mk A210
                  clear A210
                  obtain rfl := Option.some.inj H
                  go_wp2_with (first | ((with_reducible refine gate_callee (f := 37) rfl ?_); refine goesL_ (some 49) rfl rfl Try.func37 (by kernel_rfl) rfl #[.string t108, .int .i64 (Int.tmod (wrap64 (a1)) (wrap64 (8 * (t108.size : Int)))), .int .u32 a2] rfl (by (try simp only [List.map_toArray, List.map_cons, List.map_nil]); first | done | rfl | (simp only [List.length_drop, List.length_take]; rfl)) ?_; (with_reducible refine (chainmanref03_Turned.calls t108 (Int.tmod (wrap64 (a1)) (wrap64 (8 * (t108.size : Int)))) a2 t111 true _ A16.out).mono ?_); rintro e w22 ⟨rfl, hb⟩; refine ⟨_, rfl, ?_⟩; have n0_ := Aside0.mk (below_step (by repeat (first | (with_reducible first | exact HB.out | apply below_alloc | apply pw_below_drewN | apply below_drew1) | exact HB.out)) hb); clear HB; have HB := n0_; clear n0_; (try clear hb); (try clear hb2); (try clear hk); (try clear hi)) | ((with_reducible refine gate_callee (f := 29) rfl ?_); refine goesL_ (some 54) rfl rfl Try.func29 (by kernel_rfl) rfl #[.string t111] rfl (by (try simp only [List.map_toArray, List.map_cons, List.map_nil]); first | done | rfl | (simp only [List.length_drop, List.length_take]; rfl)) ?_; (with_reducible refine (crc_Open.calls t111 t113 t114 _ A17.out).mono ?_); rintro e w23 ⟨rfl, hb⟩; refine ⟨_, rfl, ?_⟩; have n0_ := Aside0.mk (below_step (by repeat (first | (with_reducible first | exact HB.out | apply below_alloc | apply pw_below_drewN | apply below_drew1) | exact HB.out)) hb); clear HB; have HB := n0_; clear n0_; (try clear hb); (try clear hb2); (try clear hk); (try clear hi)) | (go_at_call 28; (with_reducible refine (chainmanlaw03_awake.calls  t115 _ A21.out).mono ?_); rintro e w24 ⟨rfl, hb⟩; have n0_ := Aside0.mk (below_step (by repeat (first | (with_reducible first | exact HB.out | apply below_alloc | apply pw_below_drewN | apply below_drew1) | exact HB.out)) hb); clear HB; have HB := n0_; clear n0_; (try clear hb); (try clear hb2); (try clear hk); (try clear hi)))
                  go_ret
                  exact ⟨by first | rfl | (simp [errW_none, errW_some] <;> rfl) | (simp [*, errW_none, errW_some] <;> rfl), by repeat (first | (with_reducible first | exact HB.out | apply below_alloc | apply pw_below_drewN | apply below_drew1) | exact HB.out)⟩
                · rw [if_neg c20] at H
                  have c20b0 : (t113.toList == ([] : List UInt8)) = false := beq_eq_false_iff_ne.mpr c20
                  have c20b1 : (t113.toList != ([] : List UInt8)) = true := bne_iff_ne.mpr c20
                  obtain rfl := Option.some.inj H
                  go_wp2_with (first | ((with_reducible refine gate_callee (f := 37) rfl ?_); refine goesL_ (some 49) rfl rfl Try.func37 (by kernel_rfl) rfl #[.string t108, .int .i64 (Int.tmod (wrap64 (a1)) (wrap64 (8 * (t108.size : Int)))), .int .u32 a2] rfl (by (try simp only [List.map_toArray, List.map_cons, List.map_nil]); first | done | rfl | (simp only [List.length_drop, List.length_take]; rfl)) ?_; (with_reducible refine (chainmanref03_Turned.calls t108 (Int.tmod (wrap64 (a1)) (wrap64 (8 * (t108.size : Int)))) a2 t111 true _ A16.out).mono ?_); rintro e w25 ⟨rfl, hb⟩; refine ⟨_, rfl, ?_⟩; have n0_ := Aside0.mk (below_step (by repeat (first | (with_reducible first | exact HB.out | apply below_alloc | apply pw_below_drewN | apply below_drew1) | exact HB.out)) hb); clear HB; have HB := n0_; clear n0_; (try clear hb); (try clear hb2); (try clear hk); (try clear hi)) | ((with_reducible refine gate_callee (f := 29) rfl ?_); refine goesL_ (some 54) rfl rfl Try.func29 (by kernel_rfl) rfl #[.string t111] rfl (by (try simp only [List.map_toArray, List.map_cons, List.map_nil]); first | done | rfl | (simp only [List.length_drop, List.length_take]; rfl)) ?_; (with_reducible refine (crc_Open.calls t111 t113 t114 _ A17.out).mono ?_); rintro e w26 ⟨rfl, hb⟩; refine ⟨_, rfl, ?_⟩; have n0_ := Aside0.mk (below_step (by repeat (first | (with_reducible first | exact HB.out | apply below_alloc | apply pw_below_drewN | apply below_drew1) | exact HB.out)) hb); clear HB; have HB := n0_; clear n0_; (try clear hb); (try clear hb2); (try clear hk); (try clear hi)))
                  go_ret
                  exact ⟨by first | rfl | (simp [errW_none, errW_some] <;> rfl) | (simp [*, errW_none, errW_some] <;> rfl), by repeat (first | (with_reducible first | exact HB.out | apply below_alloc | apply pw_below_drewN | apply below_drew1) | exact HB.out)⟩
              · replace c19 := Bool.eq_false_iff.mpr c19
                subst c19
                have H1 : (if t113.toList = a0.toList then ((chainmanlaw03_awake.f).bind fun t116 => (some t116)) else (some false)) = some r := by rw [if_neg (show ¬ (false = true) by decide)] at H; exact H
                clear H
                have H := H1
                clear H1
                by_cases c27 : t113.toList = a0.toList
                · rw [if_pos c27] at H
                  have c27b0 : (t113.toList == a0.toList) = true := beq_iff_eq.mpr c27
                  have c27b1 : (t113.toList != a0.toList) = false := bne_eq_false_iff_eq.mpr c27
                  clear c27
                  replace H := Option.bind_eq_some_iff.mp H
                  obtain ⟨t116, A280, H⟩ := H
                  replace H : (some t116) = some r := H
                  have A28 := Aside0.mk A280
                  clear A280
                  obtain rfl := Option.some.inj H
                  go_wp2_with (first | ((with_reducible refine gate_callee (f := 37) rfl ?_); refine goesL_ (some 49) rfl rfl Try.func37 (by kernel_rfl) rfl #[.string t108, .int .i64 (Int.tmod (wrap64 (a1)) (wrap64 (8 * (t108.size : Int)))), .int .u32 a2] rfl (by (try simp only [List.map_toArray, List.map_cons, List.map_nil]); first | done | rfl | (simp only [List.length_drop, List.length_take]; rfl)) ?_; (with_reducible refine (chainmanref03_Turned.calls t108 (Int.tmod (wrap64 (a1)) (wrap64 (8 * (t108.size : Int)))) a2 t111 false _ A16.out).mono ?_); rintro e w29 ⟨rfl, hb⟩; refine ⟨_, rfl, ?_⟩; have n0_ := Aside0.mk (below_step (by repeat (first | (with_reducible first | exact HB.out | apply below_alloc | apply pw_below_drewN | apply below_drew1) | exact HB.out)) hb); clear HB; have HB := n0_; clear n0_; (try clear hb); (try clear hb2); (try clear hk); (try clear hi)) | ((with_reducible refine gate_callee (f := 29) rfl ?_); refine goesL_ (some 54) rfl rfl Try.func29 (by kernel_rfl) rfl #[.string t111] rfl (by (try simp only [List.map_toArray, List.map_cons, List.map_nil]); first | done | rfl | (simp only [List.length_drop, List.length_take]; rfl)) ?_; (with_reducible refine (crc_Open.calls t111 t113 t114 _ A17.out).mono ?_); rintro e w30 ⟨rfl, hb⟩; refine ⟨_, rfl, ?_⟩; have n0_ := Aside0.mk (below_step (by repeat (first | (with_reducible first | exact HB.out | apply below_alloc | apply pw_below_drewN | apply below_drew1) | exact HB.out)) hb); clear HB; have HB := n0_; clear n0_; (try clear hb); (try clear hb2); (try clear hk); (try clear hi)) | (go_at_call 28; (with_reducible refine (chainmanlaw03_awake.calls  t116 _ A28.out).mono ?_); rintro e w31 ⟨rfl, hb⟩; have n0_ := Aside0.mk (below_step (by repeat (first | (with_reducible first | exact HB.out | apply below_alloc | apply pw_below_drewN | apply below_drew1) | exact HB.out)) hb); clear HB; have HB := n0_; clear n0_; (try clear hb); (try clear hb2); (try clear hk); (try clear hi)))
                  go_ret
                  exact ⟨by first | rfl | (simp [errW_none, errW_some] <;> rfl) | (simp [*, errW_none, errW_some] <;> rfl), by repeat (first | (with_reducible first | exact HB.out | apply below_alloc | apply pw_below_drewN | apply below_drew1) | exact HB.out)⟩
                · rw [if_neg c27] at H
                  have c27b0 : (t113.toList == a0.toList) = false := beq_eq_false_iff_ne.mpr c27
                  have c27b1 : (t113.toList != a0.toList) = true := bne_iff_ne.mpr c27
                  obtain rfl := Option.some.inj H
                  go_wp2_with (first | ((with_reducible refine gate_callee (f := 37) rfl ?_); refine goesL_ (some 49) rfl rfl Try.func37 (by kernel_rfl) rfl #[.string t108, .int .i64 (Int.tmod (wrap64 (a1)) (wrap64 (8 * (t108.size : Int)))), .int .u32 a2] rfl (by (try simp only [List.map_toArray, List.map_cons, List.map_nil]); first | done | rfl | (simp only [List.length_drop, List.length_take]; rfl)) ?_; (with_reducible refine (chainmanref03_Turned.calls t108 (Int.tmod (wrap64 (a1)) (wrap64 (8 * (t108.size : Int)))) a2 t111 false _ A16.out).mono ?_); rintro e w32 ⟨rfl, hb⟩; refine ⟨_, rfl, ?_⟩; have n0_ := Aside0.mk (below_step (by repeat (first | (with_reducible first | exact HB.out | apply below_alloc | apply pw_below_drewN | apply below_drew1) | exact HB.out)) hb); clear HB; have HB := n0_; clear n0_; (try clear hb); (try clear hb2); (try clear hk); (try clear hi)) | ((with_reducible refine gate_callee (f := 29) rfl ?_); refine goesL_ (some 54) rfl rfl Try.func29 (by kernel_rfl) rfl #[.string t111] rfl (by (try simp only [List.map_toArray, List.map_cons, List.map_nil]); first | done | rfl | (simp only [List.length_drop, List.length_take]; rfl)) ?_; (with_reducible refine (crc_Open.calls t111 t113 t114 _ A17.out).mono ?_); rintro e w33 ⟨rfl, hb⟩; refine ⟨_, rfl, ?_⟩; have n0_ := Aside0.mk (below_step (by repeat (first | (with_reducible first | exact HB.out | apply below_alloc | apply pw_below_drewN | apply below_drew1) | exact HB.out)) hb); clear HB; have HB := n0_; clear n0_; (try clear hb); (try clear hb2); (try clear hk); (try clear hi)))
                  go_ret
                  exact ⟨by first | rfl | (simp [errW_none, errW_some] <;> rfl) | (simp [*, errW_none, errW_some] <;> rfl), by repeat (first | (with_reducible first | exact HB.out | apply below_alloc | apply pw_below_drewN | apply below_drew1) | exact HB.out)⟩
            · rw [if_neg c18] at H
              have c18b0 : (t114 != t112) = false := by simpa using c18
              (try (have c18b1 : decide (t114 = t112) = true := by simpa using c18))
              (try (have c18b2 : (t114 == t112) = true := by simpa using c18))
              clear c18
              obtain rfl := Option.some.inj H
              go_wp2_with (first | ((with_reducible refine gate_callee (f := 37) rfl ?_); refine goesL_ (some 49) rfl rfl Try.func37 (by kernel_rfl) rfl #[.string t108, .int .i64 (Int.tmod (wrap64 (a1)) (wrap64 (8 * (t108.size : Int)))), .int .u32 a2] rfl (by (try simp only [List.map_toArray, List.map_cons, List.map_nil]); first | done | rfl | (simp only [List.length_drop, List.length_take]; rfl)) ?_; (with_reducible refine (chainmanref03_Turned.calls t108 (Int.tmod (wrap64 (a1)) (wrap64 (8 * (t108.size : Int)))) a2 t111 t112 _ A16.out).mono ?_); rintro e w34 ⟨rfl, hb⟩; refine ⟨_, rfl, ?_⟩; have n0_ := Aside0.mk (below_step (by repeat (first | (with_reducible first | exact HB.out | apply below_alloc | apply pw_below_drewN | apply below_drew1) | exact HB.out)) hb); clear HB; have HB := n0_; clear n0_; (try clear hb); (try clear hb2); (try clear hk); (try clear hi)) | ((with_reducible refine gate_callee (f := 29) rfl ?_); refine goesL_ (some 54) rfl rfl Try.func29 (by kernel_rfl) rfl #[.string t111] rfl (by (try simp only [List.map_toArray, List.map_cons, List.map_nil]); first | done | rfl | (simp only [List.length_drop, List.length_take]; rfl)) ?_; (with_reducible refine (crc_Open.calls t111 t113 t114 _ A17.out).mono ?_); rintro e w35 ⟨rfl, hb⟩; refine ⟨_, rfl, ?_⟩; have n0_ := Aside0.mk (below_step (by repeat (first | (with_reducible first | exact HB.out | apply below_alloc | apply pw_below_drewN | apply below_drew1) | exact HB.out)) hb); clear HB; have HB := n0_; clear n0_; (try clear hb); (try clear hb2); (try clear hk); (try clear hi)))
              go_ret
              exact ⟨by first | rfl | (simp [errW_none, errW_some] <;> rfl) | (simp [*, errW_none, errW_some] <;> rfl), by repeat (first | (with_reducible first | exact HB.out | apply below_alloc | apply pw_below_drewN | apply below_drew1) | exact HB.out)⟩

/-- THE ONE PURE STATEMENT of chainmanlaw03_CrcTurned: yours. -/
def chainmanlaw03_CrcTurned.Pure : Prop := ∀ (a0 : ByteArray) (a1 : Int) (a2 : Int), a0.size ≤ 140737488351232 → (Lit.int .u16 a1).wf = true → (Lit.int .u32 a2).wf = true → ∃ k, chainmanlaw03_CrcTurned.f k a0 a1 a2 = some true
theorem chainmanlaw03_CrcTurned.walk (P : chainmanlaw03_CrcTurned.Pure) (a0 : ByteArray) (a1 : Int) (a2 : Int) (w : World) (w0 : a0.size ≤ 140737488351232) (w1 : (Lit.int .u16 a1).wf = true) (w2 : (Lit.int .u32 a2).wf = true) :
    Calls Try.prog 8 #[.string a0, .int .u16 a1, .int .u32 a2] w fun e w' => e = .returned (.bool true) ∧ Below w.heap.size w w' := by
  obtain ⟨k, h⟩ := P a0 a1 a2 w0 w1 w2
  refine (chainmanlaw03_CrcTurned.calls k a0 a1 a2 true w h).mono ?_
  rintro e w' ⟨rfl, hd⟩
  exact ⟨rfl, hd⟩

end Go.Proofs.Ytpdgjegnbcillaa.PCrcTurned
