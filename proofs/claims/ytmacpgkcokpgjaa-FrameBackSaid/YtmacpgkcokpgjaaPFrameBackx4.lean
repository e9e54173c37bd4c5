/- The Go functions that the law reaches, as plain Lean functions, and proofs that the calls of the machine come to them, or the row of the law over them, for every input that the row speaks of; written by a program of this session (wip/tool/mkprint.py) out of the translation and of hand-made templates. -/
import Derived.Test.YtmacpgkcokpgjaaPFrameBackx0
import Derived.Test.YtmacpgkcokpgjaaPFrameBackx3
namespace Go.Proofs.Ytmacpgkcokpgjaa.PFrameBack
open Go.RowKit Go.Proofs.YtmacpgkcokpgjaaW.PrintWords Go.Proofs.YtmacpgkcokpgjaaW.PrintLast Go.Proofs.YtmacpgkcokpgjaaW.PrintMore
attribute [local go_sem] max2_int min2_int max_two min_two max_three min_three max_four min_four   -- for this text's walks alone
set_option linter.unusedVariables false
set_option linter.unusedSimpArgs false

/-! ### chainmanref03_Turned: function 35 -/
def chainmanref03_Turned.go (len : Nat) (first bits : Int) (l : List Int) : Nat → List Int × Bool
  | 0 => (l, false)
  | k + 1 => if first + (k : Int) < 8 * (len : Int) ∧ Go.bits .and .u32 (bits / 2 ^ k) 1 = 1 then ((chainmanref03_Turned.go len first bits l k).1.set ((first + (k : Int)) / 8).toNat (Go.bits .xor .u8 ((chainmanref03_Turned.go len first bits l k).1.getD ((first + (k : Int)) / 8).toNat 0) (2 ^ ((first + (k : Int)) % 8).toNat % 256)), true) else chainmanref03_Turned.go len first bits l k
def chainmanref03_Turned.f (a0 : ByteArray) (a1 a2 : Int) : Option (ByteArray × Bool) := if 0 ≤ a1 ∧ a1 ≤ 1000000 ∧ a0.size ≤ 1000000 then some (strOfNums (chainmanref03_Turned.go a0.size a1 a2 (bytesOf a0) 32).1, (chainmanref03_Turned.go a0.size a1 a2 (bytesOf a0) 32).2) else none
theorem chainmanref03_Turned.blk_set {w : World} {g : Nat} {t : TypeId} {cs : Array Value} {fr : Nat × Nat} (h : w.heap[g]? = some (.cells cs t fr)) (i : Nat) (u : Value) : (w.setCell ⟨g, i, none⟩ u).heap[g]? = some (.cells (cs.setIfInBounds i u) t fr) := by
  have hlt := blk_lt h
  have h' : w.heap[g] = .cells cs t fr := by simpa [Array.getElem?_eq_getElem hlt] using h
  show (w.heap.modify g _)[g]? = _
  rw [Array.getElem?_eq_getElem (by simpa using hlt), Array.getElem_modify_self, h']
  rfl
theorem chainmanref03_Turned.blk_free {w : World} {g : Nat} {t : TypeId} {cs : Array Value} {n : Nat} (h : w.heap[g]? = some (.cells cs t (n, n + 1))) (i : Nat) (hi : i < n) : w.frozen? ⟨g, i, none⟩ = false := by
  simp [World.frozen?, h]
  omega
/-- what the cells of the row of bytes hold -/
def chainmanref03_Turned.Row (w : World) (B : Nat) (len : Nat) (l : List Int) : Prop := ∃ (cs : Array Value) (n : Nat), w.heap[B]? = some (.cells cs 5 (n, n + 1)) ∧ len ≤ n ∧ cs.size = n ∧ l.length = len ∧ ∀ i, i < len → cs[i]? = some (.int .u8 (l.getD i 0))
theorem chainmanref03_Turned.Row.cell {w : World} {B len : Nat} {l : List Int} (h : chainmanref03_Turned.Row w B len l) (i : Nat) (hi : i < len) : w.cell? ⟨B, i, none⟩ = some (.int .u8 (l.getD i 0)) := by
  obtain ⟨cs, n, hb, _, _, _, hc⟩ := h
  rw [cell_of_row w B i cs _ _ hb]; exact hc i hi
theorem chainmanref03_Turned.Row.free {w : World} {B len : Nat} {l : List Int} (h : chainmanref03_Turned.Row w B len l) (i : Nat) (hi : i < len) : w.frozen? ⟨B, i, none⟩ = false := by
  obtain ⟨cs, n, hb, hn, _⟩ := h
  exact chainmanref03_Turned.blk_free hb i (by omega)
theorem chainmanref03_Turned.Row.set {w : World} {B len : Nat} {l : List Int} (h : chainmanref03_Turned.Row w B len l) (i : Nat) (hi : i < len) (v : Int) : chainmanref03_Turned.Row (w.setCell ⟨B, i, none⟩ (.int .u8 v)) B len (l.set i v) := by
  obtain ⟨cs, n, hb, hn, hs, hl, hc⟩ := h
  refine ⟨_, n, chainmanref03_Turned.blk_set hb i _, hn, by simpa using hs, by simpa using hl, fun j hj => ?_⟩
  by_cases e : i = j
  · subst e
    rw [Array.getElem?_setIfInBounds_self_of_lt (by omega)]
    simp [List.getD_eq_getElem?_getD, hl, hi]
  · rw [Array.getElem?_setIfInBounds_ne e, hc j hj]
    simp [List.getD_eq_getElem?_getD, e]
theorem chainmanref03_Turned.Row.alike {w w' : World} {B len : Nat} {l : List Int} (h : chainmanref03_Turned.Row w B len l) (e : w'.heap = w.heap) : chainmanref03_Turned.Row w' B len l := by
  obtain ⟨cs, n, hb, r⟩ := h
  exact ⟨cs, n, by rw [e]; exact hb, r⟩
set_option maxHeartbeats 2000000 in
set_option maxRecDepth 100000 in
theorem chainmanref03_Turned.calls (a0 : ByteArray) (a1 a2 : Int) (r1 : ByteArray) (r2 : Bool) (w : World) (h : chainmanref03_Turned.f a0 a1 a2 = some (r1, r2)) :
    Calls Try.prog 35 #[.string a0, .int .i64 a1, .int .u32 a2] w fun e w' => e = .returned (.tuple #[.string r1, .bool r2]) ∧ Below w.heap.size w w' := by
  unfold chainmanref03_Turned.f at h
  by_cases hs : 0 ≤ a1 ∧ a1 ≤ 1000000 ∧ a0.size ≤ 1000000
  · rw [if_pos hs] at h
    obtain ⟨f, rfl⟩ : ∃ f : Nat, a1 = (f : Int) := ⟨a1.toNat, by omega⟩
    have hf : f ≤ 1000000 := by omega
    have hz := hs.2.2
    clear hs
    have H := Aside0.mk (Option.some.inj h)
    clear h
    have hconv := fun w : World => Lib.run_convert_string_bytes (P := Try.prog) w 9 109 5 a0 Try.underlying9 Try.underlying109 Try.underlying5
    go_enter Try.func35, Try.ntmps35
    go_wp2
    obtain ⟨W1, hW1⟩ : ∃ W1, W1 = Lib.bytesWorld w 5 a0 := ⟨_, rfl⟩
    have hR : chainmanref03_Turned.Row W1 w.heap.size a0.size (bytesOf a0) := by
      refine ⟨_, _, by rw [hW1]; exact Lib.bytesWorld_at_new w 5 a0, ?_, rfl, by simp [bytesOf], fun i hi => ?_⟩
      · simp [Lib.bytesCells]
      · simp [Lib.bytesCells, bytesOf, Array.getElem?_append, List.getD, hi]
    have hwW : Below w.heap.size w W1 := by rw [hW1]; exact ⟨rfl, rfl, rfl, by rw [Lib.bytesWorld_size]; omega, fun j hj => Lib.bytesWorld_at_old w 5 a0 j hj⟩
    rw [← hW1]
    have HW := Aside0.mk hW1
    have HR := Aside0.mk hR
    have HC := Aside0.mk hconv
    have HN := Aside0.mk hwW
    clear hW1 hR hconv hwW
    go_loopw [9, 10] (fun b i wr => ∃ k : Nat, k ≤ 32 ∧ i = .int .i64 k ∧ b = .bool (chainmanref03_Turned.go a0.size f a2 (bytesOf a0) k).2 ∧ Aside0 (chainmanref03_Turned.Row wr w.heap.size a0.size (chainmanref03_Turned.go a0.size f a2 (bytesOf a0) k).1) ∧ Aside0 (Below w.heap.size w wr)) (fun _ i _ => 32 - (intOf i).toNat)
    case atStart => exact ⟨0, by omega, rfl, rfl, HR, HN⟩
    case round =>
      obtain ⟨k, hk, rfl, rfl, hb, hw⟩ := hrel
      by_cases hlt : k < 32
      · by_cases hin : f + k < 8 * a0.size
        · have hdec : decide (((f : Int) + (k : Int)) < 8 * (a0.size : Int)) = true := decide_eq_true (by omega)
          by_cases hbit : Go.bits .and .u32 (a2 / 2 ^ k) 1 = 1
          · have hb1 : (Go.bits .and .u32 (a2 / 2 ^ k) 1 == 1) = true := beq_iff_eq.2 hbit
            obtain ⟨j, hj⟩ : ∃ j : Nat, j = (f + k) / 8 := ⟨_, rfl⟩
            obtain ⟨m, hm⟩ : ∃ m : Nat, m = (f + k) % 8 := ⟨_, rfl⟩
            have hjl : j < a0.size := by omega
            have hm8 : m < 8 := by omega
            have e1 : IntKind.i64.wrap ((f : Int) + (k : Int)) = (f : Int) + (k : Int) := by rw [IntKind.wrap_i64]; omega
            have e2 : Int.tdiv ((f : Int) + (k : Int)) 8 = (j : Int) := by rw [Int.tdiv_eq_ediv_of_nonneg (by omega)]; omega
            have e3 : Int.tmod ((f : Int) + (k : Int)) 8 = (m : Int) := by rw [Int.tmod_eq_emod_of_nonneg (by omega)]; omega
            have e4 : ((f : Int) + (k : Int)) / 8 = (j : Int) := by omega
            have e5 : ((f : Int) + (k : Int)) % 8 = (m : Int) := by omega
            obtain ⟨x, hx⟩ : ∃ x, x = (chainmanref03_Turned.go a0.size f a2 (bytesOf a0) k).1.getD j 0 := ⟨_, rfl⟩
            have hc : wr.cell? ⟨w.heap.size, j, none⟩ = some (.int .u8 x) := by rw [hx]; exact hb.out.cell j hjl
            have hfz : wr.frozen? ⟨w.heap.size, j, none⟩ = false := hb.out.free j hjl
            have HX := Aside0.mk hx
            have HJ := Aside0.mk hj
            have HM := Aside0.mk hm
            have HB := Aside0.mk hbit
            clear hx hj hm hbit
            go_wp2_with fail
            go_region
            go_wp2
            go_roundw
            case rel =>
              have hgo : chainmanref03_Turned.go a0.size f a2 (bytesOf a0) (k + 1) = ((chainmanref03_Turned.go a0.size f a2 (bytesOf a0) k).1.set j (Go.bits .xor .u8 x (2 ^ m % 256)), true) := by
                rw [chainmanref03_Turned.go, if_pos ⟨by omega, HB.out⟩, show ((f : Int) + (k : Int)) / 8 = (j : Int) from e4, show ((f : Int) + (k : Int)) % 8 = (m : Int) from e5, Int.toNat_natCast, Int.toNat_natCast, ← HX.out]
              exact ⟨k + 1, by omega, by go_num, by rw [hgo], ⟨by rw [hgo]; exact (hb.out.set j hjl _).alike rfl⟩, ⟨below_drew (hw.out.setCell (p := ⟨w.heap.size, j, none⟩) (Nat.le_refl _) _)⟩⟩
            case measure => simp [intOf]; omega
          · have hb1 : (Go.bits .and .u32 (a2 / 2 ^ k) 1 == 1) = false := beq_eq_false_iff_ne.2 hbit
            have HB := Aside0.mk hbit
            clear hbit
            go_wp2
            go_roundw
            case rel =>
              have hgo : chainmanref03_Turned.go a0.size f a2 (bytesOf a0) (k + 1) = chainmanref03_Turned.go a0.size f a2 (bytesOf a0) k := by rw [chainmanref03_Turned.go, if_neg (fun h => HB.out h.2)]
              exact ⟨k + 1, by omega, by go_num, by rw [hgo], ⟨by rw [hgo]; exact hb.out⟩, hw⟩
            case measure => simp [intOf]; omega
        · have hdec : decide (((f : Int) + (k : Int)) < 8 * (a0.size : Int)) = false := decide_eq_false (by omega)
          have hend : ∀ d, chainmanref03_Turned.go a0.size f a2 (bytesOf a0) (k + d) = chainmanref03_Turned.go a0.size f a2 (bytesOf a0) k := by
            intro d
            induction d with
            | zero => rfl
            | succ d ih => rw [← Nat.add_assoc, chainmanref03_Turned.go, if_neg (fun h => by have := h.1; omega)]; exact ih
          have HE : Aside0 (chainmanref03_Turned.go a0.size f a2 (bytesOf a0) k = chainmanref03_Turned.go a0.size f a2 (bytesOf a0) 32) := ⟨by rw [← hend (32 - k), show k + (32 - k) = 32 from by omega]⟩
          clear hend
          rw [HE.out] at hb ⊢
          have hl := hb.out
          obtain ⟨cs, n, _, _, _, hlen, _⟩ := hl
          have hcv := run_convert_bytes_arg (P := Try.prog) wr 109 5 Try.underlying109 Try.underlying5 w.heap.size 0 a0.size (grownCap w a0.size 0 5) (chainmanref03_Turned.go a0.size f a2 (bytesOf a0) 32).1 hlen (fun i hi => by rw [Nat.zero_add]; exact hb.out.cell i hi) 9 Try.underlying9
          simp only [Prod.mk.injEq] at H
          generalize strOfNums (chainmanref03_Turned.go a0.size f a2 (bytesOf a0) 32).1 = z at hcv H
          go_wp2
          go_ret2
          exact ⟨by rw [← H.out.1, ← H.out.2]; rfl, hw.out⟩
      · obtain rfl : k = 32 := by omega
        have hl := hb.out
        obtain ⟨cs, n, _, _, _, hlen, _⟩ := hl
        have hcv := run_convert_bytes_arg (P := Try.prog) wr 109 5 Try.underlying109 Try.underlying5 w.heap.size 0 a0.size (grownCap w a0.size 0 5) (chainmanref03_Turned.go a0.size f a2 (bytesOf a0) 32).1 hlen (fun i hi => by rw [Nat.zero_add]; exact hb.out.cell i hi) 9 Try.underlying9
        simp only [Prod.mk.injEq] at H
        generalize strOfNums (chainmanref03_Turned.go a0.size f a2 (bytesOf a0) 32).1 = z at hcv H
        go_wp2
        go_ret2
        exact ⟨by rw [← H.out.1, ← H.out.2]; rfl, hw.out⟩
  · rw [if_neg hs] at h
    cases h


/-! ### octet_Get: function 103 -/
def octet_Get.join (n : Int) (b : Int) : Int := Go.bits .or .u64 (IntKind.u64.wrap (n * 256)) b
def octet_Get.num (l : List Int) : Int := l.foldl octet_Get.join 0
def octet_Get.f (a0 : ByteArray) (a1 a2 : Int) : Option (Int × Bool) :=
  if a0.size ≤ 1000000000 ∧ -9223372036854775808 ≤ a1 ∧ a1 ≤ 9223372036854775807 then
    if a2 < 1 ∨ 8 < a2 ∨ a1 < 0 ∨ (a0.size : Int) - a2 < a1 then some (0, false)
    else if octet_Get.num (bytesOf (a0.extract a1.toNat (a1 + a2).toNat)) < 9223372036854775808 then some (octet_Get.num (bytesOf (a0.extract a1.toNat (a1 + a2).toNat)), true) else some (0, false)
  else none
theorem octet_Get.join_range (n b : Int) : 0 ≤ octet_Get.join n b ∧ octet_Get.join n b < 18446744073709551616 := by
  unfold octet_Get.join Go.bits IntKind.wrap
  simp [IntKind.bits, IntKind.signed]
  omega
theorem octet_Get.num_snoc (l : List Int) (b : Int) : octet_Get.num (l ++ [b]) = octet_Get.join (octet_Get.num l) b := by
  unfold octet_Get.num
  rw [List.foldl_append]; rfl
theorem octet_Get.num_range (l : List Int) : 0 ≤ octet_Get.num l ∧ octet_Get.num l < 18446744073709551616 := by
  rcases List.eq_nil_or_concat l with rfl | ⟨m, b, rfl⟩
  · exact ⟨Int.le_refl _, by decide⟩
  · rw [List.concat_eq_append, octet_Get.num_snoc]; exact octet_Get.join_range _ _
theorem octet_Get.bytes_take (s : ByteArray) (k : Nat) (h : k < s.size) : (bytesOf s).take (k + 1) = (bytesOf s).take k ++ [((s.data.toList.getD k 0).toNat : Int)] := by
  have h' : k < (bytesOf s).length := by simpa [bytesOf] using h
  have h2 : k < s.data.toList.length := by simpa using h
  rw [List.take_succ_eq_append_getElem h']
  congr 2
  rw [List.getD_eq_getElem?_getD, List.getElem?_eq_getElem h2]
  simp [bytesOf]
set_option maxHeartbeats 2000000 in
set_option maxRecDepth 100000 in
theorem octet_Get.calls (a0 : ByteArray) (a1 a2 : Int) (r1 : Int) (r2 : Bool) (w : World) (h : octet_Get.f a0 a1 a2 = some (r1, r2)) :
    Calls Try.prog 103 #[.string a0, .int .i64 a1, .int .i64 a2] w fun e w' => e = .returned (.tuple #[.int .i64 r1, .bool r2]) ∧ Below w.heap.size w w' := by
  unfold octet_Get.f at h
  by_cases hg : a0.size ≤ 1000000000 ∧ -9223372036854775808 ≤ a1 ∧ a1 ≤ 9223372036854775807
  · rw [if_pos hg] at h
    obtain ⟨hs, hl, hu⟩ := hg
    by_cases c1 : a2 < 1
    · rw [if_pos (.inl c1)] at h
      simp only [Option.some.injEq, Prod.mk.injEq] at h
      obtain ⟨rfl, rfl⟩ := h
      go_enter Try.func103, Try.ntmps103
      go_wp2
      go_ret2
      exact ⟨rfl, Below.refl _ _⟩
    · by_cases c2 : 8 < a2
      · rw [if_pos (.inr (.inl c2))] at h
        simp only [Option.some.injEq, Prod.mk.injEq] at h
        obtain ⟨rfl, rfl⟩ := h
        go_enter Try.func103, Try.ntmps103
        go_wp2
        go_ret2
        exact ⟨rfl, Below.refl _ _⟩
      · by_cases c3 : a1 < 0
        · rw [if_pos (.inr (.inr (.inl c3)))] at h
          simp only [Option.some.injEq, Prod.mk.injEq] at h
          obtain ⟨rfl, rfl⟩ := h
          go_enter Try.func103, Try.ntmps103
          go_wp2
          go_ret2
          exact ⟨rfl, Below.refl _ _⟩
        · by_cases c4 : (a0.size : Int) - a2 < a1
          · rw [if_pos (.inr (.inr (.inr c4)))] at h
            simp only [Option.some.injEq, Prod.mk.injEq] at h
            obtain ⟨rfl, rfl⟩ := h
            go_enter Try.func103, Try.ntmps103
            go_wp2
            go_ret2
            exact ⟨rfl, Below.refl _ _⟩
          · rw [if_neg (by omega)] at h
            obtain ⟨i, rfl⟩ : ∃ i : Nat, a1 = (i : Int) := ⟨a1.toNat, by omega⟩
            obtain ⟨k, rfl⟩ : ∃ k : Nat, a2 = (k : Int) := ⟨a2.toNat, by omega⟩
            rw [Int.toNat_natCast, show ((i : Int) + (k : Int)).toNat = i + k from by omega] at h
            have hik : i + k ≤ a0.size := by omega
            have hes : (a0.extract i (i + k)).size = k := by rw [ByteArray.size_extract]; omega
            have H := Aside0.mk h
            have hsl : ∀ w, (Instr.slice 9 (.string a0) (some (.int .i64 (i : Int))) (some (.int .i64 ((i : Int) + (k : Int)))) none).run Try.prog w = .ok (.string (a0.extract i (i + k))) w := fun w => by
              rw [run_slice_string w 9 a0 .i64 .i64 _ _ Try.underlying9 (by omega) (by omega) (by omega)]
              rw [Int.toNat_natCast, show ((i : Int) + (k : Int)).toNat = i + k from by omega]
            clear h
            generalize a0.extract i (i + k) = z at H hsl hes
            have hconv := fun w : World => Lib.run_convert_string_bytes (P := Try.prog) w 9 109 5 z Try.underlying9 Try.underlying109 Try.underlying5
            go_enter Try.func103, Try.ntmps103
            go_wp2
            obtain ⟨W1, hW1⟩ : ∃ W1, W1 = Lib.bytesWorld w 5 z := ⟨_, rfl⟩
            have hB : ∀ t, t < z.size → W1.cell? ⟨w.heap.size, t, none⟩ = some (.int .u8 (z.data.toList.getD t 0).toNat) := fun t ht => by rw [hW1]; exact Lib.bytesWorld_cell w 5 z t ht
            have hwW : Below w.heap.size w W1 := by rw [hW1]; exact ⟨rfl, rfl, rfl, by rw [Lib.bytesWorld_size]; omega, fun j hj => Lib.bytesWorld_at_old w 5 z j hj⟩
            rw [← hW1]
            rw [hes] at hB
            have HW := Aside0.mk hW1
            have HB := Aside0.mk hB
            have HC := Aside0.mk hconv
            have HN := Aside0.mk hwW
            have HE := Aside0.mk hes
            clear hW1 hB hconv hwW hes hsl
            have hk8 : k ≤ 8 := by omega
            have h64 : (k : Int) ≤ 8 := by omega
            go_loop [8, 37] (fun n i => ∃ j : Nat, j ≤ k ∧ i = .int .i64 j ∧ n = .int .u64 (octet_Get.num ((bytesOf z).take j))) (fun _ i => k - (intOf i).toNat)
            case atStart => exact ⟨0, Nat.zero_le _, rfl, rfl⟩
            case round =>
              obtain ⟨j, hj, rfl, rfl⟩ := hrel
              by_cases hlt : j < k
              · have hc := HB.out j hlt
                have HS : Aside0 (octet_Get.num ((bytesOf z).take (j + 1)) = octet_Get.join (octet_Get.num ((bytesOf z).take j)) ((z.data.toList.getD j 0).toNat : Int)) := ⟨by
                  rw [octet_Get.bytes_take z j (by rw [HE.out]; exact hlt), octet_Get.num_snoc]⟩
                have hr := octet_Get.num_range ((bytesOf z).take j)
                generalize octet_Get.num ((bytesOf z).take j) = n at HS hr ⊢
                obtain ⟨c, hcc⟩ : ∃ c, c = z.data.toList.getD j 0 := ⟨_, rfl⟩
                rw [← hcc] at hc HS
                clear hcc
                have hc0 : (c.toNat : Int) < 256 := by have := c.toNat_lt; omega
                go_wp2
                go_round
                case rel => exact ⟨j + 1, by omega, by go_num, by rw [HS.out]; rfl⟩
                case measure => simp [intOf]; omega
              · obtain rfl : j = k := by omega
                have HT : Aside0 ((bytesOf z).take j = bytesOf z) := ⟨List.take_of_length_le (by have := HE.out; simp [bytesOf] at *; omega)⟩
                rw [HT.out]
                have hr := octet_Get.num_range (bytesOf z)
                have H' := H.out
                by_cases hlim : octet_Get.num (bytesOf z) < 9223372036854775808
                · rw [if_pos hlim] at H'
                  simp only [Option.some.injEq, Prod.mk.injEq] at H'
                  have HR := Aside0.mk H'
                  clear H' H
                  generalize octet_Get.num (bytesOf z) = n at hr hlim HR ⊢
                  have hsh : decide (0 < n / 9223372036854775808) = false := decide_eq_false (by omega)
                  have hwr : (n + 9223372036854775808) % 18446744073709551616 - 9223372036854775808 = n := by omega
                  go_wp2
                  go_ret2
                  exact ⟨by rw [← HR.out.1, ← HR.out.2]; rfl, HN.out⟩
                · rw [if_neg hlim] at H'
                  simp only [Option.some.injEq, Prod.mk.injEq] at H'
                  have HR := Aside0.mk H'
                  clear H' H
                  generalize octet_Get.num (bytesOf z) = n at hr hlim HR ⊢
                  have hsh : decide (0 < n / 9223372036854775808) = true := decide_eq_true (by omega)
                  go_wp2
                  go_ret2
                  exact ⟨by rw [← HR.out.1, ← HR.out.2]; rfl, HN.out⟩
  · rw [if_neg hg] at h
    cases h


/-! ### frame_GetEnd: function 37 -/
def frame_GetEnd.j0 : Nat → ByteArray → Bool → Option (Int × Int × Bool)
  | 0, _, _ => none
  | k + 1, x0, x17 => if x17 = true then (some (0, 0, false)) else ((crc_Open.f x0).bind fun bt136 => (if bt136.2 = true then ((octet_Get.f bt136.1 1 8).bind fun bt138 => ((octet_Get.f bt136.1 9 4).bind fun bt140 => (if bt138.2 = true then (if bt140.2 = true then (if bt138.1 > 4611686018427387904 then (some (0, 0, false)) else (some (bt138.1, (bt140.1) % 4294967296, true))) else (some (0, 0, false))) else (some (0, 0, false))))) else (some (0, 0, false))))
def frame_GetEnd.f (k : Nat) (a0 : ByteArray) : Option (Int × Int × Bool) := if (a0.size : Int) = 17 then (if 0 < (a0.size : Int) then (frame_GetEnd.j0 k a0 (decide ((bt a0 0) > 0))) else (none)) else (frame_GetEnd.j0 k a0 true)
theorem frame_GetEnd.mono_l : ∀ k, (∀ y0 y1, LeO (frame_GetEnd.j0 k y0 y1) (frame_GetEnd.j0 (k + 1) y0 y1))
  | 0 => fun _ _ r h => by simp [frame_GetEnd.j0] at h
  | k + 1 => by
    have ih0 := frame_GetEnd.mono_l k
    · intro y0 y1
      unfold frame_GetEnd.j0
      repeat' first
      | (with_reducible exact ih0 _ _)
      | (with_reducible exact LeO.refl _)
      | (with_reducible exact LeO.none _)
      | (with_reducible refine LeO.ite ?_ ?_)
      | (with_reducible refine LeO.bind ?_ (fun _ => ?_))
      | exact ih0 _ _
      | exact LeO.none _
      | refine LeO.ite ?_ ?_
      | refine LeO.bind ?_ (fun _ => ?_)
theorem frame_GetEnd.mono : ∀ a0 k, LeO (frame_GetEnd.f k a0) (frame_GetEnd.f (k + 1) a0) := by
  intro a0 k
  have ih0 := frame_GetEnd.mono_l k
  unfold frame_GetEnd.f
  repeat' first
      | (with_reducible exact ih0 _ _)
      | (with_reducible exact LeO.refl _)
      | (with_reducible exact LeO.none _)
      | (with_reducible refine LeO.ite ?_ ?_)
      | (with_reducible refine LeO.bind ?_ (fun _ => ?_))
      | exact ih0 _ _
      | exact LeO.none _
      | refine LeO.ite ?_ ?_
      | refine LeO.bind ?_ (fun _ => ?_)
set_option maxHeartbeats 8000000 in
set_option maxRecDepth 100000 in
theorem frame_GetEnd.calls (k : Nat) (a0 : ByteArray) (r1 : Int) (r2 : Int) (r3 : Bool) (w : World) (h : frame_GetEnd.f k a0 = some (r1, r2, r3)) :
    Calls Try.prog 37 #[.string a0] w fun e w' => e = .returned (.tuple #[.agg #[.int .i64 r1, .int .u32 r2], .bool r3]) ∧ Below w.heap.size w w' := by
  have hu46 := Try.underlying46
  have HB := Aside0.mk (Below.refl w.heap.size w)
  have H : (if (a0.size : Int) = 17 then (if 0 < (a0.size : Int) then (frame_GetEnd.j0 k a0 (decide ((bt a0 0) > 0))) else (none)) else (frame_GetEnd.j0 k a0 true)) = some (r1, r2, r3) := h
  clear h
  have HC2 := Aside0.mk H
  clear H
  go_enter Try.func37, Try.ntmps37
  go_upto_region 1 with (first | ((with_reducible refine gate_dst (N := 2) rfl ?_); refine box_event ?hg (N := 2) ?hd (cs := #[.int .i64 0, .int .u32 0]) (t := 46) ?hr ?_; (case hd => rfl); (case hg => rfl); (case hr => first | (go_simp; done) | (go_simp; rfl)); intro gb135 hg w3 hbox hb; have n0_ := Aside0.mk (below_step (by repeat (first | (with_reducible first | exact HB.out | apply below_alloc | apply pw_below_drewN | apply below_drew1) | exact HB.out)) hb); have n1_ := Aside0.mk (hbox); have n2_ := Aside0.mk ((by rw [hg]; exact (below_size (by repeat (first | (with_reducible first | exact HB.out | apply below_alloc | apply pw_below_drewN | apply below_drew1) | exact HB.out))) : w.heap.size ≤ gb135)); have n3_ := Aside0.mk ((by rw [hg]; exact (below_size (by repeat (first | (with_reducible first | exact HB.out | apply below_alloc | apply pw_below_drewN | apply below_drew1) | exact HB.out))) : w.heap.size ≤ gb135)); clear HB; have HB := n0_; have BK135 := n1_; have GW135 := n2_; have GE135 := n3_; clear n0_ n1_ n2_ n3_; clear hb hbox hg))
  (try simp only [Act.put, List.setIfInBounds_toArray, List.set_cons_zero, List.set_cons_succ])
  go_cut [17] (fun v17 wc => ∃ (kq : Nat) (x17_1 : Bool), v17 = .bool x17_1 ∧ Aside0 (frame_GetEnd.j0 kq a0 x17_1 = some (r1, r2, r3)) ∧ Aside0 (kq ≤ k) ∧ Aside0 (wc.heap[gb135]? = some (.cells #[.int .i64 0, .int .u32 0] 46 (0, 0))) ∧ Aside0 (Below w.heap.size w wc))
  case first =>
    have H := HC2.out
    clear HC2
    by_cases c4 : (a0.size : Int) = 17
    · rw [if_pos c4] at H
      have c4b0 : ((a0.size : Int) == 17) = true := beq_iff_eq.mpr c4
      have c4b1 : ((a0.size : Int) != 17) = false := bne_eq_false_iff_eq.mpr c4
      clear c4
      (first | rw [c4b0] | (simp only [i64_w, i32_w]; rw [c4b0]) | skip)
      by_cases c5 : 0 < (a0.size : Int)
      · rw [if_pos c5] at H
        have c5b0 : decide (0 < (a0.size : Int)) = true := decide_eq_true c5
        have c5b1 : decide (0 < a0.size) = true := decide_eq_true (by omega)
        clear c5
        have H' := Aside0.mk H
        clear H
        have p6 : 0 ≤ (0 : Int) := (by omega)
        have q6 : 0 < a0.size := (by have : (0 : Int) < (a0.size : Int) := of_decide_eq_true (by first | (with_reducible assumption) | assumption); omega)
        have hx6 : ∀ h : 0 < a0.size, ((a0[0]'h).toNat : Int) = bt a0 0 := bt_at a0 0
        clear p6
        have qi6 : (0 < (a0.size : Int)) = True := eq_true (of_decide_eq_true (by first | (with_reducible assumption) | assumption))
        replace q6 := eq_true q6
        go_wp2
        go_meet
        case rel => exact ⟨_, (decide ((bt a0 0) > 0)), (by first | rfl | (simp; done) | (simp [*]; done)), H', ⟨by first | omega | exact Nat.le_refl _⟩, ⟨by (with_reducible repeat (first | refine blk_drewN ?_ _ | refine blk_drew ?_ | refine blk_alloc ?_ _)); exact BK135.out⟩, ⟨by repeat (first | (with_reducible first | exact HB.out | apply below_alloc | apply pw_below_drewN | apply below_drew1 | refine below_set ?_ GE135.out) | exact HB.out)⟩⟩
      · rw [if_neg c5] at H
        exact absurd H (by simp)
    · rw [if_neg c4] at H
      have c4b0 : ((a0.size : Int) == 17) = false := beq_eq_false_iff_ne.mpr c4
      have c4b1 : ((a0.size : Int) != 17) = true := bne_iff_ne.mpr c4
      (first | rw [c4b0] | (simp only [i64_w, i32_w]; rw [c4b0]) | skip)
      have H' := Aside0.mk H
      clear H
      go_wp2
      go_meet
      case rel => exact ⟨_, (true), (by first | rfl | (simp; done) | (simp [*]; done)), H', ⟨by first | omega | exact Nat.le_refl _⟩, ⟨by (with_reducible repeat (first | refine blk_drewN ?_ _ | refine blk_drew ?_ | refine blk_alloc ?_ _)); exact BK135.out⟩, ⟨by repeat (first | (with_reducible first | exact HB.out | apply below_alloc | apply pw_below_drewN | apply below_drew1 | refine below_set ?_ GE135.out) | exact HB.out)⟩⟩
  case rest =>
    clear HC2
    try clear p2
    try clear c3
    try clear c4
    try clear c4b0
    try clear c4b1
    try clear c5
    try clear c5b0
    try clear c5b1
    try clear p6
    try clear q6
    try clear hx6
    try clear qi6
    try clear p6
    try clear q6
    obtain ⟨kq, x17_1, rfl, HA, HJ1, BK135, HB⟩ := hcut
    cases kq with
    | zero => exact absurd HA.out (by simp [frame_GetEnd.j0])
    | succ kj1 =>
      have H := HA.out
      clear HA
      simp only [frame_GetEnd.j0] at H
      by_cases c7 : x17_1 = true
      · subst c7
        have H1 : (some (0, 0, false)) = some (r1, r2, r3) := by rw [if_pos rfl] at H; exact H
        clear H
        have H := H1
        clear H1
        simp only [Option.some.injEq, Prod.mk.injEq] at H
        obtain ⟨rfl, rfl, rfl⟩ := H
        have hcz8_0 : wc.cell? ⟨gb135, 0, none⟩ = some (.int .i64 0) := (blk_cell BK135.out 0).trans rfl
        have hcz8_1 : wc.cell? ⟨gb135, 1, none⟩ = some (.int .u32 0) := (blk_cell BK135.out 1).trans rfl
        have hfz8_0 := blk_frozen BK135.out 0
        have hfz8_1 := blk_frozen BK135.out 1
        go_wp2
        refine bodyPost_ret (results_ct rfl _ _ gb135 46 #[.int .i64 0, .int .u32 0] (0, 0) _ rfl (by (with_reducible repeat (first | refine blk_drewN ?_ _ | refine blk_drew ?_ | refine blk_alloc ?_ _)); refine blk_put (cs := #[.int .i64 0, .int .u32 0]) ?_ 1 _ rfl; (with_reducible repeat (first | refine blk_drewN ?_ _ | refine blk_drew ?_ | refine blk_alloc ?_ _)); refine blk_put (cs := #[.int .i64 0, .int .u32 0]) ?_ 0 _ rfl; (with_reducible repeat (first | refine blk_drewN ?_ _ | refine blk_drew ?_ | refine blk_alloc ?_ _)); exact BK135.out) Try.underlying46 rfl (by kernel_rfl)) rfl ?_
        exact ⟨by first | rfl | (simp [errW_none, errW_some] <;> rfl) | (simp [*, errW_none, errW_some] <;> rfl), by repeat (first | (with_reducible first | exact HB.out | apply below_alloc | apply pw_below_drewN | apply below_drew1 | refine below_set ?_ GE135.out) | exact HB.out)⟩
      · replace c7 := Bool.eq_false_iff.mpr c7
        subst c7
        have H1 : ((crc_Open.f a0).bind fun bt136 => (if bt136.2 = true then ((octet_Get.f bt136.1 1 8).bind fun bt138 => ((octet_Get.f bt136.1 9 4).bind fun bt140 => (if bt138.2 = true then (if bt140.2 = true then (if bt138.1 > 4611686018427387904 then (some (0, 0, false)) else (some (bt138.1, (bt140.1) % 4294967296, true))) else (some (0, 0, false))) else (some (0, 0, false))))) else (some (0, 0, false)))) = some (r1, r2, r3) := by rw [if_neg (show ¬ (false = true) by decide)] at H; exact H
        clear H
        have H := H1
        clear H1
        replace H := Option.bind_eq_some_iff.mp H
        obtain ⟨⟨t136, t137⟩, A90, H⟩ := H
        replace H : (if t137 = true then ((octet_Get.f t136 1 8).bind fun bt138 => ((octet_Get.f t136 9 4).bind fun bt140 => (if bt138.2 = true then (if bt140.2 = true then (if bt138.1 > 4611686018427387904 then (some (0, 0, false)) else (some (bt138.1, (bt140.1) % 4294967296, true))) else (some (0, 0, false))) else (some (0, 0, false))))) else (some (0, 0, false))) = some (r1, r2, r3) := H
        have A9 := Aside0.mk A90
        clear A90
        by_cases c10 : t137 = true
        · subst c10
          have H1 : ((octet_Get.f t136 1 8).bind fun bt138 => ((octet_Get.f t136 9 4).bind fun bt140 => (if bt138.2 = true then (if bt140.2 = true then (if bt138.1 > 4611686018427387904 then (some (0, 0, false)) else (some (bt138.1, (bt140.1) % 4294967296, true))) else (some (0, 0, false))) else (some (0, 0, false))))) = some (r1, r2, r3) := by rw [if_pos rfl] at H; exact H
          clear H
          have H := H1
          clear H1
          replace H := Option.bind_eq_some_iff.mp H
          obtain ⟨⟨t138, t139⟩, A110, H⟩ := H
          replace H : ((octet_Get.f t136 9 4).bind fun bt140 => (if t139 = true then (if bt140.2 = true then (if t138 > 4611686018427387904 then (some (0, 0, false)) else (some (t138, (bt140.1) % 4294967296, true))) else (some (0, 0, false))) else (some (0, 0, false)))) = some (r1, r2, r3) := H
          have A11 := Aside0.mk A110
          clear A110
          replace H := Option.bind_eq_some_iff.mp H
          obtain ⟨⟨t140, t141⟩, A120, H⟩ := H
          replace H : (if t139 = true then (if t141 = true then (if t138 > 4611686018427387904 then (some (0, 0, false)) else (some (t138, (t140) % 4294967296, true))) else (some (0, 0, false))) else (some (0, 0, false))) = some (r1, r2, r3) := H
          have A12 := Aside0.mk A120
          clear A120
          by_cases c13 : t139 = true
          · subst c13
            have H1 : (if t141 = true then (if t138 > 4611686018427387904 then (some (0, 0, false)) else (some (t138, (t140) % 4294967296, true))) else (some (0, 0, false))) = some (r1, r2, r3) := by rw [if_pos rfl] at H; exact H
            clear H
            have H := H1
            clear H1
            by_cases c14 : t141 = true
            · subst c14
              have H1 : (if t138 > 4611686018427387904 then (some (0, 0, false)) else (some (t138, (t140) % 4294967296, true))) = some (r1, r2, r3) := by rw [if_pos rfl] at H; exact H
              clear H
              have H := H1
              clear H1
              by_cases c15 : t138 > 4611686018427387904
              · rw [if_pos c15] at H
                have c15b0 : decide (4611686018427387904 < t138) = true := decide_eq_true c15
                clear c15
                simp only [Option.some.injEq, Prod.mk.injEq] at H
                obtain ⟨rfl, rfl, rfl⟩ := H
                go_wp2_with (first | ((with_reducible refine gate_callee (f := 100) rfl ?_); refine goesL_ (some 21) rfl rfl Try.func100 (by kernel_rfl) rfl #[.string a0] rfl (by (try simp only [List.map_toArray, List.map_cons, List.map_nil]); first | done | rfl | (simp only [List.length_drop, List.length_take]; rfl)) ?_; (with_reducible refine (crc_Open.calls a0 t136 true _ A9.out).mono ?_); rintro e w16 ⟨rfl, hb⟩; refine ⟨_, rfl, ?_⟩; have n0_ := Aside0.mk (blk_below (g := gb135) (o := .cells #[.int .i64 0, .int .u32 0] 46 (0, 0)) (by (with_reducible repeat (first | refine blk_drewN ?_ _ | refine blk_drew ?_ | refine blk_alloc ?_ _)); exact BK135.out) hb); have n1_ := Aside0.mk (below_step (by repeat (first | (with_reducible first | exact HB.out | apply below_alloc | apply pw_below_drewN | apply below_drew1 | refine below_set ?_ GE135.out) | exact HB.out)) hb); clear BK135; clear HB; have BK135 := n0_; have HB := n1_; clear n0_ n1_; (try clear hb); (try clear hb2); (try clear hk); (try clear hi)) | ((with_reducible refine gate_callee (f := 103) rfl ?_); refine goesL_ (some 29) rfl rfl Try.func103 (by kernel_rfl) rfl #[.string t136, .int .i64 1, .int .i64 8] rfl (by (try simp only [List.map_toArray, List.map_cons, List.map_nil]); first | done | rfl | (simp only [List.length_drop, List.length_take]; rfl)) ?_; (with_reducible refine (octet_Get.calls t136 1 8 t138 true _ A11.out).mono ?_); rintro e w17 ⟨rfl, hb⟩; refine ⟨_, rfl, ?_⟩; have n0_ := Aside0.mk (blk_below (g := gb135) (o := .cells #[.int .i64 0, .int .u32 0] 46 (0, 0)) (by (with_reducible repeat (first | refine blk_drewN ?_ _ | refine blk_drew ?_ | refine blk_alloc ?_ _)); exact BK135.out) hb); have n1_ := Aside0.mk (below_step (by repeat (first | (with_reducible first | exact HB.out | apply below_alloc | apply pw_below_drewN | apply below_drew1 | refine below_set ?_ GE135.out) | exact HB.out)) hb); clear BK135; clear HB; have BK135 := n0_; have HB := n1_; clear n0_ n1_; (try clear hb); (try clear hb2); (try clear hk); (try clear hi)) | ((with_reducible refine gate_callee (f := 103) rfl ?_); refine goesL_ (some 34) rfl rfl Try.func103 (by kernel_rfl) rfl #[.string t136, .int .i64 9, .int .i64 4] rfl (by (try simp only [List.map_toArray, List.map_cons, List.map_nil]); first | done | rfl | (simp only [List.length_drop, List.length_take]; rfl)) ?_; (with_reducible refine (octet_Get.calls t136 9 4 t140 true _ A12.out).mono ?_); rintro e w18 ⟨rfl, hb⟩; refine ⟨_, rfl, ?_⟩; have n0_ := Aside0.mk (blk_below (g := gb135) (o := .cells #[.int .i64 0, .int .u32 0] 46 (0, 0)) (by (with_reducible repeat (first | refine blk_drewN ?_ _ | refine blk_drew ?_ | refine blk_alloc ?_ _)); exact BK135.out) hb); have n1_ := Aside0.mk (below_step (by repeat (first | (with_reducible first | exact HB.out | apply below_alloc | apply pw_below_drewN | apply below_drew1 | refine below_set ?_ GE135.out) | exact HB.out)) hb); clear BK135; clear HB; have BK135 := n0_; have HB := n1_; clear n0_ n1_; (try clear hb); (try clear hb2); (try clear hk); (try clear hi); have hcz19_0 : w18.cell? ⟨gb135, 0, none⟩ = some (.int .i64 0) := (blk_cell BK135.out 0).trans rfl; have hcz19_1 : w18.cell? ⟨gb135, 1, none⟩ = some (.int .u32 0) := (blk_cell BK135.out 1).trans rfl; have hfz19_0 := blk_frozen BK135.out 0; have hfz19_1 := blk_frozen BK135.out 1))
                refine bodyPost_ret (results_ct rfl _ _ gb135 46 #[.int .i64 0, .int .u32 0] (0, 0) _ rfl (by (with_reducible repeat (first | refine blk_drewN ?_ _ | refine blk_drew ?_ | refine blk_alloc ?_ _)); refine blk_put (cs := #[.int .i64 0, .int .u32 0]) ?_ 1 _ rfl; (with_reducible repeat (first | refine blk_drewN ?_ _ | refine blk_drew ?_ | refine blk_alloc ?_ _)); refine blk_put (cs := #[.int .i64 0, .int .u32 0]) ?_ 0 _ rfl; (with_reducible repeat (first | refine blk_drewN ?_ _ | refine blk_drew ?_ | refine blk_alloc ?_ _)); exact BK135.out) Try.underlying46 rfl (by kernel_rfl)) rfl ?_
                exact ⟨by first | rfl | (simp [errW_none, errW_some] <;> rfl) | (simp [*, errW_none, errW_some] <;> rfl), by repeat (first | (with_reducible first | exact HB.out | apply below_alloc | apply pw_below_drewN | apply below_drew1 | refine below_set ?_ GE135.out) | exact HB.out)⟩
              · rw [if_neg c15] at H
                have c15b0 : decide (4611686018427387904 < t138) = false := decide_eq_false c15
                clear c15
                simp only [Option.some.injEq, Prod.mk.injEq] at H
                obtain ⟨rfl, rfl, rfl⟩ := H
                go_wp2_with (first | ((with_reducible refine gate_callee (f := 100) rfl ?_); refine goesL_ (some 21) rfl rfl Try.func100 (by kernel_rfl) rfl #[.string a0] rfl (by (try simp only [List.map_toArray, List.map_cons, List.map_nil]); first | done | rfl | (simp only [List.length_drop, List.length_take]; rfl)) ?_; (with_reducible refine (crc_Open.calls a0 t136 true _ A9.out).mono ?_); rintro e w20 ⟨rfl, hb⟩; refine ⟨_, rfl, ?_⟩; have n0_ := Aside0.mk (blk_below (g := gb135) (o := .cells #[.int .i64 0, .int .u32 0] 46 (0, 0)) (by (with_reducible repeat (first | refine blk_drewN ?_ _ | refine blk_drew ?_ | refine blk_alloc ?_ _)); exact BK135.out) hb); have n1_ := Aside0.mk (below_step (by repeat (first | (with_reducible first | exact HB.out | apply below_alloc | apply pw_below_drewN | apply below_drew1 | refine below_set ?_ GE135.out) | exact HB.out)) hb); clear BK135; clear HB; have BK135 := n0_; have HB := n1_; clear n0_ n1_; (try clear hb); (try clear hb2); (try clear hk); (try clear hi)) | ((with_reducible refine gate_callee (f := 103) rfl ?_); refine goesL_ (some 29) rfl rfl Try.func103 (by kernel_rfl) rfl #[.string t136, .int .i64 1, .int .i64 8] rfl (by (try simp only [List.map_toArray, List.map_cons, List.map_nil]); first | done | rfl | (simp only [List.length_drop, List.length_take]; rfl)) ?_; (with_reducible refine (octet_Get.calls t136 1 8 t138 true _ A11.out).mono ?_); rintro e w21 ⟨rfl, hb⟩; refine ⟨_, rfl, ?_⟩; have n0_ := Aside0.mk (blk_below (g := gb135) (o := .cells #[.int .i64 0, .int .u32 0] 46 (0, 0)) (by (with_reducible repeat (first | refine blk_drewN ?_ _ | refine blk_drew ?_ | refine blk_alloc ?_ _)); exact BK135.out) hb); have n1_ := Aside0.mk (below_step (by repeat (first | (with_reducible first | exact HB.out | apply below_alloc | apply pw_below_drewN | apply below_drew1 | refine below_set ?_ GE135.out) | exact HB.out)) hb); clear BK135; clear HB; have BK135 := n0_; have HB := n1_; clear n0_ n1_; (try clear hb); (try clear hb2); (try clear hk); (try clear hi)) | ((with_reducible refine gate_callee (f := 103) rfl ?_); refine goesL_ (some 34) rfl rfl Try.func103 (by kernel_rfl) rfl #[.string t136, .int .i64 9, .int .i64 4] rfl (by (try simp only [List.map_toArray, List.map_cons, List.map_nil]); first | done | rfl | (simp only [List.length_drop, List.length_take]; rfl)) ?_; (with_reducible refine (octet_Get.calls t136 9 4 t140 true _ A12.out).mono ?_); rintro e w22 ⟨rfl, hb⟩; refine ⟨_, rfl, ?_⟩; have n0_ := Aside0.mk (blk_below (g := gb135) (o := .cells #[.int .i64 0, .int .u32 0] 46 (0, 0)) (by (with_reducible repeat (first | refine blk_drewN ?_ _ | refine blk_drew ?_ | refine blk_alloc ?_ _)); exact BK135.out) hb); have n1_ := Aside0.mk (below_step (by repeat (first | (with_reducible first | exact HB.out | apply below_alloc | apply pw_below_drewN | apply below_drew1 | refine below_set ?_ GE135.out) | exact HB.out)) hb); clear BK135; clear HB; have BK135 := n0_; have HB := n1_; clear n0_ n1_; (try clear hb); (try clear hb2); (try clear hk); (try clear hi); have hcz23_0 : w22.cell? ⟨gb135, 0, none⟩ = some (.int .i64 0) := (blk_cell BK135.out 0).trans rfl; have hcz23_1 : w22.cell? ⟨gb135, 1, none⟩ = some (.int .u32 0) := (blk_cell BK135.out 1).trans rfl; have hfz23_0 := blk_frozen BK135.out 0; have hfz23_1 := blk_frozen BK135.out 1))
                refine bodyPost_ret (results_ct rfl _ _ gb135 46 #[.int .i64 t138, .int .u32 ((t140) % 4294967296)] (0, 0) _ rfl (by (with_reducible repeat (first | refine blk_drewN ?_ _ | refine blk_drew ?_ | refine blk_alloc ?_ _)); refine blk_put (cs := #[.int .i64 t138, .int .u32 0]) ?_ 1 _ rfl; (with_reducible repeat (first | refine blk_drewN ?_ _ | refine blk_drew ?_ | refine blk_alloc ?_ _)); refine blk_put (cs := #[.int .i64 0, .int .u32 0]) ?_ 0 _ rfl; (with_reducible repeat (first | refine blk_drewN ?_ _ | refine blk_drew ?_ | refine blk_alloc ?_ _)); exact BK135.out) Try.underlying46 rfl (by kernel_rfl)) rfl ?_
                exact ⟨by first | rfl | (simp [errW_none, errW_some] <;> rfl) | (simp [*, errW_none, errW_some] <;> rfl), by repeat (first | (with_reducible first | exact HB.out | apply below_alloc | apply pw_below_drewN | apply below_drew1 | refine below_set ?_ GE135.out) | exact HB.out)⟩
            · replace c14 := Bool.eq_false_iff.mpr c14
              subst c14
              have H1 : (some (0, 0, false)) = some (r1, r2, r3) := by rw [if_neg (show ¬ (false = true) by decide)] at H; exact H
              clear H
              have H := H1
              clear H1
              simp only [Option.some.injEq, Prod.mk.injEq] at H
              obtain ⟨rfl, rfl, rfl⟩ := H
              go_wp2_with (first | ((with_reducible refine gate_callee (f := 100) rfl ?_); refine goesL_ (some 21) rfl rfl Try.func100 (by kernel_rfl) rfl #[.string a0] rfl (by (try simp only [List.map_toArray, List.map_cons, List.map_nil]); first | done | rfl | (simp only [List.length_drop, List.length_take]; rfl)) ?_; (with_reducible refine (crc_Open.calls a0 t136 true _ A9.out).mono ?_); rintro e w24 ⟨rfl, hb⟩; refine ⟨_, rfl, ?_⟩; have n0_ := Aside0.mk (blk_below (g := gb135) (o := .cells #[.int .i64 0, .int .u32 0] 46 (0, 0)) (by (with_reducible repeat (first | refine blk_drewN ?_ _ | refine blk_drew ?_ | refine blk_alloc ?_ _)); exact BK135.out) hb); have n1_ := Aside0.mk (below_step (by repeat (first | (with_reducible first | exact HB.out | apply below_alloc | apply pw_below_drewN | apply below_drew1 | refine below_set ?_ GE135.out) | exact HB.out)) hb); clear BK135; clear HB; have BK135 := n0_; have HB := n1_; clear n0_ n1_; (try clear hb); (try clear hb2); (try clear hk); (try clear hi)) | ((with_reducible refine gate_callee (f := 103) rfl ?_); refine goesL_ (some 29) rfl rfl Try.func103 (by kernel_rfl) rfl #[.string t136, .int .i64 1, .int .i64 8] rfl (by (try simp only [List.map_toArray, List.map_cons, List.map_nil]); first | done | rfl | (simp only [List.length_drop, List.length_take]; rfl)) ?_; (with_reducible refine (octet_Get.calls t136 1 8 t138 true _ A11.out).mono ?_); rintro e w25 ⟨rfl, hb⟩; refine ⟨_, rfl, ?_⟩; have n0_ := Aside0.mk (blk_below (g := gb135) (o := .cells #[.int .i64 0, .int .u32 0] 46 (0, 0)) (by (with_reducible repeat (first | refine blk_drewN ?_ _ | refine blk_drew ?_ | refine blk_alloc ?_ _)); exact BK135.out) hb); have n1_ := Aside0.mk (below_step (by repeat (first | (with_reducible first | exact HB.out | apply below_alloc | apply pw_below_drewN | apply below_drew1 | refine below_set ?_ GE135.out) | exact HB.out)) hb); clear BK135; clear HB; have BK135 := n0_; have HB := n1_; clear n0_ n1_; (try clear hb); (try clear hb2); (try clear hk); (try clear hi)) | ((with_reducible refine gate_callee (f := 103) rfl ?_); refine goesL_ (some 34) rfl rfl Try.func103 (by kernel_rfl) rfl #[.string t136, .int .i64 9, .int .i64 4] rfl (by (try simp only [List.map_toArray, List.map_cons, List.map_nil]); first | done | rfl | (simp only [List.length_drop, List.length_take]; rfl)) ?_; (with_reducible refine (octet_Get.calls t136 9 4 t140 false _ A12.out).mono ?_); rintro e w26 ⟨rfl, hb⟩; refine ⟨_, rfl, ?_⟩; have n0_ := Aside0.mk (blk_below (g := gb135) (o := .cells #[.int .i64 0, .int .u32 0] 46 (0, 0)) (by (with_reducible repeat (first | refine blk_drewN ?_ _ | refine blk_drew ?_ | refine blk_alloc ?_ _)); exact BK135.out) hb); have n1_ := Aside0.mk (below_step (by repeat (first | (with_reducible first | exact HB.out | apply below_alloc | apply pw_below_drewN | apply below_drew1 | refine below_set ?_ GE135.out) | exact HB.out)) hb); clear BK135; clear HB; have BK135 := n0_; have HB := n1_; clear n0_ n1_; (try clear hb); (try clear hb2); (try clear hk); (try clear hi); have hcz27_0 : w26.cell? ⟨gb135, 0, none⟩ = some (.int .i64 0) := (blk_cell BK135.out 0).trans rfl; have hcz27_1 : w26.cell? ⟨gb135, 1, none⟩ = some (.int .u32 0) := (blk_cell BK135.out 1).trans rfl; have hfz27_0 := blk_frozen BK135.out 0; have hfz27_1 := blk_frozen BK135.out 1))
              refine bodyPost_ret (results_ct rfl _ _ gb135 46 #[.int .i64 0, .int .u32 0] (0, 0) _ rfl (by (with_reducible repeat (first | refine blk_drewN ?_ _ | refine blk_drew ?_ | refine blk_alloc ?_ _)); refine blk_put (cs := #[.int .i64 0, .int .u32 0]) ?_ 1 _ rfl; (with_reducible repeat (first | refine blk_drewN ?_ _ | refine blk_drew ?_ | refine blk_alloc ?_ _)); refine blk_put (cs := #[.int .i64 0, .int .u32 0]) ?_ 0 _ rfl; (with_reducible repeat (first | refine blk_drewN ?_ _ | refine blk_drew ?_ | refine blk_alloc ?_ _)); exact BK135.out) Try.underlying46 rfl (by kernel_rfl)) rfl ?_
              exact ⟨by first | rfl | (simp [errW_none, errW_some] <;> rfl) | (simp [*, errW_none, errW_some] <;> rfl), by repeat (first | (with_reducible first | exact HB.out | apply below_alloc | apply pw_below_drewN | apply below_drew1 | refine below_set ?_ GE135.out) | exact HB.out)⟩
          · replace c13 := Bool.eq_false_iff.mpr c13
            subst c13
            have H1 : (some (0, 0, false)) = some (r1, r2, r3) := by rw [if_neg (show ¬ (false = true) by decide)] at H; exact H
            clear H
            have H := H1
            clear H1
            simp only [Option.some.injEq, Prod.mk.injEq] at H
            obtain ⟨rfl, rfl, rfl⟩ := H
            go_wp2_with (first | ((with_reducible refine gate_callee (f := 100) rfl ?_); refine goesL_ (some 21) rfl rfl Try.func100 (by kernel_rfl) rfl #[.string a0] rfl (by (try simp only [List.map_toArray, List.map_cons, List.map_nil]); first | done | rfl | (simp only [List.length_drop, List.length_take]; rfl)) ?_; (with_reducible refine (crc_Open.calls a0 t136 true _ A9.out).mono ?_); rintro e w28 ⟨rfl, hb⟩; refine ⟨_, rfl, ?_⟩; have n0_ := Aside0.mk (blk_below (g := gb135) (o := .cells #[.int .i64 0, .int .u32 0] 46 (0, 0)) (by (with_reducible repeat (first | refine blk_drewN ?_ _ | refine blk_drew ?_ | refine blk_alloc ?_ _)); exact BK135.out) hb); have n1_ := Aside0.mk (below_step (by repeat (first | (with_reducible first | exact HB.out | apply below_alloc | apply pw_below_drewN | apply below_drew1 | refine below_set ?_ GE135.out) | exact HB.out)) hb); clear BK135; clear HB; have BK135 := n0_; have HB := n1_; clear n0_ n1_; (try clear hb); (try clear hb2); (try clear hk); (try clear hi)) | ((with_reducible refine gate_callee (f := 103) rfl ?_); refine goesL_ (some 29) rfl rfl Try.func103 (by kernel_rfl) rfl #[.string t136, .int .i64 1, .int .i64 8] rfl (by (try simp only [List.map_toArray, List.map_cons, List.map_nil]); first | done | rfl | (simp only [List.length_drop, List.length_take]; rfl)) ?_; (with_reducible refine (octet_Get.calls t136 1 8 t138 false _ A11.out).mono ?_); rintro e w29 ⟨rfl, hb⟩; refine ⟨_, rfl, ?_⟩; have n0_ := Aside0.mk (blk_below (g := gb135) (o := .cells #[.int .i64 0, .int .u32 0] 46 (0, 0)) (by (with_reducible repeat (first | refine blk_drewN ?_ _ | refine blk_drew ?_ | refine blk_alloc ?_ _)); exact BK135.out) hb); have n1_ := Aside0.mk (below_step (by repeat (first | (with_reducible first | exact HB.out | apply below_alloc | apply pw_below_drewN | apply below_drew1 | refine below_set ?_ GE135.out) | exact HB.out)) hb); clear BK135; clear HB; have BK135 := n0_; have HB := n1_; clear n0_ n1_; (try clear hb); (try clear hb2); (try clear hk); (try clear hi)) | ((with_reducible refine gate_callee (f := 103) rfl ?_); refine goesL_ (some 34) rfl rfl Try.func103 (by kernel_rfl) rfl #[.string t136, .int .i64 9, .int .i64 4] rfl (by (try simp only [List.map_toArray, List.map_cons, List.map_nil]); first | done | rfl | (simp only [List.length_drop, List.length_take]; rfl)) ?_; (with_reducible refine (octet_Get.calls t136 9 4 t140 t141 _ A12.out).mono ?_); rintro e w30 ⟨rfl, hb⟩; refine ⟨_, rfl, ?_⟩; have n0_ := Aside0.mk (blk_below (g := gb135) (o := .cells #[.int .i64 0, .int .u32 0] 46 (0, 0)) (by (with_reducible repeat (first | refine blk_drewN ?_ _ | refine blk_drew ?_ | refine blk_alloc ?_ _)); exact BK135.out) hb); have n1_ := Aside0.mk (below_step (by repeat (first | (with_reducible first | exact HB.out | apply below_alloc | apply pw_below_drewN | apply below_drew1 | refine below_set ?_ GE135.out) | exact HB.out)) hb); clear BK135; clear HB; have BK135 := n0_; have HB := n1_; clear n0_ n1_; (try clear hb); (try clear hb2); (try clear hk); (try clear hi); have hcz31_0 : w30.cell? ⟨gb135, 0, none⟩ = some (.int .i64 0) := (blk_cell BK135.out 0).trans rfl; have hcz31_1 : w30.cell? ⟨gb135, 1, none⟩ = some (.int .u32 0) := (blk_cell BK135.out 1).trans rfl; have hfz31_0 := blk_frozen BK135.out 0; have hfz31_1 := blk_frozen BK135.out 1))
            refine bodyPost_ret (results_ct rfl _ _ gb135 46 #[.int .i64 0, .int .u32 0] (0, 0) _ rfl (by (with_reducible repeat (first | refine blk_drewN ?_ _ | refine blk_drew ?_ | refine blk_alloc ?_ _)); refine blk_put (cs := #[.int .i64 0, .int .u32 0]) ?_ 1 _ rfl; (with_reducible repeat (first | refine blk_drewN ?_ _ | refine blk_drew ?_ | refine blk_alloc ?_ _)); refine blk_put (cs := #[.int .i64 0, .int .u32 0]) ?_ 0 _ rfl; (with_reducible repeat (first | refine blk_drewN ?_ _ | refine blk_drew ?_ | refine blk_alloc ?_ _)); exact BK135.out) Try.underlying46 rfl (by kernel_rfl)) rfl ?_
            exact ⟨by first | rfl | (simp [errW_none, errW_some] <;> rfl) | (simp [*, errW_none, errW_some] <;> rfl), by repeat (first | (with_reducible first | exact HB.out | apply below_alloc | apply pw_below_drewN | apply below_drew1 | refine below_set ?_ GE135.out) | exact HB.out)⟩
        · replace c10 := Bool.eq_false_iff.mpr c10
          subst c10
          have H1 : (some (0, 0, false)) = some (r1, r2, r3) := by rw [if_neg (show ¬ (false = true) by decide)] at H; exact H
          clear H
          have H := H1
          clear H1
          simp only [Option.some.injEq, Prod.mk.injEq] at H
          obtain ⟨rfl, rfl, rfl⟩ := H
          go_wp2_with (first | ((with_reducible refine gate_callee (f := 100) rfl ?_); refine goesL_ (some 21) rfl rfl Try.func100 (by kernel_rfl) rfl #[.string a0] rfl (by (try simp only [List.map_toArray, List.map_cons, List.map_nil]); first | done | rfl | (simp only [List.length_drop, List.length_take]; rfl)) ?_; (with_reducible refine (crc_Open.calls a0 t136 false _ A9.out).mono ?_); rintro e w32 ⟨rfl, hb⟩; refine ⟨_, rfl, ?_⟩; have n0_ := Aside0.mk (blk_below (g := gb135) (o := .cells #[.int .i64 0, .int .u32 0] 46 (0, 0)) (by (with_reducible repeat (first | refine blk_drewN ?_ _ | refine blk_drew ?_ | refine blk_alloc ?_ _)); exact BK135.out) hb); have n1_ := Aside0.mk (below_step (by repeat (first | (with_reducible first | exact HB.out | apply below_alloc | apply pw_below_drewN | apply below_drew1 | refine below_set ?_ GE135.out) | exact HB.out)) hb); clear BK135; clear HB; have BK135 := n0_; have HB := n1_; clear n0_ n1_; (try clear hb); (try clear hb2); (try clear hk); (try clear hi); have hcz33_0 : w32.cell? ⟨gb135, 0, none⟩ = some (.int .i64 0) := (blk_cell BK135.out 0).trans rfl; have hcz33_1 : w32.cell? ⟨gb135, 1, none⟩ = some (.int .u32 0) := (blk_cell BK135.out 1).trans rfl; have hfz33_0 := blk_frozen BK135.out 0; have hfz33_1 := blk_frozen BK135.out 1))
          refine bodyPost_ret (results_ct rfl _ _ gb135 46 #[.int .i64 0, .int .u32 0] (0, 0) _ rfl (by (with_reducible repeat (first | refine blk_drewN ?_ _ | refine blk_drew ?_ | refine blk_alloc ?_ _)); refine blk_put (cs := #[.int .i64 0, .int .u32 0]) ?_ 1 _ rfl; (with_reducible repeat (first | refine blk_drewN ?_ _ | refine blk_drew ?_ | refine blk_alloc ?_ _)); refine blk_put (cs := #[.int .i64 0, .int .u32 0]) ?_ 0 _ rfl; (with_reducible repeat (first | refine blk_drewN ?_ _ | refine blk_drew ?_ | refine blk_alloc ?_ _)); exact BK135.out) Try.underlying46 rfl (by kernel_rfl)) rfl ?_
          exact ⟨by first | rfl | (simp [errW_none, errW_some] <;> rfl) | (simp [*, errW_none, errW_some] <;> rfl), by repeat (first | (with_reducible first | exact HB.out | apply below_alloc | apply pw_below_drewN | apply below_drew1 | refine below_set ?_ GE135.out) | exact HB.out)⟩

end Go.Proofs.Ytmacpgkcokpgjaa.PFrameBack
