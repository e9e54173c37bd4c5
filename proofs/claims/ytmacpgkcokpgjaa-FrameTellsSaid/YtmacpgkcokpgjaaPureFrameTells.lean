/- The block of any records, the records of any bytes, and any end, are the ones of the document, or there are none; for up to 10 records of up to 80 bytes, up to 400 bytes, and any end (the law FrameTells, over bytes and numbers alone). -/
import Derived.Test.YtmacpgkcokpgjaaPFrameTellsx7
import Derived.Lib.Strings
namespace Go.Proofs.Ytmacpgkcokpgjaa.Pure
open Go.RowKit Go.Proofs.Ytmacpgkcokpgjaa.PFrameTells Go.Proofs.YtmacpgkcokpgjaaW.PrintWords Go.Proofs.YtmacpgkcokpgjaaW.PrintLast
set_option linter.unusedVariables false
set_option linter.unusedSimpArgs false
/-! ### numbers of 32 bits as bit vectors -/
theorem u32_of (x : Int) (h : (Lit.int .u32 x).wf = true) : ∃ b : BitVec 32, x = (b.toNat : Int) := by
  have h' : 0 ≤ x ∧ x ≤ 4294967295 := by simpa [Lit.wf, IntKind.min, IntKind.max, IntKind.signed, IntKind.bits] using h
  refine ⟨BitVec.ofInt 32 x, ?_⟩
  rw [BitVec.toNat_ofInt]
  omega
theorem u32_self (c : BitVec 32) : BitVec.ofInt (IntKind.bits .u32) (c.toNat : Int) = c := by
  rw [BitVec.ofInt_natCast]; exact BitVec.ofNat_toNat ..
theorem u32_xor (a b : BitVec 32) : Go.bits .xor .u32 (a.toNat : Int) (b.toNat : Int) = ((a ^^^ b).toNat : Int) := by
  show IntKind.u32.wrap ((BitVec.ofInt (IntKind.bits .u32) (a.toNat : Int) ^^^ BitVec.ofInt (IntKind.bits .u32) (b.toNat : Int)).toNat : Int) = _
  rw [u32_self, u32_self, IntKind.wrap_u32]
  show (((a ^^^ b : BitVec 32).toNat : Int) % 4294967296) = _
  have := (a ^^^ b).isLt
  omega
theorem u32_div (a : BitVec 32) (k : Nat) (c : Int) (hc : c = ((2 ^ k : Nat) : Int)) : (a.toNat : Int) / c = ((a >>> k).toNat : Int) := by
  subst hc
  rw [BitVec.toNat_ushiftRight, Nat.shiftRight_eq_div_pow]
  omega
theorem u32_and_mask (x : Int) (h0 : 0 ≤ x) (m : Nat) (hm : m ≤ 32) : Go.bits .and .u32 x ((2 ^ m - 1 : Nat) : Int) = x % 4294967296 % ((2 ^ m : Nat) : Int) := by
  show IntKind.u32.wrap ((BitVec.ofInt 32 x &&& BitVec.ofInt 32 ((2 ^ m - 1 : Nat) : Int)).toNat : Int) = _
  have hp : 2 ^ m ≤ 2 ^ 32 := Nat.pow_le_pow_right (by decide) hm
  have h1 : 0 < 2 ^ m := Nat.two_pow_pos m
  rw [BitVec.toNat_and, BitVec.ofInt_natCast, BitVec.toNat_ofNat, Nat.mod_eq_of_lt (show 2 ^ m - 1 < 2 ^ 32 by omega), Nat.and_two_pow_sub_one_eq_mod, BitVec.toNat_ofInt, IntKind.wrap_u32]
  have h2 : ((x % ((2 ^ 32 : Nat) : Int)).toNat : Int) = x % 4294967296 := by omega
  have h3 := Nat.mod_lt (x % ((2 ^ 32 : Nat) : Int)).toNat h1
  rw [Int.emod_eq_of_lt (by omega) (by omega), Int.natCast_emod, h2]

namespace Cr
/-! ### the sum, as a function of bit vectors and bytes -/
def stepB (n : BitVec 32) : BitVec 32 := if n.getLsbD 0 then (n >>> 1) ^^^ 0xedb88320#32 else n >>> 1
def byteB (n : BitVec 32) (c : UInt8) : BitVec 32 := stepB (stepB (stepB (stepB (stepB (stepB (stepB (stepB (n ^^^ BitVec.ofNat 32 c.toNat))))))))
def feedB (n : BitVec 32) (l : List UInt8) : BitVec 32 := l.foldl byteB n
def moreB (n : BitVec 32) (l : List UInt8) : BitVec 32 := ~~~ feedB (~~~ n) l
theorem stepB_xor (a b : BitVec 32) : stepB (a ^^^ b) = stepB a ^^^ stepB b := by
  unfold stepB
  rw [BitVec.getLsbD_xor]
  apply BitVec.eq_of_getLsbD_eq
  intro i hi
  cases ha : a.getLsbD 0 <;> cases hb : b.getLsbD 0 <;> simp [BitVec.ushiftRight_xor_distrib] <;>
    cases a.getLsbD (1 + i) <;> cases b.getLsbD (1 + i) <;> cases (0xedb88320#32).getLsbD i <;> rfl
theorem stepB_zero : stepB 0#32 = 0#32 := by decide
theorem stepB_even (n : BitVec 32) (h : n.getLsbD 0 = false) : stepB n = n >>> 1 := by unfold stepB; rw [h]; rfl
/-- four steps of a number whose four low bits are 0 -/
theorem step4_high (n : BitVec 32) (h : ∀ i, i < 4 → n.getLsbD i = false) : stepB (stepB (stepB (stepB n))) = n >>> 4 := by
  have e (m : Nat) (hm : m < 4) : stepB (n >>> m) = n >>> (m + 1) := by
    rw [stepB_even _ (by rw [BitVec.getLsbD_ushiftRight]; exact h m hm), ← BitVec.shiftRight_add]
  have e0 : stepB n = n >>> 1 := stepB_even n (h 0 (by decide))
  rw [e0, e 1 (by decide), e 2 (by decide), e 3 (by decide)]
/-- what four steps make of a half byte -/
def nibT (i : Nat) : BitVec 32 := #[0x00000000#32, 0x1db71064#32, 0x3b6e20c8#32, 0x26d930ac#32, 0x76dc4190#32, 0x6b6b51f4#32, 0x4db26158#32, 0x5005713c#32, 0xedb88320#32, 0xf00f9344#32, 0xd6d6a3e8#32, 0xcb61b38c#32, 0x9b64c2b0#32, 0x86d3d2d4#32, 0xa00ae278#32, 0xbdbdf21c#32].getD i 0#32
theorem step4_low : ∀ i : Fin 16, stepB (stepB (stepB (stepB (BitVec.ofNat 32 i.val)))) = nibT i.val := by decide
theorem step4 (n : BitVec 32) : stepB (stepB (stepB (stepB n))) = (n >>> 4) ^^^ nibT (n.toNat % 16) := by
  have hs : n = (n &&& ~~~ 15#32) ^^^ (n &&& 15#32) := by
    apply BitVec.eq_of_getLsbD_eq
    intro i hi
    simp only [BitVec.getLsbD_xor, BitVec.getLsbD_and, BitVec.getLsbD_not]
    cases n.getLsbD i <;> cases (15#32).getLsbD i <;> simp [hi]
  have hl : n &&& 15#32 = BitVec.ofNat 32 (n.toNat % 16) := by
    apply BitVec.eq_of_toNat_eq
    rw [BitVec.toNat_and, BitVec.toNat_ofNat, BitVec.toNat_ofNat, show (15 % 2 ^ 32) = 2 ^ 4 - 1 from by decide, Nat.and_two_pow_sub_one_eq_mod]
    omega
  have hh : ∀ i, i < 4 → (n &&& ~~~ 15#32).getLsbD i = false := by
    intro i hi
    rw [BitVec.getLsbD_and, BitVec.getLsbD_not]
    have : (15#32).getLsbD i = true := by
      have h4 : i = 0 ∨ i = 1 ∨ i = 2 ∨ i = 3 := by omega
      rcases h4 with rfl | rfl | rfl | rfl <;> decide
    rw [this]; simp
  have hg : (n &&& ~~~ 15#32) >>> 4 = n >>> 4 := by
    apply BitVec.eq_of_getLsbD_eq
    intro i hi
    simp only [BitVec.getLsbD_ushiftRight, BitVec.getLsbD_and, BitVec.getLsbD_not]
    have : (15#32).getLsbD (4 + i) = false := by
      have e : (15#32) = BitVec.ofNat 32 15 := rfl
      rw [e, BitVec.getLsbD_ofNat]
      have : Nat.testBit 15 (4 + i) = false := Nat.testBit_lt_two_pow (Nat.lt_of_lt_of_le (by decide : 15 < 2 ^ 4) (Nat.pow_le_pow_right (by decide) (by omega)))
      rw [this]; simp
    rw [this]
    by_cases h : 4 + i < 32
    · simp [h]
    · rw [BitVec.getLsbD_of_ge _ _ (by omega)]; simp
  conv => lhs; rw [hs]
  simp only [stepB_xor]
  rw [step4_high _ hh, hg, hl]
  congr 1
  exact step4_low ⟨n.toNat % 16, Nat.mod_lt _ (by decide)⟩

/-! ### the program's sum is the function of bit vectors -/
theorem nib_tab : ∀ i : Fin 16, crc_nibble.tab.getD i.val 0 = ((nibT i.val).toNat : Int) := by decide
theorem half_bv (n : BitVec 32) : crc_More.half (n.toNat : Int) = ((stepB (stepB (stepB (stepB n)))).toNat : Int) := by
  unfold crc_More.half
  have h16 : ((n.toNat : Int) % 16).toNat = n.toNat % 16 := by omega
  rw [h16, nib_tab ⟨n.toNat % 16, Nat.mod_lt _ (by decide)⟩, u32_div n 4 16 rfl, u32_xor, step4]
theorem byte_bv (n : BitVec 32) (c : UInt8) : crc_More.byte (n.toNat : Int) (c.toNat : Int) = ((byteB n c).toNat : Int) := by
  have hc : (c.toNat : Int) = ((BitVec.ofNat 32 c.toNat).toNat : Int) := by
    have := c.toNat_lt
    rw [BitVec.toNat_ofNat]; omega
  unfold crc_More.byte byteB
  rw [hc, u32_xor, half_bv, half_bv]
theorem feed_bv (l : List UInt8) : ∀ n : BitVec 32, crc_More.feed (n.toNat : Int) l = ((feedB n l).toNat : Int) := by
  induction l with
  | nil => intro n; rfl
  | cons c l ih =>
    intro n
    show crc_More.feed (crc_More.byte (n.toNat : Int) (c.toNat : Int)) l = _
    rw [byte_bv, ih]; rfl
theorem not_bv (n : BitVec 32) : Go.bits .xor .u32 4294967295 (n.toNat : Int) = ((~~~ n).toNat : Int) := by
  rw [show (4294967295 : Int) = ((BitVec.allOnes 32).toNat : Int) from by decide, u32_xor, BitVec.allOnes_xor]
theorem not_bv' (n : BitVec 32) : Go.bits .xor .u32 (n.toNat : Int) 4294967295 = ((~~~ n).toNat : Int) := by
  rw [show (4294967295 : Int) = ((BitVec.allOnes 32).toNat : Int) from by decide, u32_xor, BitVec.xor_allOnes]
theorem more_bv (n : BitVec 32) (s : ByteArray) (hs : s.size ≤ 9223372036854775807) : crc_More.f (n.toNat : Int) s = some ((moreB n s.data.toList).toNat : Int) := by
  unfold crc_More.f moreB
  rw [if_pos hs, not_bv, feed_bv, not_bv]
theorem of_bv (s : ByteArray) (hs : s.size ≤ 9223372036854775807) : crc_Of.f s = some ((moreB 0#32 s.data.toList).toNat : Int) := by
  unfold crc_Of.f
  rw [show (0 : Int) = ((0#32).toNat : Int) from rfl, more_bv _ s hs, Option.bind_some]
def tailB (n : BitVec 32) : List UInt8 := [UInt8.ofNat (n.toNat % 256), UInt8.ofNat (n.toNat / 256 % 256), UInt8.ofNat (n.toNat / 65536 % 256), UInt8.ofNat (n.toNat / 16777216 % 256)]
def closeB (l : List UInt8) : List UInt8 := l ++ tailB (moreB 0#32 l)
theorem ba_ext {s t : ByteArray} (h : s.data.toList = t.data.toList) : s = t := by
  cases s; cases t
  simp only [ByteArray.mk.injEq]
  exact Array.toList_inj.1 h
theorem ba_append (s t : ByteArray) : (s ++ t).data.toList = s.data.toList ++ t.data.toList := by
  rw [ByteArray.data_append, Array.toList_append]
theorem ba_size (s : ByteArray) : s.size = s.data.toList.length := by simp
theorem tail_nums (n : BitVec 32) : (strOfNums (crc_Close.tail (n.toNat : Int))).data.toList = tailB n := by
  rw [strOfNums_data]
  unfold crc_Close.tail tailB
  simp only [List.map_cons, List.map_nil]
  rw [show ((n.toNat : Int) % 256).toNat = n.toNat % 256 from by omega, show ((n.toNat : Int) / 256 % 256).toNat = n.toNat / 256 % 256 from by omega, show ((n.toNat : Int) / 65536 % 256).toNat = n.toNat / 65536 % 256 from by omega, show ((n.toNat : Int) / 16777216 % 256).toNat = n.toNat / 16777216 % 256 from by omega]
theorem close_bv (s : ByteArray) (hs : s.size ≤ 1000000000) : ∃ c, crc_Close.f s = some c ∧ c.data.toList = closeB s.data.toList := by
  refine ⟨s ++ strOfNums (crc_Close.tail ((moreB 0#32 s.data.toList).toNat : Int)), ?_, ?_⟩
  · unfold crc_Close.f
    rw [of_bv s (by omega), Option.bind_some, if_pos (Int.natCast_nonneg _), if_pos (by omega)]
  · rw [ba_append, tail_nums]; rfl
theorem closeB_len (l : List UInt8) : (closeB l).length = l.length + 4 := by simp [closeB, tailB]
theorem extract_take (s : ByteArray) (m : Nat) : (s.extract 0 m).data.toList = s.data.toList.take m := by
  rw [Lib.extract_data]; simp
/-- what is opened -/
def openB (l : List UInt8) : Option (List UInt8) := if l.length < 4 then none else if closeB (l.take (l.length - 4)) = l then some (l.take (l.length - 4)) else none
theorem open_bv (s : ByteArray) (hs : s.size ≤ 1000000000) : crc_Open.f s = some (match openB s.data.toList with | some t => (⟨t.toArray⟩, true) | none => (⟨#[]⟩, false)) := by
  have hl := ba_size s
  unfold crc_Open.f openB
  by_cases h4 : s.size < 4
  · rw [if_pos (show wrap64 ((s.size : Int) - 4) < 0 by unfold wrap64; omega), if_pos (by omega)]
  · have hw : wrap64 ((s.size : Int) - 4) = ((s.size - 4 : Nat) : Int) := by unfold wrap64; omega
    rw [hw, if_neg (by omega), if_pos (by omega), if_pos (by omega), Int.toNat_natCast, if_neg (by omega)]
    obtain ⟨c, h1, h2⟩ := close_bv (s.extract 0 (s.size - 4)) (by rw [ByteArray.size_extract]; omega)
    rw [h1, Option.bind_some, ByteArray.toList_eq, ByteArray.toList_eq, h2, extract_take, hl]
    by_cases e : closeB (s.data.toList.take (s.data.toList.length - 4)) = s.data.toList
    · rw [if_pos e, if_pos e]
      congr 2
      exact ba_ext (by rw [extract_take])
    · rw [if_neg e, if_neg e]

/-! ### the document's sum is the function of bit vectors -/
theorem stepI_bv (n : BitVec 32) : (if Int.tmod (n.toNat : Int) 2 = 1 then Go.bits .xor .u32 (Int.tdiv (n.toNat : Int) 2 % 4294967296) 3988292384 else Int.tdiv (n.toNat : Int) 2 % 4294967296) = ((stepB n).toNat : Int) := by
  have hn := n.isLt
  have hd : Int.tdiv (n.toNat : Int) 2 % (4294967296 : Int) = ((n >>> 1).toNat : Int) := by
    rw [Int.tdiv_eq_ediv_of_nonneg (Int.natCast_nonneg _), ← u32_div n 1 2 rfl]; omega
  have hm : (Int.tmod (n.toNat : Int) 2 = 1) ↔ n.getLsbD 0 = true := by
    rw [Int.tmod_eq_emod_of_nonneg (Int.natCast_nonneg _), BitVec.getLsbD, Nat.testBit_zero, decide_eq_true_iff]
    omega
  unfold stepB
  rw [hd]
  by_cases h : n.getLsbD 0 = true
  · rw [if_pos (hm.2 h), if_pos h, show (3988292384 : Int) = ((0xedb88320#32).toNat : Int) from by decide, u32_xor]
  · rw [if_neg (fun e => h (hm.1 e)), if_neg h]
def stepsB : Nat → BitVec 32 → BitVec 32
  | 0, n => n
  | d + 1, n => stepsB d (stepB n)
theorem l1_run (s : ByteArray) (i : Int) : ∀ (d k : Nat) (n : BitVec 32), d ≤ 8 → chainmanref03_More.l1 (k + d + 1) s (n.toNat : Int) i (8 - (d : Int)) = chainmanref03_More.l0 k s ((stepsB d n).toNat : Int) (wrap64 (i + 1)) := by
  intro d
  induction d with
  | zero =>
    intro k n _
    show chainmanref03_More.l1 (k + 1) s _ i _ = _
    rw [chainmanref03_More.l1]
    rw [if_neg (by omega)]; rfl
  | succ d ih =>
    intro k n hd
    show chainmanref03_More.l1 ((k + d + 1) + 1) s _ i _ = _
    rw [chainmanref03_More.l1]
    have hw : wrap64 (8 - ((d + 1 : Nat) : Int) + 1) = 8 - (d : Int) := by unfold wrap64; omega
    rw [if_pos (by omega), hw]
    have h := stepI_bv n
    by_cases ht : Int.tmod (n.toNat : Int) 2 = 1
    · rw [if_pos ht] at h
      rw [if_pos ht, h, ih k (stepB n) (by omega)]; rfl
    · rw [if_neg ht] at h
      rw [if_neg ht, h, ih k (stepB n) (by omega)]; rfl
theorem bt_nat (s : ByteArray) (i : Nat) (h : i < s.data.toList.length) : bt s (i : Int) = ((s.data.toList[i]).toNat : Int) := by
  have h' : i < s.size := by rw [ba_size]; exact h
  unfold bt
  rw [dif_pos (by simpa using h')]
  rfl
theorem l0_run (s : ByteArray) (hs : s.size ≤ 1000000000) : ∀ (r k i : Nat) (n : BitVec 32), i + r = s.size → 10 * r + 1 ≤ k → chainmanref03_More.l0 k s (n.toNat : Int) (i : Int) = some ((~~~ feedB n (s.data.toList.drop i)).toNat : Int) := by
  have hz := ba_size s
  intro r
  induction r with
  | zero =>
    intro k i n hi hk
    obtain ⟨k, rfl⟩ : ∃ m, k = m + 1 := ⟨k - 1, by omega⟩
    rw [chainmanref03_More.l0]
    rw [if_neg (by omega), not_bv', List.drop_of_length_le (by omega)]; rfl
  | succ r ih =>
    intro k i n hi hk
    obtain ⟨k, rfl⟩ : ∃ m, k = (m + 8 + 1) + 1 := ⟨k - 10, by omega⟩
    have hlt : i < s.data.toList.length := by omega
    rw [chainmanref03_More.l0]
    have hc : bt s (i : Int) % 4294967296 = ((BitVec.ofNat 32 (s.data.toList[i]).toNat).toNat : Int) := by
      have := (s.data.toList[i]).toNat_lt
      rw [bt_nat s i hlt, BitVec.toNat_ofNat]; omega
    rw [if_pos (by omega), if_pos (by omega), hc, u32_xor]
    have h8 := l1_run s (i : Int) 8 k (n ^^^ BitVec.ofNat 32 (s.data.toList[i]).toNat) (by omega)
    rw [show ((8 : Int) - ((8 : Nat) : Int)) = 0 from by omega] at h8
    rw [h8, show wrap64 ((i : Int) + 1) = ((i + 1 : Nat) : Int) from by unfold wrap64; omega, ih k (i + 1) _ (by omega) (by omega)]
    rw [List.drop_eq_getElem_cons hlt]
    rfl
theorem refmore_bv (n : BitVec 32) (s : ByteArray) (hs : s.size ≤ 1000000000) (k : Nat) (hk : 10 * s.size + 1 ≤ k) : chainmanref03_More.f k (n.toNat : Int) s = some ((moreB n s.data.toList).toNat : Int) := by
  unfold chainmanref03_More.f
  rw [not_bv', show (0 : Int) = ((0 : Nat) : Int) from rfl, l0_run s hs s.size k 0 _ (by omega) hk]; rfl
theorem refof_bv (s : ByteArray) (hs : s.size ≤ 1000000000) (k : Nat) (hk : 10 * s.size + 1 ≤ k) : chainmanref03_Of.f k s = some ((moreB 0#32 s.data.toList).toNat : Int) := by
  unfold chainmanref03_Of.f
  rw [show (0 : Int) = ((0#32).toNat : Int) from rfl, refmore_bv _ s hs k hk, Option.bind_some]
theorem and255 (x : Int) (h0 : 0 ≤ x) (h1 : x < 4294967296) : Go.bits .and .u32 x 255 % 256 = x % 256 := by
  have h := u32_and_mask x h0 8 (by decide)
  rw [show ((2 ^ 8 - 1 : Nat) : Int) = 255 from by decide, show ((2 ^ 8 : Nat) : Int) = 256 from by decide] at h
  rw [h]; omega
theorem refclose_bv (s : ByteArray) (hs : s.size ≤ 100000000) (k : Nat) (hk : 10 * s.size + 1 ≤ k) : ∃ c, chainmanref03_Close.f k s = some c ∧ c.data.toList = closeB s.data.toList := by
  have hb := (moreB 0#32 s.data.toList).isLt
  refine ⟨s ++ strOfNums (crc_Close.tail ((moreB 0#32 s.data.toList).toNat : Int)), ?_, ?_⟩
  · unfold chainmanref03_Close.f
    rw [refof_bv s (by omega) k hk, Option.bind_some, Option.bind_some]
    have ht : [(Go.bits .and .u32 ((moreB 0#32 s.data.toList).toNat : Int) 255) % 256, (Go.bits .and .u32 (((moreB 0#32 s.data.toList).toNat : Int) / 256) 255) % 256, (Go.bits .and .u32 (((moreB 0#32 s.data.toList).toNat : Int) / 65536) 255) % 256, (((moreB 0#32 s.data.toList).toNat : Int) / 16777216) % 256] = crc_Close.tail ((moreB 0#32 s.data.toList).toNat : Int) := by
      unfold crc_Close.tail
      rw [and255 _ (by omega) (by omega), and255 _ (by omega) (by omega), and255 _ (by omega) (by omega)]
    rw [ht, if_pos ?_]
    rw [strOfNums_size]
    show s.size + 4 ≤ _
    omega
  · rw [ba_append, tail_nums]; rfl
theorem refopen_bv (s : ByteArray) (hs : s.size ≤ 100000000) (k : Nat) (hk : 10 * s.size + 1 ≤ k) : chainmanref03_Open.f k s = some (match openB s.data.toList with | some t => (⟨t.toArray⟩, true) | none => (⟨#[]⟩, false)) := by
  have hl := ba_size s
  unfold chainmanref03_Open.f openB
  by_cases h4 : s.size < 4
  · rw [if_pos (by omega), if_pos (by omega)]
  · have hw : wrap64 ((s.size : Int) - 4) = ((s.size - 4 : Nat) : Int) := by unfold wrap64; omega
    rw [if_neg (by omega), hw, if_pos (by omega), if_pos (by omega), Int.toNat_natCast, if_neg (by omega)]
    obtain ⟨c, h1, h2⟩ := refclose_bv (s.extract 0 (s.size - 4)) (by rw [ByteArray.size_extract]; omega) k (by rw [ByteArray.size_extract]; omega)
    rw [h1, Option.bind_some, ByteArray.toList_eq, ByteArray.toList_eq, h2, extract_take, hl]
    by_cases e : closeB (s.data.toList.take (s.data.toList.length - 4)) = s.data.toList
    · rw [if_pos e, if_pos e]
      congr 2
      exact ba_ext (by rw [extract_take])
    · rw [if_neg e, if_neg e]

end Cr

namespace Oc
/-! ### numbers as bytes -/
def beN (n k : Nat) : List Int := (List.range k).reverse.map fun i => ((n / 256 ^ i % 256 : Nat) : Int)
theorem beN_len (n k : Nat) : (beN n k).length = k := by simp [beN]
theorem beN_succ (n k : Nat) : beN n (k + 1) = ((n / 256 ^ k % 256 : Nat) : Int) :: beN n k := by
  unfold beN
  rw [List.range_succ, List.reverse_append]; rfl
theorem beN_range (n k : Nat) : ∀ x ∈ beN n k, 0 ≤ x ∧ x < 256 := by
  intro x hx
  obtain ⟨i, _, rfl⟩ := List.mem_map.1 hx
  have := Nat.mod_lt (n / 256 ^ i) (show 256 > 0 by decide)
  omega
def putB (n k : Int) : ByteArray × Bool := if n < 0 ∨ k < 1 ∨ 8 < k then (⟨#[]⟩, false) else if n.toNat < 256 ^ k.toNat then (strOfNums (beN n.toNat k.toNat), true) else (⟨#[]⟩, false)
theorem octs_be (n : Nat) : octet_Put.octs (n : Int) = beN n 8 := by
  have e7 : (n : Int) / 72057594037927936 % 256 = ((n / 256 ^ 7 % 256 : Nat) : Int) := by rw [show 256 ^ 7 = 72057594037927936 from rfl]; omega
  have e6 : (n : Int) / 281474976710656 % 256 = ((n / 256 ^ 6 % 256 : Nat) : Int) := by rw [show 256 ^ 6 = 281474976710656 from rfl]; omega
  have e5 : (n : Int) / 1099511627776 % 256 = ((n / 256 ^ 5 % 256 : Nat) : Int) := by rw [show 256 ^ 5 = 1099511627776 from rfl]; omega
  have e4 : (n : Int) / 4294967296 % 256 = ((n / 256 ^ 4 % 256 : Nat) : Int) := by rw [show 256 ^ 4 = 4294967296 from rfl]; omega
  have e3 : (n : Int) / 16777216 % 256 = ((n / 256 ^ 3 % 256 : Nat) : Int) := by rw [show 256 ^ 3 = 16777216 from rfl]; omega
  have e2 : (n : Int) / 65536 % 256 = ((n / 256 ^ 2 % 256 : Nat) : Int) := by rw [show 256 ^ 2 = 65536 from rfl]; omega
  have e1 : (n : Int) / 256 % 256 = ((n / 256 ^ 1 % 256 : Nat) : Int) := by rw [show 256 ^ 1 = 256 from rfl]; omega
  have e0 : (n : Int) % 256 = ((n / 256 ^ 0 % 256 : Nat) : Int) := by rw [show 256 ^ 0 = 1 from rfl]; omega
  unfold octet_Put.octs
  rw [e7, e6, e5, e4, e3, e2, e1, e0]
  rfl
theorem beN_take (m k : Nat) : ∀ j, m < 256 ^ (k + j) → ((((beN m (k + j)).take j).all (· == 0) = true) ↔ m < 256 ^ k) := by
  intro j
  induction j with
  | zero => intro h; simpa using h
  | succ j ih =>
    intro h
    have hp : 256 ^ (k + (j + 1)) = 256 ^ (k + j) * 256 := Nat.pow_succ ..
    have hx : m / 256 ^ (k + j) < 256 := Nat.div_lt_of_lt_mul (by omega)
    rw [show k + (j + 1) = (k + j) + 1 from rfl, beN_succ, List.take_succ_cons, List.all_cons, Bool.and_eq_true]
    have hz : ((((m / 256 ^ (k + j) % 256 : Nat) : Int) == 0) = true) ↔ m < 256 ^ (k + j) := by
      rw [beq_iff_eq, Nat.mod_eq_of_lt hx]
      constructor
      · intro e
        rcases Nat.lt_or_ge m (256 ^ (k + j)) with h' | h'
        · exact h'
        · have := Nat.div_pos h' (Nat.pow_pos (by decide)); omega
      · intro h'; rw [Nat.div_eq_of_lt h']; rfl
    rw [hz]
    constructor
    · rintro ⟨h1, h2⟩; exact (ih h1).1 h2
    · intro h1
      have : 256 ^ k ≤ 256 ^ (k + j) := Nat.pow_le_pow_right (by decide) (by omega)
      exact ⟨by omega, (ih (by omega)).2 h1⟩
theorem beN_drop (m k : Nat) : ∀ j, (beN m (k + j)).drop j = beN m k := by
  intro j
  induction j with
  | zero => rfl
  | succ j ih => rw [show k + (j + 1) = (k + j) + 1 from rfl, beN_succ, List.drop_succ_cons, ih]
theorem put_bv (n k : Int) (hn : n < 9223372036854775808) : octet_Put.f n k = some (putB n k) := by
  unfold octet_Put.f putB
  by_cases hb : n < 0 ∨ k < 1 ∨ 8 < k
  · rw [if_pos hb, if_pos hb]
  · rw [if_neg hb, if_neg hb]
    obtain ⟨m, rfl⟩ : ∃ m : Nat, n = (m : Int) := ⟨n.toNat, by omega⟩
    obtain ⟨q, rfl⟩ : ∃ q : Nat, k = (q : Int) := ⟨k.toNat, by omega⟩
    have hq8 : q ≤ 8 := by omega
    have hm : m < 256 ^ 8 := by have : 256 ^ 8 = 18446744073709551616 := by decide
                                omega
    have e8 : q + (8 - q) = 8 := by omega
    have h1 := beN_take m q (8 - q) (by rw [e8]; exact hm)
    have h2 := beN_drop m q (8 - q)
    rw [e8] at h1 h2
    rw [octs_be, Int.toNat_natCast, Int.toNat_natCast, show ((8 : Int) - (q : Int)).toNat = 8 - q from by omega, h2]
    by_cases hlt : m < 256 ^ q
    · rw [if_pos (h1.2 hlt), if_pos hlt]
    · rw [if_neg (fun h => hlt (h1.1 h)), if_neg hlt]
def numN (l : List UInt8) : Nat := l.foldl (fun n c => n * 256 + c.toNat) 0
theorem numN_snoc (l : List UInt8) (c : UInt8) : numN (l ++ [c]) = numN l * 256 + c.toNat := by
  unfold numN
  rw [List.foldl_append]; rfl
theorem snoc_ind (P : List UInt8 → Prop) (h0 : P []) (h1 : ∀ m c, P m → P (m ++ [c])) (l : List UInt8) : P l := by
  have : ∀ n (l : List UInt8), l.length = n → P l := by
    intro n
    induction n with
    | zero => intro l hl; rw [List.length_eq_zero_iff.1 hl]; exact h0
    | succ n ih =>
      intro l hl
      rcases List.eq_nil_or_concat l with rfl | ⟨m, c, rfl⟩
      · exact h0
      · rw [List.concat_eq_append] at hl ⊢
        exact h1 m c (ih m (by simpa using hl))
  exact this _ l rfl
theorem numN_lt (l : List UInt8) : numN l < 256 ^ l.length := by
  refine snoc_ind (fun l => numN l < 256 ^ l.length) (by decide) (fun m c ih => ?_) l
  rw [numN_snoc, List.length_append]
  have := c.toNat_lt
  have : 256 ^ (m.length + [c].length) = 256 ^ m.length * 256 := Nat.pow_succ ..
  omega
theorem join_bv (x : Nat) (c : UInt8) (hx : x * 256 < 18446744073709551616) : octet_Get.join (x : Int) (c.toNat : Int) = ((x * 256 + c.toNat : Nat) : Int) := by
  have hc := c.toNat_lt
  have hw : IntKind.u64.wrap ((x : Int) * 256) = ((x * 256 : Nat) : Int) := by
    simp only [IntKind.wrap, IntKind.bits, IntKind.signed, Bool.false_and]
    simp
    omega
  unfold octet_Get.join
  rw [hw]
  show IntKind.u64.wrap ((BitVec.ofInt 64 ((x * 256 : Nat) : Int) ||| BitVec.ofInt 64 (c.toNat : Int)).toNat : Int) = _
  rw [BitVec.ofInt_natCast, BitVec.ofInt_natCast, BitVec.toNat_or, BitVec.toNat_ofNat, BitVec.toNat_ofNat, Nat.mod_eq_of_lt (by omega), Nat.mod_eq_of_lt (by omega)]
  have ho : x * 256 ||| c.toNat = x * 256 + c.toNat := by
    have := Nat.shiftLeft_add_eq_or_of_lt (b := c.toNat) (i := 8) hc x
    rw [Nat.shiftLeft_eq] at this
    exact this.symm
  rw [ho]
  simp only [IntKind.wrap, IntKind.bits, IntKind.signed, Bool.false_and]
  simp
  omega
theorem num_bv (l : List UInt8) (hl : l.length ≤ 8) : octet_Get.num (l.map fun b => (b.toNat : Int)) = (numN l : Int) := by
  refine snoc_ind (fun l => l.length ≤ 8 → octet_Get.num (l.map fun b => (b.toNat : Int)) = (numN l : Int)) (fun _ => rfl) (fun m c ih hl => ?_) l hl
  rw [List.length_append] at hl
  have hm : m.length ≤ 7 := by simp at hl; omega
  have hlt := numN_lt m
  have hp : 256 ^ m.length ≤ 256 ^ 7 := Nat.pow_le_pow_right (by decide) hm
  rw [List.map_append, List.map_singleton, octet_Get.num_snoc, ih (by omega), join_bv _ _ (by omega), numN_snoc]
theorem ba_ext {s t : ByteArray} (h : s.data.toList = t.data.toList) : s = t := by
  cases s; cases t
  simp only [ByteArray.mk.injEq]
  exact Array.toList_inj.1 h
theorem ba_append (s t : ByteArray) : (s ++ t).data.toList = s.data.toList ++ t.data.toList := by
  rw [ByteArray.data_append, Array.toList_append]
theorem ba_size (s : ByteArray) : s.size = s.data.toList.length := by simp
def getB (s : ByteArray) (p k : Int) : Int × Bool :=
  if k < 1 ∨ 8 < k ∨ p < 0 ∨ (s.size : Int) - k < p then (0, false)
  else if numN ((s.data.toList.drop p.toNat).take k.toNat) < 9223372036854775808 then ((numN ((s.data.toList.drop p.toNat).take k.toNat) : Int), true) else (0, false)
theorem get_bv (s : ByteArray) (p k : Int) (hs : s.size ≤ 1000000000) (hp : (Lit.int .i64 p).wf = true) : octet_Get.f s p k = some (getB s p k) := by
  have hp' : -9223372036854775808 ≤ p ∧ p ≤ 9223372036854775807 := by simpa [Lit.wf, IntKind.min, IntKind.max, IntKind.signed, IntKind.bits] using hp
  unfold octet_Get.f getB
  rw [if_pos ⟨hs, hp'.1, hp'.2⟩]
  by_cases hb : k < 1 ∨ 8 < k ∨ p < 0 ∨ (s.size : Int) - k < p
  · rw [if_pos hb, if_pos hb]
  · rw [if_neg hb, if_neg hb]
    have he : bytesOf (s.extract p.toNat (p + k).toNat) = ((s.data.toList.drop p.toNat).take k.toNat).map fun b => (b.toNat : Int) := by
      unfold bytesOf
      rw [Lib.extract_data, show (p + k).toNat - p.toNat = k.toNat from by omega]
    rw [he, num_bv _ (by rw [List.length_take]; omega)]
    by_cases hlt : numN ((s.data.toList.drop p.toNat).take k.toNat) < 9223372036854775808
    · rw [if_pos hlt, if_pos (by omega)]
    · rw [if_neg hlt, if_neg (by omega)]

/-! ### the document's bytes -/
theorem wrap_succ (i : Nat) (h : i < 1000000000) : wrap64 ((i : Int) + 1) = ((i + 1 : Nat) : Int) := by unfold wrap64; omega
theorem stepq (q : Nat) (hq : q < 9223372036854775808) : Int.tmod (q : Int) 256 % 256 = ((q % 256 : Nat) : Int) ∧ wrap64 (Int.tdiv (q : Int) 256) = ((q / 256 : Nat) : Int) := by
  rw [Int.tmod_eq_emod_of_nonneg (Int.natCast_nonneg _), Int.tdiv_eq_ediv_of_nonneg (Int.natCast_nonneg _)]
  unfold wrap64
  omega
theorem beN_fits (x : Int) (n i : Nat) (h : i < 9) : (strOfNums [x]).size + (strOfNums (beN n i)).size ≤ 9223372036854775807 := by
  have h1 : (strOfNums [x]).size = 1 := strOfNums_size _
  have h2 : (strOfNums (beN n i)).size = i := (strOfNums_size _).trans (beN_len _ _)
  omega
theorem refl0 (n k : Nat) (hn : n < 9223372036854775808) : ∀ (r f i : Nat), i + r = k → r < f → k ≤ 8 →
    chainmanref02_Put.l0 f ((n / 256 ^ i : Nat) : Int) (k : Int) (strOfNums (beN n i)) (i : Int) = some (if n < 256 ^ k then (strOfNums (beN n k), true) else (⟨#[]⟩, false)) := by
  intro r
  induction r with
  | zero =>
    intro f i hi hf hk
    obtain ⟨f, rfl⟩ : ∃ m, f = m + 1 := ⟨f - 1, by omega⟩
    obtain rfl : i = k := by omega
    rw [chainmanref02_Put.l0, if_neg (by omega)]
    have hz : (0 < n / 256 ^ i) ↔ ¬ n < 256 ^ i := by
      have h := Nat.div_eq_zero_iff (a := n) (b := 256 ^ i)
      have hp : 256 ^ i ≠ 0 := Nat.ne_of_gt (Nat.pow_pos (by decide))
      constructor
      · intro h1 h2; have := Nat.div_eq_of_lt h2; omega
      · intro h1; exact Nat.div_pos (by omega) (Nat.pow_pos (by decide))
    by_cases h : n < 256 ^ i
    · rw [if_neg (by omega), if_pos h]
    · rw [if_pos (by omega), if_neg h]
  | succ r ih =>
    intro f i hi hf hk
    obtain ⟨f, rfl⟩ : ∃ m, f = m + 1 := ⟨f - 1, by omega⟩
    rw [chainmanref02_Put.l0, if_pos (by omega), Option.bind_some]
    have hsz : (strOfNums [((n / 256 ^ i % 256 : Nat) : Int)]).size + (strOfNums (beN n i)).size ≤ 9223372036854775807 := by
      exact beN_fits _ n i (by omega)
    have a1 : i + 1 + r = k := by omega
    have a2 : r < f := by omega
    have a3 : i < 1000000000 := by omega
    have hq : n / 256 ^ i ≤ n := Nat.div_le_self _ _
    obtain ⟨e1, e2⟩ := stepq (n / 256 ^ i) (Nat.lt_of_le_of_lt hq hn)
    rw [Nat.div_div_eq_div_mul, ← Nat.pow_succ] at e2
    have e3 : wrap64 ((i : Int) + 1) = ((i + 1 : Nat) : Int) := wrap_succ i a3
    have e4 : strOfNums [((n / 256 ^ i % 256 : Nat) : Int)] ++ strOfNums (beN n i) = strOfNums (beN n (i + 1)) := by
      apply ba_ext
      rw [ba_append, strOfNums_data, strOfNums_data, strOfNums_data, beN_succ]; rfl
    rw [e1, if_pos hsz, e2, e4, e3]
    exact ih f (i + 1) a1 a2 hk
theorem refput_bv (n k : Int) (f : Nat) (hf : 20 ≤ f) (hn : n < 9223372036854775808) : chainmanref02_Put.f f n k = some (putB n k) := by
  obtain ⟨f, rfl⟩ : ∃ m, f = m + 1 := ⟨f - 1, by omega⟩
  unfold chainmanref02_Put.f putB
  by_cases h1 : k < 1
  · rw [if_pos h1, if_pos (.inr (.inl h1)), chainmanref02_Put.j0, if_pos rfl]
  · rw [if_neg h1]
    by_cases h2 : k > 8
    · rw [if_pos h2, if_pos (.inr (.inr h2)), chainmanref02_Put.j0, if_pos rfl]
    · rw [if_neg h2]
      by_cases h3 : n < 0
      · rw [if_pos (.inl h3), chainmanref02_Put.j0, if_pos (decide_eq_true h3)]
      · rw [if_neg (by omega), chainmanref02_Put.j0, if_neg (by simpa using h3)]
        obtain ⟨m, rfl⟩ : ∃ m : Nat, n = (m : Int) := ⟨n.toNat, by omega⟩
        obtain ⟨j, rfl⟩ : ∃ j : Nat, k = (j : Int) := ⟨k.toNat, by omega⟩
        have h := refl0 m j (by omega) j f 0 (by omega) (by omega) (by omega)
        rw [Nat.pow_zero, Nat.div_one] at h
        rw [Int.toNat_natCast, Int.toNat_natCast]
        exact h
theorem bt_nat (s : ByteArray) (i : Nat) (h : i < s.data.toList.length) : bt s (i : Int) = ((s.data.toList[i]).toNat : Int) := by
  have h' : i < s.size := by rw [ba_size]; exact h
  unfold bt
  rw [dif_pos (by simpa using h')]
  rfl
theorem numN_grow (l : List UInt8) (j k : Nat) (h : j < k) (hk : k ≤ l.length) : numN (l.take j) * 256 ≤ numN (l.take k) := by
  induction k with
  | zero => omega
  | succ k ih =>
    rw [List.take_succ_eq_append_getElem (show k < l.length by omega), numN_snoc]
    by_cases hjk : j = k
    · subst hjk; omega
    · have := ih (by omega) (by omega); omega
theorem wrap_in (x : Int) (h0 : 0 ≤ x) (h1 : x < 9223372036854775808) : wrap64 x = x := by unfold wrap64; omega
theorem wrap_addn (p i : Nat) (h : p + i < 1000000) : wrap64 ((p : Int) + (i : Int)) = ((p + i : Nat) : Int) := by unfold wrap64; omega
theorem wrap_step (x c : Nat) (hx : x < 36028797018963968) (hc : c < 256) : wrap64 (wrap64 ((x : Int) * 256) + wrap64 (c : Int)) = ((x * 256 + c : Nat) : Int) := by
  rw [wrap_in ((x : Int) * 256) (by omega) (by omega), wrap_in (c : Int) (by omega) (by omega), wrap_in _ (by omega) (by omega)]
  omega
theorem refg0 (s : ByteArray) (hs : s.size ≤ 1000000) (p k : Nat) (hpk : p + k ≤ s.size) (hk8 : k ≤ 8) : ∀ (r f i : Nat), i + r = k → r < f → numN ((s.data.toList.drop p).take i) < 9223372036854775808 →
    chainmanref02_Get.l0 f s (p : Int) (k : Int) (numN ((s.data.toList.drop p).take i) : Int) (i : Int) = some (if numN ((s.data.toList.drop p).take k) < 9223372036854775808 then ((numN ((s.data.toList.drop p).take k) : Int), true) else (0, false)) := by
  have hz := ba_size s
  intro r
  induction r with
  | zero =>
    intro f i hi hf hlt
    obtain ⟨f, rfl⟩ : ∃ m, f = m + 1 := ⟨f - 1, by omega⟩
    obtain rfl : i = k := by omega
    rw [chainmanref02_Get.l0, if_neg (by omega), if_pos hlt]
  | succ r ih =>
    intro f i hi hf hlt
    obtain ⟨f, rfl⟩ : ∃ m, f = m + 1 := ⟨f - 1, by clear ih; omega⟩
    have hln : (s.data.toList.drop p).length = s.size - p := by rw [List.length_drop, hz]
    rw [chainmanref02_Get.l0, if_pos (by clear ih; omega)]
    by_cases hbig : numN ((s.data.toList.drop p).take i) ≥ 36028797018963968
    · have := numN_grow (s.data.toList.drop p) i k (by clear ih; omega) (by clear ih; omega)
      rw [if_pos (by clear ih; omega), if_neg (by clear ih; omega)]
    · have hpi : p + i < 1000000 := by clear ih; omega
      have hlt2 : p + i < s.data.toList.length := by clear ih; omega
      have g1 : ¬ ((numN ((s.data.toList.drop p).take i) : Int) ≥ 36028797018963968) := by clear ih; omega
      have g2 : (0 : Int) ≤ ((p + i : Nat) : Int) := Int.natCast_nonneg _
      have g3 : ((p + i : Nat) : Int) < (s.size : Int) := by clear ih; omega
      have g4 : i < (s.data.toList.drop p).length := by clear ih; omega
      have g5 : i + 1 + r = k := by clear ih; omega
      have g6 : r < f := by clear ih; omega
      have g7 : i < 1000000000 := by clear ih; omega
      have hc := (s.data.toList[p + i]).toNat_lt
      have hsn : (s.data.toList.drop p).take (i + 1) = (s.data.toList.drop p).take i ++ [s.data.toList[p + i]] := by
        rw [List.take_succ_eq_append_getElem g4, List.getElem_drop]
      have hN : numN ((s.data.toList.drop p).take (i + 1)) = numN ((s.data.toList.drop p).take i) * 256 + (s.data.toList[p + i]).toNat := by rw [hsn, numN_snoc]
      have g8 : numN ((s.data.toList.drop p).take (i + 1)) < 9223372036854775808 := by clear ih; omega
      rw [if_neg g1, wrap_addn p i hpi, if_pos g2, if_pos g3, bt_nat s (p + i) hlt2, wrap_step _ _ (Nat.lt_of_not_ge hbig) hc, ← hN, wrap_succ i g7]
      exact ih f (i + 1) g5 g6 g8
theorem refget_bv (s : ByteArray) (p k : Int) (hs : s.size ≤ 1000000) (hp : (Lit.int .i64 p).wf = true) (f : Nat) (hf : 20 ≤ f) : chainmanref02_Get.f f s p k = some (getB s p k) := by
  have hp' : -9223372036854775808 ≤ p ∧ p ≤ 9223372036854775807 := by simpa [Lit.wf, IntKind.min, IntKind.max, IntKind.signed, IntKind.bits] using hp
  obtain ⟨f, rfl⟩ : ∃ m, f = m + 1 := ⟨f - 1, by omega⟩
  unfold chainmanref02_Get.f getB
  by_cases h1 : k < 1
  · rw [if_pos h1, if_pos (.inl h1), chainmanref02_Get.j0, if_pos rfl]
  · rw [if_neg h1]
    by_cases h2 : k > 8
    · rw [if_pos h2, if_pos (.inr (.inl h2)), chainmanref02_Get.j0, if_pos rfl]
    · rw [if_neg h2]
      by_cases h3 : p < 0
      · rw [if_pos h3, if_pos (.inr (.inr (.inl h3))), chainmanref02_Get.j0, if_pos rfl]
      · rw [if_neg h3]
        by_cases h4 : p > (s.size : Int)
        · rw [if_pos h4, if_pos (.inr (.inr (.inr (by omega)))), chainmanref02_Get.j0, if_pos rfl]
        · rw [if_neg h4]
          have hw : wrap64 ((s.size : Int) - p) = (s.size : Int) - p := by unfold wrap64; omega
          rw [hw]
          by_cases h5 : k > (s.size : Int) - p
          · rw [if_pos (.inr (.inr (.inr (by omega)))), chainmanref02_Get.j0, if_pos (decide_eq_true h5)]
          · rw [if_neg (by omega), chainmanref02_Get.j0, if_neg (by simpa using h5)]
            obtain ⟨q, rfl⟩ : ∃ q : Nat, p = (q : Int) := ⟨p.toNat, by omega⟩
            obtain ⟨j, rfl⟩ : ∃ j : Nat, k = (j : Int) := ⟨k.toNat, by omega⟩
            rw [Int.toNat_natCast, Int.toNat_natCast]
            exact refg0 s hs q j (by omega) (by omega) j f 0 (by omega) (by omega) (show (0 : Nat) < 9223372036854775808 by decide)

/-! ### bytes in pieces: the program's and the document's -/
theorem w64 (n : Int) (h : -9223372036854775808 ≤ n ∧ n ≤ 9223372036854775807) : wrap64 n = n := by unfold wrap64; omega
theorem ex_data (s : ByteArray) (a b : Nat) : (s.extract a b).data.toList = (s.data.toList.take b).drop a := by
  rw [ByteArray.data_extract, Array.toList_extract]
  rw [List.extract_eq_drop_take', ]
theorem ex_size (s : ByteArray) (a b : Nat) (hb : b ≤ s.size) : (s.extract a b).size = b - a := by
  rw [ba_size, ex_data, List.length_drop, List.length_take, ← ba_size]; omega
theorem ex_front (s : ByteArray) (a k : Nat) (h : a + k ≤ s.size) : (s.extract a s.size).extract 0 k = s.extract a (a + k) := by
  apply ba_ext
  rw [ex_data, ex_data, ex_data, List.drop_zero, ba_size, List.take_length, List.take_drop]
theorem ex_back (s : ByteArray) (a k : Nat) : (s.extract a s.size).extract k (s.extract a s.size).size = s.extract (a + k) s.size := by
  apply ba_ext
  rw [ex_data, ba_size, ← ba_size, List.take_of_length_le (by rw [ba_size]; exact Nat.le_refl _), ex_data, ex_data, List.drop_drop]
theorem pieces (s : ByteArray) (k : Nat) (hk : 1 ≤ k) (hs : s.size ≤ 1000) : ∀ (d at_ : Nat) (acc : List ByteArray), at_ + d * k = s.size → acc.length + d ≤ 2000 →
    ∃ r, Ev (fun q => octet_Split.l0 q (s.extract at_ s.size) (k : Int) acc) (r, true) ∧ Ev (fun q => chainmanref02_Split.l0 q s (k : Int) acc (at_ : Int)) (r, true) ∧ r.length ≤ 2000 := by
  intro d
  induction d with
  | zero =>
    intro at_ acc h ha
    refine ⟨acc, Ev.step (f := fun _ => some (acc, true)) (fun q => ?_) (Ev.now _), Ev.step (f := fun _ => some (acc, true)) (fun q => ?_) (Ev.now _), by omega⟩
    · have : (s.extract at_ s.size).toList = [] := by
        rw [← List.length_eq_zero_iff, ByteArray.toList_eq, ← ba_size]
        rw [ex_size _ _ _ (Nat.le_refl _)]; omega
      rw [octet_Split.l0, if_pos this]
    · rw [chainmanref02_Split.l0, if_neg (by omega)]
  | succ d ih =>
    intro at_ acc h ha
    rw [Nat.add_mul, Nat.one_mul] at h
    have hd : 0 ≤ d * k := Nat.zero_le _
    obtain ⟨r, h1, h2, h3⟩ := ih (at_ + k) (acc ++ [s.extract at_ (at_ + k)]) (by omega) (by rw [List.length_append]; simp; omega)
    refine ⟨r, Ev.step (fun q => ?_) h1, Ev.step (fun q => ?_) h2, h3⟩
    · have hne : ¬ (s.extract at_ s.size).toList = [] := by
        rw [← List.length_eq_zero_iff, ByteArray.toList_eq, ← ba_size]
        rw [ex_size _ _ _ (Nat.le_refl _)]; omega
      have es := ex_size s at_ s.size (Nat.le_refl _)
      rw [octet_Split.l0, if_neg hne, if_pos (by omega), if_pos (by omega), if_pos (by omega), Int.toNat_natCast, ex_front s at_ k (by omega), ex_back]
    · have e1 : wrap64 ((at_ : Int) + (k : Int)) = ((at_ + k : Nat) : Int) := by rw [w64 _ (by omega)]; omega
      rw [chainmanref02_Split.l0, if_pos (by omega), if_pos (by omega), e1, if_pos (by omega), if_pos (by omega), if_pos (by omega), Int.toNat_natCast, Int.toNat_natCast]
theorem split_both (s : ByteArray) (k : Int) (hs : s.size ≤ 1000) : ∃ r, Ev (fun q => octet_Split.f q s k) r ∧ Ev (fun q => chainmanref02_Split.f q s k) r ∧ r.1.length ≤ 2000 := by
  by_cases h1 : k < 1
  · refine ⟨([], false), Ev.congr (f := fun q => octet_Split.j0 q s k true) (fun q => by unfold octet_Split.f; rw [if_pos h1]) (Ev.step (f := fun _ => some ([], false)) (fun q => ?_) (Ev.now _)), Ev.congr (f := fun q => chainmanref02_Split.j0 q s k true) (fun q => by unfold chainmanref02_Split.f; rw [if_pos h1]) (Ev.step (f := fun _ => some ([], false)) (fun q => ?_) (Ev.now _)), by simp⟩
    · rw [octet_Split.j0, if_pos rfl]
    · rw [chainmanref02_Split.j0, if_pos rfl]
  obtain ⟨n, rfl⟩ := Int.eq_ofNat_of_zero_le (show 0 ≤ k by omega)
  have hn : 1 ≤ n := by omega
  have hc : ((s.size : Int) % (n : Int)) = ((s.size % n : Nat) : Int) := rfl
  have c1 : ∀ q, octet_Split.f q s (n : Int) = octet_Split.j0 q s (n : Int) (decide ((s.size % n : Nat) > 0)) := fun q => by
    unfold octet_Split.f
    rw [if_neg h1, if_neg (by omega), hc]
    congr 1
    exact decide_eq_decide.mpr (by omega)
  have c2 : ∀ q, chainmanref02_Split.f q s (n : Int) = chainmanref02_Split.j0 q s (n : Int) (decide ((s.size % n : Nat) > 0)) := fun q => by
    unfold chainmanref02_Split.f
    rw [if_neg h1, if_neg (by omega), hc]
    congr 1
    rw [Bool.eq_iff_iff, bne_iff_ne, decide_eq_true_iff]
    omega
  by_cases hm : s.size % n = 0
  · have hd : decide (s.size % n > 0) = false := decide_eq_false (by omega)
    have he : s.size / n * n = s.size := Nat.div_mul_cancel (Nat.dvd_of_mod_eq_zero hm)
    have hle : s.size / n ≤ 1000 := Nat.le_trans (Nat.div_le_self _ _) hs
    obtain ⟨r, h2, h3, h4⟩ := pieces s n hn hs (s.size / n) 0 [] (by omega) (by simp; omega)
    have e0 : s.extract 0 s.size = s := ba_ext (by rw [ex_data, List.drop_zero, ba_size, List.take_length])
    rw [e0] at h2
    refine ⟨(r, true), Ev.congr c1 (Ev.step (fun q => ?_) h2), Ev.congr c2 (Ev.step (fun q => ?_) h3), h4⟩
    · rw [hd, octet_Split.j0, if_neg (by decide)]
    · rw [hd, chainmanref02_Split.j0, if_neg (by decide)]; rfl
  · have hd : decide (s.size % n > 0) = true := decide_eq_true (by omega)
    refine ⟨([], false), Ev.congr c1 (Ev.step (f := fun _ => some ([], false)) (fun q => ?_) (Ev.now _)), Ev.congr c2 (Ev.step (f := fun _ => some ([], false)) (fun q => ?_) (Ev.now _)), by simp⟩
    · rw [hd, octet_Split.j0, if_pos rfl]
    · rw [hd, chainmanref02_Split.j0, if_pos rfl]

end Oc

/-! ### blocks of records -/
def catL (l : List ByteArray) : List UInt8 := (l.map (·.data.toList)).flatten
theorem catL_cons (x : ByteArray) (l : List ByteArray) : catL (x :: l) = x.data.toList ++ catL l := by simp [catL]
theorem catL_le (l : List ByteArray) (m : Nat) (h : ∀ x ∈ l, x.size ≤ m) : (catL l).length ≤ l.length * m := by
  induction l with
  | nil => simp [catL]
  | cons x l ih =>
    have h1 := h x (by simp)
    have h2 := ih (fun y hy => h y (by simp [hy]))
    rw [catL_cons, List.length_append, List.length_cons, Nat.add_mul, ← Cr.ba_size]; omega
theorem catL_len (l : List ByteArray) (m : Nat) (h : ∀ x ∈ l, x.size = m) : (catL l).length = l.length * m := by
  induction l with
  | nil => simp [catL]
  | cons x l ih =>
    have h1 := h x (by simp)
    have h2 := ih (fun y hy => h y (by simp [hy]))
    rw [catL_cons, List.length_append, List.length_cons, Nat.add_mul, ← Cr.ba_size]; omega
theorem join_all (l : List ByteArray) : strings_Join.all l ⟨#[]⟩ = catL l := by
  unfold strings_Join.all catL
  cases l with
  | nil => rfl
  | cons x l =>
    rw [List.map_cons, Lib.join_cons, List.flatten_cons]
    congr 1
    unfold Lib.joinTail
    congr 1
    exact (List.map_congr_left (fun y _ => List.nil_append y)).trans (List.map_id _)
theorem head_bv (n : Nat) (h1 : 1 ≤ n) (h : n ≤ 4) : (frame_Put.head n).data.toList = [UInt8.ofNat n] := by
  rcases (by omega : n = 1 ∨ n = 2 ∨ n = 3 ∨ n = 4) with rfl | rfl | rfl | rfl <;> rfl
def good (a0 : Int) (l : List ByteArray) : Prop := (1 ≤ a0 ∧ a0 ≤ 64) ∧ (1 ≤ l.length ∧ l.length ≤ 4) ∧ ∀ x ∈ l, (x.size : Int) = a0
def block (l : List ByteArray) : List UInt8 := Cr.closeB (UInt8.ofNat l.length :: catL l)
open Classical in
noncomputable def putF (a0 : Int) (l : List ByteArray) : ByteArray × Bool := if good a0 l then (⟨(block l).toArray⟩, true) else (⟨#[]⟩, false)
theorem any_all (a0 : Int) (l : List ByteArray) : (l.any (fun r => (r.size : Int) != a0) = false) ↔ ∀ x ∈ l, (x.size : Int) = a0 := by
  rw [List.any_eq_false]
  constructor
  · intro h x hx; have := h x hx; simpa using this
  · intro h x hx; have := h x hx; simpa using this
theorem frame_put (a0 : Int) (l : List ByteArray) (hl : l.length ≤ 10) (hs : ∀ x ∈ l, x.size ≤ 80) : frame_Put.f a0 l = some (putF a0 l) := by
  have hc := catL_le l 80 hs
  have hz : frame_sized.f a0 = some (decide (1 ≤ a0 ∧ a0 ≤ 64)) := by
    unfold frame_sized.f
    by_cases h : a0 ≥ 1
    · rw [if_pos h]; exact congrArg some (decide_eq_decide.mpr (by omega))
    · rw [if_neg h]; exact congrArg some (Eq.symm (decide_eq_false (by omega)))
  have hj : strings_Join.f l ⟨#[]⟩ = some ⟨(catL l).toArray⟩ := by
    unfold strings_Join.f; rw [join_all, if_pos ⟨by omega, by omega⟩]
  unfold frame_Put.f putF
  rw [hz, Option.bind_some]
  by_cases hg : good a0 l
  · obtain ⟨g1, g2, g3⟩ := hg
    have hcl : (⟨(catL l).toArray⟩ : ByteArray).size = (catL l).length := by rw [Cr.ba_size]
    have hhs : (frame_Put.head l.length).size = 1 := by rw [Cr.ba_size, head_bv _ g2.1 g2.2]; rfl
    rw [if_pos ⟨decide_eq_true g1, by omega, g2.2, (any_all a0 l).mpr g3⟩, hj, Option.bind_some, if_pos (by rw [hcl, hhs]; omega), if_pos (show good a0 l from ⟨g1, g2, g3⟩)]
    obtain ⟨c, c1, c2⟩ := Cr.close_bv (frame_Put.head l.length ++ ⟨(catL l).toArray⟩) (by rw [Cr.ba_size, Cr.ba_append, List.length_append, ← Cr.ba_size, ← Cr.ba_size, hhs, hcl]; omega)
    rw [c1, Option.bind_some]
    refine congrArg some (Prod.ext (Cr.ba_ext ?_) rfl)
    rw [c2, Cr.ba_append, head_bv _ g2.1 g2.2]
    rfl
  · rw [if_neg ?_, if_neg hg]; rfl
    rintro ⟨h1, h2, h3, h4⟩
    exact hg ⟨of_decide_eq_true h1, ⟨by omega, h3⟩, (any_all a0 l).mp h4⟩
theorem rd_nat (l : List ByteArray) (i : Nat) (h : i < l.length) : rdOf ByteArray.empty l (i : Int) = l[i] := by
  unfold rdOf
  rw [Int.toNat_natCast, List.getD_eq_getElem?_getD, List.getElem?_eq_getElem h]; rfl
theorem wsucc (i : Nat) (h : i < 1000000) : wrap64 ((i : Int) + 1) = ((i + 1 : Nat) : Int) := by unfold wrap64; omega
def allB (a0 : Int) (l : List ByteArray) : Bool := l.all (fun x => (x.size : Int) == a0)
theorem allB_iff (a0 : Int) (l : List ByteArray) : allB a0 l = true ↔ ∀ x ∈ l, (x.size : Int) = a0 := by
  unfold allB; rw [List.all_eq_true]; simp
theorem all_ev (a0 : Int) (l : List ByteArray) (hl : l.length ≤ 10) : ∀ (d i : Nat), i + d = l.length → Ev (fun k => chainmanref05_All.l0 k a0 l (i : Int)) (allB a0 (l.drop i)) := by
  intro d
  induction d with
  | zero =>
    intro i hi
    refine Ev.step (f := fun _ => some true) (fun q => ?_) ?_
    · rw [chainmanref05_All.l0, if_neg (by omega)]
    · rw [List.drop_of_length_le (by omega)]; exact Ev.now _
  | succ d ih =>
    intro i hi
    have hlt : i < l.length := by omega
    have hB : allB a0 (l.drop i) = (((l[i].size : Int) == a0) && allB a0 (l.drop (i + 1))) := by rw [List.drop_eq_getElem_cons hlt]; rfl
    rw [hB]
    by_cases h : (l[i].size : Int) = a0
    · rw [show ((l[i].size : Int) == a0) = true by simpa using h, Bool.true_and]
      refine Ev.step (fun q => ?_) (ih (i + 1) (by omega))
      rw [chainmanref05_All.l0, if_pos (by omega), if_pos (by omega), rd_nat l i hlt, if_pos h, wsucc i (by omega)]
    · rw [show ((l[i].size : Int) == a0) = false by simpa using h, Bool.false_and]
      refine Ev.step (f := fun _ => some false) (fun q => ?_) (Ev.now _)
      rw [chainmanref05_All.l0, if_pos (by omega), if_pos (by omega), rd_nat l i hlt, if_neg h]
theorem refput_loop (l : List ByteArray) (hl : l.length ≤ 10) (hs : ∀ x ∈ l, x.size ≤ 80) : ∀ (d i : Nat) (acc : ByteArray), i + d = l.length → acc.size ≤ 1 + 80 * i →
    Ev (fun k => chainmanref05_Put.l0 k l acc (i : Int)) (⟨(Cr.closeB (acc.data.toList ++ catL (l.drop i))).toArray⟩, true) := by
  intro d
  induction d with
  | zero =>
    intro i acc hi ha
    rw [List.drop_of_length_le (by omega), show catL [] = [] from rfl, List.append_nil]
    have hsz : acc.size ≤ 1000 := by omega
    have he : Ev (fun k => chainmanref03_Close.f k acc) (⟨(Cr.closeB acc.data.toList).toArray⟩) := ⟨10 * acc.size + 1, fun k hk => by
      obtain ⟨c, c1, c2⟩ := Cr.refclose_bv acc (by omega) k hk
      exact c1.trans (congrArg some (Cr.ba_ext c2))⟩
    refine Ev.step (fun q => ?_) (Ev.bind he (f := fun _ t => some (t, true)) (Ev.now _))
    rw [chainmanref05_Put.l0, if_neg (by omega)]
  | succ d ih =>
    intro i acc hi ha
    have hlt : i < l.length := by omega
    have hx : l[i].size ≤ 80 := hs _ (List.getElem_mem hlt)
    have := ih (i + 1) (acc ++ l[i]) (by omega) (by rw [Cr.ba_size, Cr.ba_append, List.length_append, ← Cr.ba_size, ← Cr.ba_size]; omega)
    rw [show acc.data.toList ++ catL (l.drop i) = (acc ++ l[i]).data.toList ++ catL (l.drop (i + 1)) by rw [List.drop_eq_getElem_cons hlt, catL_cons, Cr.ba_append, List.append_assoc]]
    refine Ev.step (fun q => ?_) this
    rw [chainmanref05_Put.l0, if_pos (by omega), if_pos (by omega), rd_nat l i hlt, if_pos (by omega), wsucc i (by omega)]
theorem frame_refput (a0 : Int) (l : List ByteArray) (hl : l.length ≤ 10) (hs : ∀ x ∈ l, x.size ≤ 80) : Ev (fun k => chainmanref05_Put.f k a0 l) (putF a0 l) := by
  have no : ∀ b : Bool, b = true → Ev (fun k => chainmanref05_Put.j0 k l b) ((⟨#[]⟩ : ByteArray), false) := fun b hb =>
    Ev.step (f := fun _ => some ((⟨#[]⟩ : ByteArray), false)) (fun q => by rw [chainmanref05_Put.j0, if_pos hb]) (Ev.now _)
  unfold putF
  by_cases h1 : a0 < 1
  · rw [if_neg (by rintro ⟨h, _⟩; omega)]
    exact Ev.congr (fun k => by unfold chainmanref05_Put.f; rw [if_pos h1]) (no true rfl)
  by_cases h2 : a0 > 64
  · rw [if_neg (by rintro ⟨h, _⟩; omega)]
    exact Ev.congr (fun k => by unfold chainmanref05_Put.f; rw [if_neg h1, if_pos h2]) (no true rfl)
  by_cases h3 : (l.length : Int) < 1
  · rw [if_neg (by rintro ⟨_, h, _⟩; omega)]
    exact Ev.congr (fun k => by unfold chainmanref05_Put.f; rw [if_neg h1, if_neg h2, if_pos h3]) (no true rfl)
  by_cases h4 : (l.length : Int) > 4
  · rw [if_neg (by rintro ⟨_, h, _⟩; omega)]
    exact Ev.congr (fun k => by unfold chainmanref05_Put.f; rw [if_neg h1, if_neg h2, if_neg h3, if_pos h4]) (no true rfl)
  refine Ev.congr (fun k => by unfold chainmanref05_Put.f; rw [if_neg h1, if_neg h2, if_neg h3, if_neg h4]) ?_
  have ha := all_ev a0 l hl l.length 0 (by omega)
  rw [List.drop_zero] at ha
  refine Ev.bind (g := fun k => chainmanref05_All.f k a0 l) (f := fun k t => chainmanref05_Put.j0 k l (!t)) ha ?_
  by_cases h5 : ∀ x ∈ l, (x.size : Int) = a0
  · rw [(allB_iff a0 l).mpr h5, if_pos ⟨by omega, by omega, h5⟩]
    have := refput_loop l hl hs l.length 0 (strOfNums [(l.length : Int) % 256]) (by omega) (by have : (strOfNums [(l.length : Int) % 256]).size = 1 := strOfNums_size _; omega)
    rw [List.drop_zero, show (strOfNums [(l.length : Int) % 256]).data.toList = [UInt8.ofNat l.length] by rw [strOfNums_data, List.map_singleton]; congr 2; omega] at this
    exact Ev.step (fun q => by rw [chainmanref05_Put.j0, if_neg (by decide)]; rfl) this
  · rw [show allB a0 l = false by rw [Bool.eq_false_iff]; intro h; exact h5 ((allB_iff a0 l).mp h), if_neg (by rintro ⟨_, _, h⟩; exact h5 h)]
    exact no _ rfl
/-! ### numbers' bytes, told back -/
theorem numN_inj (l : List UInt8) : ∀ m : List UInt8, l.length = m.length → Oc.numN l = Oc.numN m → l = m := by
  refine Oc.snoc_ind (fun l => ∀ m : List UInt8, l.length = m.length → Oc.numN l = Oc.numN m → l = m) ?_ ?_ l
  · intro m h _; exact (List.eq_nil_of_length_eq_zero h.symm).symm
  · intro l c ih m hl hn
    rcases List.eq_nil_or_concat m with rfl | ⟨m', d, rfl⟩
    · simp at hl
    · rw [List.concat_eq_append] at hl hn ⊢
      rw [Oc.numN_snoc, Oc.numN_snoc] at hn
      have hc := c.toNat_lt; have hd := d.toNat_lt
      have e1 := ih m' (by simpa using hl) (by omega)
      have e2 : c = d := UInt8.toNat.inj (by omega)
      rw [e1, e2]
def beU (n k : Nat) : List UInt8 := (Oc.beN n k).map fun x => UInt8.ofNat x.toNat
theorem beU_data (n k : Nat) : (strOfNums (Oc.beN n k)).data.toList = beU n k := strOfNums_data _
theorem beU_len (n k : Nat) : (beU n k).length = k := by unfold beU; rw [List.length_map, Oc.beN_len]
theorem beU_succ (n k : Nat) : beU n (k + 1) = UInt8.ofNat (n / 256 ^ k % 256) :: beU n k := by
  unfold beU; rw [Oc.beN_succ, List.map_cons, Int.toNat_natCast]
/-- what comes back: the number's last k bytes -/
theorem numN_from (l : List UInt8) : ∀ a : Nat, l.foldl (fun n c => n * 256 + c.toNat) a = a * 256 ^ l.length + Oc.numN l := by
  induction l with
  | nil => intro a; simp [Oc.numN]
  | cons c l ih =>
    intro a
    have h1 : (c :: l).foldl (fun n c => n * 256 + c.toNat) a = l.foldl (fun n c => n * 256 + c.toNat) (a * 256 + c.toNat) := rfl
    have h2 : Oc.numN (c :: l) = l.foldl (fun n c => n * 256 + c.toNat) (0 * 256 + c.toNat) := rfl
    rw [h1, ih, h2, ih, List.length_cons, Nat.pow_succ, Nat.add_mul, Nat.zero_mul, Nat.zero_add, Nat.mul_assoc, Nat.mul_comm 256, Nat.add_assoc]
theorem numN_cons (c : UInt8) (l : List UInt8) : Oc.numN (c :: l) = c.toNat * 256 ^ l.length + Oc.numN l := by
  have h := numN_from l (0 * 256 + c.toNat)
  rw [Nat.zero_mul, Nat.zero_add] at h
  have h2 : Oc.numN (c :: l) = l.foldl (fun n c => n * 256 + c.toNat) (0 * 256 + c.toNat) := rfl
  rw [h2, Nat.zero_mul, Nat.zero_add]
  exact h
theorem numN_beU (n : Nat) : ∀ k, Oc.numN (beU n k) = n % 256 ^ k := by
  intro k
  induction k with
  | zero => show 0 = n % 1; rw [Nat.mod_one]
  | succ k ih =>
    have hb : (UInt8.ofNat (n / 256 ^ k % 256)).toNat = n / 256 ^ k % 256 := by
      rw [UInt8.toNat_ofNat']
      exact Nat.mod_mod_of_dvd _ (by decide)
    rw [beU_succ, numN_cons, ih, beU_len, hb, Nat.pow_succ, Nat.mod_mul, Nat.mul_comm (256 ^ k)]
    exact Nat.add_comm _ _

/-! ### ends -/
theorem putB_ok (n k : Nat) (hk : 1 ≤ k) (hk8 : k ≤ 8) (hn : n < 256 ^ k) : Oc.putB (n : Int) (k : Int) = (strOfNums (Oc.beN n k), true) := by
  unfold Oc.putB; rw [if_neg (by omega), Int.toNat_natCast, Int.toNat_natCast, if_pos hn]
def endL (n c : Nat) : List UInt8 := 0 :: (beU n 8 ++ beU c 4)
theorem end_data (n c : Nat) : ((((⟨#[0]⟩ : ByteArray) ++ strOfNums (Oc.beN n 8)) ++ strOfNums (Oc.beN c 4))).data.toList = endL n c := by
  rw [Cr.ba_append, Cr.ba_append, beU_data, beU_data]; rfl
theorem end_size (n c : Nat) : ((((⟨#[0]⟩ : ByteArray) ++ strOfNums (Oc.beN n 8)) ++ strOfNums (Oc.beN c 4))).size = 13 := by
  rw [Cr.ba_size, end_data]; unfold endL; rw [List.length_cons, List.length_append, beU_len, beU_len]
theorem be_size (n k : Nat) : (strOfNums (Oc.beN n k)).size = k := (strOfNums_size _).trans (Oc.beN_len _ _)
def endF (n : Int) (c : Nat) : ByteArray × Bool := if 0 ≤ n ∧ n ≤ 4611686018427387904 then (⟨(Cr.closeB (endL n.toNat c)).toArray⟩, true) else (⟨#[]⟩, false)
theorem frame_end (n : Int) (c : Nat) (hn : n < 9223372036854775808) (hn' : -9223372036854775808 ≤ n) (hc : c < 4294967296) : frame_PutEnd.f n (c : Int) = some (endF n c) := by
  have hw : wrap64 (c : Int) = (c : Int) := by unfold wrap64; omega
  unfold frame_PutEnd.f endF
  rw [hw, Oc.put_bv n 8 hn, Oc.put_bv (c : Int) 4 (by omega), Option.bind_some, Option.bind_some, show Oc.putB (c : Int) 4 = (strOfNums (Oc.beN c 4), true) from putB_ok c 4 (by decide) (by decide) (by omega)]
  by_cases h0 : n < 0
  · rw [show Oc.putB n 8 = (⟨#[]⟩, false) by unfold Oc.putB; rw [if_pos (.inl h0)]]
    simp only [Bool.false_eq_true, if_false]
    rw [if_neg (by omega)]
  · obtain ⟨m, rfl⟩ := Int.eq_ofNat_of_zero_le (show 0 ≤ n by omega)
    rw [show Oc.putB (m : Int) 8 = (strOfNums (Oc.beN m 8), true) from putB_ok m 8 (by decide) (by decide) (by omega)]
    simp only [if_true]
    by_cases h1 : (m : Int) > 4611686018427387904
    · rw [if_pos h1, if_neg (by omega)]
    · have hs := be_size m 8
      have hs4 := be_size c 4
      have hz : ((⟨#[0]⟩ : ByteArray) ++ strOfNums (Oc.beN m 8)).size = 9 := by rw [ByteArray.size_append, hs]; rfl
      rw [if_neg h1, if_pos (by omega), if_pos (by omega)]
      obtain ⟨t, t1, t2⟩ := Cr.close_bv (((⟨#[0]⟩ : ByteArray) ++ strOfNums (Oc.beN m 8)) ++ strOfNums (Oc.beN c 4)) (by rw [end_size]; omega)
      rw [t1, Option.bind_some, if_pos (by omega), Int.toNat_natCast]
      exact congrArg some (Prod.ext (Cr.ba_ext (t2.trans (by rw [end_data]))) rfl)
theorem frame_refend (n : Int) (c : Nat) (hn : n < 9223372036854775808) (hn' : -9223372036854775808 ≤ n) (hc : c < 4294967296) : Ev (fun k => chainmanref05_PutEnd.f k n (c : Int)) (endF n c) := by
  have hw : wrap64 (c : Int) = (c : Int) := by unfold wrap64; omega
  have no : ∀ b : Bool, b = true → Ev (fun k => chainmanref05_PutEnd.j0 k b n (c : Int)) ((⟨#[]⟩ : ByteArray), false) := fun b hb =>
    Ev.step (f := fun _ => some ((⟨#[]⟩ : ByteArray), false)) (fun q => by rw [chainmanref05_PutEnd.j0, if_pos hb]) (Ev.now _)
  unfold endF
  by_cases h0 : n < 0
  · rw [if_neg (by omega)]
    exact Ev.congr (fun k => by unfold chainmanref05_PutEnd.f; rw [if_pos h0]) (no true rfl)
  by_cases h1 : n > 4611686018427387904
  · rw [if_neg (by omega)]
    exact Ev.congr (fun k => by unfold chainmanref05_PutEnd.f; rw [if_neg h0]) (no _ (decide_eq_true h1))
  obtain ⟨m, rfl⟩ := Int.eq_ofNat_of_zero_le (show 0 ≤ n by omega)
  rw [if_pos (by omega)]
  refine Ev.congr (fun k => by unfold chainmanref05_PutEnd.f; rw [if_neg h0, decide_eq_false h1]) ?_
  refine Ev.step (fun k => by rw [chainmanref05_PutEnd.j0, if_neg (by decide)]) ?_
  have must : ∀ (x k' : Nat), 1 ≤ k' → k' ≤ 8 → x < 256 ^ k' → x < 9223372036854775808 → Ev (fun k => chainmanref02_Must.f k (x : Int) (k' : Int)) (strOfNums (Oc.beN x k')) := fun x k' a1 a2 a3 a4 => ⟨20, fun k hk => by
    show chainmanref02_Must.f k (x : Int) (k' : Int) = _
    unfold chainmanref02_Must.f
    rw [Oc.refput_bv _ _ k hk (by omega), Option.bind_some, putB_ok x k' a1 a2 a3]⟩
  have hs := be_size m 8
  have hs4 := be_size c 4
  have hz : ((⟨#[0]⟩ : ByteArray) ++ strOfNums (Oc.beN m 8)).size = 9 := by rw [ByteArray.size_append, hs]; rfl
  refine Ev.bind (must m 8 (by decide) (by decide) (by omega) (by omega)) ?_
  refine Ev.congr (fun k => by rw [if_pos (by omega), hw]) ?_
  refine Ev.bind (must c 4 (by decide) (by decide) (by omega) (by omega)) ?_
  refine Ev.congr (fun k => by rw [if_pos (by omega)]) ?_
  refine Ev.bind (g := fun k => chainmanref03_Close.f k _) (a := (⟨(Cr.closeB (endL m c)).toArray⟩ : ByteArray)) ⟨1000, fun k hk => ?_⟩ (Ev.now _)
  obtain ⟨t, t1, t2⟩ := Cr.refclose_bv (((⟨#[0]⟩ : ByteArray) ++ strOfNums (Oc.beN m 8)) ++ strOfNums (Oc.beN c 4)) (by rw [end_size]; omega) k (by rw [end_size]; omega)
  exact t1.trans (congrArg some (Cr.ba_ext (t2.trans (by rw [end_data]))))
theorem bt_head (s : ByteArray) (c : UInt8) (L : List UInt8) (h : s.data.toList = c :: L) : bt s 0 = (c.toNat : Int) := by
  have := Oc.bt_nat s 0 (by rw [h]; simp)
  rw [show ((0 : Nat) : Int) = 0 from rfl] at this
  rw [this]; congr 2; simp [h]
theorem openB_some {l t : List UInt8} (h : Cr.openB l = some t) : 4 ≤ l.length ∧ t = l.take (l.length - 4) ∧ Cr.closeB t = l := by
  unfold Cr.openB at h
  split at h
  · cases h
  · split at h
    · rename_i h1 h2; obtain rfl := Option.some.inj h; exact ⟨by omega, rfl, h2⟩
    · cases h
theorem openB_none {l t : List UInt8} (h : Cr.openB l = none) : Cr.closeB t ≠ l := by
  intro e
  subst e
  unfold Cr.openB at h
  rw [if_neg (by rw [Cr.closeB_len]; omega), if_pos (by rw [Cr.closeB_len, Nat.add_sub_cancel]; unfold Cr.closeB; rw [List.take_left])] at h
  cases h
/-- What is behind an end's bytes, by the program. -/
def getE (L : List UInt8) : Int × Int × Bool :=
  if L.length = 17 ∧ L.getD 0 0 = 0 ∧ (Cr.openB L).isSome = true ∧ Oc.numN ((L.drop 1).take 8) ≤ 4611686018427387904 then ((Oc.numN ((L.drop 1).take 8) : Int), (Oc.numN ((L.drop 9).take 4) : Int), true) else (0, 0, false)
theorem num4 (L : List UInt8) (k : Nat) (h : L.length ≤ k) : Oc.numN L < 256 ^ k := Nat.lt_of_lt_of_le (Oc.numN_lt L) (Nat.pow_le_pow_right (by decide) h)
theorem take_len (L : List UInt8) (p k : Nat) (h : p + k ≤ L.length) : ((L.drop p).take k).length = k := by rw [List.length_take, List.length_drop]; omega
theorem frame_getend (s : ByteArray) (hs : s.size ≤ 100000) : Ev (fun k => frame_GetEnd.f k s) (getE s.data.toList) := by
  have no : ∀ b : Bool, b = true → Ev (fun k => frame_GetEnd.j0 k s b) ((0 : Int), (0 : Int), false) := fun b hb =>
    Ev.step (f := fun _ => some (0, 0, false)) (fun q => by rw [frame_GetEnd.j0, if_pos hb]) (Ev.now _)
  have hL := Cr.ba_size s
  unfold getE
  by_cases h1 : (s.size : Int) = 17
  case neg =>
    rw [if_neg (by rintro ⟨h, _⟩; omega)]
    exact Ev.congr (fun k => by unfold frame_GetEnd.f; rw [if_neg h1]) (no true rfl)
  obtain ⟨c, M, hM⟩ : ∃ c M, s.data.toList = c :: M := by
    cases h : s.data.toList with
    | nil => rw [h, List.length_nil] at hL; omega
    | cons c M => exact ⟨c, M, rfl⟩
  have hb := bt_head s c M hM
  have hc0 : (s.data.toList.getD 0 0 = 0) ↔ c = 0 := by rw [hM]; exact Iff.rfl
  refine Ev.congr (fun k => by unfold frame_GetEnd.f; rw [if_pos h1, if_pos (by omega), hb]) ?_
  by_cases h2 : c = 0
  case neg =>
    rw [if_neg (by rintro ⟨_, h, _⟩; exact h2 (hc0.mp h))]
    have : c.toNat ≠ 0 := fun h => h2 (UInt8.toNat.inj h)
    exact no _ (decide_eq_true (by omega))
  have hz : decide ((c.toNat : Int) > 0) = false := by subst h2; rfl
  rw [hz]
  refine Ev.step (f := fun _ => some _) (fun k => ?_) (Ev.now _)
  rw [frame_GetEnd.j0, if_neg (by decide), Cr.open_bv s (by omega)]
  cases ho : Cr.openB s.data.toList with
  | none => simp
  | some t =>
    obtain ⟨_, ht, _⟩ := openB_some ho
    have htl : t.length = 13 := by rw [ht, List.length_take]; omega
    have hts : (⟨t.toArray⟩ : ByteArray).size = 13 := by rw [Cr.ba_size]; exact htl
    have g1 := Oc.get_bv (⟨t.toArray⟩ : ByteArray) 1 8 (by omega) (by decide)
    have g2 := Oc.get_bv (⟨t.toArray⟩ : ByteArray) 9 4 (by omega) (by decide)
    have e1 : (t.drop 1).take 8 = (s.data.toList.drop 1).take 8 := by rw [ht, List.drop_take, List.take_take]; congr 1; omega
    have e2 : (t.drop 9).take 4 = (s.data.toList.drop 9).take 4 := by rw [ht, List.drop_take, List.take_take]; congr 1; omega
    have b2 : Oc.numN ((s.data.toList.drop 9).take 4) < 4294967296 := num4 _ 4 (by rw [List.length_take]; omega)
    unfold Oc.getB at g1 g2
    rw [if_neg (by omega)] at g1 g2
    rw [show ((9 : Int).toNat) = 9 from rfl, show ((4 : Int).toNat) = 4 from rfl, show (⟨t.toArray⟩ : ByteArray).data.toList = t from rfl, e2, if_pos (by omega)] at g2
    rw [show ((1 : Int).toNat) = 1 from rfl, show ((8 : Int).toNat) = 8 from rfl, show (⟨t.toArray⟩ : ByteArray).data.toList = t from rfl, e1] at g1
    simp only [Option.bind_some, if_true]
    rw [g1, g2]
    simp only [Option.bind_some, if_true]
    by_cases h3 : Oc.numN ((s.data.toList.drop 1).take 8) < 9223372036854775808
    · rw [if_pos h3]
      simp only [if_true]
      by_cases h4 : Oc.numN ((s.data.toList.drop 1).take 8) ≤ 4611686018427387904
      · rw [if_neg (by omega), if_pos ⟨by omega, hc0.mpr h2, rfl, h4⟩]
        congr 3
        omega
      · rw [if_pos (by omega), if_neg (by rintro ⟨_, _, _, h⟩; exact h4 h)]
    · rw [if_neg h3]
      simp only [Bool.false_eq_true, if_false]
      rw [if_neg (by rintro ⟨_, _, _, h⟩; omega)]
theorem beU_num (l : List UInt8) : beU (Oc.numN l) l.length = l := by
  refine numN_inj _ _ (beU_len _ _) ?_
  rw [numN_beU, Nat.mod_eq_of_lt (Oc.numN_lt l)]
theorem take_drop_cat (L : List UInt8) (p k : Nat) : (L.drop p).take k ++ L.drop (p + k) = L.drop p := by
  rw [← List.drop_drop]; exact List.take_append_drop k (L.drop p)
theorem endL_take (L : List UInt8) (h : L.length = 17) (h0 : L.getD 0 0 = 0) : endL (Oc.numN ((L.drop 1).take 8)) (Oc.numN ((L.drop 9).take 4)) = L.take 13 := by
  obtain ⟨c, M, rfl⟩ : ∃ c M, L = c :: M := by
    cases L with
    | nil => simp at h
    | cons c M => exact ⟨c, M, rfl⟩
  have hc : c = 0 := h0
  subst hc
  have hM : M.length = 16 := by simpa using h
  unfold endL
  rw [List.drop_succ_cons, List.drop_zero, show (9 : Nat) = 8 + 1 from rfl, List.drop_succ_cons, show (13 : Nat) = 12 + 1 from rfl, List.take_succ_cons]
  congr 1
  have a1 := beU_num (M.take 8)
  have a2 := beU_num ((M.drop 8).take 4)
  rw [List.length_take, show min 8 M.length = 8 by omega] at a1
  rw [List.length_take, List.length_drop, show min 4 (M.length - 8) = 4 by omega] at a2
  rw [a1, a2, show (12 : Nat) = 8 + 4 from rfl, List.take_add]
theorem frame_refgetend (s : ByteArray) (hs : s.size ≤ 100000) : Ev (fun k => chainmanref05_GetEnd.f k s) (getE s.data.toList) := by
  have no : ∀ b : Bool, b = true → Ev (fun k => chainmanref05_GetEnd.j0 k s b) ((0 : Int), (0 : Int), false) := fun b hb =>
    Ev.step (f := fun _ => some (0, 0, false)) (fun q => by rw [chainmanref05_GetEnd.j0, if_pos hb]) (Ev.now _)
  have hL := Cr.ba_size s
  have hno : ¬ (s.data.toList.length = 17 ∧ s.data.toList.getD 0 0 = 0 ∧ (Cr.openB s.data.toList).isSome = true ∧ Oc.numN ((s.data.toList.drop 1).take 8) ≤ 4611686018427387904) → getE s.data.toList = (0, 0, false) := fun h => if_neg h
  have hyes : (s.data.toList.length = 17 ∧ s.data.toList.getD 0 0 = 0 ∧ (Cr.openB s.data.toList).isSome = true ∧ Oc.numN ((s.data.toList.drop 1).take 8) ≤ 4611686018427387904) → getE s.data.toList = ((Oc.numN ((s.data.toList.drop 1).take 8) : Int), (Oc.numN ((s.data.toList.drop 9).take 4) : Int), true) := fun h => if_pos h
  by_cases h1 : (s.size : Int) = 17
  case neg =>
    rw [hno (by rintro ⟨h, _⟩; omega)]
    exact Ev.congr (fun k => by unfold chainmanref05_GetEnd.f; rw [if_neg h1]) (no true rfl)
  obtain ⟨c, M, hM⟩ : ∃ c M, s.data.toList = c :: M := by
    cases h : s.data.toList with
    | nil => rw [h, List.length_nil] at hL; omega
    | cons c M => exact ⟨c, M, rfl⟩
  have hb := bt_head s c M hM
  have hc0 : (s.data.toList.getD 0 0 = 0) ↔ c = 0 := by rw [hM]; exact Iff.rfl
  refine Ev.congr (fun k => by unfold chainmanref05_GetEnd.f; rw [if_pos h1, if_pos (by omega), hb]) ?_
  by_cases h2 : c = 0
  case neg =>
    rw [hno (by rintro ⟨_, h, _⟩; exact h2 (hc0.mp h))]
    have : c.toNat ≠ 0 := fun h => h2 (UInt8.toNat.inj h)
    exact no _ (by rw [bne_iff_ne]; omega)
  have hz : ((c.toNat : Int) != 0) = false := by subst h2; rfl
  rw [hz]
  refine Ev.step (fun k => by rw [chainmanref05_GetEnd.j0, if_neg (by decide)]) ?_
  have g1 : Ev (fun k => chainmanref02_Get.f k s 1 8) (Oc.getB s 1 8) := ⟨20, fun k hk => Oc.refget_bv s 1 8 (by omega) (by decide) k hk⟩
  have g2 : Ev (fun k => chainmanref02_Get.f k s 9 4) (Oc.getB s 9 4) := ⟨20, fun k hk => Oc.refget_bv s 9 4 (by omega) (by decide) k hk⟩
  have b2 : Oc.numN ((s.data.toList.drop 9).take 4) < 4294967296 := num4 _ 4 (by rw [List.length_take]; omega)
  have q1 : Oc.getB s 1 8 = if Oc.numN ((s.data.toList.drop 1).take 8) < 9223372036854775808 then ((Oc.numN ((s.data.toList.drop 1).take 8) : Int), true) else (0, false) := by
    unfold Oc.getB; rw [if_neg (by omega)]; rfl
  have q2 : Oc.getB s 9 4 = ((Oc.numN ((s.data.toList.drop 9).take 4) : Int), true) := by
    unfold Oc.getB; rw [if_neg (by omega)]; exact if_pos (show Oc.numN ((s.data.toList.drop 9).take 4) < 9223372036854775808 by omega)
  refine Ev.bind g1 (Ev.bind g2 ?_)
  rw [q1, q2]
  have hm : ((Oc.numN ((s.data.toList.drop 9).take 4) : Int)) % 4294967296 = (Oc.numN ((s.data.toList.drop 9).take 4) : Int) := by omega
  simp only [hm]
  generalize hN : Oc.numN ((s.data.toList.drop 1).take 8) = n at hno hyes ⊢
  generalize hC : Oc.numN ((s.data.toList.drop 9).take 4) = m at b2 hyes ⊢
  by_cases h3 : n < 9223372036854775808
  case neg =>
    rw [if_neg h3, hno (by rintro ⟨_, _, _, h⟩; omega)]
    refine Ev.bind (frame_refend 0 m (by omega) (by omega) b2) ?_
    exact Ev.congr (fun k => by simp) (Ev.now _)
  rw [if_pos h3]
  refine Ev.bind (frame_refend (n : Int) m (by omega) (by omega) b2) ?_
  unfold endF
  by_cases h4 : n ≤ 4611686018427387904
  case neg =>
    rw [if_neg (show ¬ (0 ≤ (n : Int) ∧ (n : Int) ≤ 4611686018427387904) by omega), hno (by rintro ⟨_, _, _, h⟩; omega)]
    exact Ev.congr (fun k => by simp) (Ev.now _)
  rw [if_pos (show 0 ≤ (n : Int) ∧ (n : Int) ≤ 4611686018427387904 by omega), Int.toNat_natCast]
  have he := endL_take s.data.toList (by omega) (hc0.mpr h2)
  rw [hN, hC] at he
  rw [he]
  have hto : (⟨(Cr.closeB (s.data.toList.take 13)).toArray⟩ : ByteArray).toList = s.toList ↔ Cr.closeB (s.data.toList.take 13) = s.data.toList := by
    rw [ByteArray.toList_eq, ByteArray.toList_eq]
  by_cases h5 : Cr.closeB (s.data.toList.take 13) = s.data.toList
  · have ho : (Cr.openB s.data.toList).isSome = true := by
      unfold Cr.openB
      rw [if_neg (by omega), show s.data.toList.length - 4 = 13 by omega, if_pos h5]; rfl
    rw [hyes ⟨by omega, hc0.mpr h2, ho, h4⟩]
    exact Ev.congr (fun k => by simp only [if_true]; rw [if_pos (hto.mpr h5)]) (Ev.now _)
  · have ho : ¬ (Cr.openB s.data.toList).isSome = true := by
      unfold Cr.openB
      rw [if_neg (by omega), show s.data.toList.length - 4 = 13 by omega, if_neg h5]; simp
    rw [hno (by rintro ⟨_, _, h, _⟩; exact ho h)]
    exact Ev.congr (fun k => by simp only [if_true]; rw [if_neg (fun h => h5 (hto.mp h))]) (Ev.now _)
/-! ### blocks read -/
theorem split_exact (s : ByteArray) (k d : Nat) (hk : 1 ≤ k) (hs : s.size = d * k) (hm : s.size ≤ 1000) : ∃ r, Ev (fun q => octet_Split.f q s (k : Int)) (r, true) ∧ Ev (fun q => chainmanref02_Split.f q s (k : Int)) (r, true) ∧ r.length ≤ 2000 := by
  have hd : d ≤ 1000 := Nat.le_trans (Nat.le_mul_of_pos_right d hk) (by omega)
  obtain ⟨r, h2, h3, h4⟩ := Oc.pieces s k hk hm d 0 [] (by omega) (by simp; omega)
  have e0 : s.extract 0 s.size = s := Cr.ba_ext (by rw [Oc.ex_data, List.drop_zero, Cr.ba_size, List.take_length])
  rw [e0] at h2
  have hz : s.size % k = 0 := by rw [hs, Nat.mul_mod_left]
  have hz' : ((s.size : Int) % (k : Int)) = 0 := by rw [← Int.natCast_emod, hz]; rfl
  refine ⟨r, Ev.congr (f := fun q => octet_Split.j0 q s (k : Int) false) (fun q => ?_) (Ev.step (fun q => ?_) h2), Ev.congr (f := fun q => chainmanref02_Split.j0 q s (k : Int) false) (fun q => ?_) (Ev.step (fun q => ?_) h3), h4⟩
  · unfold octet_Split.f; rw [if_neg (by omega), if_neg (by omega), hz', decide_eq_false (by omega)]
  · rw [octet_Split.j0, if_neg (by decide)]
  · unfold chainmanref02_Split.f; rw [if_neg (by omega), if_neg (by omega), hz']; rfl
  · rw [chainmanref02_Split.j0, if_neg (by decide)]; rfl
theorem get_both (a0 : Int) (s : ByteArray) (hs : s.size ≤ 100000) : ∃ r, Ev (fun k => frame_Get.f k a0 s) r ∧ Ev (fun k => chainmanref05_Get.f k a0 s) r ∧ r.1.length ≤ 2000 := by
  have hL := Cr.ba_size s
  have no : ∀ b : Bool, b = true → Ev (fun k => frame_Get.j0 k a0 s b) (([] : List ByteArray), (0 : Int), false) := fun b hb =>
    Ev.step (f := fun _ => some ([], 0, false)) (fun q => by rw [frame_Get.j0, if_pos hb]) (Ev.now _)
  have no' : ∀ b : Bool, b = true → Ev (fun k => chainmanref05_Get.j0 k a0 s b) (([] : List ByteArray), (0 : Int), false) := fun b hb =>
    Ev.step (f := fun _ => some ([], 0, false)) (fun q => by rw [chainmanref05_Get.j0, if_pos hb]) (Ev.now _)
  have hz : frame_sized.f a0 = some (decide (1 ≤ a0 ∧ a0 ≤ 64)) := by
    unfold frame_sized.f
    by_cases h : a0 ≥ 1
    · rw [if_pos h]; exact congrArg some (decide_eq_decide.mpr (by omega))
    · rw [if_neg h]; exact congrArg some (Eq.symm (decide_eq_false (by omega)))
  by_cases h1 : 1 ≤ a0 ∧ a0 ≤ 64
  case neg =>
    refine ⟨_, Ev.congr (fun k => by unfold frame_Get.f; rw [hz, decide_eq_false h1, Option.bind_some, if_neg (by decide)]) (no true rfl), ?_, by simp⟩
    by_cases h2 : a0 < 1
    · exact Ev.congr (fun k => by unfold chainmanref05_Get.f; rw [if_pos h2]) (no' true rfl)
    · exact Ev.congr (fun k => by unfold chainmanref05_Get.f; rw [if_neg h2, if_pos (by omega)]) (no' true rfl)
  have p1 : ∀ k, frame_Get.f k a0 s = if s.toList = ([] : List UInt8) then frame_Get.j0 k a0 s true else if 0 < (s.size : Int) then (if bt s 0 = 0 then frame_Get.j0 k a0 s true else frame_Get.j0 k a0 s (decide (bt s 0 > 4))) else none := fun k => by
    unfold frame_Get.f; rw [hz, decide_eq_true h1, Option.bind_some, if_pos rfl]
  have p2 : ∀ k, chainmanref05_Get.f k a0 s = if (s.size : Int) < 1 then chainmanref05_Get.j0 k a0 s true else if 0 < (s.size : Int) then (if bt s 0 < 1 then chainmanref05_Get.j0 k a0 s true else chainmanref05_Get.j0 k a0 s (decide (bt s 0 > 4))) else none := fun k => by
    unfold chainmanref05_Get.f; rw [if_neg (by omega), if_neg (by omega)]
  cases hM : s.data.toList with
  | nil =>
    rw [hM, List.length_nil] at hL
    exact ⟨_, Ev.congr (fun k => by rw [p1, if_pos (by rw [ByteArray.toList_eq]; exact hM)]) (no true rfl), Ev.congr (fun k => by rw [p2, if_pos (by omega)]) (no' true rfl), by simp⟩
  | cons c M =>
    have hb := bt_head s c M hM
    have hlen : s.size = M.length + 1 := by rw [hL, hM]; rfl
    have q1 : ∀ k, frame_Get.f k a0 s = if bt s 0 = 0 then frame_Get.j0 k a0 s true else frame_Get.j0 k a0 s (decide (bt s 0 > 4)) := fun k => by
      rw [p1, if_neg (by rw [ByteArray.toList_eq, hM]; simp), if_pos (by omega)]
    have q2 : ∀ k, chainmanref05_Get.f k a0 s = if bt s 0 < 1 then chainmanref05_Get.j0 k a0 s true else chainmanref05_Get.j0 k a0 s (decide (bt s 0 > 4)) := fun k => by
      rw [p2, if_neg (by omega), if_pos (by omega)]
    by_cases h2 : c.toNat = 0
    · exact ⟨_, Ev.congr (fun k => by rw [q1, if_pos (by omega)]) (no true rfl), Ev.congr (fun k => by rw [q2, if_pos (by omega)]) (no' true rfl), by simp⟩
    by_cases h3 : 4 < c.toNat
    · exact ⟨_, Ev.congr (fun k => by rw [q1, if_neg (by omega)]) (no _ (decide_eq_true (by omega))), Ev.congr (fun k => by rw [q2, if_neg (by omega)]) (no' _ (decide_eq_true (by omega))), by simp⟩
    have b1 : ¬ (bt s 0 = 0) := by omega
    have b2 : ¬ (bt s 0 < 1) := by omega
    have b3 : ¬ (bt s 0 > 4) := by omega
    have r1 : Ev (fun k => frame_Get.f k a0 s) = Ev (fun k => frame_Get.j0 k a0 s false) := by
      congr 1; funext k; rw [q1, if_neg b1, decide_eq_false b3]
    have r2 : Ev (fun k => chainmanref05_Get.f k a0 s) = Ev (fun k => chainmanref05_Get.j0 k a0 s false) := by
      congr 1; funext k; rw [q2, if_neg b2, decide_eq_false b3]
    clear q1 q2 p1 p2 b1 b2 b3
    obtain ⟨a, rfl⟩ := Int.eq_ofNat_of_zero_le (show 0 ≤ a0 by omega)
    have hca : c.toNat * a ≤ 256 := Nat.le_trans (Nat.mul_le_mul (show c.toNat ≤ 4 by omega) (show a ≤ 64 by omega)) (by decide)
    have hpos : 0 < (s.size : Int) := by omega
    have wd : wrap64 ((wrap64 (1 + (wrap64 ((wrap64 (bt s 0)) * (a : Int))))) + 4) = ((1 + c.toNat * a + 4 : Nat) : Int) := by
      have w1 : wrap64 ((c.toNat : Int)) = (c.toNat : Int) := by unfold wrap64; omega
      rw [hb, w1, ← Int.natCast_mul]
      clear w1 r1 r2 hz hb
      generalize c.toNat * a = d at hca
      have e1 : wrap64 (d : Int) = (d : Int) := by unfold wrap64; omega
      rw [e1]
      clear e1
      have e2 : wrap64 (1 + (d : Int)) = 1 + (d : Int) := by unfold wrap64; omega
      rw [e2]
      clear e2
      have e3 : wrap64 (1 + (d : Int) + 4) = 1 + (d : Int) + 4 := by unfold wrap64; omega
      rw [e3]
      clear e3
      omega
    have k1 : ∀ k, frame_Get.j0 (k + 1) (a : Int) s false = (if ((1 + c.toNat * a + 4 : Nat) : Int) > (s.size : Int) then (some (([] : List ByteArray), 0, false)) else (if 0 ≤ ((1 + c.toNat * a + 4 : Nat) : Int) then (if ((1 + c.toNat * a + 4 : Nat) : Int) ≤ (s.size : Int) then ((crc_Open.f (s.extract 0 (((1 + c.toNat * a + 4 : Nat) : Int) : Int).toNat)).bind fun bt127 => (if bt127.2 = true then (if 1 ≤ (bt127.1.size : Int) then ((octet_Split.f k (bt127.1.extract 1 bt127.1.size) (a : Int)).bind fun bt129 => (some (bt129.1, ((1 + c.toNat * a + 4 : Nat) : Int), bt129.2))) else (none)) else (some (([] : List ByteArray), 0, false)))) else (none)) else (none))) := fun k => by
      rw [frame_Get.j0, if_neg (by decide), if_pos hpos]
      unfold frame_length.f
      rw [wd, Option.bind_some]
    have k2 : ∀ k, chainmanref05_Get.j0 (k + 1) (a : Int) s false = (if (s.size : Int) < ((1 + c.toNat * a + 4 : Nat) : Int) then (some (([] : List ByteArray), 0, false)) else (if 0 ≤ ((1 + c.toNat * a + 4 : Nat) : Int) then (if ((1 + c.toNat * a + 4 : Nat) : Int) ≤ (s.size : Int) then ((chainmanref03_Open.f k (s.extract 0 (((1 + c.toNat * a + 4 : Nat) : Int) : Int).toNat)).bind fun bt158 => (if bt158.2 = true then (if 1 ≤ (bt158.1.size : Int) then ((chainmanref02_Split.f k (bt158.1.extract 1 bt158.1.size) (a : Int)).bind fun bt160 => (some (bt160.1, ((1 + c.toNat * a + 4 : Nat) : Int), true))) else (none)) else (some (([] : List ByteArray), 0, false)))) else (none)) else (none))) := fun k => by
      rw [chainmanref05_Get.j0, if_neg (by decide), if_pos hpos, wd]
    rw [r1, r2]
    clear r1 r2 wd hb hz
    generalize hca' : c.toNat * a = d at *
    by_cases h4 : s.size < 1 + d + 4
    · refine ⟨([], 0, false), Ev.step (f := fun _ => some ([], 0, false)) (fun k => ?_) (Ev.now _), Ev.step (f := fun _ => some ([], 0, false)) (fun k => ?_) (Ev.now _), by simp⟩
      · rw [k1, if_pos (by omega)]
      · rw [k2, if_pos (by omega)]
    have hx : (s.extract 0 (1 + d + 4)).size = 1 + d + 4 := by rw [Oc.ex_size _ _ _ (by omega)]; omega
    have c1 : ∀ k, frame_Get.j0 (k + 1) (a : Int) s false = (crc_Open.f (s.extract 0 (1 + d + 4))).bind fun bt127 => (if bt127.2 = true then (if 1 ≤ (bt127.1.size : Int) then ((octet_Split.f k (bt127.1.extract 1 bt127.1.size) (a : Int)).bind fun bt129 => (some (bt129.1, ((1 + d + 4 : Nat) : Int), bt129.2))) else (none)) else (some (([] : List ByteArray), 0, false))) := fun k => by
      rw [k1, if_neg (by omega), if_pos (by omega), if_pos (by omega), Int.toNat_natCast]
    have c2 : ∀ k, chainmanref05_Get.j0 (k + 1) (a : Int) s false = (chainmanref03_Open.f k (s.extract 0 (1 + d + 4))).bind fun bt158 => (if bt158.2 = true then (if 1 ≤ (bt158.1.size : Int) then ((chainmanref02_Split.f k (bt158.1.extract 1 bt158.1.size) (a : Int)).bind fun bt160 => (some (bt160.1, ((1 + d + 4 : Nat) : Int), true))) else (none)) else (some (([] : List ByteArray), 0, false))) := fun k => by
      rw [k2, if_neg (by omega), if_pos (by omega), if_pos (by omega), Int.toNat_natCast]
    clear k1 k2
    have o1 := Cr.open_bv (s.extract 0 (1 + d + 4)) (by omega)
    have o2 : Ev (fun k => chainmanref03_Open.f k (s.extract 0 (1 + d + 4))) _ := ⟨4000, fun k hk => Cr.refopen_bv (s.extract 0 (1 + d + 4)) (by omega) k (by omega)⟩
    cases ho : Cr.openB (s.extract 0 (1 + d + 4)).data.toList with
    | none =>
      rw [ho] at o1 o2
      refine ⟨([], 0, false), Ev.step (f := fun _ => some ([], 0, false)) (fun k => ?_) (Ev.now _), Ev.step c2 (Ev.bind o2 (Ev.congr (fun k => if_neg (by simp)) (Ev.now _))), by simp⟩
      rw [c1, o1]; simp
    | some t =>
      rw [ho] at o1 o2
      obtain ⟨_, ht, _⟩ := openB_some ho
      have htl : t.length = 1 + d := by rw [ht, List.length_take, ← Cr.ba_size, hx]; omega
      have hts : (⟨t.toArray⟩ : ByteArray).size = 1 + d := by rw [Cr.ba_size]; exact htl
      obtain ⟨r, s1, s2, s3⟩ := split_exact ((⟨t.toArray⟩ : ByteArray).extract 1 (⟨t.toArray⟩ : ByteArray).size) a c.toNat (by omega) (by rw [Oc.ex_size _ _ _ (Nat.le_refl _), hts]; omega) (by rw [Oc.ex_size _ _ _ (Nat.le_refl _), hts]; omega)
      refine ⟨(r, ((1 + d + 4 : Nat) : Int), true), Ev.step (f := fun k => (octet_Split.f k ((⟨t.toArray⟩ : ByteArray).extract 1 (⟨t.toArray⟩ : ByteArray).size) (a : Int)).bind fun bt129 => (some (bt129.1, ((1 + d + 4 : Nat) : Int), bt129.2))) (fun k => ?_) (Ev.bind s1 (Ev.now _)), Ev.step c2 (Ev.bind o2 (Ev.congr (fun k => by rw [if_pos rfl, if_pos (by rw [hts]; omega)]) (Ev.bind s2 (Ev.now _)))), s3⟩
      rw [c1, o1, Option.bind_some, if_pos rfl, if_pos (by rw [hts]; omega)]
theorem same_loop (l : List ByteArray) (hl : l.length ≤ 2000) : ∀ (d i : Nat), i + d = l.length → Ev (fun q => chainmanref04_SameNames.l0 q l l (i : Int)) true := by
  intro d
  induction d with
  | zero =>
    intro i hi
    refine Ev.step (f := fun _ => some true) (fun q => ?_) (Ev.now _)
    rw [chainmanref04_SameNames.l0, if_neg (by omega)]
  | succ d ih =>
    intro i hi
    refine Ev.step (fun q => ?_) (ih (i + 1) (by omega))
    rw [chainmanref04_SameNames.l0, if_pos (by omega), if_pos (by omega), if_pos (by omega), if_pos rfl, wsucc i (by omega)]
theorem same_ev (l : List ByteArray) (hl : l.length ≤ 2000) : Ev (fun q => chainmanref04_SameNames.f q l l) true := by
  refine Ev.congr (fun q => ?_) (same_loop l hl l.length 0 (by omega))
  unfold chainmanref04_SameNames.f
  rw [if_pos rfl]; rfl
theorem few_ev (l : List ByteArray) : ∀ d i : Nat, i + d = 10 → (∀ x ∈ l.take i, x.size ≤ 80) → ∃ b, Ev (fun k => chainmanlaw05_few.l0 k l (i : Int)) b ∧ (b = true → l.length ≤ 10 ∧ ∀ x ∈ l, x.size ≤ 80) := by
  intro d
  induction d with
  | zero =>
    intro i hi h
    refine ⟨decide ((l.length : Int) ≤ 10), ?_, ?_⟩
    · refine Ev.step (f := fun k => chainmanlaw05_few.j1 k l (i : Int) false) (fun k => ?_) (Ev.step (f := fun _ => some _) (fun k => by rw [chainmanlaw05_few.j1, if_neg (by decide)]) (Ev.now _))
      rw [chainmanlaw05_few.l0]
      split
      · rw [decide_eq_false (by omega)]
      · rfl
    · intro hb
      have := of_decide_eq_true hb
      exact ⟨by omega, fun x hx => h x (by rw [List.take_of_length_le (by omega)]; exact hx)⟩
  | succ d ih =>
    intro i hi h
    by_cases hlt : i < l.length
    · by_cases hs : l[i].size ≤ 80
      · obtain ⟨b, hb, hb'⟩ := ih (i + 1) (by omega) (by
          intro x hx
          rw [List.take_add_one, List.getElem?_eq_getElem hlt, Option.toList_some, List.mem_append, List.mem_singleton] at hx
          rcases hx with hx | rfl
          · exact h x hx
          · exact hs)
        refine ⟨b, Ev.step (f := fun k => chainmanlaw05_few.j1 k l (i : Int) true) (fun k => ?_) (Ev.step (fun k => ?_) hb), hb'⟩
        · rw [chainmanlaw05_few.l0, if_pos (by omega), decide_eq_true (by omega)]
        · rw [chainmanlaw05_few.j1, if_pos rfl, if_pos (by omega), if_pos (by omega), rd_nat l i hlt, if_neg (by omega), wsucc i (by omega)]
      · refine ⟨false, Ev.step (f := fun k => chainmanlaw05_few.j1 k l (i : Int) true) (fun k => ?_) (Ev.step (f := fun _ => some false) (fun k => ?_) (Ev.now _)), by simp⟩
        · rw [chainmanlaw05_few.l0, if_pos (by omega), decide_eq_true (by omega)]
        · rw [chainmanlaw05_few.j1, if_pos rfl, if_pos (by omega), if_pos (by omega), rd_nat l i hlt, if_pos (by omega)]
    · refine ⟨decide ((l.length : Int) ≤ 10), Ev.step (f := fun k => chainmanlaw05_few.j1 k l (i : Int) false) (fun k => ?_) (Ev.step (f := fun _ => some _) (fun k => by rw [chainmanlaw05_few.j1, if_neg (by decide)]) (Ev.now _)), ?_⟩
      · rw [chainmanlaw05_few.l0, if_neg (by omega)]
      · intro hb
        have := of_decide_eq_true hb
        exact ⟨by omega, fun x hx => h x (by rw [List.take_of_length_le (by omega)]; exact hx)⟩
theorem few_all (l : List ByteArray) : ∃ b, Ev (fun k => chainmanlaw05_few.f k l) b ∧ (b = true → l.length ≤ 10 ∧ ∀ x ∈ l, x.size ≤ 80) := few_ev l 10 0 rfl (by simp)
theorem awake_k : chainmanlaw05_awake.f = some true := by decide +kernel

theorem FrameTells : chainmanlaw05_FrameTells.Pure := by
  intro a0 l s n c' w0 wl ws wn wc
  have hc' : 0 ≤ c' ∧ c' ≤ 4294967295 := by simpa [Lit.wf, IntKind.min, IntKind.max, IntKind.signed, IntKind.bits] using wc
  have hn : -9223372036854775808 ≤ n ∧ n ≤ 9223372036854775807 := by simpa [Lit.wf, IntKind.min, IntKind.max, IntKind.signed, IntKind.bits] using wn
  obtain ⟨c, rfl⟩ := Int.eq_ofNat_of_zero_le hc'.1
  refine Ev.rounds ?_
  have no : ∀ b : Bool, b = true → Ev (fun k => chainmanlaw05_FrameTells.j0 k a0 l s b n (c : Int)) true := fun b hb =>
    Ev.step (f := fun _ => some true) (fun q => by rw [chainmanlaw05_FrameTells.j0, if_pos hb, awake_k, Option.bind_some]) (Ev.now _)
  obtain ⟨b, hb, hb'⟩ := few_all l
  refine Ev.bind hb ?_
  cases b with
  | false => exact Ev.congr (fun k => by rw [if_neg (by decide)]) (no true rfl)
  | true =>
    obtain ⟨hl, hsz⟩ := hb' rfl
    refine Ev.congr (fun k => by rw [if_pos rfl]) ?_
    by_cases h4 : (s.size : Int) > 400
    · exact no _ (decide_eq_true h4)
    rw [decide_eq_false h4]
    refine Ev.step (fun k => by rw [chainmanlaw05_FrameTells.j0, if_neg (by decide)]) ?_
    refine Ev.congr (fun k => by rw [frame_put a0 l hl hsz, Option.bind_some]) ?_
    refine Ev.bind (frame_refput a0 l hl hsz) ?_
    obtain ⟨g, g1, g2, g3⟩ := get_both a0 s (by omega)
    refine Ev.bind g1 (Ev.bind g2 ?_)
    refine Ev.congr (fun k => by rw [frame_end n c (by omega) (by omega) (by omega), Option.bind_some]) ?_
    refine Ev.bind (frame_refend n c (by omega) (by omega) (by omega)) ?_
    refine Ev.bind (frame_getend s (by omega)) (Ev.bind (frame_refgetend s (by omega)) ?_)
    obtain ⟨r, r1, r2⟩ : ∃ r, frame_Room.f a0 = some r ∧ chainmanref05_Room.f a0 = some r := by
      have w0' : -9223372036854775808 ≤ a0 ∧ a0 ≤ 9223372036854775807 := by simpa [Lit.wf, IntKind.min, IntKind.max, IntKind.signed, IntKind.bits] using w0
      unfold frame_Room.f chainmanref05_Room.f frame_sized.f frame_length.f
      by_cases q1 : a0 < 1
      · rw [if_pos q1, if_neg (by omega)]; exact ⟨0, rfl, rfl⟩
      · rw [if_neg q1, if_pos (by omega), Option.bind_some]
        by_cases q2 : a0 > 64
        · rw [if_pos q2, if_neg (by simp; omega)]; exact ⟨0, rfl, rfl⟩
        · rw [if_neg q2, if_pos (by simp; omega)]; exact ⟨_, rfl, rfl⟩
    refine Ev.congr (fun k => by rw [r1, Option.bind_some, r2, Option.bind_some, if_pos rfl, if_pos rfl, if_pos (by simp)]) ?_
    refine Ev.bind (same_ev g.1 g3) ?_
    refine Ev.congr (f := fun _ => some true) (fun k => ?_) (Ev.now _)
    rw [if_pos rfl, if_pos rfl, if_pos (by simp), if_pos rfl, if_pos (by simp), if_pos (by simp), if_pos (by simp), awake_k, Option.bind_some]

end Go.Proofs.Ytmacpgkcokpgjaa.Pure
