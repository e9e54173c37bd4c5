/- The file of any records, how long it is, its head, and the records of any bytes, are the ones of the document, or there are none; for up to 30 records of up to 80 bytes, up to 800 bytes, and any numbers (the law RecfileTells, over bytes and numbers alone). -/
import Derived.Test.YtahkkgnicgbncaaPRecfileTellsx10
import Derived.Lib.Strings
namespace Go.Proofs.Ytahkkgnicgbncaa.Pure
open Go.RowKit Go.Proofs.Ytahkkgnicgbncaa.PRecfileTells Go.Proofs.YtahkkgnicgbncaaW.PrintWords Go.Proofs.YtahkkgnicgbncaaW.PrintLast
set_option linter.unusedVariables false
set_option linter.unusedSimpArgs false
/-! ### numbers of 32 bits as bit vectors -/
theorem u32_of (x : Int) (h : (Lit.int .u32 x).wf = true) : ∃ b : BitVec 32, x = (b.toNat : Int) := by
  have h' : 0 ≤ x ∧ x ≤ 4294967295 := by simpa [Lit.wf, IntKind.min, IntKind.max, IntKind.signed, IntKind.bits] using h
  refine ⟨BitVec.ofInt 32 x, ?_⟩
  rw [BitVec.toNat_ofInt]
  omega
theorem u32_self (c : BitVec 32) : BitVec.ofInt (IntKind.bits .u32) (c.toNat : Int) = c := by
  rw [BitVec.ofInt_natCast]; exact BitVec.ofNat_toNat ..
theorem u32_xor (a b : BitVec 32) : Go.bits .xor .u32 (a.toNat : Int) (b.toNat : Int) = ((a ^^^ b).toNat : Int) := by
  show IntKind.u32.wrap ((BitVec.ofInt (IntKind.bits .u32) (a.toNat : Int) ^^^ BitVec.ofInt (IntKind.bits .u32) (b.toNat : Int)).toNat : Int) = _
  rw [u32_self, u32_self, IntKind.wrap_u32]
  show (((a ^^^ b : BitVec 32).toNat : Int) % 4294967296) = _
  have := (a ^^^ b).isLt
  omega
theorem u32_div (a : BitVec 32) (k : Nat) (c : Int) (hc : c = ((2 ^ k : Nat) : Int)) : (a.toNat : Int) / c = ((a >>> k).toNat : Int) := by
  subst hc
  rw [BitVec.toNat_ushiftRight, Nat.shiftRight_eq_div_pow]
  omega
theorem u32_and_mask (x : Int) (h0 : 0 ≤ x) (m : Nat) (hm : m ≤ 32) : Go.bits .and .u32 x ((2 ^ m - 1 : Nat) : Int) = x % 4294967296 % ((2 ^ m : Nat) : Int) := by
  show IntKind.u32.wrap ((BitVec.ofInt 32 x &&& BitVec.ofInt 32 ((2 ^ m - 1 : Nat) : Int)).toNat : Int) = _
  have hp : 2 ^ m ≤ 2 ^ 32 := Nat.pow_le_pow_right (by decide) hm
  have h1 : 0 < 2 ^ m := Nat.two_pow_pos m
  rw [BitVec.toNat_and, BitVec.ofInt_natCast, BitVec.toNat_ofNat, Nat.mod_eq_of_lt (show 2 ^ m - 1 < 2 ^ 32 by omega), Nat.and_two_pow_sub_one_eq_mod, BitVec.toNat_ofInt, IntKind.wrap_u32]
  have h2 : ((x % ((2 ^ 32 : Nat) : Int)).toNat : Int) = x % 4294967296 := by omega
  have h3 := Nat.mod_lt (x % ((2 ^ 32 : Nat) : Int)).toNat h1
  rw [Int.emod_eq_of_lt (by omega) (by omega), Int.natCast_emod, h2]

namespace Cr
/-! ### the sum, as a function of bit vectors and bytes -/
def stepB (n : BitVec 32) : BitVec 32 := if n.getLsbD 0 then (n >>> 1) ^^^ 0xedb88320#32 else n >>> 1
def byteB (n : BitVec 32) (c : UInt8) : BitVec 32 := stepB (stepB (stepB (stepB (stepB (stepB (stepB (stepB (n ^^^ BitVec.ofNat 32 c.toNat))))))))
def feedB (n : BitVec 32) (l : List UInt8) : BitVec 32 := l.foldl byteB n
def moreB (n : BitVec 32) (l : List UInt8) : BitVec 32 := ~~~ feedB (~~~ n) l
theorem stepB_xor (a b : BitVec 32) : stepB (a ^^^ b) = stepB a ^^^ stepB b := by
  unfold stepB
  rw [BitVec.getLsbD_xor]
  apply BitVec.eq_of_getLsbD_eq
  intro i hi
  cases ha : a.getLsbD 0 <;> cases hb : b.getLsbD 0 <;> simp [BitVec.ushiftRight_xor_distrib] <;>
    cases a.getLsbD (1 + i) <;> cases b.getLsbD (1 + i) <;> cases (0xedb88320#32).getLsbD i <;> rfl
theorem stepB_zero : stepB 0#32 = 0#32 := by decide
theorem stepB_even (n : BitVec 32) (h : n.getLsbD 0 = false) : stepB n = n >>> 1 := by unfold stepB; rw [h]; rfl
/-- four steps of a number whose four low bits are 0 -/
theorem step4_high (n : BitVec 32) (h : ∀ i, i < 4 → n.getLsbD i = false) : stepB (stepB (stepB (stepB n))) = n >>> 4 := by
  have e (m : Nat) (hm : m < 4) : stepB (n >>> m) = n >>> (m + 1) := by
    rw [stepB_even _ (by rw [BitVec.getLsbD_ushiftRight]; exact h m hm), ← BitVec.shiftRight_add]
  have e0 : stepB n = n >>> 1 := stepB_even n (h 0 (by decide))
  rw [e0, e 1 (by decide), e 2 (by decide), e 3 (by decide)]
/-- what four steps make of a half byte -/
def nibT (i : Nat) : BitVec 32 := #[0x00000000#32, 0x1db71064#32, 0x3b6e20c8#32, 0x26d930ac#32, 0x76dc4190#32, 0x6b6b51f4#32, 0x4db26158#32, 0x5005713c#32, 0xedb88320#32, 0xf00f9344#32, 0xd6d6a3e8#32, 0xcb61b38c#32, 0x9b64c2b0#32, 0x86d3d2d4#32, 0xa00ae278#32, 0xbdbdf21c#32].getD i 0#32
theorem step4_low : ∀ i : Fin 16, stepB (stepB (stepB (stepB (BitVec.ofNat 32 i.val)))) = nibT i.val := by decide
theorem step4 (n : BitVec 32) : stepB (stepB (stepB (stepB n))) = (n >>> 4) ^^^ nibT (n.toNat % 16) := by
  have hs : n = (n &&& ~~~ 15#32) ^^^ (n &&& 15#32) := by
    apply BitVec.eq_of_getLsbD_eq
    intro i hi
    simp only [BitVec.getLsbD_xor, BitVec.getLsbD_and, BitVec.getLsbD_not]
    cases n.getLsbD i <;> cases (15#32).getLsbD i <;> simp [hi]
  have hl : n &&& 15#32 = BitVec.ofNat 32 (n.toNat % 16) := by
    apply BitVec.eq_of_toNat_eq
    rw [BitVec.toNat_and, BitVec.toNat_ofNat, BitVec.toNat_ofNat, show (15 % 2 ^ 32) = 2 ^ 4 - 1 from by decide, Nat.and_two_pow_sub_one_eq_mod]
    omega
  have hh : ∀ i, i < 4 → (n &&& ~~~ 15#32).getLsbD i = false := by
    intro i hi
    rw [BitVec.getLsbD_and, BitVec.getLsbD_not]
    have : (15#32).getLsbD i = true := by
      have h4 : i = 0 ∨ i = 1 ∨ i = 2 ∨ i = 3 := by omega
      rcases h4 with rfl | rfl | rfl | rfl <;> decide
    rw [this]; simp
  have hg : (n &&& ~~~ 15#32) >>> 4 = n >>> 4 := by
    apply BitVec.eq_of_getLsbD_eq
    intro i hi
    simp only [BitVec.getLsbD_ushiftRight, BitVec.getLsbD_and, BitVec.getLsbD_not]
    have : (15#32).getLsbD (4 + i) = false := by
      have e : (15#32) = BitVec.ofNat 32 15 := rfl
      rw [e, BitVec.getLsbD_ofNat]
      have : Nat.testBit 15 (4 + i) = false := Nat.testBit_lt_two_pow (Nat.lt_of_lt_of_le (by decide : 15 < 2 ^ 4) (Nat.pow_le_pow_right (by decide) (by omega)))
      rw [this]; simp
    rw [this]
    by_cases h : 4 + i < 32
    · simp [h]
    · rw [BitVec.getLsbD_of_ge _ _ (by omega)]; simp
  conv => lhs; rw [hs]
  simp only [stepB_xor]
  rw [step4_high _ hh, hg, hl]
  congr 1
  exact step4_low ⟨n.toNat % 16, Nat.mod_lt _ (by decide)⟩

/-! ### the program's sum is the function of bit vectors -/
theorem nib_tab : ∀ i : Fin 16, crc_nibble.tab.getD i.val 0 = ((nibT i.val).toNat : Int) := by decide
theorem half_bv (n : BitVec 32) : crc_More.half (n.toNat : Int) = ((stepB (stepB (stepB (stepB n)))).toNat : Int) := by
  unfold crc_More.half
  have h16 : ((n.toNat : Int) % 16).toNat = n.toNat % 16 := by omega
  rw [h16, nib_tab ⟨n.toNat % 16, Nat.mod_lt _ (by decide)⟩, u32_div n 4 16 rfl, u32_xor, step4]
theorem byte_bv (n : BitVec 32) (c : UInt8) : crc_More.byte (n.toNat : Int) (c.toNat : Int) = ((byteB n c).toNat : Int) := by
  have hc : (c.toNat : Int) = ((BitVec.ofNat 32 c.toNat).toNat : Int) := by
    have := c.toNat_lt
    rw [BitVec.toNat_ofNat]; omega
  unfold crc_More.byte byteB
  rw [hc, u32_xor, half_bv, half_bv]
theorem feed_bv (l : List UInt8) : ∀ n : BitVec 32, crc_More.feed (n.toNat : Int) l = ((feedB n l).toNat : Int) := by
  induction l with
  | nil => intro n; rfl
  | cons c l ih =>
    intro n
    show crc_More.feed (crc_More.byte (n.toNat : Int) (c.toNat : Int)) l = _
    rw [byte_bv, ih]; rfl
theorem not_bv (n : BitVec 32) : Go.bits .xor .u32 4294967295 (n.toNat : Int) = ((~~~ n).toNat : Int) := by
  rw [show (4294967295 : Int) = ((BitVec.allOnes 32).toNat : Int) from by decide, u32_xor, BitVec.allOnes_xor]
theorem not_bv' (n : BitVec 32) : Go.bits .xor .u32 (n.toNat : Int) 4294967295 = ((~~~ n).toNat : Int) := by
  rw [show (4294967295 : Int) = ((BitVec.allOnes 32).toNat : Int) from by decide, u32_xor, BitVec.xor_allOnes]
theorem more_bv (n : BitVec 32) (s : ByteArray) (hs : s.size ≤ 9223372036854775807) : crc_More.f (n.toNat : Int) s = some ((moreB n s.data.toList).toNat : Int) := by
  unfold crc_More.f moreB
  rw [if_pos hs, not_bv, feed_bv, not_bv]
theorem of_bv (s : ByteArray) (hs : s.size ≤ 9223372036854775807) : crc_Of.f s = some ((moreB 0#32 s.data.toList).toNat : Int) := by
  unfold crc_Of.f
  rw [show (0 : Int) = ((0#32).toNat : Int) from rfl, more_bv _ s hs, Option.bind_some]
def tailB (n : BitVec 32) : List UInt8 := [UInt8.ofNat (n.toNat % 256), UInt8.ofNat (n.toNat / 256 % 256), UInt8.ofNat (n.toNat / 65536 % 256), UInt8.ofNat (n.toNat / 16777216 % 256)]
def closeB (l : List UInt8) : List UInt8 := l ++ tailB (moreB 0#32 l)
theorem ba_ext {s t : ByteArray} (h : s.data.toList = t.data.toList) : s = t := by
  cases s; cases t
  simp only [ByteArray.mk.injEq]
  exact Array.toList_inj.1 h
theorem ba_append (s t : ByteArray) : (s ++ t).data.toList = s.data.toList ++ t.data.toList := by
  rw [ByteArray.data_append, Array.toList_append]
theorem ba_size (s : ByteArray) : s.size = s.data.toList.length := by simp
theorem tail_nums (n : BitVec 32) : (strOfNums (crc_Close.tail (n.toNat : Int))).data.toList = tailB n := by
  rw [strOfNums_data]
  unfold crc_Close.tail tailB
  simp only [List.map_cons, List.map_nil]
  rw [show ((n.toNat : Int) % 256).toNat = n.toNat % 256 from by omega, show ((n.toNat : Int) / 256 % 256).toNat = n.toNat / 256 % 256 from by omega, show ((n.toNat : Int) / 65536 % 256).toNat = n.toNat / 65536 % 256 from by omega, show ((n.toNat : Int) / 16777216 % 256).toNat = n.toNat / 16777216 % 256 from by omega]
theorem close_bv (s : ByteArray) (hs : s.size ≤ 1000000000) : ∃ c, crc_Close.f s = some c ∧ c.data.toList = closeB s.data.toList := by
  refine ⟨s ++ strOfNums (crc_Close.tail ((moreB 0#32 s.data.toList).toNat : Int)), ?_, ?_⟩
  · unfold crc_Close.f
    rw [of_bv s (by omega), Option.bind_some, if_pos (Int.natCast_nonneg _), if_pos (by omega)]
  · rw [ba_append, tail_nums]; rfl
theorem closeB_len (l : List UInt8) : (closeB l).length = l.length + 4 := by simp [closeB, tailB]
theorem extract_take (s : ByteArray) (m : Nat) : (s.extract 0 m).data.toList = s.data.toList.take m := by
  rw [Lib.extract_data]; simp
/-- what is opened -/
def openB (l : List UInt8) : Option (List UInt8) := if l.length < 4 then none else if closeB (l.take (l.length - 4)) = l then some (l.take (l.length - 4)) else none
theorem open_bv (s : ByteArray) (hs : s.size ≤ 1000000000) : crc_Open.f s = some (match openB s.data.toList with | some t => (⟨t.toArray⟩, true) | none => (⟨#[]⟩, false)) := by
  have hl := ba_size s
  unfold crc_Open.f openB
  by_cases h4 : s.size < 4
  · rw [if_pos (show wrap64 ((s.size : Int) - 4) < 0 by unfold wrap64; omega), if_pos (by omega)]
  · have hw : wrap64 ((s.size : Int) - 4) = ((s.size - 4 : Nat) : Int) := by unfold wrap64; omega
    rw [hw, if_neg (by omega), if_pos (by omega), if_pos (by omega), Int.toNat_natCast, if_neg (by omega)]
    obtain ⟨c, h1, h2⟩ := close_bv (s.extract 0 (s.size - 4)) (by rw [ByteArray.size_extract]; omega)
    rw [h1, Option.bind_some, ByteArray.toList_eq, ByteArray.toList_eq, h2, extract_take, hl]
    by_cases e : closeB (s.data.toList.take (s.data.toList.length - 4)) = s.data.toList
    · rw [if_pos e, if_pos e]
      congr 2
      exact ba_ext (by rw [extract_take])
    · rw [if_neg e, if_neg e]

/-! ### turned bits: the sum as a function of the stream of bits -/
def bitB (b : Bool) : BitVec 32 := if b then 1#32 else 0#32
/-- the register behind p bits of a stream -/
def stB (n : BitVec 32) (f : Nat → Bool) : Nat → BitVec 32
  | 0 => n
  | p + 1 => stepB (stB n f p ^^^ bitB (f p))
def bitsOf (l : List UInt8) (p : Nat) : Bool := (l.getD (p / 8) 0).toNat.testBit (p % 8)
def iterB : Nat → BitVec 32 → BitVec 32
  | 0, n => n
  | d + 1, n => stepB (iterB d n)
theorem iterB_xor (d : Nat) (a b : BitVec 32) : iterB d (a ^^^ b) = iterB d a ^^^ iterB d b := by
  induction d with
  | zero => rfl
  | succ d ih => show stepB _ = _; rw [ih, stepB_xor]; rfl
theorem iterB_shift (d : Nat) (n : BitVec 32) (h : ∀ i, i < d → n.getLsbD i = false) : iterB d n = n >>> d := by
  induction d with
  | zero => simp [iterB]
  | succ d ih =>
    show stepB (iterB d n) = _
    rw [ih (fun i hi => h i (by omega)), stepB_even _ (by rw [BitVec.getLsbD_ushiftRight]; exact h d (by omega)), ← BitVec.shiftRight_add]
theorem bitB_bit (b : Bool) (j : Nat) : (bitB b).getLsbD j = (decide (j = 0) && b) := by
  unfold bitB
  cases b
  · simp
  · by_cases hj : j = 0
    · subst hj; decide
    · simp [hj]
theorem bit_shift (b : Bool) (d : Nat) (hd : d < 32) : iterB d (bitB b <<< d) = bitB b := by
  rw [iterB_shift d _ (fun i hi => by rw [BitVec.getLsbD_shiftLeft]; simp [hi])]
  apply BitVec.eq_of_getLsbD_eq
  intro i hi
  rw [BitVec.getLsbD_ushiftRight, BitVec.getLsbD_shiftLeft]
  by_cases h : d + i < 32
  · simp [h]
  · have h0 : ¬ i = 0 := by omega
    rw [bitB_bit, bitB_bit]
    simp [h, h0]
/-- d bits that are fed one by one, as one number (d at most 32) -/
def numB (f : Nat → Bool) : Nat → BitVec 32
  | 0 => 0#32
  | d + 1 => numB f d ^^^ (bitB (f d) <<< d)
theorem stB_num (n : BitVec 32) (f : Nat → Bool) (d : Nat) (hd : d ≤ 32) : stB n f d = iterB d (n ^^^ numB f d) := by
  induction d with
  | zero => simp [stB, iterB, numB]
  | succ d ih =>
    show stepB (stB n f d ^^^ bitB (f d)) = stepB (iterB d (n ^^^ (numB f d ^^^ (bitB (f d) <<< d))))
    rw [ih (by omega), ← BitVec.xor_assoc, iterB_xor d _ (bitB (f d) <<< d), bit_shift _ d (by omega)]
theorem numB_bit (f : Nat → Bool) (d : Nat) (hd : d ≤ 32) (i : Nat) : (numB f d).getLsbD i = (decide (i < d) && f i) := by
  induction d with
  | zero => simp [numB]
  | succ d ih =>
    show (numB f d ^^^ (bitB (f d) <<< d)).getLsbD i = _
    rw [BitVec.getLsbD_xor, ih (by omega), BitVec.getLsbD_shiftLeft]
    rw [bitB_bit]
    by_cases h1 : i < d
    · have h2 : i < d + 1 := by omega
      simp [h1, h2]
    · by_cases h3 : i = d
      · subst h3
        have : i < 32 := by omega
        simp [this]
      · have h4 : ¬ i < d + 1 := by omega
        have h5 : ¬ i - d = 0 := by omega
        simp [h1, h4, h5]
theorem stB_add (n : BitVec 32) (f : Nat → Bool) (p : Nat) : ∀ q, stB n f (p + q) = stB (stB n f p) (fun i => f (p + i)) q := by
  intro q
  induction q with
  | zero => rfl
  | succ q ih => show stepB (stB n f (p + q) ^^^ _) = stepB _; rw [ih]; rfl
theorem stB_congr (n : BitVec 32) (f g : Nat → Bool) : ∀ p, (∀ i, i < p → f i = g i) → stB n f p = stB n g p := by
  intro p
  induction p with
  | zero => intro _; rfl
  | succ p ih => intro h; show stepB _ = stepB _; rw [ih (fun i hi => h i (by omega)), h p (by omega)]
/-- a byte is its eight bits -/
theorem byte_bits (n : BitVec 32) (c : UInt8) : byteB n c = stB n (fun i => c.toNat.testBit i) 8 := by
  rw [stB_num _ _ 8 (by decide)]
  have hc := c.toNat_lt
  have : numB (fun i => c.toNat.testBit i) 8 = BitVec.ofNat 32 c.toNat := by
    apply BitVec.eq_of_getLsbD_eq
    intro i hi
    rw [numB_bit _ _ (by decide), BitVec.getLsbD_ofNat]
    by_cases h : i < 8
    · simp [h, hi]
    · have : c.toNat.testBit i = false := Nat.testBit_lt_two_pow (Nat.lt_of_lt_of_le hc (by rw [show (2 ^ 8 : Nat) = 2 ^ 8 from rfl]; exact Nat.pow_le_pow_right (by decide) (by omega)))
      simp [h, this]
  rw [this]; rfl
theorem feed_bits (l : List UInt8) : ∀ n, feedB n l = stB n (bitsOf l) (8 * l.length) := by
  induction l with
  | nil => intro n; rfl
  | cons c l ih =>
    intro n
    show feedB (byteB n c) l = _
    rw [ih, byte_bits, show 8 * (c :: l).length = 8 + 8 * l.length from by simp; omega, stB_add]
    have h1 : stB n (bitsOf (c :: l)) 8 = stB n (fun i => c.toNat.testBit i) 8 := stB_congr _ _ _ _ (fun i hi => by
      unfold bitsOf
      rw [Nat.div_eq_of_lt hi, Nat.mod_eq_of_lt hi]; rfl)
    rw [h1]
    refine stB_congr _ _ _ _ (fun i _ => ?_)
    unfold bitsOf
    rw [show (8 + i) / 8 = i / 8 + 1 from by omega, show (8 + i) % 8 = i % 8 from by omega]; rfl
/-- a step can be told again: what is 0 behind it was 0 -/
theorem stepB_inj (n : BitVec 32) (h : stepB n = 0#32) : n = 0#32 := by
  unfold stepB at h
  by_cases h0 : n.getLsbD 0 = true
  · rw [if_pos h0] at h
    have := congrArg (fun z : BitVec 32 => z.getLsbD 31) h
    simp only [BitVec.getLsbD_xor, BitVec.getLsbD_ushiftRight] at this
    rw [BitVec.getLsbD_of_ge n (1 + 31) (by omega)] at this
    rw [show (0xedb88320#32).getLsbD 31 = true from by decide, show (0#32).getLsbD 31 = false from by decide] at this
    cases this
  · rw [if_neg h0] at h
    apply BitVec.eq_of_getLsbD_eq
    intro i hi
    by_cases hi0 : i = 0
    · subst hi0; simp at h0; simp [h0]
    · have := congrArg (fun z : BitVec 32 => z.getLsbD (i - 1)) h
      simp only [BitVec.getLsbD_ushiftRight] at this
      rw [show 1 + (i - 1) = i from by omega] at this
      simpa using this
theorem iterB_inj (d : Nat) (n : BitVec 32) (h : iterB d n = 0#32) : n = 0#32 := by
  induction d with
  | zero => exact h
  | succ d ih => exact ih (stepB_inj _ h)
theorem iterB_zero (d : Nat) : iterB d 0#32 = 0#32 := by
  induction d with
  | zero => rfl
  | succ d ih => show stepB _ = _; rw [ih]; rfl
/-- two streams from one register: their difference goes by itself -/
theorem stB_diff (n : BitVec 32) (f g : Nat → Bool) : ∀ p, stB n f p ^^^ stB n g p = stB 0#32 (fun i => f i != g i) p := by
  intro p
  induction p with
  | zero => exact BitVec.xor_self
  | succ p ih =>
    show stepB _ ^^^ stepB _ = stepB _
    rw [← stepB_xor, ← ih]
    congr 1
    have hb : bitB (f p != g p) = bitB (f p) ^^^ bitB (g p) := by cases f p <;> cases g p <;> decide
    rw [hb]
    apply BitVec.eq_of_getLsbD_eq
    intro i _
    simp only [BitVec.getLsbD_xor]
    cases (stB n f p).getLsbD i <;> cases (stB n g p).getLsbD i <;> cases (bitB (f p)).getLsbD i <;> cases (bitB (g p)).getLsbD i <;> rfl
theorem stB_quiet (n : BitVec 32) (f : Nat → Bool) (d : Nat) (h : ∀ i, i < d → f i = false) : stB n f d = iterB d n := by
  induction d with
  | zero => rfl
  | succ d ih =>
    show stepB _ = stepB _
    rw [ih (fun i hi => h i (by omega)), h d (by omega)]
    simp [bitB]
/-- A BURST: what is turned lies within 32 bits from 'first' on; where something is, the registers part -/
theorem burst (e : Nat → Bool) (first total : Nat) (h : ∀ i, e i = true → first ≤ i ∧ i < first + 32) (hz : stB 0#32 e total = 0#32) : ∀ i, i < total → e i = false := by
  intro i hi
  by_cases hfi : first ≤ i
  · have hmt : ∃ m, m ≤ 32 ∧ first + m ≤ total ∧ (first + m = total ∨ m = 32) := by
      by_cases h32 : first + 32 ≤ total
      · exact ⟨32, by omega, h32, .inr rfl⟩
      · exact ⟨total - first, by omega, by omega, .inl (by omega)⟩
    obtain ⟨m, hm, hle, hor⟩ := hmt
    have h0 : stB 0#32 e first = 0#32 := by
      rw [stB_quiet _ _ _ (fun j hj => by
        cases he : e j with
        | false => rfl
        | true => have := (h j he).1; omega)]
      exact iterB_zero _
    have h1 : stB 0#32 e (first + m) = iterB m (numB (fun j => e (first + j)) m) := by
      rw [stB_add, h0, stB_num _ _ m hm]
      congr 1
      exact BitVec.zero_xor
    have h2 : stB 0#32 e total = iterB (total - (first + m)) (iterB m (numB (fun j => e (first + j)) m)) := by
      rw [← h1]
      conv => lhs; rw [show total = (first + m) + (total - (first + m)) from by omega]
      rw [stB_add]
      refine stB_quiet _ _ _ (fun j hj => ?_)
      cases he : e (first + m + j) with
      | false => rfl
      | true =>
        have := (h _ he).2
        rcases hor with hor | hor <;> omega
    rw [h2] at hz
    have h3 := iterB_inj _ _ (iterB_inj _ _ hz)
    by_cases hlt : i < first + m
    · have := congrArg (fun z : BitVec 32 => z.getLsbD (i - first)) h3
      simp only [numB_bit _ m hm] at this
      rw [show first + (i - first) = i from by omega] at this
      have hd : decide (i - first < m) = true := decide_eq_true (by omega)
      rw [hd] at this
      simpa using this
    · cases he : e i with
      | false => rfl
      | true =>
        have := (h _ he).2
        rcases hor with hor | hor <;> omega
  · cases he : e i with
    | false => rfl
    | true => have := (h i he).1; omega

/-! ### which bytes are closed ones -/
theorem tail_num (n : BitVec 32) : numB (bitsOf (tailB n)) 32 = n := by
  have hn := n.isLt
  apply BitVec.eq_of_getLsbD_eq
  intro i hi
  rw [numB_bit _ _ (by decide)]
  have hd : decide (i < 32) = true := decide_eq_true hi
  rw [hd, Bool.true_and]
  unfold bitsOf tailB BitVec.getLsbD
  have hb : ∀ x : Nat, (UInt8.ofNat (x % 256)).toNat = x % 256 := fun x => by rw [UInt8.toNat_ofNat']; omega
  have ht : ∀ (x j : Nat), j < 8 → (x % 256).testBit j = x.testBit j := fun x j hj => by
    rw [show (256 : Nat) = 2 ^ 8 from rfl, Nat.testBit_mod_two_pow]; simp [hj]
  have hs : ∀ (x s j : Nat), (x / 2 ^ s).testBit j = x.testBit (s + j) := fun x s j => by
    rw [← Nat.shiftRight_eq_div_pow, Nat.testBit_shiftRight]
  have h4 : i / 8 = 0 ∨ i / 8 = 1 ∨ i / 8 = 2 ∨ i / 8 = 3 := by omega
  rcases h4 with e | e | e | e <;> rw [e]
  · show (UInt8.ofNat (n.toNat % 256)).toNat.testBit (i % 8) = _
    rw [hb, ht _ _ (by omega), show i % 8 = i from by omega]
  · show (UInt8.ofNat (n.toNat / 256 % 256)).toNat.testBit (i % 8) = _
    rw [hb, ht _ _ (by omega), show (256 : Nat) = 2 ^ 8 from rfl, hs, show 8 + i % 8 = i from by omega]
  · show (UInt8.ofNat (n.toNat / 65536 % 256)).toNat.testBit (i % 8) = _
    rw [hb, ht _ _ (by omega), show (65536 : Nat) = 2 ^ 16 from rfl, hs, show 16 + i % 8 = i from by omega]
  · show (UInt8.ofNat (n.toNat / 16777216 % 256)).toNat.testBit (i % 8) = _
    rw [hb, ht _ _ (by omega), show (16777216 : Nat) = 2 ^ 24 from rfl, hs, show 24 + i % 8 = i from by omega]
theorem bits_inj (l m : List UInt8) (hl : l.length = m.length) (h : ∀ i, i < 8 * l.length → bitsOf l i = bitsOf m i) : l = m := by
  apply List.ext_getElem hl
  intro k h1 h2
  apply UInt8.toNat_inj.1
  apply Nat.eq_of_testBit_eq
  intro j
  by_cases hj : j < 8
  · have := h (8 * k + j) (by omega)
    unfold bitsOf at this
    rw [show (8 * k + j) / 8 = k from by omega, show (8 * k + j) % 8 = j from by omega, List.getD_eq_getElem?_getD, List.getD_eq_getElem?_getD, List.getElem?_eq_getElem h1, List.getElem?_eq_getElem h2] at this
    exact this
  · have e : ∀ c : UInt8, c.toNat.testBit j = false := fun c => Nat.testBit_lt_two_pow (Nat.lt_of_lt_of_le c.toNat_lt (Nat.pow_le_pow_right (by decide) (by omega)))
    rw [e, e]
theorem valid_iff (l : List UInt8) (h4 : 4 ≤ l.length) : closeB (l.take (l.length - 4)) = l ↔ feedB (BitVec.allOnes 32) l = iterB 32 (BitVec.allOnes 32) := by
  have hp : l = l.take (l.length - 4) ++ l.drop (l.length - 4) := (List.take_append_drop _ _).symm
  have htl : (l.drop (l.length - 4)).length = 4 := by rw [List.length_drop]; omega
  generalize l.take (l.length - 4) = p at hp ⊢
  generalize l.drop (l.length - 4) = t at hp htl
  have hf : feedB (BitVec.allOnes 32) l = iterB 32 (feedB (BitVec.allOnes 32) p ^^^ numB (bitsOf t) 32) := by
    rw [hp]
    show (p ++ t).foldl byteB _ = _
    rw [List.foldl_append]
    show feedB (feedB _ p) t = _
    rw [feed_bits t, htl, stB_num _ _ 32 (by decide)]
  have hm : moreB 0#32 p = ~~~ feedB (BitVec.allOnes 32) p := by
    unfold moreB
    rw [show ~~~ (0#32) = BitVec.allOnes 32 from by decide]
  rw [hf]
  generalize feedB (BitVec.allOnes 32) p = r at hm
  have hc : closeB p = l ↔ tailB (~~~ r) = t := by
    unfold closeB
    rw [hm]
    constructor
    · intro h; rw [hp] at h; exact List.append_cancel_left h
    · intro h; rw [h, ← hp]
  rw [hc]
  constructor
  · intro h
    rw [← h, tail_num]
    congr 1
    apply BitVec.eq_of_getLsbD_eq
    intro i hi
    rw [BitVec.getLsbD_xor, BitVec.getLsbD_not, BitVec.getLsbD_allOnes]
    cases r.getLsbD i <;> simp [hi]
  · intro h
    have h0 : iterB 32 ((r ^^^ numB (bitsOf t) 32) ^^^ BitVec.allOnes 32) = 0#32 := by rw [iterB_xor, h, BitVec.xor_self]
    have h1 := iterB_inj _ _ h0
    have h2 : numB (bitsOf t) 32 = ~~~ r := by
      apply BitVec.eq_of_getLsbD_eq
      intro i hi
      have := congrArg (fun z : BitVec 32 => z.getLsbD i) h1
      simp only [BitVec.getLsbD_xor, BitVec.getLsbD_allOnes, BitVec.getLsbD_zero] at this
      have hd : decide (i < 32) = true := decide_eq_true hi
      rw [hd] at this
      rw [BitVec.getLsbD_not, hd, Bool.true_and]
      revert this
      cases r.getLsbD i <;> cases (numB (bitsOf t) 32).getLsbD i <;> simp
    refine bits_inj _ _ (by rw [htl]; rfl) (fun i hi => ?_)
    have hi' : i < 32 := by simpa [tailB] using hi
    have e1 := congrArg (fun z : BitVec 32 => z.getLsbD i) (tail_num (~~~ r))
    have e2 := congrArg (fun z : BitVec 32 => z.getLsbD i) h2
    simp only [numB_bit _ 32 (Nat.le_refl _)] at e1 e2
    have hd : decide (i < 32) = true := decide_eq_true hi'
    rw [hd, Bool.true_and] at e1 e2
    rw [e1, e2]
theorem closeB_valid (l : List UInt8) : feedB (BitVec.allOnes 32) (closeB l) = iterB 32 (BitVec.allOnes 32) := by
  have hl := closeB_len l
  refine (valid_iff (closeB l) (by omega)).1 ?_
  have : (closeB l).take ((closeB l).length - 4) = l := by
    rw [hl, Nat.add_sub_cancel]
    unfold closeB
    exact List.take_left' rfl
  rw [this]
theorem openB_close (l : List UInt8) : openB (closeB l) = some l := by
  have hl := closeB_len l
  unfold openB
  have : (closeB l).take ((closeB l).length - 4) = l := by
    rw [hl, Nat.add_sub_cancel]
    unfold closeB
    exact List.take_left' rfl
  rw [if_neg (by omega), this, if_pos rfl]
/-- WHAT IS TURNED WITHIN 32 BITS IS NOT OPENED -/
theorem openB_turned (l x : List UInt8) (first : Nat) (hx : x.length = (closeB l).length) (h : ∀ i, bitsOf x i ≠ bitsOf (closeB l) i → first ≤ i ∧ i < first + 32) (hne : ∃ i, i < 8 * x.length ∧ bitsOf x i ≠ bitsOf (closeB l) i) : openB x = none := by
  have hl := closeB_len l
  unfold openB
  rw [if_neg (by omega), if_neg ?_]
  rw [valid_iff x (by omega)]
  intro hv
  have hd : stB 0#32 (fun i => bitsOf x i != bitsOf (closeB l) i) (8 * x.length) = 0#32 := by
    have hc := closeB_valid l
    rw [feed_bits] at hv hc
    rw [← stB_diff (BitVec.allOnes 32), hv, hx, hc, BitVec.xor_self]
  obtain ⟨i, hi, hn⟩ := hne
  have := burst _ first _ (fun j hj => h j (by simpa using hj)) hd i hi
  simp at this
  exact hn this
/-! ### the turning -/
def bitI (l : List Int) (p : Nat) : Bool := (l.getD (p / 8) 0).toNat.testBit (p % 8)
theorem u8_xor (a b : Nat) (ha : a < 256) (hb : b < 256) : Go.bits .xor .u8 (a : Int) (b : Int) = ((a ^^^ b : Nat) : Int) := by
  show IntKind.u8.wrap ((BitVec.ofInt 8 (a : Int) ^^^ BitVec.ofInt 8 (b : Int)).toNat : Int) = _
  rw [BitVec.ofInt_natCast, BitVec.ofInt_natCast, BitVec.toNat_xor, BitVec.toNat_ofNat, BitVec.toNat_ofNat, Nat.mod_eq_of_lt (by omega), Nat.mod_eq_of_lt (by omega), IntKind.wrap_u8]
  have := Nat.xor_lt_two_pow (n := 8) (x := a) (y := b) (by omega) (by omega)
  omega
theorem bit_and (b k : Nat) (hb : b < 4294967296) : (Go.bits .and .u32 ((b : Int) / 2 ^ k) 1 = 1) ↔ b.testBit k = true := by
  have h := u32_and_mask ((b : Int) / 2 ^ k) (Int.ediv_nonneg (Int.natCast_nonneg _) (Int.le_of_lt (Int.pow_pos (by decide)))) 1 (by decide)
  rw [show ((2 ^ 1 - 1 : Nat) : Int) = 1 from by decide, show ((2 ^ 1 : Nat) : Int) = 2 from by decide] at h
  have e : ((b : Int) / 2 ^ k) = ((b / 2 ^ k : Nat) : Int) := by rw [Int.natCast_ediv, Int.natCast_pow]; rfl
  have hle : b / 2 ^ k ≤ b := Nat.div_le_self _ _
  rw [h, e, Nat.testBit_eq_decide_div_mod_eq, decide_eq_true_iff]
  omega
theorem bits_str (l : List Int) (p : Nat) (hr : ∀ x ∈ l, 0 ≤ x ∧ x < 256) : bitsOf (strOfNums l).data.toList p = bitI l p := by
  rw [strOfNums_data]
  unfold bitsOf bitI
  congr 1
  rw [List.getD_eq_getElem?_getD, List.getD_eq_getElem?_getD, List.getElem?_map]
  cases h : l[p / 8]? with
  | none => rfl
  | some x =>
    have hx := hr x (List.mem_of_getElem? h)
    show (UInt8.ofNat x.toNat).toNat = x.toNat
    rw [UInt8.toNat_ofNat']; omega
theorem bits_bytes (s : ByteArray) (p : Nat) : bitI (bytesOf s) p = bitsOf s.data.toList p := by
  unfold bitsOf bitI bytesOf
  congr 1
  rw [List.getD_eq_getElem?_getD, List.getD_eq_getElem?_getD, List.getElem?_map]
  cases h : s.data.toList[p / 8]? with
  | none => rfl
  | some x => show ((x.toNat : Int)).toNat = x.toNat; rw [Int.toNat_natCast]
theorem bytes_range (s : ByteArray) : ∀ x ∈ bytesOf s, 0 ≤ x ∧ x < 256 := by
  intro x hx
  obtain ⟨c, _, rfl⟩ := List.mem_map.1 hx
  have := c.toNat_lt
  omega

/-! ### the document's sum is the function of bit vectors -/
theorem stepI_bv (n : BitVec 32) : (if Int.tmod (n.toNat : Int) 2 = 1 then Go.bits .xor .u32 (Int.tdiv (n.toNat : Int) 2 % 4294967296) 3988292384 else Int.tdiv (n.toNat : Int) 2 % 4294967296) = ((stepB n).toNat : Int) := by
  have hn := n.isLt
  have hd : Int.tdiv (n.toNat : Int) 2 % (4294967296 : Int) = ((n >>> 1).toNat : Int) := by
    rw [Int.tdiv_eq_ediv_of_nonneg (Int.natCast_nonneg _), ← u32_div n 1 2 rfl]; omega
  have hm : (Int.tmod (n.toNat : Int) 2 = 1) ↔ n.getLsbD 0 = true := by
    rw [Int.tmod_eq_emod_of_nonneg (Int.natCast_nonneg _), BitVec.getLsbD, Nat.testBit_zero, decide_eq_true_iff]
    omega
  unfold stepB
  rw [hd]
  by_cases h : n.getLsbD 0 = true
  · rw [if_pos (hm.2 h), if_pos h, show (3988292384 : Int) = ((0xedb88320#32).toNat : Int) from by decide, u32_xor]
  · rw [if_neg (fun e => h (hm.1 e)), if_neg h]
def stepsB : Nat → BitVec 32 → BitVec 32
  | 0, n => n
  | d + 1, n => stepsB d (stepB n)
theorem l1_run (s : ByteArray) (i : Int) : ∀ (d k : Nat) (n : BitVec 32), d ≤ 8 → chainmanref03_More.l1 (k + d + 1) s (n.toNat : Int) i (8 - (d : Int)) = chainmanref03_More.l0 k s ((stepsB d n).toNat : Int) (wrap64 (i + 1)) := by
  intro d
  induction d with
  | zero =>
    intro k n _
    show chainmanref03_More.l1 (k + 1) s _ i _ = _
    rw [chainmanref03_More.l1]
    rw [if_neg (by omega)]; rfl
  | succ d ih =>
    intro k n hd
    show chainmanref03_More.l1 ((k + d + 1) + 1) s _ i _ = _
    rw [chainmanref03_More.l1]
    have hw : wrap64 (8 - ((d + 1 : Nat) : Int) + 1) = 8 - (d : Int) := by unfold wrap64; omega
    rw [if_pos (by omega), hw]
    have h := stepI_bv n
    by_cases ht : Int.tmod (n.toNat : Int) 2 = 1
    · rw [if_pos ht] at h
      rw [if_pos ht, h, ih k (stepB n) (by omega)]; rfl
    · rw [if_neg ht] at h
      rw [if_neg ht, h, ih k (stepB n) (by omega)]; rfl
theorem bt_nat (s : ByteArray) (i : Nat) (h : i < s.data.toList.length) : bt s (i : Int) = ((s.data.toList[i]).toNat : Int) := by
  have h' : i < s.size := by rw [ba_size]; exact h
  unfold bt
  rw [dif_pos (by simpa using h')]
  rfl
theorem l0_run (s : ByteArray) (hs : s.size ≤ 1000000000) : ∀ (r k i : Nat) (n : BitVec 32), i + r = s.size → 10 * r + 1 ≤ k → chainmanref03_More.l0 k s (n.toNat : Int) (i : Int) = some ((~~~ feedB n (s.data.toList.drop i)).toNat : Int) := by
  have hz := ba_size s
  intro r
  induction r with
  | zero =>
    intro k i n hi hk
    obtain ⟨k, rfl⟩ : ∃ m, k = m + 1 := ⟨k - 1, by omega⟩
    rw [chainmanref03_More.l0]
    rw [if_neg (by omega), not_bv', List.drop_of_length_le (by omega)]; rfl
  | succ r ih =>
    intro k i n hi hk
    obtain ⟨k, rfl⟩ : ∃ m, k = (m + 8 + 1) + 1 := ⟨k - 10, by omega⟩
    have hlt : i < s.data.toList.length := by omega
    rw [chainmanref03_More.l0]
    have hc : bt s (i : Int) % 4294967296 = ((BitVec.ofNat 32 (s.data.toList[i]).toNat).toNat : Int) := by
      have := (s.data.toList[i]).toNat_lt
      rw [bt_nat s i hlt, BitVec.toNat_ofNat]; omega
    rw [if_pos (by omega), if_pos (by omega), hc, u32_xor]
    have h8 := l1_run s (i : Int) 8 k (n ^^^ BitVec.ofNat 32 (s.data.toList[i]).toNat) (by omega)
    rw [show ((8 : Int) - ((8 : Nat) : Int)) = 0 from by omega] at h8
    rw [h8, show wrap64 ((i : Int) + 1) = ((i + 1 : Nat) : Int) from by unfold wrap64; omega, ih k (i + 1) _ (by omega) (by omega)]
    rw [List.drop_eq_getElem_cons hlt]
    rfl
theorem refmore_bv (n : BitVec 32) (s : ByteArray) (hs : s.size ≤ 1000000000) (k : Nat) (hk : 10 * s.size + 1 ≤ k) : chainmanref03_More.f k (n.toNat : Int) s = some ((moreB n s.data.toList).toNat : Int) := by
  unfold chainmanref03_More.f
  rw [not_bv', show (0 : Int) = ((0 : Nat) : Int) from rfl, l0_run s hs s.size k 0 _ (by omega) hk]; rfl
theorem refof_bv (s : ByteArray) (hs : s.size ≤ 1000000000) (k : Nat) (hk : 10 * s.size + 1 ≤ k) : chainmanref03_Of.f k s = some ((moreB 0#32 s.data.toList).toNat : Int) := by
  unfold chainmanref03_Of.f
  rw [show (0 : Int) = ((0#32).toNat : Int) from rfl, refmore_bv _ s hs k hk, Option.bind_some]
theorem and255 (x : Int) (h0 : 0 ≤ x) (h1 : x < 4294967296) : Go.bits .and .u32 x 255 % 256 = x % 256 := by
  have h := u32_and_mask x h0 8 (by decide)
  rw [show ((2 ^ 8 - 1 : Nat) : Int) = 255 from by decide, show ((2 ^ 8 : Nat) : Int) = 256 from by decide] at h
  rw [h]; omega
theorem refclose_bv (s : ByteArray) (hs : s.size ≤ 100000000) (k : Nat) (hk : 10 * s.size + 1 ≤ k) : ∃ c, chainmanref03_Close.f k s = some c ∧ c.data.toList = closeB s.data.toList := by
  have hb := (moreB 0#32 s.data.toList).isLt
  refine ⟨s ++ strOfNums (crc_Close.tail ((moreB 0#32 s.data.toList).toNat : Int)), ?_, ?_⟩
  · unfold chainmanref03_Close.f
    rw [refof_bv s (by omega) k hk, Option.bind_some, Option.bind_some]
    have ht : [(Go.bits .and .u32 ((moreB 0#32 s.data.toList).toNat : Int) 255) % 256, (Go.bits .and .u32 (((moreB 0#32 s.data.toList).toNat : Int) / 256) 255) % 256, (Go.bits .and .u32 (((moreB 0#32 s.data.toList).toNat : Int) / 65536) 255) % 256, (((moreB 0#32 s.data.toList).toNat : Int) / 16777216) % 256] = crc_Close.tail ((moreB 0#32 s.data.toList).toNat : Int) := by
      unfold crc_Close.tail
      rw [and255 _ (by omega) (by omega), and255 _ (by omega) (by omega), and255 _ (by omega) (by omega)]
    rw [ht, if_pos ?_]
    rw [strOfNums_size]
    show s.size + 4 ≤ _
    omega
  · rw [ba_append, tail_nums]; rfl
theorem refopen_bv (s : ByteArray) (hs : s.size ≤ 100000000) (k : Nat) (hk : 10 * s.size + 1 ≤ k) : chainmanref03_Open.f k s = some (match openB s.data.toList with | some t => (⟨t.toArray⟩, true) | none => (⟨#[]⟩, false)) := by
  have hl := ba_size s
  unfold chainmanref03_Open.f openB
  by_cases h4 : s.size < 4
  · rw [if_pos (by omega), if_pos (by omega)]
  · have hw : wrap64 ((s.size : Int) - 4) = ((s.size - 4 : Nat) : Int) := by unfold wrap64; omega
    rw [if_neg (by omega), hw, if_pos (by omega), if_pos (by omega), Int.toNat_natCast, if_neg (by omega)]
    obtain ⟨c, h1, h2⟩ := refclose_bv (s.extract 0 (s.size - 4)) (by rw [ByteArray.size_extract]; omega) k (by rw [ByteArray.size_extract]; omega)
    rw [h1, Option.bind_some, ByteArray.toList_eq, ByteArray.toList_eq, h2, extract_take, hl]
    by_cases e : closeB (s.data.toList.take (s.data.toList.length - 4)) = s.data.toList
    · rw [if_pos e, if_pos e]
      congr 2
      exact ba_ext (by rw [extract_take])
    · rw [if_neg e, if_neg e]

end Cr

namespace Oc
/-! ### numbers as bytes -/
def beN (n k : Nat) : List Int := (List.range k).reverse.map fun i => ((n / 256 ^ i % 256 : Nat) : Int)
theorem beN_len (n k : Nat) : (beN n k).length = k := by simp [beN]
theorem beN_succ (n k : Nat) : beN n (k + 1) = ((n / 256 ^ k % 256 : Nat) : Int) :: beN n k := by
  unfold beN
  rw [List.range_succ, List.reverse_append]; rfl
theorem beN_range (n k : Nat) : ∀ x ∈ beN n k, 0 ≤ x ∧ x < 256 := by
  intro x hx
  obtain ⟨i, _, rfl⟩ := List.mem_map.1 hx
  have := Nat.mod_lt (n / 256 ^ i) (show 256 > 0 by decide)
  omega
def putB (n k : Int) : ByteArray × Bool := if n < 0 ∨ k < 1 ∨ 8 < k then (⟨#[]⟩, false) else if n.toNat < 256 ^ k.toNat then (strOfNums (beN n.toNat k.toNat), true) else (⟨#[]⟩, false)
theorem octs_be (n : Nat) : octet_Put.octs (n : Int) = beN n 8 := by
  have e7 : (n : Int) / 72057594037927936 % 256 = ((n / 256 ^ 7 % 256 : Nat) : Int) := by rw [show 256 ^ 7 = 72057594037927936 from rfl]; omega
  have e6 : (n : Int) / 281474976710656 % 256 = ((n / 256 ^ 6 % 256 : Nat) : Int) := by rw [show 256 ^ 6 = 281474976710656 from rfl]; omega
  have e5 : (n : Int) / 1099511627776 % 256 = ((n / 256 ^ 5 % 256 : Nat) : Int) := by rw [show 256 ^ 5 = 1099511627776 from rfl]; omega
  have e4 : (n : Int) / 4294967296 % 256 = ((n / 256 ^ 4 % 256 : Nat) : Int) := by rw [show 256 ^ 4 = 4294967296 from rfl]; omega
  have e3 : (n : Int) / 16777216 % 256 = ((n / 256 ^ 3 % 256 : Nat) : Int) := by rw [show 256 ^ 3 = 16777216 from rfl]; omega
  have e2 : (n : Int) / 65536 % 256 = ((n / 256 ^ 2 % 256 : Nat) : Int) := by rw [show 256 ^ 2 = 65536 from rfl]; omega
  have e1 : (n : Int) / 256 % 256 = ((n / 256 ^ 1 % 256 : Nat) : Int) := by rw [show 256 ^ 1 = 256 from rfl]; omega
  have e0 : (n : Int) % 256 = ((n / 256 ^ 0 % 256 : Nat) : Int) := by rw [show 256 ^ 0 = 1 from rfl]; omega
  unfold octet_Put.octs
  rw [e7, e6, e5, e4, e3, e2, e1, e0]
  rfl
theorem beN_take (m k : Nat) : ∀ j, m < 256 ^ (k + j) → ((((beN m (k + j)).take j).all (· == 0) = true) ↔ m < 256 ^ k) := by
  intro j
  induction j with
  | zero => intro h; simpa using h
  | succ j ih =>
    intro h
    have hp : 256 ^ (k + (j + 1)) = 256 ^ (k + j) * 256 := Nat.pow_succ ..
    have hx : m / 256 ^ (k + j) < 256 := Nat.div_lt_of_lt_mul (by omega)
    rw [show k + (j + 1) = (k + j) + 1 from rfl, beN_succ, List.take_succ_cons, List.all_cons, Bool.and_eq_true]
    have hz : ((((m / 256 ^ (k + j) % 256 : Nat) : Int) == 0) = true) ↔ m < 256 ^ (k + j) := by
      rw [beq_iff_eq, Nat.mod_eq_of_lt hx]
      constructor
      · intro e
        rcases Nat.lt_or_ge m (256 ^ (k + j)) with h' | h'
        · exact h'
        · have := Nat.div_pos h' (Nat.pow_pos (by decide)); omega
      · intro h'; rw [Nat.div_eq_of_lt h']; rfl
    rw [hz]
    constructor
    · rintro ⟨h1, h2⟩; exact (ih h1).1 h2
    · intro h1
      have : 256 ^ k ≤ 256 ^ (k + j) := Nat.pow_le_pow_right (by decide) (by omega)
      exact ⟨by omega, (ih (by omega)).2 h1⟩
theorem beN_drop (m k : Nat) : ∀ j, (beN m (k + j)).drop j = beN m k := by
  intro j
  induction j with
  | zero => rfl
  | succ j ih => rw [show k + (j + 1) = (k + j) + 1 from rfl, beN_succ, List.drop_succ_cons, ih]
theorem put_bv (n k : Int) (hn : n < 9223372036854775808) : octet_Put.f n k = some (putB n k) := by
  unfold octet_Put.f putB
  by_cases hb : n < 0 ∨ k < 1 ∨ 8 < k
  · rw [if_pos hb, if_pos hb]
  · rw [if_neg hb, if_neg hb]
    obtain ⟨m, rfl⟩ : ∃ m : Nat, n = (m : Int) := ⟨n.toNat, by omega⟩
    obtain ⟨q, rfl⟩ : ∃ q : Nat, k = (q : Int) := ⟨k.toNat, by omega⟩
    have hq8 : q ≤ 8 := by omega
    have hm : m < 256 ^ 8 := by have : 256 ^ 8 = 18446744073709551616 := by decide
                                omega
    have e8 : q + (8 - q) = 8 := by omega
    have h1 := beN_take m q (8 - q) (by rw [e8]; exact hm)
    have h2 := beN_drop m q (8 - q)
    rw [e8] at h1 h2
    rw [octs_be, Int.toNat_natCast, Int.toNat_natCast, show ((8 : Int) - (q : Int)).toNat = 8 - q from by omega, h2]
    by_cases hlt : m < 256 ^ q
    · rw [if_pos (h1.2 hlt), if_pos hlt]
    · rw [if_neg (fun h => hlt (h1.1 h)), if_neg hlt]
def numN (l : List UInt8) : Nat := l.foldl (fun n c => n * 256 + c.toNat) 0
theorem numN_snoc (l : List UInt8) (c : UInt8) : numN (l ++ [c]) = numN l * 256 + c.toNat := by
  unfold numN
  rw [List.foldl_append]; rfl
theorem snoc_ind (P : List UInt8 → Prop) (h0 : P []) (h1 : ∀ m c, P m → P (m ++ [c])) (l : List UInt8) : P l := by
  have : ∀ n (l : List UInt8), l.length = n → P l := by
    intro n
    induction n with
    | zero => intro l hl; rw [List.length_eq_zero_iff.1 hl]; exact h0
    | succ n ih =>
      intro l hl
      rcases List.eq_nil_or_concat l with rfl | ⟨m, c, rfl⟩
      · exact h0
      · rw [List.concat_eq_append] at hl ⊢
        exact h1 m c (ih m (by simpa using hl))
  exact this _ l rfl
theorem numN_lt (l : List UInt8) : numN l < 256 ^ l.length := by
  refine snoc_ind (fun l => numN l < 256 ^ l.length) (by decide) (fun m c ih => ?_) l
  rw [numN_snoc, List.length_append]
  have := c.toNat_lt
  have : 256 ^ (m.length + [c].length) = 256 ^ m.length * 256 := Nat.pow_succ ..
  omega
theorem join_bv (x : Nat) (c : UInt8) (hx : x * 256 < 18446744073709551616) : octet_Get.join (x : Int) (c.toNat : Int) = ((x * 256 + c.toNat : Nat) : Int) := by
  have hc := c.toNat_lt
  have hw : IntKind.u64.wrap ((x : Int) * 256) = ((x * 256 : Nat) : Int) := by
    simp only [IntKind.wrap, IntKind.bits, IntKind.signed, Bool.false_and]
    simp
    omega
  unfold octet_Get.join
  rw [hw]
  show IntKind.u64.wrap ((BitVec.ofInt 64 ((x * 256 : Nat) : Int) ||| BitVec.ofInt 64 (c.toNat : Int)).toNat : Int) = _
  rw [BitVec.ofInt_natCast, BitVec.ofInt_natCast, BitVec.toNat_or, BitVec.toNat_ofNat, BitVec.toNat_ofNat, Nat.mod_eq_of_lt (by omega), Nat.mod_eq_of_lt (by omega)]
  have ho : x * 256 ||| c.toNat = x * 256 + c.toNat := by
    have := Nat.shiftLeft_add_eq_or_of_lt (b := c.toNat) (i := 8) hc x
    rw [Nat.shiftLeft_eq] at this
    exact this.symm
  rw [ho]
  simp only [IntKind.wrap, IntKind.bits, IntKind.signed, Bool.false_and]
  simp
  omega
theorem num_bv (l : List UInt8) (hl : l.length ≤ 8) : octet_Get.num (l.map fun b => (b.toNat : Int)) = (numN l : Int) := by
  refine snoc_ind (fun l => l.length ≤ 8 → octet_Get.num (l.map fun b => (b.toNat : Int)) = (numN l : Int)) (fun _ => rfl) (fun m c ih hl => ?_) l hl
  rw [List.length_append] at hl
  have hm : m.length ≤ 7 := by simp at hl; omega
  have hlt := numN_lt m
  have hp : 256 ^ m.length ≤ 256 ^ 7 := Nat.pow_le_pow_right (by decide) hm
  rw [List.map_append, List.map_singleton, octet_Get.num_snoc, ih (by omega), join_bv _ _ (by omega), numN_snoc]
theorem ba_ext {s t : ByteArray} (h : s.data.toList = t.data.toList) : s = t := by
  cases s; cases t
  simp only [ByteArray.mk.injEq]
  exact Array.toList_inj.1 h
theorem ba_append (s t : ByteArray) : (s ++ t).data.toList = s.data.toList ++ t.data.toList := by
  rw [ByteArray.data_append, Array.toList_append]
theorem ba_size (s : ByteArray) : s.size = s.data.toList.length := by simp
def getB (s : ByteArray) (p k : Int) : Int × Bool :=
  if k < 1 ∨ 8 < k ∨ p < 0 ∨ (s.size : Int) - k < p then (0, false)
  else if numN ((s.data.toList.drop p.toNat).take k.toNat) < 9223372036854775808 then ((numN ((s.data.toList.drop p.toNat).take k.toNat) : Int), true) else (0, false)
theorem get_bv (s : ByteArray) (p k : Int) (hs : s.size ≤ 1000000000) (hp : (Lit.int .i64 p).wf = true) : octet_Get.f s p k = some (getB s p k) := by
  have hp' : -9223372036854775808 ≤ p ∧ p ≤ 9223372036854775807 := by simpa [Lit.wf, IntKind.min, IntKind.max, IntKind.signed, IntKind.bits] using hp
  unfold octet_Get.f getB
  rw [if_pos ⟨hs, hp'.1, hp'.2⟩]
  by_cases hb : k < 1 ∨ 8 < k ∨ p < 0 ∨ (s.size : Int) - k < p
  · rw [if_pos hb, if_pos hb]
  · rw [if_neg hb, if_neg hb]
    have he : bytesOf (s.extract p.toNat (p + k).toNat) = ((s.data.toList.drop p.toNat).take k.toNat).map fun b => (b.toNat : Int) := by
      unfold bytesOf
      rw [Lib.extract_data, show (p + k).toNat - p.toNat = k.toNat from by omega]
    rw [he, num_bv _ (by rw [List.length_take]; omega)]
    by_cases hlt : numN ((s.data.toList.drop p.toNat).take k.toNat) < 9223372036854775808
    · rw [if_pos hlt, if_pos (by omega)]
    · rw [if_neg hlt, if_neg (by omega)]

/-! ### the document's bytes -/
theorem wrap_succ (i : Nat) (h : i < 1000000000) : wrap64 ((i : Int) + 1) = ((i + 1 : Nat) : Int) := by unfold wrap64; omega
theorem stepq (q : Nat) (hq : q < 9223372036854775808) : Int.tmod (q : Int) 256 % 256 = ((q % 256 : Nat) : Int) ∧ wrap64 (Int.tdiv (q : Int) 256) = ((q / 256 : Nat) : Int) := by
  rw [Int.tmod_eq_emod_of_nonneg (Int.natCast_nonneg _), Int.tdiv_eq_ediv_of_nonneg (Int.natCast_nonneg _)]
  unfold wrap64
  omega
theorem beN_fits (x : Int) (n i : Nat) (h : i < 9) : (strOfNums [x]).size + (strOfNums (beN n i)).size ≤ 9223372036854775807 := by
  have h1 : (strOfNums [x]).size = 1 := strOfNums_size _
  have h2 : (strOfNums (beN n i)).size = i := (strOfNums_size _).trans (beN_len _ _)
  omega
theorem refl0 (n k : Nat) (hn : n < 9223372036854775808) : ∀ (r f i : Nat), i + r = k → r < f → k ≤ 8 →
    chainmanref02_Put.l0 f ((n / 256 ^ i : Nat) : Int) (k : Int) (strOfNums (beN n i)) (i : Int) = some (if n < 256 ^ k then (strOfNums (beN n k), true) else (⟨#[]⟩, false)) := by
  intro r
  induction r with
  | zero =>
    intro f i hi hf hk
    obtain ⟨f, rfl⟩ : ∃ m, f = m + 1 := ⟨f - 1, by omega⟩
    obtain rfl : i = k := by omega
    rw [chainmanref02_Put.l0, if_neg (by omega)]
    have hz : (0 < n / 256 ^ i) ↔ ¬ n < 256 ^ i := by
      have h := Nat.div_eq_zero_iff (a := n) (b := 256 ^ i)
      have hp : 256 ^ i ≠ 0 := Nat.ne_of_gt (Nat.pow_pos (by decide))
      constructor
      · intro h1 h2; have := Nat.div_eq_of_lt h2; omega
      · intro h1; exact Nat.div_pos (by omega) (Nat.pow_pos (by decide))
    by_cases h : n < 256 ^ i
    · rw [if_neg (by omega), if_pos h]
    · rw [if_pos (by omega), if_neg h]
  | succ r ih =>
    intro f i hi hf hk
    obtain ⟨f, rfl⟩ : ∃ m, f = m + 1 := ⟨f - 1, by omega⟩
    rw [chainmanref02_Put.l0, if_pos (by omega), Option.bind_some]
    have hsz : (strOfNums [((n / 256 ^ i % 256 : Nat) : Int)]).size + (strOfNums (beN n i)).size ≤ 9223372036854775807 := by
      exact beN_fits _ n i (by omega)
    have a1 : i + 1 + r = k := by omega
    have a2 : r < f := by omega
    have a3 : i < 1000000000 := by omega
    have hq : n / 256 ^ i ≤ n := Nat.div_le_self _ _
    obtain ⟨e1, e2⟩ := stepq (n / 256 ^ i) (Nat.lt_of_le_of_lt hq hn)
    rw [Nat.div_div_eq_div_mul, ← Nat.pow_succ] at e2
    have e3 : wrap64 ((i : Int) + 1) = ((i + 1 : Nat) : Int) := wrap_succ i a3
    have e4 : strOfNums [((n / 256 ^ i % 256 : Nat) : Int)] ++ strOfNums (beN n i) = strOfNums (beN n (i + 1)) := by
      apply ba_ext
      rw [ba_append, strOfNums_data, strOfNums_data, strOfNums_data, beN_succ]; rfl
    rw [e1, if_pos hsz, e2, e4, e3]
    exact ih f (i + 1) a1 a2 hk
theorem refput_bv (n k : Int) (f : Nat) (hf : 20 ≤ f) (hn : n < 9223372036854775808) : chainmanref02_Put.f f n k = some (putB n k) := by
  obtain ⟨f, rfl⟩ : ∃ m, f = m + 1 := ⟨f - 1, by omega⟩
  unfold chainmanref02_Put.f putB
  by_cases h1 : k < 1
  · rw [if_pos h1, if_pos (.inr (.inl h1)), chainmanref02_Put.j0, if_pos rfl]
  · rw [if_neg h1]
    by_cases h2 : k > 8
    · rw [if_pos h2, if_pos (.inr (.inr h2)), chainmanref02_Put.j0, if_pos rfl]
    · rw [if_neg h2]
      by_cases h3 : n < 0
      · rw [if_pos (.inl h3), chainmanref02_Put.j0, if_pos (decide_eq_true h3)]
      · rw [if_neg (by omega), chainmanref02_Put.j0, if_neg (by simpa using h3)]
        obtain ⟨m, rfl⟩ : ∃ m : Nat, n = (m : Int) := ⟨n.toNat, by omega⟩
        obtain ⟨j, rfl⟩ : ∃ j : Nat, k = (j : Int) := ⟨k.toNat, by omega⟩
        have h := refl0 m j (by omega) j f 0 (by omega) (by omega) (by omega)
        rw [Nat.pow_zero, Nat.div_one] at h
        rw [Int.toNat_natCast, Int.toNat_natCast]
        exact h
theorem bt_nat (s : ByteArray) (i : Nat) (h : i < s.data.toList.length) : bt s (i : Int) = ((s.data.toList[i]).toNat : Int) := by
  have h' : i < s.size := by rw [ba_size]; exact h
  unfold bt
  rw [dif_pos (by simpa using h')]
  rfl
theorem numN_grow (l : List UInt8) (j k : Nat) (h : j < k) (hk : k ≤ l.length) : numN (l.take j) * 256 ≤ numN (l.take k) := by
  induction k with
  | zero => omega
  | succ k ih =>
    rw [List.take_succ_eq_append_getElem (show k < l.length by omega), numN_snoc]
    by_cases hjk : j = k
    · subst hjk; omega
    · have := ih (by omega) (by omega); omega
theorem wrap_in (x : Int) (h0 : 0 ≤ x) (h1 : x < 9223372036854775808) : wrap64 x = x := by unfold wrap64; omega
theorem wrap_addn (p i : Nat) (h : p + i < 1000000) : wrap64 ((p : Int) + (i : Int)) = ((p + i : Nat) : Int) := by unfold wrap64; omega
theorem wrap_step (x c : Nat) (hx : x < 36028797018963968) (hc : c < 256) : wrap64 (wrap64 ((x : Int) * 256) + wrap64 (c : Int)) = ((x * 256 + c : Nat) : Int) := by
  rw [wrap_in ((x : Int) * 256) (by omega) (by omega), wrap_in (c : Int) (by omega) (by omega), wrap_in _ (by omega) (by omega)]
  omega

/-! ### bytes in pieces: the program's and the document's -/
theorem w64 (n : Int) (h : -9223372036854775808 ≤ n ∧ n ≤ 9223372036854775807) : wrap64 n = n := by unfold wrap64; omega
theorem ex_data (s : ByteArray) (a b : Nat) : (s.extract a b).data.toList = (s.data.toList.take b).drop a := by
  rw [ByteArray.data_extract, Array.toList_extract]
  rw [List.extract_eq_drop_take', ]
theorem ex_size (s : ByteArray) (a b : Nat) (hb : b ≤ s.size) : (s.extract a b).size = b - a := by
  rw [ba_size, ex_data, List.length_drop, List.length_take, ← ba_size]; omega
theorem ex_front (s : ByteArray) (a k : Nat) (h : a + k ≤ s.size) : (s.extract a s.size).extract 0 k = s.extract a (a + k) := by
  apply ba_ext
  rw [ex_data, ex_data, ex_data, List.drop_zero, ba_size, List.take_length, List.take_drop]
theorem ex_back (s : ByteArray) (a k : Nat) : (s.extract a s.size).extract k (s.extract a s.size).size = s.extract (a + k) s.size := by
  apply ba_ext
  rw [ex_data, ba_size, ← ba_size, List.take_of_length_le (by rw [ba_size]; exact Nat.le_refl _), ex_data, ex_data, List.drop_drop]
theorem pieces (s : ByteArray) (k : Nat) (hk : 1 ≤ k) (hs : s.size ≤ 1000) : ∀ (d at_ : Nat) (acc : List ByteArray), at_ + d * k = s.size → acc.length + d ≤ 2000 →
    ∃ r, Ev (fun q => octet_Split.l0 q (s.extract at_ s.size) (k : Int) acc) (r, true) ∧ Ev (fun q => chainmanref02_Split.l0 q s (k : Int) acc (at_ : Int)) (r, true) ∧ r.length ≤ 2000 := by
  intro d
  induction d with
  | zero =>
    intro at_ acc h ha
    refine ⟨acc, Ev.step (f := fun _ => some (acc, true)) (fun q => ?_) (Ev.now _), Ev.step (f := fun _ => some (acc, true)) (fun q => ?_) (Ev.now _), by omega⟩
    · have : (s.extract at_ s.size).toList = [] := by
        rw [← List.length_eq_zero_iff, ByteArray.toList_eq, ← ba_size]
        rw [ex_size _ _ _ (Nat.le_refl _)]; omega
      rw [octet_Split.l0, if_pos this]
    · rw [chainmanref02_Split.l0, if_neg (by omega)]
  | succ d ih =>
    intro at_ acc h ha
    rw [Nat.add_mul, Nat.one_mul] at h
    have hd : 0 ≤ d * k := Nat.zero_le _
    obtain ⟨r, h1, h2, h3⟩ := ih (at_ + k) (acc ++ [s.extract at_ (at_ + k)]) (by omega) (by rw [List.length_append]; simp; omega)
    refine ⟨r, Ev.step (fun q => ?_) h1, Ev.step (fun q => ?_) h2, h3⟩
    · have hne : ¬ (s.extract at_ s.size).toList = [] := by
        rw [← List.length_eq_zero_iff, ByteArray.toList_eq, ← ba_size]
        rw [ex_size _ _ _ (Nat.le_refl _)]; omega
      have es := ex_size s at_ s.size (Nat.le_refl _)
      rw [octet_Split.l0, if_neg hne, if_pos (by omega), if_pos (by omega), if_pos (by omega), Int.toNat_natCast, ex_front s at_ k (by omega), ex_back]
    · have e1 : wrap64 ((at_ : Int) + (k : Int)) = ((at_ + k : Nat) : Int) := by rw [w64 _ (by omega)]; omega
      rw [chainmanref02_Split.l0, if_pos (by omega), if_pos (by omega), e1, if_pos (by omega), if_pos (by omega), if_pos (by omega), Int.toNat_natCast, Int.toNat_natCast]
theorem split_both (s : ByteArray) (k : Int) (hs : s.size ≤ 1000) : ∃ r, Ev (fun q => octet_Split.f q s k) r ∧ Ev (fun q => chainmanref02_Split.f q s k) r ∧ r.1.length ≤ 2000 := by
  by_cases h1 : k < 1
  · refine ⟨([], false), Ev.congr (f := fun q => octet_Split.j0 q s k true) (fun q => by unfold octet_Split.f; rw [if_pos h1]) (Ev.step (f := fun _ => some ([], false)) (fun q => ?_) (Ev.now _)), Ev.congr (f := fun q => chainmanref02_Split.j0 q s k true) (fun q => by unfold chainmanref02_Split.f; rw [if_pos h1]) (Ev.step (f := fun _ => some ([], false)) (fun q => ?_) (Ev.now _)), by simp⟩
    · rw [octet_Split.j0, if_pos rfl]
    · rw [chainmanref02_Split.j0, if_pos rfl]
  obtain ⟨n, rfl⟩ := Int.eq_ofNat_of_zero_le (show 0 ≤ k by omega)
  have hn : 1 ≤ n := by omega
  have hc : ((s.size : Int) % (n : Int)) = ((s.size % n : Nat) : Int) := rfl
  have c1 : ∀ q, octet_Split.f q s (n : Int) = octet_Split.j0 q s (n : Int) (decide ((s.size % n : Nat) > 0)) := fun q => by
    unfold octet_Split.f
    rw [if_neg h1, if_neg (by omega), hc]
    congr 1
    exact decide_eq_decide.mpr (by omega)
  have c2 : ∀ q, chainmanref02_Split.f q s (n : Int) = chainmanref02_Split.j0 q s (n : Int) (decide ((s.size % n : Nat) > 0)) := fun q => by
    unfold chainmanref02_Split.f
    rw [if_neg h1, if_neg (by omega), hc]
    congr 1
    rw [Bool.eq_iff_iff, bne_iff_ne, decide_eq_true_iff]
    omega
  by_cases hm : s.size % n = 0
  · have hd : decide (s.size % n > 0) = false := decide_eq_false (by omega)
    have he : s.size / n * n = s.size := Nat.div_mul_cancel (Nat.dvd_of_mod_eq_zero hm)
    have hle : s.size / n ≤ 1000 := Nat.le_trans (Nat.div_le_self _ _) hs
    obtain ⟨r, h2, h3, h4⟩ := pieces s n hn hs (s.size / n) 0 [] (by omega) (by simp; omega)
    have e0 : s.extract 0 s.size = s := ba_ext (by rw [ex_data, List.drop_zero, ba_size, List.take_length])
    rw [e0] at h2
    refine ⟨(r, true), Ev.congr c1 (Ev.step (fun q => ?_) h2), Ev.congr c2 (Ev.step (fun q => ?_) h3), h4⟩
    · rw [hd, octet_Split.j0, if_neg (by decide)]
    · rw [hd, chainmanref02_Split.j0, if_neg (by decide)]; rfl
  · have hd : decide (s.size % n > 0) = true := decide_eq_true (by omega)
    refine ⟨([], false), Ev.congr c1 (Ev.step (f := fun _ => some ([], false)) (fun q => ?_) (Ev.now _)), Ev.congr c2 (Ev.step (f := fun _ => some ([], false)) (fun q => ?_) (Ev.now _)), by simp⟩
    · rw [hd, octet_Split.j0, if_pos rfl]
    · rw [hd, chainmanref02_Split.j0, if_pos rfl]

end Oc

/-! ### blocks of records -/
def catL (l : List ByteArray) : List UInt8 := (l.map (·.data.toList)).flatten
theorem catL_cons (x : ByteArray) (l : List ByteArray) : catL (x :: l) = x.data.toList ++ catL l := by simp [catL]
theorem catL_le (l : List ByteArray) (m : Nat) (h : ∀ x ∈ l, x.size ≤ m) : (catL l).length ≤ l.length * m := by
  induction l with
  | nil => simp [catL]
  | cons x l ih =>
    have h1 := h x (by simp)
    have h2 := ih (fun y hy => h y (by simp [hy]))
    rw [catL_cons, List.length_append, List.length_cons, Nat.add_mul, ← Cr.ba_size]; omega
theorem catL_len (l : List ByteArray) (m : Nat) (h : ∀ x ∈ l, x.size = m) : (catL l).length = l.length * m := by
  induction l with
  | nil => simp [catL]
  | cons x l ih =>
    have h1 := h x (by simp)
    have h2 := ih (fun y hy => h y (by simp [hy]))
    rw [catL_cons, List.length_append, List.length_cons, Nat.add_mul, ← Cr.ba_size]; omega
theorem join_all (l : List ByteArray) : strings_Join.all l ⟨#[]⟩ = catL l := by
  unfold strings_Join.all catL
  cases l with
  | nil => rfl
  | cons x l =>
    rw [List.map_cons, Lib.join_cons, List.flatten_cons]
    congr 1
    unfold Lib.joinTail
    congr 1
    exact (List.map_congr_left (fun y _ => List.nil_append y)).trans (List.map_id _)
theorem head_bv (n : Nat) (h1 : 1 ≤ n) (h : n ≤ 4) : (frame_Put.head n).data.toList = [UInt8.ofNat n] := by
  rcases (by omega : n = 1 ∨ n = 2 ∨ n = 3 ∨ n = 4) with rfl | rfl | rfl | rfl <;> rfl
def good (a0 : Int) (l : List ByteArray) : Prop := (1 ≤ a0 ∧ a0 ≤ 64) ∧ (1 ≤ l.length ∧ l.length ≤ 4) ∧ ∀ x ∈ l, (x.size : Int) = a0
def block (l : List ByteArray) : List UInt8 := Cr.closeB (UInt8.ofNat l.length :: catL l)
open Classical in
noncomputable def putF (a0 : Int) (l : List ByteArray) : ByteArray × Bool := if good a0 l then (⟨(block l).toArray⟩, true) else (⟨#[]⟩, false)
theorem any_all (a0 : Int) (l : List ByteArray) : (l.any (fun r => (r.size : Int) != a0) = false) ↔ ∀ x ∈ l, (x.size : Int) = a0 := by
  rw [List.any_eq_false]
  constructor
  · intro h x hx; have := h x hx; simpa using this
  · intro h x hx; have := h x hx; simpa using this
theorem frame_put (a0 : Int) (l : List ByteArray) (hl : l.length ≤ 10) (hs : ∀ x ∈ l, x.size ≤ 80) : frame_Put.f a0 l = some (putF a0 l) := by
  have hc := catL_le l 80 hs
  have hz : frame_sized.f a0 = some (decide (1 ≤ a0 ∧ a0 ≤ 64)) := by
    unfold frame_sized.f
    by_cases h : a0 ≥ 1
    · rw [if_pos h]; exact congrArg some (decide_eq_decide.mpr (by omega))
    · rw [if_neg h]; exact congrArg some (Eq.symm (decide_eq_false (by omega)))
  have hj : strings_Join.f l ⟨#[]⟩ = some ⟨(catL l).toArray⟩ := by
    unfold strings_Join.f; rw [join_all, if_pos ⟨by omega, by omega⟩]
  unfold frame_Put.f putF
  rw [hz, Option.bind_some]
  by_cases hg : good a0 l
  · obtain ⟨g1, g2, g3⟩ := hg
    have hcl : (⟨(catL l).toArray⟩ : ByteArray).size = (catL l).length := by rw [Cr.ba_size]
    have hhs : (frame_Put.head l.length).size = 1 := by rw [Cr.ba_size, head_bv _ g2.1 g2.2]; rfl
    rw [if_pos ⟨decide_eq_true g1, by omega, g2.2, (any_all a0 l).mpr g3⟩, hj, Option.bind_some, if_pos (by rw [hcl, hhs]; omega), if_pos (show good a0 l from ⟨g1, g2, g3⟩)]
    obtain ⟨c, c1, c2⟩ := Cr.close_bv (frame_Put.head l.length ++ ⟨(catL l).toArray⟩) (by rw [Cr.ba_size, Cr.ba_append, List.length_append, ← Cr.ba_size, ← Cr.ba_size, hhs, hcl]; omega)
    rw [c1, Option.bind_some]
    refine congrArg some (Prod.ext (Cr.ba_ext ?_) rfl)
    rw [c2, Cr.ba_append, head_bv _ g2.1 g2.2]
    rfl
  · rw [if_neg ?_, if_neg hg]; rfl
    rintro ⟨h1, h2, h3, h4⟩
    exact hg ⟨of_decide_eq_true h1, ⟨by omega, h3⟩, (any_all a0 l).mp h4⟩
theorem rd_nat (l : List ByteArray) (i : Nat) (h : i < l.length) : rdOf ByteArray.empty l (i : Int) = l[i] := by
  unfold rdOf
  rw [Int.toNat_natCast, List.getD_eq_getElem?_getD, List.getElem?_eq_getElem h]; rfl
theorem wsucc (i : Nat) (h : i < 1000000) : wrap64 ((i : Int) + 1) = ((i + 1 : Nat) : Int) := by unfold wrap64; omega
def allB (a0 : Int) (l : List ByteArray) : Bool := l.all (fun x => (x.size : Int) == a0)
theorem allB_iff (a0 : Int) (l : List ByteArray) : allB a0 l = true ↔ ∀ x ∈ l, (x.size : Int) = a0 := by
  unfold allB; rw [List.all_eq_true]; simp
theorem all_ev (a0 : Int) (l : List ByteArray) (hl : l.length ≤ 10) : ∀ (d i : Nat), i + d = l.length → Ev (fun k => chainmanref05_All.l0 k a0 l (i : Int)) (allB a0 (l.drop i)) := by
  intro d
  induction d with
  | zero =>
    intro i hi
    refine Ev.step (f := fun _ => some true) (fun q => ?_) ?_
    · rw [chainmanref05_All.l0, if_neg (by omega)]
    · rw [List.drop_of_length_le (by omega)]; exact Ev.now _
  | succ d ih =>
    intro i hi
    have hlt : i < l.length := by omega
    have hB : allB a0 (l.drop i) = (((l[i].size : Int) == a0) && allB a0 (l.drop (i + 1))) := by rw [List.drop_eq_getElem_cons hlt]; rfl
    rw [hB]
    by_cases h : (l[i].size : Int) = a0
    · rw [show ((l[i].size : Int) == a0) = true by simpa using h, Bool.true_and]
      refine Ev.step (fun q => ?_) (ih (i + 1) (by omega))
      rw [chainmanref05_All.l0, if_pos (by omega), if_pos (by omega), rd_nat l i hlt, if_pos h, wsucc i (by omega)]
    · rw [show ((l[i].size : Int) == a0) = false by simpa using h, Bool.false_and]
      refine Ev.step (f := fun _ => some false) (fun q => ?_) (Ev.now _)
      rw [chainmanref05_All.l0, if_pos (by omega), if_pos (by omega), rd_nat l i hlt, if_neg h]
theorem refput_loop (l : List ByteArray) (hl : l.length ≤ 10) (hs : ∀ x ∈ l, x.size ≤ 80) : ∀ (d i : Nat) (acc : ByteArray), i + d = l.length → acc.size ≤ 1 + 80 * i →
    Ev (fun k => chainmanref05_Put.l0 k l acc (i : Int)) (⟨(Cr.closeB (acc.data.toList ++ catL (l.drop i))).toArray⟩, true) := by
  intro d
  induction d with
  | zero =>
    intro i acc hi ha
    rw [List.drop_of_length_le (by omega), show catL [] = [] from rfl, List.append_nil]
    have hsz : acc.size ≤ 1000 := by omega
    have he : Ev (fun k => chainmanref03_Close.f k acc) (⟨(Cr.closeB acc.data.toList).toArray⟩) := ⟨10 * acc.size + 1, fun k hk => by
      obtain ⟨c, c1, c2⟩ := Cr.refclose_bv acc (by omega) k hk
      exact c1.trans (congrArg some (Cr.ba_ext c2))⟩
    refine Ev.step (fun q => ?_) (Ev.bind he (f := fun _ t => some (t, true)) (Ev.now _))
    rw [chainmanref05_Put.l0, if_neg (by omega)]
  | succ d ih =>
    intro i acc hi ha
    have hlt : i < l.length := by omega
    have hx : l[i].size ≤ 80 := hs _ (List.getElem_mem hlt)
    have := ih (i + 1) (acc ++ l[i]) (by omega) (by rw [Cr.ba_size, Cr.ba_append, List.length_append, ← Cr.ba_size, ← Cr.ba_size]; omega)
    rw [show acc.data.toList ++ catL (l.drop i) = (acc ++ l[i]).data.toList ++ catL (l.drop (i + 1)) by rw [List.drop_eq_getElem_cons hlt, catL_cons, Cr.ba_append, List.append_assoc]]
    refine Ev.step (fun q => ?_) this
    rw [chainmanref05_Put.l0, if_pos (by omega), if_pos (by omega), rd_nat l i hlt, if_pos (by omega), wsucc i (by omega)]
theorem frame_refput (a0 : Int) (l : List ByteArray) (hl : l.length ≤ 10) (hs : ∀ x ∈ l, x.size ≤ 80) : Ev (fun k => chainmanref05_Put.f k a0 l) (putF a0 l) := by
  have no : ∀ b : Bool, b = true → Ev (fun k => chainmanref05_Put.j0 k l b) ((⟨#[]⟩ : ByteArray), false) := fun b hb =>
    Ev.step (f := fun _ => some ((⟨#[]⟩ : ByteArray), false)) (fun q => by rw [chainmanref05_Put.j0, if_pos hb]) (Ev.now _)
  unfold putF
  by_cases h1 : a0 < 1
  · rw [if_neg (by rintro ⟨h, _⟩; omega)]
    exact Ev.congr (fun k => by unfold chainmanref05_Put.f; rw [if_pos h1]) (no true rfl)
  by_cases h2 : a0 > 64
  · rw [if_neg (by rintro ⟨h, _⟩; omega)]
    exact Ev.congr (fun k => by unfold chainmanref05_Put.f; rw [if_neg h1, if_pos h2]) (no true rfl)
  by_cases h3 : (l.length : Int) < 1
  · rw [if_neg (by rintro ⟨_, h, _⟩; omega)]
    exact Ev.congr (fun k => by unfold chainmanref05_Put.f; rw [if_neg h1, if_neg h2, if_pos h3]) (no true rfl)
  by_cases h4 : (l.length : Int) > 4
  · rw [if_neg (by rintro ⟨_, h, _⟩; omega)]
    exact Ev.congr (fun k => by unfold chainmanref05_Put.f; rw [if_neg h1, if_neg h2, if_neg h3, if_pos h4]) (no true rfl)
  refine Ev.congr (fun k => by unfold chainmanref05_Put.f; rw [if_neg h1, if_neg h2, if_neg h3, if_neg h4]) ?_
  have ha := all_ev a0 l hl l.length 0 (by omega)
  rw [List.drop_zero] at ha
  refine Ev.bind (g := fun k => chainmanref05_All.f k a0 l) (f := fun k t => chainmanref05_Put.j0 k l (!t)) ha ?_
  by_cases h5 : ∀ x ∈ l, (x.size : Int) = a0
  · rw [(allB_iff a0 l).mpr h5, if_pos ⟨by omega, by omega, h5⟩]
    have := refput_loop l hl hs l.length 0 (strOfNums [(l.length : Int) % 256]) (by omega) (by have : (strOfNums [(l.length : Int) % 256]).size = 1 := strOfNums_size _; omega)
    rw [List.drop_zero, show (strOfNums [(l.length : Int) % 256]).data.toList = [UInt8.ofNat l.length] by rw [strOfNums_data, List.map_singleton]; congr 2; omega] at this
    exact Ev.step (fun q => by rw [chainmanref05_Put.j0, if_neg (by decide)]; rfl) this
  · rw [show allB a0 l = false by rw [Bool.eq_false_iff]; intro h; exact h5 ((allB_iff a0 l).mp h), if_neg (by rintro ⟨_, _, h⟩; exact h5 h)]
    exact no _ rfl
/-! ### numbers' bytes, told back -/
theorem numN_inj (l : List UInt8) : ∀ m : List UInt8, l.length = m.length → Oc.numN l = Oc.numN m → l = m := by
  refine Oc.snoc_ind (fun l => ∀ m : List UInt8, l.length = m.length → Oc.numN l = Oc.numN m → l = m) ?_ ?_ l
  · intro m h _; exact (List.eq_nil_of_length_eq_zero h.symm).symm
  · intro l c ih m hl hn
    rcases List.eq_nil_or_concat m with rfl | ⟨m', d, rfl⟩
    · simp at hl
    · rw [List.concat_eq_append] at hl hn ⊢
      rw [Oc.numN_snoc, Oc.numN_snoc] at hn
      have hc := c.toNat_lt; have hd := d.toNat_lt
      have e1 := ih m' (by simpa using hl) (by omega)
      have e2 : c = d := UInt8.toNat.inj (by omega)
      rw [e1, e2]
def beU (n k : Nat) : List UInt8 := (Oc.beN n k).map fun x => UInt8.ofNat x.toNat
theorem beU_data (n k : Nat) : (strOfNums (Oc.beN n k)).data.toList = beU n k := strOfNums_data _
theorem beU_len (n k : Nat) : (beU n k).length = k := by unfold beU; rw [List.length_map, Oc.beN_len]
theorem beU_succ (n k : Nat) : beU n (k + 1) = UInt8.ofNat (n / 256 ^ k % 256) :: beU n k := by
  unfold beU; rw [Oc.beN_succ, List.map_cons, Int.toNat_natCast]
/-- what comes back: the number's last k bytes -/
theorem numN_from (l : List UInt8) : ∀ a : Nat, l.foldl (fun n c => n * 256 + c.toNat) a = a * 256 ^ l.length + Oc.numN l := by
  induction l with
  | nil => intro a; simp [Oc.numN]
  | cons c l ih =>
    intro a
    have h1 : (c :: l).foldl (fun n c => n * 256 + c.toNat) a = l.foldl (fun n c => n * 256 + c.toNat) (a * 256 + c.toNat) := rfl
    have h2 : Oc.numN (c :: l) = l.foldl (fun n c => n * 256 + c.toNat) (0 * 256 + c.toNat) := rfl
    rw [h1, ih, h2, ih, List.length_cons, Nat.pow_succ, Nat.add_mul, Nat.zero_mul, Nat.zero_add, Nat.mul_assoc, Nat.mul_comm 256, Nat.add_assoc]
theorem numN_cons (c : UInt8) (l : List UInt8) : Oc.numN (c :: l) = c.toNat * 256 ^ l.length + Oc.numN l := by
  have h := numN_from l (0 * 256 + c.toNat)
  rw [Nat.zero_mul, Nat.zero_add] at h
  have h2 : Oc.numN (c :: l) = l.foldl (fun n c => n * 256 + c.toNat) (0 * 256 + c.toNat) := rfl
  rw [h2, Nat.zero_mul, Nat.zero_add]
  exact h
theorem numN_beU (n : Nat) : ∀ k, Oc.numN (beU n k) = n % 256 ^ k := by
  intro k
  induction k with
  | zero => show 0 = n % 1; rw [Nat.mod_one]
  | succ k ih =>
    have hb : (UInt8.ofNat (n / 256 ^ k % 256)).toNat = n / 256 ^ k % 256 := by
      rw [UInt8.toNat_ofNat']
      exact Nat.mod_mod_of_dvd _ (by decide)
    rw [beU_succ, numN_cons, ih, beU_len, hb, Nat.pow_succ, Nat.mod_mul, Nat.mul_comm (256 ^ k)]
    exact Nat.add_comm _ _

/-! ### ends -/
theorem putB_ok (n k : Nat) (hk : 1 ≤ k) (hk8 : k ≤ 8) (hn : n < 256 ^ k) : Oc.putB (n : Int) (k : Int) = (strOfNums (Oc.beN n k), true) := by
  unfold Oc.putB; rw [if_neg (by omega), Int.toNat_natCast, Int.toNat_natCast, if_pos hn]
def endL (n c : Nat) : List UInt8 := 0 :: (beU n 8 ++ beU c 4)
theorem end_data (n c : Nat) : ((((⟨#[0]⟩ : ByteArray) ++ strOfNums (Oc.beN n 8)) ++ strOfNums (Oc.beN c 4))).data.toList = endL n c := by
  rw [Cr.ba_append, Cr.ba_append, beU_data, beU_data]; rfl
theorem end_size (n c : Nat) : ((((⟨#[0]⟩ : ByteArray) ++ strOfNums (Oc.beN n 8)) ++ strOfNums (Oc.beN c 4))).size = 13 := by
  rw [Cr.ba_size, end_data]; unfold endL; rw [List.length_cons, List.length_append, beU_len, beU_len]
theorem be_size (n k : Nat) : (strOfNums (Oc.beN n k)).size = k := (strOfNums_size _).trans (Oc.beN_len _ _)
def endF (n : Int) (c : Nat) : ByteArray × Bool := if 0 ≤ n ∧ n ≤ 4611686018427387904 then (⟨(Cr.closeB (endL n.toNat c)).toArray⟩, true) else (⟨#[]⟩, false)
theorem frame_end (n : Int) (c : Nat) (hn : n < 9223372036854775808) (hn' : -9223372036854775808 ≤ n) (hc : c < 4294967296) : frame_PutEnd.f n (c : Int) = some (endF n c) := by
  have hw : wrap64 (c : Int) = (c : Int) := by unfold wrap64; omega
  unfold frame_PutEnd.f endF
  rw [hw, Oc.put_bv n 8 hn, Oc.put_bv (c : Int) 4 (by omega), Option.bind_some, Option.bind_some, show Oc.putB (c : Int) 4 = (strOfNums (Oc.beN c 4), true) from putB_ok c 4 (by decide) (by decide) (by omega)]
  by_cases h0 : n < 0
  · rw [show Oc.putB n 8 = (⟨#[]⟩, false) by unfold Oc.putB; rw [if_pos (.inl h0)]]
    simp only [Bool.false_eq_true, if_false]
    rw [if_neg (by omega)]
  · obtain ⟨m, rfl⟩ := Int.eq_ofNat_of_zero_le (show 0 ≤ n by omega)
    rw [show Oc.putB (m : Int) 8 = (strOfNums (Oc.beN m 8), true) from putB_ok m 8 (by decide) (by decide) (by omega)]
    simp only [if_true]
    by_cases h1 : (m : Int) > 4611686018427387904
    · rw [if_pos h1, if_neg (by omega)]
    · have hs := be_size m 8
      have hs4 := be_size c 4
      have hz : ((⟨#[0]⟩ : ByteArray) ++ strOfNums (Oc.beN m 8)).size = 9 := by rw [ByteArray.size_append, hs]; rfl
      rw [if_neg h1, if_pos (by omega), if_pos (by omega)]
      obtain ⟨t, t1, t2⟩ := Cr.close_bv (((⟨#[0]⟩ : ByteArray) ++ strOfNums (Oc.beN m 8)) ++ strOfNums (Oc.beN c 4)) (by rw [end_size]; omega)
      rw [t1, Option.bind_some, if_pos (by omega), Int.toNat_natCast]
      exact congrArg some (Prod.ext (Cr.ba_ext (t2.trans (by rw [end_data]))) rfl)
theorem frame_refend (n : Int) (c : Nat) (hn : n < 9223372036854775808) (hn' : -9223372036854775808 ≤ n) (hc : c < 4294967296) : Ev (fun k => chainmanref05_PutEnd.f k n (c : Int)) (endF n c) := by
  have hw : wrap64 (c : Int) = (c : Int) := by unfold wrap64; omega
  have no : ∀ b : Bool, b = true → Ev (fun k => chainmanref05_PutEnd.j0 k b n (c : Int)) ((⟨#[]⟩ : ByteArray), false) := fun b hb =>
    Ev.step (f := fun _ => some ((⟨#[]⟩ : ByteArray), false)) (fun q => by rw [chainmanref05_PutEnd.j0, if_pos hb]) (Ev.now _)
  unfold endF
  by_cases h0 : n < 0
  · rw [if_neg (by omega)]
    exact Ev.congr (fun k => by unfold chainmanref05_PutEnd.f; rw [if_pos h0]) (no true rfl)
  by_cases h1 : n > 4611686018427387904
  · rw [if_neg (by omega)]
    exact Ev.congr (fun k => by unfold chainmanref05_PutEnd.f; rw [if_neg h0]) (no _ (decide_eq_true h1))
  obtain ⟨m, rfl⟩ := Int.eq_ofNat_of_zero_le (show 0 ≤ n by omega)
  rw [if_pos (by omega)]
  refine Ev.congr (fun k => by unfold chainmanref05_PutEnd.f; rw [if_neg h0, decide_eq_false h1]) ?_
  refine Ev.step (fun k => by rw [chainmanref05_PutEnd.j0, if_neg (by decide)]) ?_
  have must : ∀ (x k' : Nat), 1 ≤ k' → k' ≤ 8 → x < 256 ^ k' → x < 9223372036854775808 → Ev (fun k => chainmanref02_Must.f k (x : Int) (k' : Int)) (strOfNums (Oc.beN x k')) := fun x k' a1 a2 a3 a4 => ⟨20, fun k hk => by
    show chainmanref02_Must.f k (x : Int) (k' : Int) = _
    unfold chainmanref02_Must.f
    rw [Oc.refput_bv _ _ k hk (by omega), Option.bind_some, putB_ok x k' a1 a2 a3]⟩
  have hs := be_size m 8
  have hs4 := be_size c 4
  have hz : ((⟨#[0]⟩ : ByteArray) ++ strOfNums (Oc.beN m 8)).size = 9 := by rw [ByteArray.size_append, hs]; rfl
  refine Ev.bind (must m 8 (by decide) (by decide) (by omega) (by omega)) ?_
  refine Ev.congr (fun k => by rw [if_pos (by omega), hw]) ?_
  refine Ev.bind (must c 4 (by decide) (by decide) (by omega) (by omega)) ?_
  refine Ev.congr (fun k => by rw [if_pos (by omega)]) ?_
  refine Ev.bind (g := fun k => chainmanref03_Close.f k _) (a := (⟨(Cr.closeB (endL m c)).toArray⟩ : ByteArray)) ⟨1000, fun k hk => ?_⟩ (Ev.now _)
  obtain ⟨t, t1, t2⟩ := Cr.refclose_bv (((⟨#[0]⟩ : ByteArray) ++ strOfNums (Oc.beN m 8)) ++ strOfNums (Oc.beN c 4)) (by rw [end_size]; omega) k (by rw [end_size]; omega)
  exact t1.trans (congrArg some (Cr.ba_ext (t2.trans (by rw [end_data]))))
theorem bt_head (s : ByteArray) (c : UInt8) (L : List UInt8) (h : s.data.toList = c :: L) : bt s 0 = (c.toNat : Int) := by
  have := Oc.bt_nat s 0 (by rw [h]; simp)
  rw [show ((0 : Nat) : Int) = 0 from rfl] at this
  rw [this]; congr 2; simp [h]
theorem openB_some {l t : List UInt8} (h : Cr.openB l = some t) : 4 ≤ l.length ∧ t = l.take (l.length - 4) ∧ Cr.closeB t = l := by
  unfold Cr.openB at h
  split at h
  · cases h
  · split at h
    · rename_i h1 h2; obtain rfl := Option.some.inj h; exact ⟨by omega, rfl, h2⟩
    · cases h
theorem openB_none {l t : List UInt8} (h : Cr.openB l = none) : Cr.closeB t ≠ l := by
  intro e
  subst e
  unfold Cr.openB at h
  rw [if_neg (by rw [Cr.closeB_len]; omega), if_pos (by rw [Cr.closeB_len, Nat.add_sub_cancel]; unfold Cr.closeB; rw [List.take_left])] at h
  cases h
/-- What is behind an end's bytes, by the program. -/
def getE (L : List UInt8) : Int × Int × Bool :=
  if L.length = 17 ∧ L.getD 0 0 = 0 ∧ (Cr.openB L).isSome = true ∧ Oc.numN ((L.drop 1).take 8) ≤ 4611686018427387904 then ((Oc.numN ((L.drop 1).take 8) : Int), (Oc.numN ((L.drop 9).take 4) : Int), true) else (0, 0, false)
theorem num4 (L : List UInt8) (k : Nat) (h : L.length ≤ k) : Oc.numN L < 256 ^ k := Nat.lt_of_lt_of_le (Oc.numN_lt L) (Nat.pow_le_pow_right (by decide) h)
theorem take_len (L : List UInt8) (p k : Nat) (h : p + k ≤ L.length) : ((L.drop p).take k).length = k := by rw [List.length_take, List.length_drop]; omega
theorem frame_getend (s : ByteArray) (hs : s.size ≤ 100000) : Ev (fun k => frame_GetEnd.f k s) (getE s.data.toList) := by
  have no : ∀ b : Bool, b = true → Ev (fun k => frame_GetEnd.j0 k s b) ((0 : Int), (0 : Int), false) := fun b hb =>
    Ev.step (f := fun _ => some (0, 0, false)) (fun q => by rw [frame_GetEnd.j0, if_pos hb]) (Ev.now _)
  have hL := Cr.ba_size s
  unfold getE
  by_cases h1 : (s.size : Int) = 17
  case neg =>
    rw [if_neg (by rintro ⟨h, _⟩; omega)]
    exact Ev.congr (fun k => by unfold frame_GetEnd.f; rw [if_neg h1]) (no true rfl)
  obtain ⟨c, M, hM⟩ : ∃ c M, s.data.toList = c :: M := by
    cases h : s.data.toList with
    | nil => rw [h, List.length_nil] at hL; omega
    | cons c M => exact ⟨c, M, rfl⟩
  have hb := bt_head s c M hM
  have hc0 : (s.data.toList.getD 0 0 = 0) ↔ c = 0 := by rw [hM]; exact Iff.rfl
  refine Ev.congr (fun k => by unfold frame_GetEnd.f; rw [if_pos h1, if_pos (by omega), hb]) ?_
  by_cases h2 : c = 0
  case neg =>
    rw [if_neg (by rintro ⟨_, h, _⟩; exact h2 (hc0.mp h))]
    have : c.toNat ≠ 0 := fun h => h2 (UInt8.toNat.inj h)
    exact no _ (decide_eq_true (by omega))
  have hz : decide ((c.toNat : Int) > 0) = false := by subst h2; rfl
  rw [hz]
  refine Ev.step (f := fun _ => some _) (fun k => ?_) (Ev.now _)
  rw [frame_GetEnd.j0, if_neg (by decide), Cr.open_bv s (by omega)]
  cases ho : Cr.openB s.data.toList with
  | none => simp
  | some t =>
    obtain ⟨_, ht, _⟩ := openB_some ho
    have htl : t.length = 13 := by rw [ht, List.length_take]; omega
    have hts : (⟨t.toArray⟩ : ByteArray).size = 13 := by rw [Cr.ba_size]; exact htl
    have g1 := Oc.get_bv (⟨t.toArray⟩ : ByteArray) 1 8 (by omega) (by decide)
    have g2 := Oc.get_bv (⟨t.toArray⟩ : ByteArray) 9 4 (by omega) (by decide)
    have e1 : (t.drop 1).take 8 = (s.data.toList.drop 1).take 8 := by rw [ht, List.drop_take, List.take_take]; congr 1; omega
    have e2 : (t.drop 9).take 4 = (s.data.toList.drop 9).take 4 := by rw [ht, List.drop_take, List.take_take]; congr 1; omega
    have b2 : Oc.numN ((s.data.toList.drop 9).take 4) < 4294967296 := num4 _ 4 (by rw [List.length_take]; omega)
    unfold Oc.getB at g1 g2
    rw [if_neg (by omega)] at g1 g2
    rw [show ((9 : Int).toNat) = 9 from rfl, show ((4 : Int).toNat) = 4 from rfl, show (⟨t.toArray⟩ : ByteArray).data.toList = t from rfl, e2, if_pos (by omega)] at g2
    rw [show ((1 : Int).toNat) = 1 from rfl, show ((8 : Int).toNat) = 8 from rfl, show (⟨t.toArray⟩ : ByteArray).data.toList = t from rfl, e1] at g1
    simp only [Option.bind_some, if_true]
    rw [g1, g2]
    simp only [Option.bind_some, if_true]
    by_cases h3 : Oc.numN ((s.data.toList.drop 1).take 8) < 9223372036854775808
    · rw [if_pos h3]
      simp only [if_true]
      by_cases h4 : Oc.numN ((s.data.toList.drop 1).take 8) ≤ 4611686018427387904
      · rw [if_neg (by omega), if_pos ⟨by omega, hc0.mpr h2, rfl, h4⟩]
        congr 3
        omega
      · rw [if_pos (by omega), if_neg (by rintro ⟨_, _, _, h⟩; exact h4 h)]
    · rw [if_neg h3]
      simp only [Bool.false_eq_true, if_false]
      rw [if_neg (by rintro ⟨_, _, _, h⟩; omega)]
theorem beU_num (l : List UInt8) : beU (Oc.numN l) l.length = l := by
  refine numN_inj _ _ (beU_len _ _) ?_
  rw [numN_beU, Nat.mod_eq_of_lt (Oc.numN_lt l)]
theorem take_drop_cat (L : List UInt8) (p k : Nat) : (L.drop p).take k ++ L.drop (p + k) = L.drop p := by
  rw [← List.drop_drop]; exact List.take_append_drop k (L.drop p)
theorem endL_take (L : List UInt8) (h : L.length = 17) (h0 : L.getD 0 0 = 0) : endL (Oc.numN ((L.drop 1).take 8)) (Oc.numN ((L.drop 9).take 4)) = L.take 13 := by
  obtain ⟨c, M, rfl⟩ : ∃ c M, L = c :: M := by
    cases L with
    | nil => simp at h
    | cons c M => exact ⟨c, M, rfl⟩
  have hc : c = 0 := h0
  subst hc
  have hM : M.length = 16 := by simpa using h
  unfold endL
  rw [List.drop_succ_cons, List.drop_zero, show (9 : Nat) = 8 + 1 from rfl, List.drop_succ_cons, show (13 : Nat) = 12 + 1 from rfl, List.take_succ_cons]
  congr 1
  have a1 := beU_num (M.take 8)
  have a2 := beU_num ((M.drop 8).take 4)
  rw [List.length_take, show min 8 M.length = 8 by omega] at a1
  rw [List.length_take, List.length_drop, show min 4 (M.length - 8) = 4 by omega] at a2
  rw [a1, a2, show (12 : Nat) = 8 + 4 from rfl, List.take_add]
theorem split_exact (s : ByteArray) (k d : Nat) (hk : 1 ≤ k) (hs : s.size = d * k) (hm : s.size ≤ 1000) : ∃ r, Ev (fun q => octet_Split.f q s (k : Int)) (r, true) ∧ Ev (fun q => chainmanref02_Split.f q s (k : Int)) (r, true) ∧ r.length ≤ 2000 := by
  have hd : d ≤ 1000 := Nat.le_trans (Nat.le_mul_of_pos_right d hk) (by omega)
  obtain ⟨r, h2, h3, h4⟩ := Oc.pieces s k hk hm d 0 [] (by omega) (by simp; omega)
  have e0 : s.extract 0 s.size = s := Cr.ba_ext (by rw [Oc.ex_data, List.drop_zero, Cr.ba_size, List.take_length])
  rw [e0] at h2
  have hz : s.size % k = 0 := by rw [hs, Nat.mul_mod_left]
  have hz' : ((s.size : Int) % (k : Int)) = 0 := by rw [← Int.natCast_emod, hz]; rfl
  refine ⟨r, Ev.congr (f := fun q => octet_Split.j0 q s (k : Int) false) (fun q => ?_) (Ev.step (fun q => ?_) h2), Ev.congr (f := fun q => chainmanref02_Split.j0 q s (k : Int) false) (fun q => ?_) (Ev.step (fun q => ?_) h3), h4⟩
  · unfold octet_Split.f; rw [if_neg (by omega), if_neg (by omega), hz', decide_eq_false (by omega)]
  · rw [octet_Split.j0, if_neg (by decide)]
  · unfold chainmanref02_Split.f; rw [if_neg (by omega), if_neg (by omega), hz']; rfl
  · rw [chainmanref02_Split.j0, if_neg (by decide)]; rfl
theorem get_both (a0 : Int) (s : ByteArray) (hs : s.size ≤ 100000) : ∃ r, Ev (fun k => frame_Get.f k a0 s) r ∧ Ev (fun k => chainmanref05_Get.f k a0 s) r ∧ r.1.length ≤ 2000 := by
  have hL := Cr.ba_size s
  have no : ∀ b : Bool, b = true → Ev (fun k => frame_Get.j0 k a0 s b) (([] : List ByteArray), (0 : Int), false) := fun b hb =>
    Ev.step (f := fun _ => some ([], 0, false)) (fun q => by rw [frame_Get.j0, if_pos hb]) (Ev.now _)
  have no' : ∀ b : Bool, b = true → Ev (fun k => chainmanref05_Get.j0 k a0 s b) (([] : List ByteArray), (0 : Int), false) := fun b hb =>
    Ev.step (f := fun _ => some ([], 0, false)) (fun q => by rw [chainmanref05_Get.j0, if_pos hb]) (Ev.now _)
  have hz : frame_sized.f a0 = some (decide (1 ≤ a0 ∧ a0 ≤ 64)) := by
    unfold frame_sized.f
    by_cases h : a0 ≥ 1
    · rw [if_pos h]; exact congrArg some (decide_eq_decide.mpr (by omega))
    · rw [if_neg h]; exact congrArg some (Eq.symm (decide_eq_false (by omega)))
  by_cases h1 : 1 ≤ a0 ∧ a0 ≤ 64
  case neg =>
    refine ⟨_, Ev.congr (fun k => by unfold frame_Get.f; rw [hz, decide_eq_false h1, Option.bind_some, if_neg (by decide)]) (no true rfl), ?_, by simp⟩
    by_cases h2 : a0 < 1
    · exact Ev.congr (fun k => by unfold chainmanref05_Get.f; rw [if_pos h2]) (no' true rfl)
    · exact Ev.congr (fun k => by unfold chainmanref05_Get.f; rw [if_neg h2, if_pos (by omega)]) (no' true rfl)
  have p1 : ∀ k, frame_Get.f k a0 s = if s.toList = ([] : List UInt8) then frame_Get.j0 k a0 s true else if 0 < (s.size : Int) then (if bt s 0 = 0 then frame_Get.j0 k a0 s true else frame_Get.j0 k a0 s (decide (bt s 0 > 4))) else none := fun k => by
    unfold frame_Get.f; rw [hz, decide_eq_true h1, Option.bind_some, if_pos rfl]
  have p2 : ∀ k, chainmanref05_Get.f k a0 s = if (s.size : Int) < 1 then chainmanref05_Get.j0 k a0 s true else if 0 < (s.size : Int) then (if bt s 0 < 1 then chainmanref05_Get.j0 k a0 s true else chainmanref05_Get.j0 k a0 s (decide (bt s 0 > 4))) else none := fun k => by
    unfold chainmanref05_Get.f; rw [if_neg (by omega), if_neg (by omega)]
  cases hM : s.data.toList with
  | nil =>
    rw [hM, List.length_nil] at hL
    exact ⟨_, Ev.congr (fun k => by rw [p1, if_pos (by rw [ByteArray.toList_eq]; exact hM)]) (no true rfl), Ev.congr (fun k => by rw [p2, if_pos (by omega)]) (no' true rfl), by simp⟩
  | cons c M =>
    have hb := bt_head s c M hM
    have hlen : s.size = M.length + 1 := by rw [hL, hM]; rfl
    have q1 : ∀ k, frame_Get.f k a0 s = if bt s 0 = 0 then frame_Get.j0 k a0 s true else frame_Get.j0 k a0 s (decide (bt s 0 > 4)) := fun k => by
      rw [p1, if_neg (by rw [ByteArray.toList_eq, hM]; simp), if_pos (by omega)]
    have q2 : ∀ k, chainmanref05_Get.f k a0 s = if bt s 0 < 1 then chainmanref05_Get.j0 k a0 s true else chainmanref05_Get.j0 k a0 s (decide (bt s 0 > 4)) := fun k => by
      rw [p2, if_neg (by omega), if_pos (by omega)]
    by_cases h2 : c.toNat = 0
    · exact ⟨_, Ev.congr (fun k => by rw [q1, if_pos (by omega)]) (no true rfl), Ev.congr (fun k => by rw [q2, if_pos (by omega)]) (no' true rfl), by simp⟩
    by_cases h3 : 4 < c.toNat
    · exact ⟨_, Ev.congr (fun k => by rw [q1, if_neg (by omega)]) (no _ (decide_eq_true (by omega))), Ev.congr (fun k => by rw [q2, if_neg (by omega)]) (no' _ (decide_eq_true (by omega))), by simp⟩
    have b1 : ¬ (bt s 0 = 0) := by omega
    have b2 : ¬ (bt s 0 < 1) := by omega
    have b3 : ¬ (bt s 0 > 4) := by omega
    have r1 : Ev (fun k => frame_Get.f k a0 s) = Ev (fun k => frame_Get.j0 k a0 s false) := by
      congr 1; funext k; rw [q1, if_neg b1, decide_eq_false b3]
    have r2 : Ev (fun k => chainmanref05_Get.f k a0 s) = Ev (fun k => chainmanref05_Get.j0 k a0 s false) := by
      congr 1; funext k; rw [q2, if_neg b2, decide_eq_false b3]
    clear q1 q2 p1 p2 b1 b2 b3
    obtain ⟨a, rfl⟩ := Int.eq_ofNat_of_zero_le (show 0 ≤ a0 by omega)
    have hca : c.toNat * a ≤ 256 := Nat.le_trans (Nat.mul_le_mul (show c.toNat ≤ 4 by omega) (show a ≤ 64 by omega)) (by decide)
    have hpos : 0 < (s.size : Int) := by omega
    have wd : wrap64 ((wrap64 (1 + (wrap64 ((wrap64 (bt s 0)) * (a : Int))))) + 4) = ((1 + c.toNat * a + 4 : Nat) : Int) := by
      have w1 : wrap64 ((c.toNat : Int)) = (c.toNat : Int) := by unfold wrap64; omega
      rw [hb, w1, ← Int.natCast_mul]
      clear w1 r1 r2 hz hb
      generalize c.toNat * a = d at hca
      have e1 : wrap64 (d : Int) = (d : Int) := by unfold wrap64; omega
      rw [e1]
      clear e1
      have e2 : wrap64 (1 + (d : Int)) = 1 + (d : Int) := by unfold wrap64; omega
      rw [e2]
      clear e2
      have e3 : wrap64 (1 + (d : Int) + 4) = 1 + (d : Int) + 4 := by unfold wrap64; omega
      rw [e3]
      clear e3
      omega
    have k1 : ∀ k, frame_Get.j0 (k + 1) (a : Int) s false = (if ((1 + c.toNat * a + 4 : Nat) : Int) > (s.size : Int) then (some (([] : List ByteArray), 0, false)) else (if 0 ≤ ((1 + c.toNat * a + 4 : Nat) : Int) then (if ((1 + c.toNat * a + 4 : Nat) : Int) ≤ (s.size : Int) then ((crc_Open.f (s.extract 0 (((1 + c.toNat * a + 4 : Nat) : Int) : Int).toNat)).bind fun bt127 => (if bt127.2 = true then (if 1 ≤ (bt127.1.size : Int) then ((octet_Split.f k (bt127.1.extract 1 bt127.1.size) (a : Int)).bind fun bt129 => (some (bt129.1, ((1 + c.toNat * a + 4 : Nat) : Int), bt129.2))) else (none)) else (some (([] : List ByteArray), 0, false)))) else (none)) else (none))) := fun k => by
      rw [frame_Get.j0, if_neg (by decide), if_pos hpos]
      unfold frame_length.f
      rw [wd, Option.bind_some]
    have k2 : ∀ k, chainmanref05_Get.j0 (k + 1) (a : Int) s false = (if (s.size : Int) < ((1 + c.toNat * a + 4 : Nat) : Int) then (some (([] : List ByteArray), 0, false)) else (if 0 ≤ ((1 + c.toNat * a + 4 : Nat) : Int) then (if ((1 + c.toNat * a + 4 : Nat) : Int) ≤ (s.size : Int) then ((chainmanref03_Open.f k (s.extract 0 (((1 + c.toNat * a + 4 : Nat) : Int) : Int).toNat)).bind fun bt158 => (if bt158.2 = true then (if 1 ≤ (bt158.1.size : Int) then ((chainmanref02_Split.f k (bt158.1.extract 1 bt158.1.size) (a : Int)).bind fun bt160 => (some (bt160.1, ((1 + c.toNat * a + 4 : Nat) : Int), true))) else (none)) else (some (([] : List ByteArray), 0, false)))) else (none)) else (none))) := fun k => by
      rw [chainmanref05_Get.j0, if_neg (by decide), if_pos hpos, wd]
    rw [r1, r2]
    clear r1 r2 wd hb hz
    generalize hca' : c.toNat * a = d at *
    by_cases h4 : s.size < 1 + d + 4
    · refine ⟨([], 0, false), Ev.step (f := fun _ => some ([], 0, false)) (fun k => ?_) (Ev.now _), Ev.step (f := fun _ => some ([], 0, false)) (fun k => ?_) (Ev.now _), by simp⟩
      · rw [k1, if_pos (by omega)]
      · rw [k2, if_pos (by omega)]
    have hx : (s.extract 0 (1 + d + 4)).size = 1 + d + 4 := by rw [Oc.ex_size _ _ _ (by omega)]; omega
    have c1 : ∀ k, frame_Get.j0 (k + 1) (a : Int) s false = (crc_Open.f (s.extract 0 (1 + d + 4))).bind fun bt127 => (if bt127.2 = true then (if 1 ≤ (bt127.1.size : Int) then ((octet_Split.f k (bt127.1.extract 1 bt127.1.size) (a : Int)).bind fun bt129 => (some (bt129.1, ((1 + d + 4 : Nat) : Int), bt129.2))) else (none)) else (some (([] : List ByteArray), 0, false))) := fun k => by
      rw [k1, if_neg (by omega), if_pos (by omega), if_pos (by omega), Int.toNat_natCast]
    have c2 : ∀ k, chainmanref05_Get.j0 (k + 1) (a : Int) s false = (chainmanref03_Open.f k (s.extract 0 (1 + d + 4))).bind fun bt158 => (if bt158.2 = true then (if 1 ≤ (bt158.1.size : Int) then ((chainmanref02_Split.f k (bt158.1.extract 1 bt158.1.size) (a : Int)).bind fun bt160 => (some (bt160.1, ((1 + d + 4 : Nat) : Int), true))) else (none)) else (some (([] : List ByteArray), 0, false))) := fun k => by
      rw [k2, if_neg (by omega), if_pos (by omega), if_pos (by omega), Int.toNat_natCast]
    clear k1 k2
    have o1 := Cr.open_bv (s.extract 0 (1 + d + 4)) (by omega)
    have o2 : Ev (fun k => chainmanref03_Open.f k (s.extract 0 (1 + d + 4))) _ := ⟨4000, fun k hk => Cr.refopen_bv (s.extract 0 (1 + d + 4)) (by omega) k (by omega)⟩
    cases ho : Cr.openB (s.extract 0 (1 + d + 4)).data.toList with
    | none =>
      rw [ho] at o1 o2
      refine ⟨([], 0, false), Ev.step (f := fun _ => some ([], 0, false)) (fun k => ?_) (Ev.now _), Ev.step c2 (Ev.bind o2 (Ev.congr (fun k => if_neg (by simp)) (Ev.now _))), by simp⟩
      rw [c1, o1]; simp
    | some t =>
      rw [ho] at o1 o2
      obtain ⟨_, ht, _⟩ := openB_some ho
      have htl : t.length = 1 + d := by rw [ht, List.length_take, ← Cr.ba_size, hx]; omega
      have hts : (⟨t.toArray⟩ : ByteArray).size = 1 + d := by rw [Cr.ba_size]; exact htl
      obtain ⟨r, s1, s2, s3⟩ := split_exact ((⟨t.toArray⟩ : ByteArray).extract 1 (⟨t.toArray⟩ : ByteArray).size) a c.toNat (by omega) (by rw [Oc.ex_size _ _ _ (Nat.le_refl _), hts]; omega) (by rw [Oc.ex_size _ _ _ (Nat.le_refl _), hts]; omega)
      refine ⟨(r, ((1 + d + 4 : Nat) : Int), true), Ev.step (f := fun k => (octet_Split.f k ((⟨t.toArray⟩ : ByteArray).extract 1 (⟨t.toArray⟩ : ByteArray).size) (a : Int)).bind fun bt129 => (some (bt129.1, ((1 + d + 4 : Nat) : Int), bt129.2))) (fun k => ?_) (Ev.bind s1 (Ev.now _)), Ev.step c2 (Ev.bind o2 (Ev.congr (fun k => by rw [if_pos rfl, if_pos (by rw [hts]; omega)]) (Ev.bind s2 (Ev.now _)))), s3⟩
      rw [c1, o1, Option.bind_some, if_pos rfl, if_pos (by rw [hts]; omega)]
theorem same_loop (l : List ByteArray) (hl : l.length ≤ 2000) : ∀ (d i : Nat), i + d = l.length → Ev (fun q => chainmanref04_SameNames.l0 q l l (i : Int)) true := by
  intro d
  induction d with
  | zero =>
    intro i hi
    refine Ev.step (f := fun _ => some true) (fun q => ?_) (Ev.now _)
    rw [chainmanref04_SameNames.l0, if_neg (by omega)]
  | succ d ih =>
    intro i hi
    refine Ev.step (fun q => ?_) (ih (i + 1) (by omega))
    rw [chainmanref04_SameNames.l0, if_pos (by omega), if_pos (by omega), if_pos (by omega), if_pos rfl, wsucc i (by omega)]
theorem same_ev (l : List ByteArray) (hl : l.length ≤ 2000) : Ev (fun q => chainmanref04_SameNames.f q l l) true := by
  refine Ev.congr (fun q => ?_) (same_loop l hl l.length 0 (by omega))
  unfold chainmanref04_SameNames.f
  rw [if_pos rfl]; rfl

/-! ### blocks that come back, and turned ones -/
theorem get_open (a : Nat) (s : ByteArray) (c : UInt8) (M : List UInt8) (hM : s.data.toList = c :: M) (ha : 1 ≤ a ∧ a ≤ 64) (hc : 1 ≤ c.toNat ∧ c.toNat ≤ 4) (hs : s.size ≤ 100000) (hlen : 1 + c.toNat * a + 4 ≤ s.size) :
    Ev (fun k => frame_Get.f k (a : Int) s) = Ev (fun k => frame_Get.j0 k (a : Int) s false) ∧
    ∀ k, frame_Get.j0 (k + 1) (a : Int) s false = (crc_Open.f (s.extract 0 (1 + c.toNat * a + 4))).bind fun bt127 => (if bt127.2 = true then (if 1 ≤ (bt127.1.size : Int) then ((octet_Split.f k (bt127.1.extract 1 bt127.1.size) (a : Int)).bind fun bt129 => (some (bt129.1, ((1 + c.toNat * a + 4 : Nat) : Int), bt129.2))) else (none)) else (some (([] : List ByteArray), 0, false))) := by
  have hb := bt_head s c M hM
  have hpos : 0 < (s.size : Int) := by omega
  have b1 : ¬ (bt s 0 = 0) := by omega
  have b3 : ¬ (bt s 0 > 4) := by omega
  have hz : frame_sized.f (a : Int) = some true := by
    unfold frame_sized.f; rw [if_pos (by omega)]; exact congrArg some (decide_eq_true (by omega))
  refine ⟨?_, fun k => ?_⟩
  · congr 1; funext k
    unfold frame_Get.f
    rw [hz, Option.bind_some, if_pos rfl, if_neg (by rw [ByteArray.toList_eq, hM]; simp), if_pos hpos, if_neg b1, decide_eq_false b3]
  · clear b1 b3 hz
    have hca : c.toNat * a ≤ 256 := Nat.le_trans (Nat.mul_le_mul hc.2 ha.2) (by decide)
    have wd : wrap64 ((wrap64 (1 + (wrap64 ((wrap64 (bt s 0)) * (a : Int))))) + 4) = ((1 + c.toNat * a + 4 : Nat) : Int) := by
      have w1 : wrap64 ((c.toNat : Int)) = (c.toNat : Int) := by unfold wrap64; omega
      rw [hb, w1, ← Int.natCast_mul]
      clear w1 hb
      generalize c.toNat * a = d at hca
      have e1 : wrap64 (d : Int) = (d : Int) := by unfold wrap64; omega
      rw [e1]
      clear e1
      have e2 : wrap64 (1 + (d : Int)) = 1 + (d : Int) := by unfold wrap64; omega
      rw [e2]
      clear e2
      have e3 : wrap64 (1 + (d : Int) + 4) = 1 + (d : Int) + 4 := by unfold wrap64; omega
      rw [e3]
      clear e3
      omega
    rw [frame_Get.j0, if_neg (by decide), if_pos hpos]
    unfold frame_length.f
    rw [wd, Option.bind_some]
    clear wd hb
    generalize c.toNat * a = d at *
    rw [if_neg (by omega), if_pos (by omega), if_pos (by omega), Int.toNat_natCast]
theorem split_cat (a : Nat) (ha : 1 ≤ a) : ∀ (l acc : List ByteArray) (s : ByteArray), (∀ x ∈ l, x.size = a) → acc.length + l.length ≤ 2000 → s.data.toList = catL l → Ev (fun q => octet_Split.l0 q s (a : Int) acc) (acc ++ l, true) := by
  intro l
  induction l with
  | nil =>
    intro acc s _ _ hs
    rw [List.append_nil]
    refine Ev.step (f := fun _ => some (acc, true)) (fun q => ?_) (Ev.now _)
    rw [octet_Split.l0, if_pos (by rw [ByteArray.toList_eq, hs]; rfl)]
  | cons x l ih =>
    intro acc s hl hn hs
    have hx := hl x (by simp)
    have hxl : x.data.toList.length = a := by rw [← Cr.ba_size]; exact hx
    have hlen : (x :: l).length = l.length + 1 := rfl
    have hsz : s.size = a + (catL l).length := by rw [Cr.ba_size, hs, catL_cons, List.length_append, hxl]
    rw [catL_cons] at hs
    have e1 : s.extract 0 a = x := Cr.ba_ext (by rw [Oc.ex_data, List.drop_zero, hs, ← hxl, List.take_left])
    have e2 : (s.extract a s.size).data.toList = catL l := by rw [Oc.ex_data, Cr.ba_size, List.take_length, hs, ← hxl, List.drop_left]
    have := ih (acc ++ [x]) (s.extract a s.size) (fun y hy => hl y (by simp [hy])) (by rw [List.length_append]; simp; omega) e2
    rw [List.append_assoc] at this
    refine Ev.step (fun q => ?_) this
    rw [octet_Split.l0, if_neg (by rw [ByteArray.toList_eq, hs]; intro h; have := congrArg List.length h; rw [List.length_append, hxl, List.length_nil] at this; omega), if_pos (by omega), if_pos (by omega), if_pos (by omega), Int.toNat_natCast, e1]
theorem block_get (a0 : Int) (l : List ByteArray) (hg : good a0 l) (s : ByteArray) (more : List UInt8) (hs : s.data.toList = block l ++ more) (hsz : s.size ≤ 100000) : Ev (fun k => frame_Get.f k a0 s) (l, ((block l).length : Int), true) := by
  obtain ⟨g1, g2, g3⟩ := hg
  obtain ⟨a, rfl⟩ := Int.eq_ofNat_of_zero_le (show 0 ≤ a0 by omega)
  have hc : (UInt8.ofNat l.length).toNat = l.length := by rw [UInt8.toNat_ofNat']; omega
  have hcat : (catL l).length = l.length * a := catL_len l a (fun x hx => by have := g3 x hx; omega)
  have hbl : (block l).length = 1 + l.length * a + 4 := by unfold block; rw [Cr.closeB_len, List.length_cons, hcat]; omega
  obtain ⟨M, hM⟩ : ∃ M, s.data.toList = UInt8.ofNat l.length :: M := ⟨_, by rw [hs]; unfold block Cr.closeB; rw [List.cons_append, List.cons_append]⟩
  have hL : s.size = (block l).length + more.length := by rw [Cr.ba_size, hs, List.length_append]
  obtain ⟨r1, r2⟩ := get_open a s _ M hM (by omega) (by rw [hc]; omega) hsz (by rw [hc]; omega)
  rw [r1]
  refine Ev.step r2 ?_
  rw [hc]
  have hex : (s.extract 0 (1 + l.length * a + 4)).data.toList = block l := by rw [Oc.ex_data, List.drop_zero, hs, ← hbl, List.take_left]
  have hxs : (s.extract 0 (1 + l.length * a + 4)).size = 1 + l.length * a + 4 := by rw [Cr.ba_size, hex, hbl]
  have ho := Cr.open_bv (s.extract 0 (1 + l.length * a + 4)) (by omega)
  rw [hex, show Cr.openB (block l) = some (UInt8.ofNat l.length :: catL l) from Cr.openB_close _] at ho
  have hts : (⟨(UInt8.ofNat l.length :: catL l).toArray⟩ : ByteArray).size = 1 + l.length * a := by rw [Cr.ba_size]; show (UInt8.ofNat l.length :: catL l).length = _; rw [List.length_cons, hcat]; omega
  refine Ev.congr (f := fun k => (octet_Split.f k ((⟨(UInt8.ofNat l.length :: catL l).toArray⟩ : ByteArray).extract 1 (⟨(UInt8.ofNat l.length :: catL l).toArray⟩ : ByteArray).size) (a : Int)).bind fun bt129 => (some (bt129.1, ((1 + l.length * a + 4 : Nat) : Int), bt129.2))) (fun k => by rw [ho, Option.bind_some, if_pos rfl, if_pos (by rw [hts]; omega)]) ?_
  have hsp := split_cat a (by omega) l [] ((⟨(UInt8.ofNat l.length :: catL l).toArray⟩ : ByteArray).extract 1 (⟨(UInt8.ofNat l.length :: catL l).toArray⟩ : ByteArray).size) (fun x hx => by have := g3 x hx; omega) (by simp; omega) (by
    rw [Oc.ex_data, Cr.ba_size, List.take_length]; rfl)
  have hes : ((⟨(UInt8.ofNat l.length :: catL l).toArray⟩ : ByteArray).extract 1 (⟨(UInt8.ofNat l.length :: catL l).toArray⟩ : ByteArray).size).size = l.length * a := by rw [Oc.ex_size _ _ _ (Nat.le_refl _), hts]; omega
  generalize (⟨(UInt8.ofNat l.length :: catL l).toArray⟩ : ByteArray).extract 1 (⟨(UInt8.ofNat l.length :: catL l).toArray⟩ : ByteArray).size = e at hsp hes ⊢
  have hz' : ((e.size : Int) % (a : Int)) = 0 := by rw [hes, ← Int.natCast_emod, Nat.mul_mod_left]; rfl
  rw [hbl]
  refine Ev.bind (a := (l, true)) (f := fun _ r => some (r.1, ((1 + l.length * a + 4 : Nat) : Int), r.2)) (Ev.congr (f := fun q => octet_Split.j0 q e (a : Int) false) (fun q => ?_) (Ev.step (fun q => ?_) hsp)) (Ev.now _)
  · unfold octet_Split.f; rw [if_neg (by omega), if_neg (by omega), hz', decide_eq_false (by omega)]
  · rw [octet_Split.j0, if_neg (by decide)]
theorem end_back (n c : Nat) (hn : n ≤ 4611686018427387904) (hc : c < 4294967296) : getE (Cr.closeB (endL n c)) = ((n : Int), (c : Int), true) := by
  have hl : (endL n c).length = 13 := by unfold endL; rw [List.length_cons, List.length_append, beU_len, beU_len]
  have e1 : ((Cr.closeB (endL n c)).drop 1).take 8 = beU n 8 := by
    unfold Cr.closeB endL
    rw [List.cons_append, List.drop_succ_cons, List.drop_zero, List.append_assoc]
    exact (congrArg (fun k => List.take k _) (beU_len n 8).symm).trans List.take_left
  have e2 : ((Cr.closeB (endL n c)).drop 9).take 4 = beU c 4 := by
    unfold Cr.closeB endL
    rw [List.cons_append, show (9 : Nat) = 8 + 1 from rfl, List.drop_succ_cons, List.append_assoc]
    rw [show ((beU n 8 ++ (beU c 4 ++ Cr.tailB (Cr.moreB 0#32 (0 :: (beU n 8 ++ beU c 4)))))).drop 8 = (beU c 4 ++ Cr.tailB (Cr.moreB 0#32 (0 :: (beU n 8 ++ beU c 4)))) from (congrArg (fun k => List.drop k _) (beU_len n 8).symm).trans List.drop_left]
    exact (congrArg (fun k => List.take k _) (beU_len c 4).symm).trans List.take_left
  unfold getE
  rw [e1, e2, numN_beU, numN_beU, Nat.mod_eq_of_lt (by omega), Nat.mod_eq_of_lt (by omega)]
  exact if_pos ⟨by rw [Cr.closeB_len, hl], rfl, by rw [Cr.openB_close]; rfl, hn⟩
theorem end_turned (L : List UInt8) (h : Cr.openB L = none) : getE L = (0, 0, false) := by
  unfold getE
  exact if_neg (by rintro ⟨_, _, h', _⟩; rw [h] at h'; cases h')

/-! ### files of records: what the program's own functions say -/
theorem ev_one {α : Type} {g : Nat → Option α} {r q : α} (h : Ev g r) (h' : Ev g q) : r = q := by
  obtain ⟨K, h⟩ := h
  obtain ⟨K', h'⟩ := h'
  have e := (h (max K K') (by omega)).symm.trans (h' (max K K') (by omega))
  exact Option.some.inj e
theorem chunks (a : Nat) : ∀ (d : Nat) (L : List UInt8), L.length = d * a → ∃ l : List ByteArray, l.length = d ∧ (∀ x ∈ l, x.size = a) ∧ catL l = L
  | 0, L, h => ⟨[], rfl, by simp, by rw [Nat.zero_mul] at h; rw [List.eq_nil_of_length_eq_zero h]; rfl⟩
  | d + 1, L, h => by
    rw [Nat.succ_mul] at h
    obtain ⟨l, l1, l2, l3⟩ := chunks a d (L.drop a) (by rw [List.length_drop]; omega)
    refine ⟨(⟨(L.take a).toArray⟩ : ByteArray) :: l, by simp [l1], ?_, by rw [catL_cons, l3]; exact List.take_append_drop a L⟩
    intro x hx
    rcases List.mem_cons.mp hx with rfl | hx
    · rw [Cr.ba_size]; show (L.take a).length = a; rw [List.length_take]; omega
    · exact l2 x hx
/-- What any bytes begin with: no block, or the block of some records. -/
theorem get_prog (a0 : Int) (s : ByteArray) (hs : s.size ≤ 100000) : Ev (fun k => frame_Get.f k a0 s) ([], 0, false) ∨ ∃ l more, good a0 l ∧ s.data.toList = block l ++ more := by
  have hL := Cr.ba_size s
  have no : ∀ b : Bool, b = true → Ev (fun k => frame_Get.j0 k a0 s b) (([] : List ByteArray), (0 : Int), false) := fun b hb =>
    Ev.step (f := fun _ => some ([], 0, false)) (fun q => by rw [frame_Get.j0, if_pos hb]) (Ev.now _)
  have hz : frame_sized.f a0 = some (decide (1 ≤ a0 ∧ a0 ≤ 64)) := by
    unfold frame_sized.f
    by_cases h : a0 ≥ 1
    · rw [if_pos h]; exact congrArg some (decide_eq_decide.mpr (by omega))
    · rw [if_neg h]; exact congrArg some (Eq.symm (decide_eq_false (by omega)))
  by_cases h1 : 1 ≤ a0 ∧ a0 ≤ 64
  case neg => exact .inl (Ev.congr (fun k => by unfold frame_Get.f; rw [hz, decide_eq_false h1, Option.bind_some, if_neg (by decide)]) (no true rfl))
  have p1 : ∀ k, frame_Get.f k a0 s = if s.toList = ([] : List UInt8) then frame_Get.j0 k a0 s true else if 0 < (s.size : Int) then (if bt s 0 = 0 then frame_Get.j0 k a0 s true else frame_Get.j0 k a0 s (decide (bt s 0 > 4))) else none := fun k => by
    unfold frame_Get.f; rw [hz, decide_eq_true h1, Option.bind_some, if_pos rfl]
  cases hM : s.data.toList with
  | nil => exact .inl (Ev.congr (fun k => by rw [p1, if_pos (by rw [ByteArray.toList_eq]; exact hM)]) (no true rfl))
  | cons c M =>
    have hb := bt_head s c M hM
    have hlen : s.size = M.length + 1 := by rw [hL, hM]; rfl
    have q1 : ∀ k, frame_Get.f k a0 s = if bt s 0 = 0 then frame_Get.j0 k a0 s true else frame_Get.j0 k a0 s (decide (bt s 0 > 4)) := fun k => by
      rw [p1, if_neg (by rw [ByteArray.toList_eq, hM]; simp), if_pos (by omega)]
    by_cases h2 : c.toNat = 0
    · exact .inl (Ev.congr (fun k => by rw [q1, if_pos (by omega)]) (no true rfl))
    by_cases h3 : 4 < c.toNat
    · exact .inl (Ev.congr (fun k => by rw [q1, if_neg (by omega)]) (no _ (decide_eq_true (by omega))))
    obtain ⟨a, rfl⟩ := Int.eq_ofNat_of_zero_le (show 0 ≤ a0 by omega)
    have ha : 1 ≤ a ∧ a ≤ 64 := by omega
    have hca : c.toNat * a ≤ 256 := Nat.le_trans (Nat.mul_le_mul (show c.toNat ≤ 4 by omega) ha.2) (by decide)
    by_cases h4 : s.size < 1 + c.toNat * a + 4
    · refine .inl (Ev.congr (fun k => by rw [q1, if_neg (by omega), decide_eq_false (show ¬ bt s 0 > 4 by omega)]) (Ev.step (f := fun _ => some ([], 0, false)) (fun k => ?_) (Ev.now _)))
      have hpos : 0 < (s.size : Int) := by omega
      have wd : wrap64 ((wrap64 (1 + (wrap64 ((wrap64 (bt s 0)) * (a : Int))))) + 4) = ((1 + c.toNat * a + 4 : Nat) : Int) := by
        have w1 : wrap64 ((c.toNat : Int)) = (c.toNat : Int) := by unfold wrap64; omega
        rw [hb, w1, ← Int.natCast_mul]
        clear w1 hb q1 p1 no hz h4
        generalize c.toNat * a = d at hca
        have e1 : wrap64 (d : Int) = (d : Int) := by unfold wrap64; omega
        rw [e1]
        clear e1
        have e2 : wrap64 (1 + (d : Int)) = 1 + (d : Int) := by unfold wrap64; omega
        rw [e2]
        clear e2
        have e3 : wrap64 (1 + (d : Int) + 4) = 1 + (d : Int) + 4 := by unfold wrap64; omega
        rw [e3]
        clear e3
        omega
      rw [frame_Get.j0, if_neg (by decide), if_pos hpos]
      unfold frame_length.f
      rw [wd, Option.bind_some]
      clear wd hb q1 p1 no hz
      generalize c.toNat * a = d at *
      rw [if_pos (by omega)]
    · obtain ⟨r1, c1⟩ := get_open a s c M hM ha (by omega) hs (by omega)
      rw [r1]
      have hx : (s.extract 0 (1 + c.toNat * a + 4)).size = 1 + c.toNat * a + 4 := by rw [Oc.ex_size _ _ _ (by omega)]; omega
      have o1 := Cr.open_bv (s.extract 0 (1 + c.toNat * a + 4)) (by omega)
      cases ho : Cr.openB (s.extract 0 (1 + c.toNat * a + 4)).data.toList with
      | none =>
        rw [ho] at o1
        refine .inl (Ev.step (f := fun _ => some ([], 0, false)) (fun k => ?_) (Ev.now _))
        rw [c1, o1]; simp
      | some t =>
        refine .inr ?_
        obtain ⟨h4l, ht, hcl⟩ := openB_some ho
        rw [Oc.ex_data, List.drop_zero] at hcl ht
        clear r1 c1 o1 no p1 q1 hz hb
        generalize hd : c.toNat * a = d at *
        have hlM : (M.take d).length = d := by rw [List.length_take]; omega
        have ht2 : t = c :: M.take d := by
          rw [ht, hM, show 1 + d + 4 = (d + 4) + 1 by omega, List.take_succ_cons, List.length_cons, List.length_take, show min (d + 4) M.length + 1 - 4 = d + 1 by omega, List.take_succ_cons, List.take_take, show min d (d + 4) = d by omega]
        obtain ⟨l, l1, l2, l3⟩ := chunks a c.toNat (M.take d) (by rw [hlM, hd])
        refine ⟨l, s.data.toList.drop (1 + d + 4), ⟨⟨by omega, by omega⟩, by omega, fun x hx => by rw [l2 x hx]⟩, ?_⟩
        rw [block, l3, l1, show UInt8.ofNat c.toNat = c by simp, ← ht2, hcl, ← hM, List.take_append_drop]
theorem block_len (l : List ByteArray) : (block l).length = 1 + (catL l).length + 4 := by
  unfold block; rw [Cr.closeB_len]; simp only [List.length_cons]; omega
theorem block_head (a0 : Int) (l : List ByteArray) (h : good a0 l) : ∃ c L, block l = c :: L ∧ c.toNat = l.length ∧ 1 ≤ c.toNat ∧ c.toNat ≤ 4 := by
  obtain ⟨_, h2, _⟩ := h
  exact ⟨UInt8.ofNat l.length, _, rfl, by rw [UInt8.toNat_ofNat']; omega, by rw [UInt8.toNat_ofNat']; omega, by rw [UInt8.toNat_ofNat']; omega⟩
theorem block_big (a0 : Int) (l : List ByteArray) (h : good a0 l) : 5 + l.length ≤ (block l).length := by
  obtain ⟨h1, h2, h3⟩ := h
  obtain ⟨a, rfl⟩ := Int.eq_ofNat_of_zero_le (show 0 ≤ a0 by omega)
  rw [block_len, catL_len l a (fun x hx => by have := h3 x hx; omega)]
  have := Nat.mul_le_mul (Nat.le_refl l.length) (show 1 ≤ a by omega)
  omega
/-- Bytes that begin with no number from 1 to 4 begin with no block. -/
theorem get_no (a0 : Int) (s : ByteArray) (hs : s.size ≤ 100000) (h : s.data.toList.head? = none ∨ s.data.toList.head? = some 0) : Ev (fun k => frame_Get.f k a0 s) ([], 0, false) := by
  rcases get_prog a0 s hs with h1 | ⟨l, more, hg, hm⟩
  · exact h1
  · obtain ⟨c, L, hb, _, hc, _⟩ := block_head a0 l hg
    rw [hm, hb] at h
    rcases h with h | h
    · cases h
    · have h0 : c = 0 := Option.some.inj h
      rw [h0] at hc
      exact absurd hc (by decide)
/-- The blocks of records, four in each. -/
def bl (l : List ByteArray) : List UInt8 := if h : l = [] then [] else block (l.take 4) ++ bl (l.drop 4)
termination_by l.length
decreasing_by
  have := List.length_pos_iff.mpr h
  rw [List.length_drop]; omega
theorem bl_nil : bl [] = [] := by rw [bl]; simp
theorem bl_four (q l : List ByteArray) (h : q.length = 4) : bl (q ++ l) = block q ++ bl l := by
  rw [bl, dif_neg (by intro e; rw [List.append_eq_nil_iff] at e; rw [e.1] at h; simp at h), List.take_left' h, List.drop_left' h]
theorem bl_last (q : List ByteArray) (h : 1 ≤ q.length ∧ q.length ≤ 4) : bl q = block q := by
  rw [bl, dif_neg (by intro e; rw [e] at h; simp at h), List.take_of_length_le h.2, List.drop_eq_nil_of_le h.2, bl_nil, List.append_nil]
/-! ### the blocks of any bytes -/
def EvG (a0 : Int) (s : ByteArray) (at_ : Nat) (acc : List ByteArray) (full : Bool) (r : Option (List ByteArray × Nat)) : Prop := ∃ K, ∀ k n, K ≤ k → K ≤ n → recfile_Parse.go k a0 s n at_ acc full = some r
theorem EvG.one {a0 : Int} {s : ByteArray} {at_ : Nat} {acc : List ByteArray} {full : Bool} {r q : Option (List ByteArray × Nat)} (h : EvG a0 s at_ acc full r) (h' : EvG a0 s at_ acc full q) : r = q := by
  obtain ⟨K, h⟩ := h
  obtain ⟨K', h'⟩ := h'
  exact Option.some.inj ((h (max K K') (max K K') (by omega) (by omega)).symm.trans (h' (max K K') (max K K') (by omega) (by omega)))
theorem go_no {a0 : Int} {s : ByteArray} {at_ : Nat} (acc : List ByteArray) (full : Bool) (h : Ev (fun k => frame_Get.f k a0 (s.extract at_ s.size)) ([], 0, false)) : EvG a0 s at_ acc full (some (acc, at_)) := by
  obtain ⟨K, h⟩ := h
  dsimp only at h
  refine ⟨K + 1, fun k n hk hn => ?_⟩
  obtain ⟨m, rfl⟩ : ∃ m, n = m + 1 := ⟨n - 1, by omega⟩
  rw [recfile_Parse.go, h k (by omega), Option.bind_some, if_neg (by simp)]
theorem go_yes {a0 : Int} {s : ByteArray} {at_ : Nat} {acc q : List ByteArray} {d : Nat} (h : Ev (fun k => frame_Get.f k a0 (s.extract at_ s.size)) (q, (d : Int), true)) (h1 : q ≠ []) (h2 : 0 < d) (h3 : at_ + d ≤ s.size) (h4 : acc.length + q.length ≤ 1000000)
    {r : Option (List ByteArray × Nat)} (hr : EvG a0 s (at_ + d) (acc ++ q) (decide (q.length = 4)) r) : EvG a0 s at_ acc true r := by
  obtain ⟨K, h⟩ := h
  obtain ⟨K', hr⟩ := hr
  dsimp only at h
  refine ⟨max K K' + 1, fun k n hk hn => ?_⟩
  obtain ⟨m, rfl⟩ : ∃ m, n = m + 1 := ⟨n - 1, by omega⟩
  rw [recfile_Parse.go, h k (by omega), Option.bind_some, if_pos rfl, if_pos ⟨h1, by simpa using h2, by simp only; omega, h4⟩, if_pos rfl, Int.toNat_natCast]
  exact hr k m (by omega) (by omega)
theorem go_bad {a0 : Int} {s : ByteArray} {at_ : Nat} {acc q : List ByteArray} {d : Nat} (h : Ev (fun k => frame_Get.f k a0 (s.extract at_ s.size)) (q, (d : Int), true)) (h1 : q ≠ []) (h2 : 0 < d) (h3 : at_ + d ≤ s.size) (h4 : acc.length + q.length ≤ 1000000) : EvG a0 s at_ acc false none := by
  obtain ⟨K, h⟩ := h
  dsimp only at h
  refine ⟨K + 1, fun k n hk hn => ?_⟩
  obtain ⟨m, rfl⟩ : ∃ m, n = m + 1 := ⟨n - 1, by omega⟩
  rw [recfile_Parse.go, h k (by omega), Option.bind_some, if_pos rfl, if_pos ⟨h1, by simpa using h2, by simp only; omega, h4⟩, if_neg (by decide)]
theorem ex_end (s : ByteArray) (at_ : Nat) : (s.extract at_ s.size).data.toList = s.data.toList.drop at_ := by
  rw [Oc.ex_data, List.take_of_length_le (by rw [← Cr.ba_size]; exact Nat.le_refl _)]
theorem ex_le (s : ByteArray) (at_ : Nat) : (s.extract at_ s.size).size ≤ s.size := by rw [ByteArray.size_extract]; omega
theorem good_ne {a0 : Int} {q : List ByteArray} (h : good a0 q) : q ≠ [] := by
  intro e; have := h.2.1.1; rw [e] at this; simp at this
/-- From any place on: the blocks, and what they are. -/
theorem go_total (a0 : Int) (s : ByteArray) (hs : s.size ≤ 100000) : ∀ (d at_ : Nat) (acc : List ByteArray) (full : Bool), at_ ≤ s.size → s.size - at_ ≤ d → acc.length ≤ at_ →
    ∃ r, EvG a0 s at_ acc full r ∧ ∀ l at', r = some (l, at') → ∃ l2, l = acc ++ l2 ∧ (∀ x ∈ l2, (x.size : Int) = a0) ∧ l.length ≤ at' ∧ at' ≤ s.size ∧ s.data.toList.drop at_ = bl l2 ++ s.data.toList.drop at' ∧ (full = false → l2 = []) := by
  intro d
  induction d with
  | zero =>
    intro at_ acc full h1 h2 h3
    refine ⟨_, go_no acc full (get_no a0 _ (by have := ex_le s at_; omega) (.inl ?_)), ?_⟩
    · rw [ex_end, List.drop_eq_nil_of_le (by rw [← Cr.ba_size]; omega)]; rfl
    · intro l at' e
      cases e
      exact ⟨[], by simp, by simp, h3, h1, by rw [bl_nil]; rfl, fun _ => rfl⟩
  | succ d ih =>
    intro at_ acc full h1 h2 h3
    rcases get_prog a0 (s.extract at_ s.size) (by have := ex_le s at_; omega) with hno | ⟨q, more, hg, hm⟩
    · refine ⟨_, go_no acc full hno, ?_⟩
      intro l at' e
      cases e
      exact ⟨[], by simp, by simp, h3, h1, by rw [bl_nil]; rfl, fun _ => rfl⟩
    · have hget := block_get a0 q hg (s.extract at_ s.size) more hm (by have := ex_le s at_; omega)
      have hbig := block_big a0 q hg
      rw [ex_end] at hm
      have hlen : (block q).length + more.length = s.size - at_ := by rw [Cr.ba_size, ← List.length_append, ← hm, List.length_drop]
      have hq4 := hg.2.1
      cases full with
      | false => exact ⟨none, go_bad hget (good_ne hg) (by omega) (by omega) (by omega), by intro l at' e; cases e⟩
      | true =>
        obtain ⟨r, hr, hr2⟩ := ih (at_ + (block q).length) (acc ++ q) (decide (q.length = 4)) (by omega) (by omega) (by rw [List.length_append]; omega)
        refine ⟨r, go_yes hget (good_ne hg) (by omega) (by omega) (by omega) hr, ?_⟩
        intro l at' e
        obtain ⟨l2, e1, e2, e3, e4, e5, e6⟩ := hr2 l at' e
        refine ⟨q ++ l2, by rw [e1, List.append_assoc], ?_, e3, e4, ?_, by intro h; cases h⟩
        · intro x hx
          rcases List.mem_append.mp hx with hx | hx
          · exact hg.2.2 x hx
          · exact e2 x hx
        · have hdrop : s.data.toList.drop (at_ + (block q).length) = more := by rw [← List.drop_drop, hm, List.drop_left]
          rw [hdrop] at e5
          rw [hm, e5, ← List.append_assoc]
          congr 1
          by_cases h4 : q.length = 4
          · rw [bl_four q l2 h4]
          · rw [e6 (decide_eq_false h4), List.append_nil, bl_nil, List.append_nil, bl_last q ⟨by omega, by omega⟩]
/-- The blocks of records, and what is no block behind them. -/
theorem go_all (a0 : Int) (h64 : 1 ≤ a0 ∧ a0 ≤ 64) (s : ByteArray) (hs : s.size ≤ 100000) (E : List UInt8) (hE : E.head? = none ∨ E.head? = some 0) : ∀ (d : Nat) (l : List ByteArray) (at_ : Nat) (acc : List ByteArray) (full : Bool), l.length ≤ d → (∀ x ∈ l, (x.size : Int) = a0) → at_ ≤ s.size → acc.length ≤ at_ →
    s.data.toList.drop at_ = bl l ++ E → (full = true ∨ l = []) → EvG a0 s at_ acc full (some (acc ++ l, at_ + (bl l).length)) := by
  intro d
  induction d with
  | zero =>
    intro l at_ acc full h1 h2 h3 h4 h5 h6
    have hl : l = [] := List.eq_nil_of_length_eq_zero (by omega)
    subst hl
    rw [bl_nil, List.nil_append] at h5
    have := go_no (a0 := a0) (s := s) (at_ := at_) acc full (get_no a0 _ (by have := ex_le s at_; omega) (by rw [ex_end, h5]; exact hE))
    simpa [bl_nil] using this
  | succ d ih =>
    intro l at_ acc full h1 h2 h3 h4 h5 h6
    by_cases hl : l = []
    · subst hl
      rw [bl_nil, List.nil_append] at h5
      have := go_no (a0 := a0) (s := s) (at_ := at_) acc full (get_no a0 _ (by have := ex_le s at_; omega) (by rw [ex_end, h5]; exact hE))
      simpa [bl_nil] using this
    · have hf : full = true := h6.resolve_right hl
      subst hf
      have hlp := List.length_pos_iff.mpr hl
      have hg : good a0 (l.take 4) := ⟨h64, ⟨by rw [List.length_take]; omega, by rw [List.length_take]; omega⟩, fun x hx => h2 x (List.mem_of_mem_take hx)⟩
      have hbl : bl l = block (l.take 4) ++ bl (l.drop 4) := by rw [bl, dif_neg hl]
      have hm : (s.extract at_ s.size).data.toList = block (l.take 4) ++ (bl (l.drop 4) ++ E) := by rw [ex_end, h5, hbl, List.append_assoc]
      have hget := block_get a0 _ hg (s.extract at_ s.size) _ hm (by have := ex_le s at_; omega)
      have hbig := block_big a0 _ hg
      rw [ex_end] at hm
      have hlen := congrArg List.length hm
      rw [List.length_drop, List.length_append, ← Cr.ba_size] at hlen
      have hz : s.size - at_ ≥ (block (l.take 4)).length := by omega
      have hdrop : s.data.toList.drop (at_ + (block (l.take 4)).length) = bl (l.drop 4) ++ E := by rw [← List.drop_drop, hm, List.drop_left]
      have hrec := ih (l.drop 4) (at_ + (block (l.take 4)).length) (acc ++ l.take 4) (decide ((l.take 4).length = 4)) (by rw [List.length_drop]; omega) (fun x hx => h2 x (List.mem_of_mem_drop hx)) (by omega) (by rw [List.length_append]; have := hg.2.1.2; omega) hdrop (by
        by_cases h44 : (l.take 4).length = 4
        · exact .inl (decide_eq_true h44)
        · refine .inr (List.drop_eq_nil_of_le ?_)
          rw [List.length_take] at h44; omega)
      have := go_yes hget (good_ne hg) (by omega) (by omega) (by have := hg.2.1.2; omega) hrec
      rw [List.append_assoc, List.take_append_drop] at this
      rw [hbl, List.length_append, ← Nat.add_assoc]
      exact this

/-! ### heads, ends and whole files -/
def magicL : List UInt8 := [67, 72, 65, 73, 78, 49]
def headL (n : Nat) : List UInt8 := Cr.closeB (magicL ++ [UInt8.ofNat n])
theorem headL_len (n : Nat) : (headL n).length = 11 := by unfold headL; rw [Cr.closeB_len]; rfl
theorem headL_inj (n m : Nat) (hn : n ≤ 64) (hm : m ≤ 64) (h : headL n = headL m) : n = m := by
  have h1 : (headL n).getD 6 0 = (headL m).getD 6 0 := by rw [h]
  have h2 : UInt8.ofNat n = UInt8.ofNat m := h1
  have h3 := congrArg UInt8.toNat h2
  rw [UInt8.toNat_ofNat', UInt8.toNat_ofNat'] at h3
  omega
theorem puthead (a0 : Int) : recfile_PutHead.f a0 = some (if 1 ≤ a0 ∧ a0 ≤ 64 then (⟨(headL a0.toNat).toArray⟩, true) else (⟨#[]⟩, false)) := by
  unfold recfile_PutHead.f
  by_cases h : 1 ≤ a0 ∧ a0 ≤ 64
  · rw [if_pos h, if_pos h]
    obtain ⟨c, c1, c2⟩ := Cr.close_bv (recfile_PutHead.head a0) (by unfold recfile_PutHead.head; rw [Cr.ba_size, Cr.ba_append]; simp)
    rw [c1, Option.bind_some]
    refine congrArg some (Prod.ext (Cr.ba_ext ?_) rfl)
    rw [c2]
    unfold recfile_PutHead.head headL
    rw [Cr.ba_append]
    rfl
  · rw [if_neg h, if_neg h]
theorem prefix_r (h : ByteArray) : strings_HasPrefix.f h (⟨#[67, 72, 65, 73, 78, 49]⟩ : ByteArray) = some (decide (h.data.toList.take 6 = magicL)) := by
  have e6 : ((⟨#[67, 72, 65, 73, 78, 49]⟩ : ByteArray).size : Int) = 6 := rfl
  unfold strings_HasPrefix.f stringslite_HasPrefix.f
  rw [e6]
  by_cases h6 : (h.size : Int) ≥ 6
  · rw [if_pos h6, if_pos (by omega), if_pos (by omega), Option.bind_some]
    refine congrArg some ?_
    rw [show ((6 : Int)).toNat = 6 from rfl, ByteArray.toList_eq, ByteArray.toList_eq, Cr.extract_take]
    exact Bool.eq_iff_iff.mpr (by rw [beq_iff_eq, decide_eq_true_iff]; exact Iff.rfl)
  · rw [if_neg h6, Option.bind_some]
    refine congrArg some (Eq.symm (decide_eq_false ?_))
    intro e
    have := congrArg List.length e
    rw [List.length_take, ← Cr.ba_size] at this
    simp [magicL] at this
    omega
/-- What a file's first bytes say. -/
theorem gethead (s : ByteArray) (hs : s.size ≤ 100000) : (∃ n : Nat, 1 ≤ n ∧ n ≤ 64 ∧ s.data.toList = headL n ∧ Ev (fun k => recfile_GetHead.f k s) ((n : Int), true)) ∨ ((∀ n : Nat, 1 ≤ n → n ≤ 64 → s.data.toList ≠ headL n) ∧ Ev (fun k => recfile_GetHead.f k s) (0, false)) := by
  have no : ∀ (t : ByteArray) (b : Bool), b = true → Ev (fun k => recfile_GetHead.j0 k t b) ((0 : Int), false) := fun t b hb =>
    Ev.step (f := fun _ => some (0, false)) (fun q => by rw [recfile_GetHead.j0, if_pos hb]) (Ev.now _)
  have o1 := Cr.open_bv s (by omega)
  have hL := Cr.ba_size s
  cases ho : Cr.openB s.data.toList with
  | none =>
    rw [ho] at o1
    refine .inr ⟨fun n _ _ e => ?_, Ev.congr (fun k => by unfold recfile_GetHead.f; rw [o1, Option.bind_some, if_neg (by simp)]) (no _ true rfl)⟩
    exact openB_none ho (t := magicL ++ [UInt8.ofNat n]) e.symm
  | some t =>
    rw [ho] at o1
    obtain ⟨h4, ht, hcl⟩ := openB_some ho
    by_cases h11 : (s.size : Int) = 11
    case neg =>
      refine .inr ⟨fun n _ _ e => ?_, Ev.congr (fun k => by unfold recfile_GetHead.f; rw [o1, Option.bind_some, if_pos rfl, if_neg h11]) (no _ true rfl)⟩
      have := congrArg List.length e
      rw [headL_len, ← hL] at this
      omega
    have htl : t.length = 7 := by rw [ht, List.length_take]; omega
    have hj : ∀ k, recfile_GetHead.f k s = recfile_GetHead.j0 k ⟨t.toArray⟩ (!decide (t.take 6 = magicL)) := fun k => by
      unfold recfile_GetHead.f; rw [o1, Option.bind_some, if_pos rfl, if_pos h11, prefix_r, Option.bind_some]
    by_cases hm : t.take 6 = magicL
    case neg =>
      refine .inr ⟨fun n _ _ e => hm ?_, Ev.congr hj (no _ _ (by rw [decide_eq_false hm]; rfl))⟩
      rw [e] at ho
      rw [headL, Cr.openB_close] at ho
      rw [← Option.some.inj ho]; rfl
    obtain ⟨c, hc⟩ : ∃ c, t = magicL ++ [c] := by
      have h7 : t = t.take 6 ++ t.drop 6 := (List.take_append_drop 6 t).symm
      rw [hm] at h7
      have hd : (t.drop 6).length = 1 := by rw [List.length_drop]; omega
      obtain ⟨c, hc⟩ := List.length_eq_one_iff.mp hd
      exact ⟨c, by rw [hc] at h7; exact h7⟩
    have hbt : bt (⟨t.toArray⟩ : ByteArray) 6 = (c.toNat : Int) := by rw [hc]; rfl
    have hsz : (⟨t.toArray⟩ : ByteArray).size = 7 := by rw [Cr.ba_size]; exact htl
    have hw : wrap64 (bt (⟨t.toArray⟩ : ByteArray) 6) = (c.toNat : Int) := by rw [hbt]; have := c.toNat_lt; unfold wrap64; omega
    have hhl : s.data.toList = headL c.toNat := by rw [headL, show UInt8.ofNat c.toNat = c by simp, ← hc, hcl]
    have hst : ∀ k, recfile_GetHead.j0 (k + 1) ⟨t.toArray⟩ false = if (c.toNat : Int) < 1 then some (0, false) else if (c.toNat : Int) > 64 then some (0, false) else some ((c.toNat : Int), true) := fun k => by
      rw [recfile_GetHead.j0, if_neg (by decide), hsz, if_pos (by decide), hw]
    rw [show (fun k => recfile_GetHead.f k s) = fun k => recfile_GetHead.j0 k ⟨t.toArray⟩ false from funext fun k => by rw [hj, decide_eq_true hm]; rfl]
    by_cases hr : 1 ≤ c.toNat ∧ c.toNat ≤ 64
    · exact .inl ⟨c.toNat, hr.1, hr.2, hhl, Ev.step (f := fun _ => some ((c.toNat : Int), true)) (fun k => by rw [hst, if_neg (by omega), if_neg (by omega)]) (Ev.now _)⟩
    · refine .inr ⟨fun n h1 h2 e => ?_, Ev.step (f := fun _ => some (0, false)) (fun k => ?_) (Ev.now _)⟩
      · rw [hhl] at e
        have h6 : (headL c.toNat).getD 6 0 = (headL n).getD 6 0 := by rw [e]
        have h7 : UInt8.ofNat c.toNat = UInt8.ofNat n := h6
        have h8 := congrArg UInt8.toNat h7
        rw [UInt8.toNat_ofNat', UInt8.toNat_ofNat'] at h8
        have := c.toNat_lt
        omega
      · rw [hst]
        by_cases h1 : (c.toNat : Int) < 1
        · rw [if_pos h1]
        · rw [if_neg h1, if_pos (by omega)]
/-- The sum of records. -/
def sumN (l : List ByteArray) : Nat := (Cr.moreB 0#32 (catL l)).toNat
theorem sumN_lt (l : List ByteArray) : sumN l < 4294967296 := (Cr.moreB 0#32 (catL l)).isLt
theorem recsum (l : List ByteArray) (m : Nat) (hl : l.length ≤ 100000) (hs : ∀ x ∈ l, x.size ≤ 100) : recfile_Sum.f l = some ((l.length : Int), (sumN l : Int)) := by
  have hc := catL_le l 100 hs
  have hj : strings_Join.f l ⟨#[]⟩ = some ⟨(catL l).toArray⟩ := by
    unfold strings_Join.f; rw [join_all, if_pos ⟨by omega, by omega⟩]
  unfold recfile_Sum.f
  rw [hj, Option.bind_some, Cr.of_bv _ (by rw [Cr.ba_size]; show (catL l).length ≤ _; omega), Option.bind_some]
  rfl
def endB (l : List ByteArray) : List UInt8 := Cr.closeB (endL l.length (sumN l))
theorem endL_len (n c : Nat) : (endL n c).length = 13 := by unfold endL; rw [List.length_cons, List.length_append, beU_len, beU_len]
theorem endB_len (l : List ByteArray) : (endB l).length = 17 := by unfold endB; rw [Cr.closeB_len, endL_len]
theorem endB_head (l : List ByteArray) (R : List UInt8) : (endB l ++ R).head? = some 0 := rfl
theorem endL_inj {n c n' c' : Nat} (hn : n ≤ 4611686018427387904) (hc : c < 4294967296) (hn' : n' ≤ 4611686018427387904) (hc' : c' < 4294967296) (h : Cr.closeB (endL n c) = Cr.closeB (endL n' c')) : n = n' ∧ c = c' := by
  have h1 := end_back n c hn hc
  rw [h, end_back n' c' hn' hc'] at h1
  have e1 := congrArg (fun p => p.1) h1
  have e2 := congrArg (fun p => p.2.1) h1
  simp only at e1 e2
  omega
/-- What an end says is so. -/
theorem getE_says {L : List UInt8} {n c : Int} (h : getE L = (n, c, true)) : ∃ n' c' : Nat, n = (n' : Int) ∧ c = (c' : Int) ∧ n' ≤ 4611686018427387904 ∧ c' < 4294967296 ∧ L = Cr.closeB (endL n' c') := by
  unfold getE at h
  split at h
  case isFalse => have := congrArg (fun p => p.2.2) h; simp at this
  case isTrue hc =>
    obtain ⟨h1, h2, h3, h4⟩ := hc
    obtain ⟨t, ht⟩ := Option.isSome_iff_exists.mp h3
    obtain ⟨_, t1, t2⟩ := openB_some ht
    refine ⟨_, _, (congrArg (fun p => p.1) h).symm, (congrArg (fun p => p.2.1) h).symm, h4, ?_, ?_⟩
    · exact num4 _ 4 (by rw [List.length_take]; omega)
    · rw [endL_take L h1 h2, ← t2]; congr 1; rw [t2, t1, h1]
def rightR (a0 : Int) (l : List ByteArray) : Prop := (1 ≤ a0 ∧ a0 ≤ 64) ∧ ∀ x ∈ l, (x.size : Int) = a0
def fileL (a0 : Int) (l : List ByteArray) : List UInt8 := headL a0.toNat ++ (bl l ++ endB l)
theorem rightR_le {a0 : Int} {l : List ByteArray} (h : rightR a0 l) : ∀ x ∈ l, x.size ≤ 80 := fun x hx => by have := h.2 x hx; have := h.1; omega
theorem bl_size (a : Nat) (l : List ByteArray) (h : ∀ x ∈ l, x.size = a) : (bl l).length = l.length * a + (l.length + 3) / 4 * 5 := by
  induction hn : l.length using Nat.strongRecOn generalizing l with
  | _ n ih =>
    by_cases hl : l = []
    · subst hl; rw [bl_nil]; simp at hn; subst hn; simp
    · have hp := List.length_pos_iff.mpr hl
      rw [bl, dif_neg hl, List.length_append, block_len, catL_len (l.take 4) a (fun x hx => h x (List.mem_of_mem_take hx)), ih (l.drop 4).length (by rw [List.length_drop]; omega) (l.drop 4) (fun x hx => h x (List.mem_of_mem_drop hx)) rfl]
      rw [List.length_take, List.length_drop, hn]
      by_cases h4 : n < 4
      · rw [show min 4 n = n by omega, show n - 4 = 0 by omega]
        have : (n + 3) / 4 = 1 := by omega
        rw [this]; omega
      · rw [show min 4 n = 4 by omega]
        obtain ⟨m, rfl⟩ : ∃ m, n = m + 4 := ⟨n - 4, by omega⟩
        rw [Nat.add_sub_cancel, show (m + 4 + 3) / 4 = (m + 3) / 4 + 1 by omega, Nat.add_mul m 4 a]
        generalize (m + 3) / 4 = q
        generalize m * a = p
        omega
theorem fileL_len (a : Nat) (l : List ByteArray) (h : ∀ x ∈ l, x.size = a) : (fileL a l).length = 11 + (l.length * a + (l.length + 3) / 4 * 5) + 17 := by
  unfold fileL; rw [List.length_append, List.length_append, headL_len, bl_size a l h, endB_len]; omega
/-- The records of a file. -/
theorem parse_back (a0 : Int) (l : List ByteArray) (hr : rightR a0 l) (s : ByteArray) (hs : s.size ≤ 100000) (h : s.data.toList = fileL a0 l) : Ev (fun k => recfile_Parse.f k a0 s) (l, (l.length : Int), (sumN l : Int), 0) := by
  have hL := Cr.ba_size s
  have hz : s.size = 11 + (bl l).length + 17 := by rw [hL, h]; unfold fileL; rw [List.length_append, List.length_append, headL_len, endB_len]; omega
  obtain ⟨K1, g1⟩ : Ev (fun k => recfile_GetHead.f k (s.extract 0 11)) (a0, true) := by
    have hx : (s.extract 0 11).data.toList = headL a0.toNat := by rw [Cr.extract_take, h]; exact List.take_left' (headL_len _)
    rcases gethead (s.extract 0 11) (by rw [ByteArray.size_extract]; omega) with ⟨n, n1, n2, n3, n4⟩ | ⟨n1, _⟩
    · rw [hx] at n3
      have := headL_inj _ _ (by have := hr.1; omega) n2 n3
      rw [show a0 = (n : Int) by have := hr.1; omega]; exact n4
    · exact absurd hx (n1 _ (by have := hr.1; omega) (by have := hr.1; omega))
  have hx2 : (s.extract 11 s.size).data.toList = bl l ++ endB l := by rw [ex_end, h]; exact List.drop_left' (headL_len _)
  have hz2 : (s.extract 11 s.size).size = (bl l).length + 17 := by rw [Cr.ba_size, hx2, List.length_append, endB_len]
  obtain ⟨K2, g2⟩ := go_all a0 hr.1 (s.extract 11 s.size) (by omega) (endB l) (.inr rfl) l.length l 0 [] true (Nat.le_refl _) hr.2 (Nat.zero_le _) (Nat.le_refl _) hx2 (.inl rfl)
  rw [List.nil_append, Nat.zero_add] at g2
  obtain ⟨K3, g3⟩ := frame_getend ((s.extract 11 s.size).extract (bl l).length (s.extract 11 s.size).size) (by have := ex_le (s.extract 11 s.size) (bl l).length; omega)
  dsimp only at g3
  rw [ex_end, hx2, List.drop_left, endB, end_back _ _ (by
    have := bl_size a0.toNat l (fun x hx => by have := hr.2 x hx; omega)
    have : l.length ≤ l.length * a0.toNat := Nat.le_mul_of_pos_right _ (by have := hr.1; omega)
    omega) (sumN_lt l)] at g3
  have hll : l.length ≤ 100000 := by
    have := bl_size a0.toNat l (fun x hx => by have := hr.2 x hx; omega)
    have : l.length ≤ l.length * a0.toNat := Nat.le_mul_of_pos_right _ (by have := hr.1; omega)
    omega
  dsimp only at g1
  refine ⟨max K1 (max K2 K3), fun k hk => ?_⟩
  show recfile_Parse.f k a0 s = _
  unfold recfile_Parse.f
  rw [if_neg (by omega), if_neg (by omega), g1 k (by omega), Option.bind_some, if_pos ⟨rfl, rfl⟩, g2 k k (by omega) (by omega), Option.bind_some]
  show ((frame_GetEnd.f k _).bind _) = _
  rw [g3 k (by omega), Option.bind_some, if_pos rfl, recsum l 0 hll (fun x hx => by have := rightR_le hr x hx; omega), Option.bind_some, if_pos ⟨rfl, rfl⟩]
/-- What is told behind the blocks. -/
def parseT (k : Nat) (t : ByteArray) : Option (List ByteArray × Nat) → Option (List ByteArray × Int × Int × Int)
  | none => some ([], 0, 0, 6)
  | some (l, at_) => (frame_GetEnd.f k (t.extract at_ t.size)).bind fun e => if e.2.2 = true then
      (recfile_Sum.f l).bind fun s => if e.1 = s.1 ∧ e.2.1 = s.2 then some (l, e.1, e.2.1, 0) else some ([], 0, 0, 6)
    else some ([], 0, 0, 6)
/-- Of any bytes: none, or the records whose file they are. -/
theorem parse_total (a0 : Int) (s : ByteArray) (hs : s.size ≤ 100000) : ∃ r, Ev (fun k => recfile_Parse.f k a0 s) r ∧ (r = ([], 0, 0, 6) ∨ ∃ l, rightR a0 l ∧ s.data.toList = fileL a0 l ∧ r = (l, (l.length : Int), (sumN l : Int), 0)) := by
  by_cases h11 : s.size < 11
  · exact ⟨_, Ev.congr (fun k => by unfold recfile_Parse.f; rw [if_neg (by omega), if_pos h11]) (Ev.now _), .inl rfl⟩
  have hz1 : (s.extract 0 11).size = 11 := by rw [ByteArray.size_extract]; omega
  have hhd : ∀ (q : Int × Bool), Ev (fun k => recfile_GetHead.f k (s.extract 0 11)) q → ¬ (q.2 = true ∧ q.1 = a0) → Ev (fun k => recfile_Parse.f k a0 s) ([], 0, 0, 6) := by
    rintro q ⟨K, hq⟩ hn
    dsimp only at hq
    refine ⟨K, fun k hk => ?_⟩
    show recfile_Parse.f k a0 s = _
    unfold recfile_Parse.f
    rw [if_neg (by omega), if_neg h11, hq k hk, Option.bind_some, if_neg hn]
  rcases gethead (s.extract 0 11) (by omega) with ⟨n, n1, n2, n3, n4⟩ | ⟨_, n4⟩
  case inr => exact ⟨_, hhd _ n4 (by simp), .inl rfl⟩
  by_cases hna : (n : Int) = a0
  case neg => exact ⟨_, hhd _ n4 (by simpa using hna), .inl rfl⟩
  subst hna
  obtain ⟨K1, g1⟩ := n4
  dsimp only at g1
  have hz2 : (s.extract 11 s.size).size ≤ s.size := ex_le s 11
  obtain ⟨r, ⟨K2, g2⟩, hr2⟩ := go_total (n : Int) (s.extract 11 s.size) (by omega) _ 0 [] true (Nat.zero_le _) (Nat.le_refl _) (Nat.le_refl _)
  have hst : ∀ k, max K1 K2 ≤ k → recfile_Parse.f k (n : Int) s = parseT k (s.extract 11 s.size) r := fun k hk => by
    unfold recfile_Parse.f
    rw [if_neg (by omega), if_neg h11, g1 k (by omega), Option.bind_some, if_pos ⟨rfl, rfl⟩, g2 k k (by omega) (by omega), Option.bind_some]
    clear hr2 g2
    cases r <;> rfl
  cases r with
  | none => exact ⟨_, ⟨_, fun k hk => hst k hk⟩, .inl rfl⟩
  | some p =>
    obtain ⟨l, at'⟩ := p
    obtain ⟨l2, e1, e2, e3, e4, e5, _⟩ := hr2 l at' rfl
    rw [List.nil_append] at e1
    subst e1
    obtain ⟨K3, g3⟩ := frame_getend ((s.extract 11 s.size).extract at' (s.extract 11 s.size).size) (by have := ex_le (s.extract 11 s.size) at'; omega)
    dsimp only at g3
    rw [ex_end] at g3
    rw [List.drop_zero] at e5
    obtain ⟨⟨en, ec, eo⟩, hE⟩ : ∃ q, getE ((s.extract 11 s.size).data.toList.drop at') = q := ⟨_, rfl⟩
    rw [hE] at g3
    have hrr : rightR (n : Int) l := ⟨by omega, e2⟩
    have hsum := recsum l 0 (by omega) (fun x hx => by have := rightR_le hrr x hx; omega)
    have hst2 : ∀ k, max (max K1 K2) K3 ≤ k → recfile_Parse.f k (n : Int) s = if eo = true then (if en = (l.length : Int) ∧ ec = (sumN l : Int) then some (l, en, ec, 0) else some ([], 0, 0, 6)) else some ([], 0, 0, 6) := fun k hk => by
      rw [hst k (by omega)]
      show ((frame_GetEnd.f k _).bind _) = _
      rw [g3 k (by omega), Option.bind_some]
      simp only [hsum, Option.bind_some]
    by_cases heo : eo = true
    case neg => exact ⟨_, ⟨_, fun k hk => (hst2 k hk).trans (if_neg heo)⟩, .inl rfl⟩
    by_cases heq : en = (l.length : Int) ∧ ec = (sumN l : Int)
    case neg => exact ⟨_, ⟨_, fun k hk => (hst2 k hk).trans ((if_pos heo).trans (if_neg heq))⟩, .inl rfl⟩
    refine ⟨_, ⟨_, fun k hk => (hst2 k hk).trans ((if_pos heo).trans (if_pos heq))⟩, .inr ⟨l, hrr, ?_, by rw [heq.1, heq.2]⟩⟩
    subst heo
    obtain ⟨n', c', x1, x2, _, _, x5⟩ := getE_says hE
    rw [heq.1] at x1
    rw [heq.2] at x2
    have y1 : n' = l.length := by omega
    have y2 : c' = sumN l := by omega
    rw [y1, y2] at x5
    rw [x5] at e5
    have hsp : s.data.toList = (s.extract 0 11).data.toList ++ (s.extract 11 s.size).data.toList := by rw [Cr.extract_take, ex_end, List.take_append_drop]
    rw [hsp, n3, e5]
    unfold fileL endB
    rw [Int.toNat_natCast]

/-! ### the file of records -/
open Classical in
noncomputable def layF (a0 : Int) (l : List ByteArray) : ByteArray × Bool := if rightR a0 l then (⟨(fileL a0 l).toArray⟩, true) else (⟨#[]⟩, false)
theorem bl_range (l : List ByteArray) : bl l = ((List.range (recfile_Lay.nb l)).map (fun j => block (recfile_Lay.pc l j))).flatten := by
  induction hn : l.length using Nat.strongRecOn generalizing l with
  | _ n ih =>
    by_cases hl : l = []
    · subst hl; rw [bl_nil]; rfl
    · have hp := List.length_pos_iff.mpr hl
      have hnb : recfile_Lay.nb l = recfile_Lay.nb (l.drop 4) + 1 := by unfold recfile_Lay.nb; rw [List.length_drop]; omega
      rw [bl, dif_neg hl, ih (l.drop 4).length (by rw [List.length_drop]; omega) (l.drop 4) rfl, hnb, List.range_succ_eq_map, List.map_cons, List.flatten_cons, List.map_map]
      congr 1
      refine congrArg List.flatten (List.map_congr_left (fun j _ => ?_))
      show block (recfile_Lay.pc (l.drop 4) j) = block (recfile_Lay.pc l (j + 1))
      unfold recfile_Lay.pc
      rw [List.drop_drop, show 4 + 4 * j = 4 * (j + 1) by omega]
theorem pc_len (l : List ByteArray) (j : Nat) (h : j < recfile_Lay.nb l) : 1 ≤ (recfile_Lay.pc l j).length ∧ (recfile_Lay.pc l j).length ≤ 4 := by
  unfold recfile_Lay.nb at h
  unfold recfile_Lay.pc
  rw [List.length_take, List.length_drop]; omega
theorem pc_mem {l : List ByteArray} {j : Nat} {x : ByteArray} (h : x ∈ recfile_Lay.pc l j) : x ∈ l := List.mem_of_mem_drop (List.mem_of_mem_take h)
theorem pc_of {l : List ByteArray} {x : ByteArray} (h : x ∈ l) : ∃ j, j < recfile_Lay.nb l ∧ x ∈ recfile_Lay.pc l j := by
  obtain ⟨i, hi, rfl⟩ := List.mem_iff_getElem.mp h
  refine ⟨i / 4, by unfold recfile_Lay.nb; omega, ?_⟩
  unfold recfile_Lay.pc
  refine List.mem_iff_getElem.mpr ⟨i % 4, by rw [List.length_take, List.length_drop]; omega, ?_⟩
  rw [List.getElem_take, List.getElem_drop]
  congr 1; omega
theorem acc_data (a0 : Int) (l : List ByteArray) : ∀ (J : List Nat) (h : ByteArray), (recfile_Lay.acc a0 l h J).data.toList = h.data.toList ++ (J.map (fun j => (recfile_Lay.pt a0 l j).1.data.toList)).flatten := by
  intro J
  induction J with
  | nil => intro h; simp [recfile_Lay.acc]
  | cons j J ih =>
    intro h
    show (recfile_Lay.acc a0 l (h ++ (recfile_Lay.pt a0 l j).1) J).data.toList = _
    rw [ih, Cr.ba_append, List.map_cons, List.flatten_cons, List.append_assoc]
theorem lay_ev (a0 : Int) (l : List ByteArray) (hl : l.length ≤ 30) (hs : ∀ x ∈ l, x.size ≤ 80) : recfile_Lay.f a0 l = some (layF a0 l) := by
  unfold recfile_Lay.f layF
  rw [puthead, Option.bind_some]
  by_cases h64 : 1 ≤ a0 ∧ a0 ≤ 64
  case neg => rw [if_neg h64, if_neg (by simp), if_neg (fun h => h64 h.1)]
  rw [if_pos h64, if_pos rfl]
  have hpt : ∀ j, j < recfile_Lay.nb l → frame_Put.f a0 (recfile_Lay.pc l j) = some (putF a0 (recfile_Lay.pc l j)) := fun j hj =>
    frame_put a0 _ (by have := pc_len l j hj; omega) (fun x hx => hs x (pc_mem hx))
  have hpt2 : ∀ j, j < recfile_Lay.nb l → recfile_Lay.pt a0 l j = putF a0 (recfile_Lay.pc l j) := fun j hj => by unfold recfile_Lay.pt; rw [hpt j hj]; rfl
  have hsz : ∀ j, j < recfile_Lay.nb l → (putF a0 (recfile_Lay.pc l j)).1.size ≤ 10000 := fun j hj => by
    unfold putF
    split
    · rw [Cr.ba_size]
      show (block _).length ≤ _
      rw [block_len]
      have := catL_le (recfile_Lay.pc l j) 80 (fun x hx => hs x (pc_mem hx))
      have := (pc_len l j hj).2
      omega
    · show (0 : Nat) ≤ 10000; omega
  have htold : recfile_Lay.told a0 l = true := by
    unfold recfile_Lay.told
    refine List.all_eq_true.mpr (fun j hj => ?_)
    have hj' := List.mem_range.mp hj
    rw [hpt j hj', hpt2 j hj', decide_eq_true (hsz j hj')]; rfl
  have h11 : (⟨(headL a0.toNat).toArray⟩ : ByteArray).size = 11 := by rw [Cr.ba_size]; exact headL_len _
  rw [if_pos ⟨by omega, by rw [h11]; omega, htold⟩]
  by_cases hr : rightR a0 l
  · have hgd : ∀ j, j < recfile_Lay.nb l → good a0 (recfile_Lay.pc l j) := fun j hj => ⟨h64, pc_len l j hj, fun x hx => hr.2 x (pc_mem hx)⟩
    have hright : recfile_Lay.right a0 l = true := by
      unfold recfile_Lay.right
      refine List.all_eq_true.mpr (fun j hj => ?_)
      have hj' := List.mem_range.mp hj
      rw [hpt2 j hj', putF, if_pos (hgd j hj')]
    rw [if_pos hright, if_pos hr, recsum l 0 (by omega) (fun x hx => by have := hs x hx; omega), Option.bind_some]
    show (frame_PutEnd.f (l.length : Int) (sumN l : Int)).bind _ = _
    have hendF : endF (l.length : Int) (sumN l) = (⟨(Cr.closeB (endL (l.length : Int).toNat (sumN l))).toArray⟩, true) := if_pos ⟨by omega, by omega⟩
    rw [frame_end (l.length : Int) (sumN l) (by omega) (by omega) (sumN_lt l), Option.bind_some, hendF]
    have h17 : (⟨(Cr.closeB (endL (l.length : Int).toNat (sumN l))).toArray⟩ : ByteArray).size = 17 := by rw [Cr.ba_size]; show (Cr.closeB _).length = 17; rw [Cr.closeB_len, endL_len]
    rw [if_pos (by rw [h17]; decide)]
    refine congrArg some (Prod.ext (Cr.ba_ext ?_) rfl)
    show (recfile_Lay.acc a0 l _ _ ++ _).data.toList = fileL a0 l
    rw [Cr.ba_append, acc_data, fileL, List.append_assoc]
    congr 2
    rw [bl_range]
    refine congrArg List.flatten (List.map_congr_left (fun j hj => ?_))
    rw [hpt2 j (List.mem_range.mp hj), putF, if_pos (hgd j (List.mem_range.mp hj))]
  · have hright : recfile_Lay.right a0 l = false := by
      refine Bool.eq_false_iff.mpr (fun h => hr ⟨h64, fun x hx => ?_⟩)
      unfold recfile_Lay.right at h
      obtain ⟨j, hj, hx2⟩ := pc_of hx
      have h2 := List.all_eq_true.mp h j (List.mem_range.mpr hj)
      rw [hpt2 j hj, putF] at h2
      split at h2
      case isTrue hg => exact hg.2.2 x hx2
      case isFalse => cases h2
    rw [if_neg (by rw [hright]; decide), if_neg hr]
theorem few_ev (l : List ByteArray) (m : Nat) (hm : m ≤ 1000) : ∀ d i : Nat, i + d = m → (∀ x ∈ l.take i, x.size ≤ 80) → ∃ b, Ev (fun k => chainmanref06_Few.l0 k l (m : Int) (i : Int)) b ∧ (b = true → l.length ≤ m ∧ ∀ x ∈ l, x.size ≤ 80) := by
  intro d
  induction d with
  | zero =>
    intro i hi h
    refine ⟨decide ((l.length : Int) ≤ (m : Int)), ?_, ?_⟩
    · refine Ev.step (f := fun k => chainmanref06_Few.j1 k l (m : Int) (i : Int) false) (fun k => ?_) (Ev.step (f := fun _ => some _) (fun k => by rw [chainmanref06_Few.j1, if_neg (by decide)]) (Ev.now _))
      rw [chainmanref06_Few.l0]
      split
      · rw [decide_eq_false (by omega)]
      · rfl
    · intro hb
      have := of_decide_eq_true hb
      exact ⟨by omega, fun x hx => h x (by rw [List.take_of_length_le (by omega)]; exact hx)⟩
  | succ d ih =>
    intro i hi h
    by_cases hlt : i < l.length
    · by_cases hs : l[i].size ≤ 80
      · obtain ⟨b, hb, hb'⟩ := ih (i + 1) (by omega) (by
          intro x hx
          rw [List.take_add_one, List.getElem?_eq_getElem hlt, Option.toList_some, List.mem_append, List.mem_singleton] at hx
          rcases hx with hx | rfl
          · exact h x hx
          · exact hs)
        refine ⟨b, Ev.step (f := fun k => chainmanref06_Few.j1 k l (m : Int) (i : Int) true) (fun k => ?_) (Ev.step (fun k => ?_) hb), hb'⟩
        · rw [chainmanref06_Few.l0, if_pos (by omega), decide_eq_true (by omega)]
        · rw [chainmanref06_Few.j1, if_pos rfl, if_pos (by omega), if_pos (by omega), rd_nat l i hlt, if_neg (by omega), wsucc i (by omega)]
      · refine ⟨false, Ev.step (f := fun k => chainmanref06_Few.j1 k l (m : Int) (i : Int) true) (fun k => ?_) (Ev.step (f := fun _ => some false) (fun k => ?_) (Ev.now _)), by simp⟩
        · rw [chainmanref06_Few.l0, if_pos (by omega), decide_eq_true (by omega)]
        · rw [chainmanref06_Few.j1, if_pos rfl, if_pos (by omega), if_pos (by omega), rd_nat l i hlt, if_pos (by omega)]
    · refine ⟨decide ((l.length : Int) ≤ (m : Int)), Ev.step (f := fun k => chainmanref06_Few.j1 k l (m : Int) (i : Int) false) (fun k => ?_) (Ev.step (f := fun _ => some _) (fun k => by rw [chainmanref06_Few.j1, if_neg (by decide)]) (Ev.now _)), ?_⟩
      · rw [chainmanref06_Few.l0, if_neg (by omega)]
      · intro hb
        have := of_decide_eq_true hb
        exact ⟨by omega, fun x hx => h x (by rw [List.take_of_length_le (by omega)]; exact hx)⟩
theorem few_all (l : List ByteArray) (m : Nat) (hm : m ≤ 1000) : ∃ b, Ev (fun k => chainmanref06_Few.f k l (m : Int)) b ∧ (b = true → l.length ≤ m ∧ ∀ x ∈ l, x.size ≤ 80) := few_ev l m hm m 0 (by omega) (by simp)
theorem fits_nil (a0 : Int) (h : 1 ≤ a0 ∧ a0 ≤ 64) : rightR a0 [] := ⟨h, by simp⟩
theorem awake_ev : Ev (fun k => chainmanlaw06_awake.f k) true := by
  have h1 : rightR 1 [] := fits_nil 1 (by decide)
  have hl : layF 1 [] = (⟨(fileL 1 []).toArray⟩, true) := by unfold layF; rw [if_pos h1]
  have hz : (fileL 1 []).length = 28 := by rw [show (1 : Int) = ((1 : Nat) : Int) from rfl, fileL_len 1 [] (by simp)]; rfl
  have hz2 : (⟨(fileL 1 []).toArray⟩ : ByteArray).size = 28 := by rw [Cr.ba_size]; exact hz
  have p1 := parse_back 1 [] h1 ⟨(fileL 1 []).toArray⟩ (by rw [hz2]; decide) rfl
  obtain ⟨r, p2, hr⟩ := parse_total 2 ⟨(fileL 1 []).toArray⟩ (by rw [hz2]; decide)
  have hr6 : r.2.2.2 = 6 := by
    rcases hr with rfl | ⟨l', h', e, _⟩
    · rfl
    · exfalso
      have e2 : (fileL 1 []).take 11 = (fileL 2 l').take 11 := congrArg (List.take 11) e
      unfold fileL at e2
      rw [List.take_left' (headL_len _), List.take_left' (headL_len _)] at e2
      have := headL_inj _ _ (by decide) (by decide) e2
      exact absurd this (by decide)
  have hlen : recfile_Length.f 1 0 = some 28 := by decide +kernel
  obtain ⟨K1, p1⟩ := p1
  obtain ⟨K2, p2⟩ := p2
  dsimp only at p1 p2
  refine ⟨max K1 K2, fun k hk => ?_⟩
  show chainmanlaw06_awake.f k = _
  unfold chainmanlaw06_awake.f
  rw [lay_ev 1 [] (by simp) (by simp), Option.bind_some, hl, p1 k (by omega), Option.bind_some, p2 k (by omega), Option.bind_some, if_pos rfl, if_pos (by rw [hz2]; rfl), hlen, Option.bind_some, if_pos rfl, if_pos rfl]
  exact (if_pos rfl).trans ((if_pos rfl).trans (if_pos hr6))

/-! ### the document's files of records -/
def putHF (a0 : Int) : ByteArray × Bool := if 1 ≤ a0 ∧ a0 ≤ 64 then (⟨(headL a0.toNat).toArray⟩, true) else (⟨#[]⟩, false)
theorem refputhead (a0 : Int) : Ev (fun k => chainmanref06_PutHead.f k a0) (putHF a0) := by
  unfold putHF
  by_cases h : 1 ≤ a0 ∧ a0 ≤ 64
  · rw [if_pos h]
    have hd : ((⟨#[67, 72, 65, 73, 78, 49]⟩ : ByteArray) ++ strOfNums [a0 % 256]).data.toList = magicL ++ [UInt8.ofNat a0.toNat] := by
      rw [Cr.ba_append, strOfNums_data, List.map_cons, List.map_nil, Int.emod_eq_of_lt (by omega) (by omega)]; rfl
    have hz : (strOfNums [a0 % 256]).size = 1 := by rw [strOfNums_size]; rfl
    have hz2 : ((⟨#[67, 72, 65, 73, 78, 49]⟩ : ByteArray) ++ strOfNums [a0 % 256]).size = 7 := by rw [ByteArray.size_append, hz]; rfl
    refine ⟨1000, fun k hk => ?_⟩
    show chainmanref06_PutHead.f k a0 = _
    obtain ⟨c, c1, c2⟩ := Cr.refclose_bv ((⟨#[67, 72, 65, 73, 78, 49]⟩ : ByteArray) ++ strOfNums [a0 % 256]) (by omega) k (by omega)
    unfold chainmanref06_PutHead.f
    rw [if_neg (by omega), if_neg (by omega), Option.bind_some, if_pos (by rw [hz]; decide), c1, Option.bind_some]
    refine congrArg some (Prod.ext (Cr.ba_ext ?_) rfl)
    rw [c2, hd]; rfl
  · rw [if_neg h]
    refine Ev.congr (fun k => ?_) (Ev.now _)
    unfold chainmanref06_PutHead.f
    by_cases h1 : a0 < 1
    · rw [if_pos h1]
    · rw [if_neg h1, if_pos (by omega)]
theorem refgethead (s : ByteArray) (hs : s.size ≤ 100000) (r : Int × Bool) (h : Ev (fun k => recfile_GetHead.f k s) r) : Ev (fun k => chainmanref06_GetHead.f k s) r := by
  by_cases h11 : (s.size : Int) = 11
  case neg =>
    rcases gethead s hs with ⟨n, _, _, n3, _⟩ | ⟨_, n4⟩
    · have := congrArg List.length n3
      rw [headL_len, ← Cr.ba_size] at this
      omega
    · rw [ev_one h n4]
      exact Ev.congr (fun k => by unfold chainmanref06_GetHead.f; rw [if_neg h11]) (Ev.now _)
  have hL := Cr.ba_size s
  obtain ⟨c, hc⟩ : ∃ c : UInt8, bt s 6 = (c.toNat : Int) := ⟨_, Cr.bt_nat s 6 (by omega)⟩
  have hw := Aside0.mk (show wrap64 (bt s 6) = (c.toNat : Int) by rw [hc]; have := c.toNat_lt; unfold wrap64; omega)
  obtain ⟨K, hp⟩ := refputhead (c.toNat : Int)
  dsimp only at hp
  have hst : ∀ k, K ≤ k → chainmanref06_GetHead.f k s = if (putHF (c.toNat : Int)).2 = true then (if (putHF (c.toNat : Int)).1.toList = s.toList then some ((c.toNat : Int), true) else some (0, false)) else some (0, false) := fun k hk => by
    unfold chainmanref06_GetHead.f
    rw [if_pos h11, if_pos (by omega), hw.out, hp k hk, Option.bind_some]
  have hc6 : s.data.toList.getD 6 0 = c := by
    have h6 := Cr.bt_nat s 6 (by omega)
    rw [show ((6 : Nat) : Int) = 6 from rfl, hc] at h6
    have h7 : (s.data.toList[6]'(by omega)).toNat = c.toNat := by omega
    rw [List.getD_eq_getElem?_getD, List.getElem?_eq_getElem (by omega), Option.getD_some]
    exact UInt8.toNat_inj.mp h7
  rcases gethead s hs with ⟨n, n1, n2, n3, n4⟩ | ⟨n3, n4⟩
  · rw [ev_one h n4]
    have hcn : c.toNat = n := by
      rw [n3] at hc6
      have h8 : UInt8.ofNat n = c := hc6
      rw [← h8, UInt8.toNat_ofNat']; omega
    refine ⟨K, fun k hk => (hst k hk).trans ?_⟩
    have hpf : putHF (c.toNat : Int) = (⟨(headL n).toArray⟩, true) := by unfold putHF; rw [if_pos (by omega), Int.toNat_natCast, hcn]
    rw [hpf, if_pos rfl, if_pos (by rw [ByteArray.toList_eq, ByteArray.toList_eq, n3]), hcn]
  · rw [ev_one h n4]
    refine ⟨K, fun k hk => (hst k hk).trans ?_⟩
    by_cases hr : 1 ≤ c.toNat ∧ c.toNat ≤ 64
    · have hpf : putHF (c.toNat : Int) = (⟨(headL c.toNat).toArray⟩, true) := by unfold putHF; rw [if_pos (by omega), Int.toNat_natCast]
      rw [hpf, if_pos rfl, if_neg]
      rw [ByteArray.toList_eq, ByteArray.toList_eq]
      exact fun e => n3 c.toNat hr.1 hr.2 e.symm
    · have hpf : putHF (c.toNat : Int) = (⟨#[]⟩, false) := by unfold putHF; rw [if_neg (by omega)]
      rw [hpf, if_neg (by decide)]
theorem catL_take_succ (l : List ByteArray) (i : Nat) (h : i < l.length) : catL (l.take (i + 1)) = catL (l.take i) ++ l[i].data.toList := by
  unfold catL
  rw [List.take_succ_eq_append_getElem h, List.map_append, List.flatten_append]
  simp
theorem refsum_loop (l : List ByteArray) (hl : l.length ≤ 2000) (hs : ∀ x ∈ l, x.size ≤ 100) (z : Int) : ∀ d i : Nat, i + d = l.length → Ev (fun k => chainmanref06_Sum.l0 k l (i : Int) z ((Cr.moreB 0#32 (catL (l.take i))).toNat : Int)) (z, (sumN l : Int)) := by
  intro d
  induction d with
  | zero =>
    intro i hi
    refine Ev.step (f := fun _ => some (z, (sumN l : Int))) (fun k => ?_) (Ev.now _)
    rw [chainmanref06_Sum.l0, if_neg (by omega), List.take_of_length_le (by omega)]
    rfl
  | succ d ih =>
    intro i hi
    have hlt : i < l.length := by omega
    have hsz := hs l[i] (List.getElem_mem hlt)
    have hm : Ev (fun k => chainmanref03_More.f k ((Cr.moreB 0#32 (catL (l.take i))).toNat : Int) l[i]) ((Cr.moreB 0#32 (catL (l.take (i + 1)))).toNat : Int) := ⟨2000, fun k hk => by
      show chainmanref03_More.f k _ _ = _
      rw [Cr.refmore_bv _ _ (by omega) k (by omega), catL_take_succ l i hlt]
      congr 2
      unfold Cr.moreB Cr.feedB
      rw [BitVec.not_not, List.foldl_append]⟩
    refine Ev.step (fun k => ?_) (Ev.bind hm (ih (i + 1) (by omega)))
    rw [chainmanref06_Sum.l0, if_pos (by omega), if_pos (by omega), rd_nat l i hlt, wsucc i (by omega)]
theorem refsum (l : List ByteArray) (hl : l.length ≤ 2000) (hs : ∀ x ∈ l, x.size ≤ 100) : Ev (fun k => chainmanref06_Sum.f k l) ((l.length : Int), (sumN l : Int)) := by
  have h := refsum_loop l hl hs (l.length : Int) l.length 0 (by omega)
  rw [show ((Cr.moreB 0#32 (catL (l.take 0))).toNat : Int) = 0 by rw [List.take_zero]; decide] at h
  exact h
theorem all_ev2 (a0 : Int) (l : List ByteArray) (hl : l.length ≤ 2000) : ∀ (d i : Nat), i + d = l.length → Ev (fun k => chainmanref05_All.l0 k a0 l (i : Int)) (allB a0 (l.drop i)) := by
  intro d
  induction d with
  | zero =>
    intro i hi
    refine Ev.step (f := fun _ => some true) (fun q => ?_) ?_
    · rw [chainmanref05_All.l0, if_neg (by omega)]
    · rw [List.drop_of_length_le (by omega)]; exact Ev.now _
  | succ d ih =>
    intro i hi
    have hlt : i < l.length := by omega
    have hB : allB a0 (l.drop i) = (((l[i].size : Int) == a0) && allB a0 (l.drop (i + 1))) := by rw [List.drop_eq_getElem_cons hlt]; rfl
    rw [hB]
    by_cases h : (l[i].size : Int) = a0
    · rw [show ((l[i].size : Int) == a0) = true by simpa using h, Bool.true_and]
      refine Ev.step (fun q => ?_) (ih (i + 1) (by omega))
      rw [chainmanref05_All.l0, if_pos (by omega), if_pos (by omega), rd_nat l i hlt, if_pos h, wsucc i (by omega)]
    · rw [show ((l[i].size : Int) == a0) = false by simpa using h, Bool.false_and]
      refine Ev.step (f := fun _ => some false) (fun q => ?_) (Ev.now _)
      rw [chainmanref05_All.l0, if_pos (by omega), if_pos (by omega), rd_nat l i hlt, if_neg h]
theorem mn_le (a b : Nat) : mn (a : Int) (b : Int) = ((min a b : Nat) : Int) := by unfold mn; split <;> omega
theorem reflay_loop (a0 : Int) (l : List ByteArray) (hl : l.length ≤ 2000) (hs : ∀ x ∈ l, x.size ≤ 80) (hr : rightR a0 l) : ∀ (d i : Nat) (acc : ByteArray), l.length - i ≤ d → i ≤ l.length + 3 → acc.size ≤ 11 + 400 * i →
    ∃ r : ByteArray, Ev (fun k => chainmanref06_Lay.l0 k a0 l acc (i : Int)) (r, true) ∧ r.data.toList = acc.data.toList ++ (bl (l.drop i) ++ endB l) := by
  have fin : ∀ (i : Nat) (acc : ByteArray), l.length ≤ i → acc.size ≤ 1000000 → ∃ r : ByteArray, Ev (fun k => chainmanref06_Lay.l0 k a0 l acc (i : Int)) (r, true) ∧ r.data.toList = acc.data.toList ++ (bl (l.drop i) ++ endB l) := by
    intro i acc hi hz
    have hendF : endF (l.length : Int) (sumN l) = (⟨(endB l).toArray⟩, true) := by unfold endF; rw [if_pos ⟨by omega, by omega⟩]; rfl
    have h17 : (⟨(endB l).toArray⟩ : ByteArray).size = 17 := by rw [Cr.ba_size]; exact endB_len l
    have he := frame_refend (l.length : Int) (sumN l) (by omega) (by omega) (sumN_lt l)
    rw [hendF] at he
    have hle : acc.size + (⟨(endB l).toArray⟩ : ByteArray).size ≤ 9223372036854775807 := by omega
    refine ⟨acc ++ ⟨(endB l).toArray⟩, ?_, ?_⟩
    · refine Ev.step (fun k => by rw [chainmanref06_Lay.l0, if_neg (by omega)]) ?_
      refine Ev.bind (refsum l hl (fun x hx => by have := hs x hx; omega)) ?_
      refine Ev.bind he ?_
      exact Ev.congr (fun k => if_pos hle) (Ev.now _)
    · rw [Cr.ba_append, List.drop_eq_nil_of_le hi, bl_nil, List.nil_append]
  intro d
  induction d with
  | zero => intro i acc h1 h2 h3; exact fin i acc (by omega) (by omega)
  | succ d ih =>
    intro i acc h1 h2 h3
    by_cases hlt : i < l.length
    case neg => exact fin i acc (by omega) (by omega)
    have hw := Aside0.mk (show wrap64 ((i : Int) + 4) = ((i + 4 : Nat) : Int) by unfold wrap64; omega)
    have hne : l.drop i ≠ [] := by intro e; have := congrArg List.length e; rw [List.length_drop, List.length_nil] at this; omega
    have hpc : (l.take (min (i + 4) l.length)).drop i = (l.drop i).take 4 := by
      rw [List.drop_take]
      by_cases h4 : i + 4 ≤ l.length
      · rw [show min (i + 4) l.length - i = 4 by omega]
      · rw [List.take_of_length_le (by rw [List.length_drop]; omega), List.take_of_length_le (by rw [List.length_drop]; omega)]
    have hg : good a0 ((l.drop i).take 4) := ⟨hr.1, ⟨by rw [List.length_take, List.length_drop]; omega, by rw [List.length_take, List.length_drop]; omega⟩, fun x hx => hr.2 x (List.mem_of_mem_drop (List.mem_of_mem_take hx))⟩
    have hput := frame_refput a0 ((l.drop i).take 4) (by have := hg.2.1.2; omega) (fun x hx => hs x (List.mem_of_mem_drop (List.mem_of_mem_take hx)))
    rw [putF, if_pos hg] at hput
    have hbz : (⟨(block ((l.drop i).take 4)).toArray⟩ : ByteArray).size ≤ 400 := by
      rw [Cr.ba_size]
      show (block _).length ≤ _
      rw [block_len]
      have := catL_le ((l.drop i).take 4) 80 (fun x hx => hs x (List.mem_of_mem_drop (List.mem_of_mem_take hx)))
      have := hg.2.1.2
      omega
    obtain ⟨r, hr1, hr2⟩ := ih (i + 4) (acc ++ ⟨(block ((l.drop i).take 4)).toArray⟩) (by omega) (by omega) (by rw [ByteArray.size_append]; omega)
    have hle : acc.size + (⟨(block ((l.drop i).take 4)).toArray⟩ : ByteArray).size ≤ 9223372036854775807 := by omega
    refine ⟨r, ?_, ?_⟩
    · refine Ev.step (fun k => by rw [chainmanref06_Lay.l0, if_pos (by omega), if_pos (by omega), hw.out, mn_le, if_pos (by omega), if_pos (by omega), Int.toNat_natCast, Int.toNat_natCast, hpc]) ?_
      refine Ev.bind hput ?_
      exact Ev.congr (fun k => if_pos hle) hr1
    · rw [hr2, Cr.ba_append, show bl (l.drop i) = block ((l.drop i).take 4) ++ bl ((l.drop i).drop 4) by rw [bl, dif_neg hne], List.drop_drop, List.append_assoc, List.append_assoc]
theorem reflay (a0 : Int) (l : List ByteArray) (hl : l.length ≤ 2000) (hs : ∀ x ∈ l, x.size ≤ 80) : Ev (fun k => chainmanref06_Lay.f k a0 l) (layF a0 l) := by
  have no : ∀ (h : ByteArray) (b : Bool), b = true → Ev (fun k => chainmanref06_Lay.j0 k a0 l h b) ((⟨#[]⟩ : ByteArray), false) := fun h b hb =>
    Ev.step (f := fun _ => some (⟨#[]⟩, false)) (fun q => by rw [chainmanref06_Lay.j0, if_pos hb]) (Ev.now _)
  unfold layF
  refine Ev.bind (refputhead a0) ?_
  by_cases h64 : 1 ≤ a0 ∧ a0 ≤ 64
  case neg =>
    rw [if_neg (fun h => h64 h.1)]
    have hpf : putHF a0 = (⟨#[]⟩, false) := if_neg h64
    rw [hpf]
    exact Ev.congr (fun k => if_neg (by decide)) (no _ true rfl)
  have hpf : putHF a0 = (⟨(headL a0.toNat).toArray⟩, true) := if_pos h64
  rw [hpf]
  refine Ev.congr (fun k => if_pos rfl) ?_
  refine Ev.bind (a := allB a0 l) (all_ev2 a0 l hl l.length 0 (by omega)) ?_
  cases hb : allB a0 l with
  | false =>
    rw [if_neg (fun h => by have := (allB_iff a0 l).mpr h.2; rw [hb] at this; cases this)]
    exact no _ _ rfl
  | true =>
    have hr : rightR a0 l := ⟨h64, (allB_iff a0 l).mp hb⟩
    rw [if_pos hr]
    have hz : (⟨(headL a0.toNat).toArray⟩ : ByteArray).size = 11 := by rw [Cr.ba_size]; exact headL_len _
    obtain ⟨r, r1, r2⟩ := reflay_loop a0 l hl hs hr l.length 0 ⟨(headL a0.toNat).toArray⟩ (by omega) (by omega) (by omega)
    have hre : r = ⟨(fileL a0 l).toArray⟩ := Cr.ba_ext (by rw [r2]; rfl)
    rw [← hre]
    exact Ev.step (fun k => by rw [chainmanref06_Lay.j0, if_neg (by decide)]; rfl) r1
theorem get_ref (a0 : Int) (s : ByteArray) (hs : s.size ≤ 100000) (r : List ByteArray × Int × Bool) (h : Ev (fun k => frame_Get.f k a0 s) r) : Ev (fun k => chainmanref05_Get.f k a0 s) r := by
  obtain ⟨r', h1, h2, _⟩ := get_both a0 s hs
  rw [ev_one h h1]; exact h2
/-- What the document tells behind the blocks. -/
theorem refstop (a0 : Int) (s : ByteArray) (l : List ByteArray) (hl : l.length ≤ 2000) (hs : ∀ x ∈ l, x.size ≤ 80) (at_ : Int) : ∃ r, Ev (fun k => chainmanref06_Parse.j1 k a0 s l at_ false) r ∧ ((r = ([], 0, 0, 6) ∧ ¬ (rightR a0 l ∧ s.data.toList = fileL a0 l)) ∨ (rightR a0 l ∧ s.data.toList = fileL a0 l) ∧ r = (l, (l.length : Int), (sumN l : Int), 0)) := by
  have hlay := reflay a0 l hl hs
  by_cases hr : rightR a0 l
  case neg =>
    have hlf : layF a0 l = (⟨#[]⟩, false) := if_neg hr
    rw [hlf] at hlay
    refine ⟨([], 0, 0, 6), ?_, .inl ⟨rfl, fun h => hr h.1⟩⟩
    refine Ev.step (fun k => by rw [chainmanref06_Parse.j1, if_neg (by decide)]) ?_
    refine Ev.bind hlay ?_
    exact Ev.congr (fun k => if_neg (by decide)) (Ev.now _)
  have hlf : layF a0 l = (⟨(fileL a0 l).toArray⟩, true) := if_pos hr
  rw [hlf] at hlay
  by_cases he : s.data.toList = fileL a0 l
  · have hee : (⟨(fileL a0 l).toArray⟩ : ByteArray).toList = s.toList := by rw [ByteArray.toList_eq, ByteArray.toList_eq, he]
    refine ⟨(l, (l.length : Int), (sumN l : Int), 0), ?_, .inr ⟨⟨hr, he⟩, rfl⟩⟩
    refine Ev.step (fun k => by rw [chainmanref06_Parse.j1, if_neg (by decide)]) ?_
    refine Ev.bind hlay ?_
    refine Ev.congr (fun k => if_pos rfl) ?_
    refine Ev.congr (fun k => if_pos hee) ?_
    exact Ev.bind (refsum l hl (fun x hx => by have := hs x hx; omega)) (Ev.now _)
  · have hee : ¬ (⟨(fileL a0 l).toArray⟩ : ByteArray).toList = s.toList := by rw [ByteArray.toList_eq, ByteArray.toList_eq]; exact fun e => he e.symm
    refine ⟨([], 0, 0, 6), ?_, .inl ⟨rfl, fun h => he h.2⟩⟩
    refine Ev.step (fun k => by rw [chainmanref06_Parse.j1, if_neg (by decide)]) ?_
    refine Ev.bind hlay ?_
    refine Ev.congr (fun k => if_pos rfl) ?_
    exact Ev.congr (fun k => if_neg hee) (Ev.now _)
theorem refparse_total (a0 : Int) (s : ByteArray) (hs : s.size ≤ 1000) : ∀ (d at_ : Nat) (acc : List ByteArray), at_ ≤ s.size → s.size - at_ ≤ d → acc.length ≤ at_ → (∀ x ∈ acc, x.size ≤ 80) →
    ∃ r, Ev (fun k => chainmanref06_Parse.l0 k a0 s acc (at_ : Int)) r ∧ (r = ([], 0, 0, 6) ∨ ∃ l, rightR a0 l ∧ s.data.toList = fileL a0 l ∧ r = (l, (l.length : Int), (sumN l : Int), 0)) := by
  intro d
  induction d with
  | zero =>
    intro at_ acc h1 h2 h3 h4
    obtain ⟨r, r1, r2⟩ := refstop a0 s acc (by omega) h4 (at_ : Int)
    refine ⟨r, Ev.step (fun k => by rw [chainmanref06_Parse.l0, if_neg (by omega)]) r1, ?_⟩
    rcases r2 with r2 | ⟨r2, r3⟩
    · exact .inl r2.1
    · exact .inr ⟨acc, r2.1, r2.2, r3⟩
  | succ d ih =>
    intro at_ acc h1 h2 h3 h4
    have hL := Cr.ba_size s
    have stop : ∀ b, b = false → ((at_ : Int) < (s.size : Int) → ((bt s (at_ : Int)) != 0) = b) → ∃ r, Ev (fun k => chainmanref06_Parse.l0 k a0 s acc (at_ : Int)) r ∧ (r = ([], 0, 0, 6) ∨ ∃ l, rightR a0 l ∧ s.data.toList = fileL a0 l ∧ r = (l, (l.length : Int), (sumN l : Int), 0)) := by
      intro b hb hbt
      obtain ⟨r, r1, r2⟩ := refstop a0 s acc (by omega) h4 (at_ : Int)
      refine ⟨r, Ev.step (fun k => ?_) r1, ?_⟩
      · rw [chainmanref06_Parse.l0]
        split
        · rename_i c; rw [if_pos (by omega), hbt c, hb]
        · rfl
      rcases r2 with r2 | ⟨r2, r3⟩
      · exact .inl r2.1
      · exact .inr ⟨acc, r2.1, r2.2, r3⟩
    by_cases hlt : at_ < s.size
    case neg => exact stop false rfl (fun h => by omega)
    cases hb : (bt s (at_ : Int)) != 0 with
    | false => exact stop false rfl (fun _ => hb)
    | true =>
      have hle := ex_le s at_
      rcases get_prog a0 (s.extract at_ s.size) (by omega) with hno | ⟨q, more, hg, hm⟩
      · have hno' := get_ref a0 _ (by omega) _ hno
        refine ⟨([], 0, 0, 6), ?_, .inl rfl⟩
        refine Ev.step (f := fun k => chainmanref06_Parse.j1 k a0 s acc (at_ : Int) true) (fun k => by rw [chainmanref06_Parse.l0, if_pos (by omega), if_pos (by omega), hb]) ?_
        refine Ev.step (fun k => by rw [chainmanref06_Parse.j1, if_pos rfl, if_pos (by omega), if_pos (by omega), Int.toNat_natCast]) ?_
        refine Ev.bind hno' ?_
        exact Ev.congr (fun k => if_neg (by decide)) (Ev.now _)
      · have hget := get_ref a0 _ (by omega) _ (block_get a0 q hg (s.extract at_ s.size) more hm (by omega))
        have hbig := block_big a0 q hg
        rw [ex_end] at hm
        have hlen : (block q).length + more.length = s.size - at_ := by rw [Cr.ba_size, ← List.length_append, ← hm, List.length_drop]
        have hw := Aside0.mk (show wrap64 ((at_ : Int) + ((block q).length : Int)) = ((at_ + (block q).length : Nat) : Int) by unfold wrap64; omega)
        have hq4 := hg.2.1
        obtain ⟨r, r1, r2⟩ := ih (at_ + (block q).length) (acc ++ q) (by omega) (by omega) (by rw [List.length_append]; omega) (by
          intro x hx
          rcases List.mem_append.mp hx with hx | hx
          · exact h4 x hx
          · have := hg.2.2 x hx; have := hg.1; omega)
        have hle2 : acc.length + q.length < 8796093022208 := by omega
        refine ⟨r, ?_, r2⟩
        refine Ev.step (f := fun k => chainmanref06_Parse.j1 k a0 s acc (at_ : Int) true) (fun k => by rw [chainmanref06_Parse.l0, if_pos (by omega), if_pos (by omega), hb]) ?_
        refine Ev.step (fun k => by rw [chainmanref06_Parse.j1, if_pos rfl, if_pos (by omega), if_pos (by omega), Int.toNat_natCast]) ?_
        refine Ev.bind hget ?_
        refine Ev.congr (fun k => if_pos rfl) ?_
        refine Ev.congr (fun k => if_pos hle2) ?_
        refine Ev.congr (fun k => by dsimp only; rw [hw.out]) r1
/-- A file's records are told. -/
theorem refparse_all (a0 : Int) (s : ByteArray) (hs : s.size ≤ 1000) (L : List ByteArray) (hr : rightR a0 L) (hf : s.data.toList = fileL a0 L) : ∀ (d at_ : Nat) (acc l : List ByteArray), l.length ≤ d → L = acc ++ l → at_ ≤ s.size → acc.length ≤ at_ → s.data.toList.drop at_ = bl l ++ endB L →
    Ev (fun k => chainmanref06_Parse.l0 k a0 s acc (at_ : Int)) (L, (L.length : Int), (sumN L : Int), 0) := by
  have hs80 := rightR_le hr
  have hL := Cr.ba_size s
  have fin : ∀ (at_ : Nat), at_ ≤ s.size → L.length ≤ at_ → s.data.toList.drop at_ = endB L → Ev (fun k => chainmanref06_Parse.l0 k a0 s L (at_ : Int)) (L, (L.length : Int), (sumN L : Int), 0) := by
    intro at_ h1 h2 h3
    obtain ⟨r, r1, r2⟩ := refstop a0 s L (by omega) hs80 (at_ : Int)
    have hre : r = (L, (L.length : Int), (sumN L : Int), 0) := by
      rcases r2 with r2 | ⟨_, r2⟩
      · exact absurd ⟨hr, hf⟩ r2.2
      · exact r2
    subst hre
    have hlt : at_ < s.size := by
      have := congrArg List.length h3
      rw [List.length_drop, endB_len] at this
      omega
    have hb : ((bt s (at_ : Int)) != 0) = false := by
      rw [Cr.bt_nat s at_ (by omega)]
      have h0 : s.data.toList[at_]'(by omega) = 0 := by
        have h4 : (s.data.toList.drop at_).head? = some 0 := by rw [h3]; exact (by rw [← List.append_nil (endB L)]; exact endB_head L [])
        rw [List.head?_drop, List.getElem?_eq_getElem (by omega)] at h4
        exact Option.some.inj h4
      rw [h0]; rfl
    exact Ev.step (fun k => by rw [chainmanref06_Parse.l0, if_pos (by omega), if_pos (by omega), hb]) r1
  intro d
  induction d with
  | zero =>
    intro at_ acc l h1 h2 h3 h4 h5
    have hl : l = [] := List.eq_nil_of_length_eq_zero (by omega)
    subst hl
    rw [List.append_nil] at h2
    subst h2
    exact fin at_ h3 h4 (by rw [h5, bl_nil]; rfl)
  | succ d ih =>
    intro at_ acc l h1 h2 h3 h4 h5
    by_cases hl : l = []
    · subst hl
      rw [List.append_nil] at h2
      subst h2
      exact fin at_ h3 h4 (by rw [h5, bl_nil]; rfl)
    have hlp := List.length_pos_iff.mpr hl
    have hrl : ∀ x ∈ l, (x.size : Int) = a0 := fun x hx => hr.2 x (by rw [h2]; exact List.mem_append_right _ hx)
    have hg : good a0 (l.take 4) := ⟨hr.1, ⟨by rw [List.length_take]; omega, by rw [List.length_take]; omega⟩, fun x hx => hrl x (List.mem_of_mem_take hx)⟩
    have hm : (s.extract at_ s.size).data.toList = block (l.take 4) ++ (bl (l.drop 4) ++ endB L) := by rw [ex_end, h5, bl, dif_neg hl, List.append_assoc]
    have hle := ex_le s at_
    have hget := get_ref a0 _ (by omega) _ (block_get a0 _ hg (s.extract at_ s.size) _ hm (by omega))
    have hbig := block_big a0 _ hg
    rw [ex_end] at hm
    have hlen := congrArg List.length hm
    rw [List.length_drop, List.length_append] at hlen
    have hlt : at_ < s.size := by omega
    have hb : ((bt s (at_ : Int)) != 0) = true := by
      obtain ⟨c, L', hc, hcl, hc1, hc4⟩ := block_head a0 _ hg
      rw [Cr.bt_nat s at_ (by omega)]
      have h0 : s.data.toList[at_]'(by omega) = c := by
        have h6 : (s.data.toList.drop at_).head? = some c := by rw [hm, hc]; rfl
        rw [List.head?_drop, List.getElem?_eq_getElem (by omega)] at h6
        exact Option.some.inj h6
      rw [h0, bne_iff_ne]; omega
    have hw := Aside0.mk (show wrap64 ((at_ : Int) + ((block (l.take 4)).length : Int)) = ((at_ + (block (l.take 4)).length : Nat) : Int) by unfold wrap64; omega)
    have hq4 := hg.2.1
    have hrec := ih (at_ + (block (l.take 4)).length) (acc ++ l.take 4) (l.drop 4) (by rw [List.length_drop]; omega) (by rw [List.append_assoc, List.take_append_drop]; exact h2) (by omega) (by rw [List.length_append]; omega) (by rw [← List.drop_drop, hm, List.drop_left])
    have hle2 : acc.length + (l.take 4).length < 8796093022208 := by omega
    refine Ev.step (f := fun k => chainmanref06_Parse.j1 k a0 s acc (at_ : Int) true) (fun k => by rw [chainmanref06_Parse.l0, if_pos (by omega), if_pos (by omega), hb]) ?_
    refine Ev.step (fun k => by rw [chainmanref06_Parse.j1, if_pos rfl, if_pos (by omega), if_pos (by omega), Int.toNat_natCast]) ?_
    refine Ev.bind hget ?_
    refine Ev.congr (fun k => if_pos rfl) ?_
    refine Ev.congr (fun k => if_pos hle2) ?_
    refine Ev.congr (fun k => by dsimp only; rw [hw.out]) hrec
theorem parse_same (a0 : Int) (s : ByteArray) (hs : s.size ≤ 1000) : ∃ r, Ev (fun k => recfile_Parse.f k a0 s) r ∧ Ev (fun k => chainmanref06_Parse.f k a0 s) r ∧ r.1.length ≤ 2000 := by
  obtain ⟨r, r1, r2⟩ := parse_total a0 s (by omega)
  by_cases h11 : s.size < 11
  · have hr6 : r = ([], 0, 0, 6) := by
      rcases r2 with r2 | ⟨l, _, e, _⟩
      · exact r2
      · have := congrArg List.length e
        rw [fileL, List.length_append, headL_len, ← Cr.ba_size] at this
        omega
    subst hr6
    exact ⟨_, r1, Ev.congr (fun k => by unfold chainmanref06_Parse.f; rw [if_pos (by omega)]) (Ev.now _), by simp⟩
  have hst : ∀ q, Ev (fun k => chainmanref06_Parse.l0 k a0 s [] ((11 : Nat) : Int)) q → Ev (fun k => chainmanref06_Parse.f k a0 s) q := fun q hq => Ev.congr (fun k => by unfold chainmanref06_Parse.f; rw [if_neg (by omega)]; rfl) hq
  rcases r2 with rfl | ⟨l, hr, e, rfl⟩
  · obtain ⟨q, q1, q2⟩ := refparse_total a0 s hs s.size 11 [] (by omega) (by omega) (by simp) (by simp)
    have hq6 : q = ([], 0, 0, 6) := by
      rcases q2 with q2 | ⟨l, hr, e, _⟩
      · exact q2
      · exfalso
        have := ev_one r1 (parse_back a0 l hr s (by omega) e)
        have h6 : (6 : Int) = 0 := congrArg (fun p => p.2.2.2) this
        exact absurd h6 (by decide)
    subst hq6
    exact ⟨_, r1, hst _ q1, by simp⟩
  · have hll : l.length ≤ s.size := by
      have h1 := congrArg List.length e
      rw [← Cr.ba_size, fileL, List.length_append, headL_len, List.length_append, endB_len, bl_size a0.toNat l (fun x hx => by have := hr.2 x hx; omega)] at h1
      have : l.length ≤ l.length * a0.toNat := Nat.le_mul_of_pos_right _ (by have := hr.1; omega)
      omega
    exact ⟨_, r1, hst _ (refparse_all a0 s hs l hr e l.length 11 [] l (Nat.le_refl _) rfl (by omega) (by simp) (by rw [e, fileL]; exact List.drop_left' (headL_len _))), by simp only; omega⟩

theorem wI (x : Int) (h : -4611686018427387904 ≤ x ∧ x ≤ 4611686018427387904) : wrap64 x = x := by unfold wrap64; omega
theorem len_prog (a n p q : Nat) (ha : 1 ≤ a ∧ a ≤ 64) (hn : n ≤ 1099511627776) (hp : n * a = p) (hpb : p ≤ 80000000000000) (hq : (n + 3) / 4 = q) : recfile_Length.f (a : Int) (n : Int) = some ((11 + p + q * 5 + 17 : Nat) : Int) := by
  unfold recfile_Length.f
  rw [if_neg (by omega), if_neg (by omega), if_neg (by omega), if_neg (by omega), ← Int.natCast_mul, hp]
  clear hp
  rw [wI ((n : Int) + 4) (by omega), wI ((n : Int) + 4 - 1) (by omega), show Int.tdiv ((n : Int) + 4 - 1) 4 = (q : Int) by rw [Int.tdiv_eq_ediv_of_nonneg (by omega)]; omega]
  rw [wI (q : Int) (by omega), wI ((q : Int) * 5) (by omega), wI (p : Int) (by omega), wI (11 + (p : Int)) (by omega), wI (11 + (p : Int) + (q : Int) * 5) (by omega), wI (11 + (p : Int) + (q : Int) * 5 + 17) (by omega)]
  refine congrArg some ?_
  omega
theorem len_ref (a n q r P R : Nat) (ha : 1 ≤ a ∧ a ≤ 64) (hn : n ≤ 1099511627776) (hq : n / 4 = q) (hr : n % 4 = r) (hP : q * a = P) (hPb : P ≤ 70368744177664) (hR : r * a = R) (hRb : R ≤ 192) : Ev (fun k => chainmanref06_Length.f k (a : Int) (n : Int)) ((11 + (q * 5 + 4 * P) + (if r = 0 then 0 else 1 + R + 4) + 17 : Nat) : Int) := by
  have hroom : chainmanref05_Room.f (a : Int) = some (5 + 4 * (a : Int)) := by
    unfold chainmanref05_Room.f
    rw [if_neg (by omega), if_neg (by omega), wI (4 * (a : Int)) (by omega), wI (1 + 4 * (a : Int)) (by omega), wI (1 + 4 * (a : Int) + 4) (by omega)]
    refine congrArg some ?_
    omega
  have htm : Int.tmod (n : Int) 4 = (r : Int) := by rw [Int.tmod_eq_emod_of_nonneg (by omega)]; omega
  have htd : Int.tdiv (n : Int) 4 = (q : Int) := by rw [Int.tdiv_eq_ediv_of_nonneg (by omega)]; omega
  have htail : chainmanref06_tail.f (a : Int) (r : Int) = some ((if r = 0 then 0 else 1 + R + 4 : Nat) : Int) := by
    unfold chainmanref06_tail.f
    by_cases h0 : r = 0
    · rw [if_pos (by omega), if_pos h0]; rfl
    · rw [if_neg (by omega), if_neg h0, ← Int.natCast_mul, hR]
      clear hR
      rw [wI (R : Int) (by omega), wI (1 + (R : Int)) (by omega), wI (1 + (R : Int) + 4) (by omega)]
      refine congrArg some ?_
      omega
  refine Ev.congr (fun k => by unfold chainmanref06_Length.f; rw [if_neg (by omega), if_neg (by omega), if_neg (by omega), decide_eq_false (by omega)]) ?_
  refine Ev.step (f := fun _ => some _) (fun k => ?_) (Ev.now _)
  rw [chainmanref06_Length.j0, if_neg (by decide), hroom, Option.bind_some, htm, htail, Option.bind_some, htd]
  clear hroom htm htd htail hR
  have e0 : (q : Int) * (5 + 4 * (a : Int)) = ((q * 5 + 4 * P : Nat) : Int) := by
    rw [← hP, Int.mul_add, show (q : Int) * (4 * (a : Int)) = 4 * ((q : Int) * (a : Int)) by rw [← Int.mul_assoc, Int.mul_comm (q : Int) 4, Int.mul_assoc], ← Int.natCast_mul]
    omega
  have hqb : q ≤ 274877906944 := by omega
  rw [wI (q : Int) (by omega), e0]
  clear e0 hP hq hr
  generalize hT : (if r = 0 then 0 else 1 + R + 4 : Nat) = T
  have hTb : T ≤ 200 := by rw [← hT]; split <;> omega
  rw [wI ((q * 5 + 4 * P : Nat) : Int) (by omega), wI (11 + ((q * 5 + 4 * P : Nat) : Int)) (by omega), wI (11 + ((q * 5 + 4 * P : Nat) : Int) + (T : Int)) (by omega), wI (11 + ((q * 5 + 4 * P : Nat) : Int) + (T : Int) + 17) (by omega)]
  refine congrArg some ?_
  omega
theorem len_both (a0 n : Int) : ∃ v, recfile_Length.f a0 n = some v ∧ Ev (fun k => chainmanref06_Length.f k a0 n) v := by
  have no : ∀ b : Bool, b = true → Ev (fun k => chainmanref06_Length.j0 k a0 n b) 0 := fun b hb =>
    Ev.step (f := fun _ => some 0) (fun q => by rw [chainmanref06_Length.j0, if_pos hb]) (Ev.now _)
  by_cases h1 : a0 < 1
  · exact ⟨0, by unfold recfile_Length.f; rw [if_pos h1], Ev.congr (fun k => by unfold chainmanref06_Length.f; rw [if_pos h1]) (no true rfl)⟩
  by_cases h2 : a0 > 64
  · exact ⟨0, by unfold recfile_Length.f; rw [if_neg h1, if_pos h2], Ev.congr (fun k => by unfold chainmanref06_Length.f; rw [if_neg h1, if_pos h2]) (no true rfl)⟩
  by_cases h3 : n < 0
  · exact ⟨0, by unfold recfile_Length.f; rw [if_neg h1, if_neg h2, if_pos h3], Ev.congr (fun k => by unfold chainmanref06_Length.f; rw [if_neg h1, if_neg h2, if_pos h3]) (no true rfl)⟩
  by_cases h4 : n > 1099511627776
  · exact ⟨0, by unfold recfile_Length.f; rw [if_neg h1, if_neg h2, if_neg h3, if_pos h4], Ev.congr (fun k => by unfold chainmanref06_Length.f; rw [if_neg h1, if_neg h2, if_neg h3]) (no _ (decide_eq_true h4))⟩
  obtain ⟨a, rfl⟩ := Int.eq_ofNat_of_zero_le (show 0 ≤ a0 by omega)
  obtain ⟨m, rfl⟩ := Int.eq_ofNat_of_zero_le (show 0 ≤ n by omega)
  have ha : 1 ≤ a ∧ a ≤ 64 := by omega
  have hm : m ≤ 1099511627776 := by omega
  have hmq : m = 4 * (m / 4) + m % 4 := by omega
  have hp : m * a = 4 * (m / 4 * a) + m % 4 * a := by
    rw [← Nat.mul_assoc, ← Nat.add_mul, ← hmq]
  have hPb : m / 4 * a ≤ 17592186044416 := Nat.le_trans (Nat.mul_le_mul (show m / 4 ≤ 274877906944 by omega) ha.2) (by decide)
  have hRb : m % 4 * a ≤ 192 := Nat.le_trans (Nat.mul_le_mul (show m % 4 ≤ 3 by omega) ha.2) (by decide)
  have l1 := len_prog a m (m * a) ((m + 3) / 4) ha hm rfl (by omega) rfl
  have l2 := len_ref a m (m / 4) (m % 4) (m / 4 * a) (m % 4 * a) ha hm rfl rfl rfl (by omega) rfl hRb
  refine ⟨_, l1, ?_⟩
  have e : 11 + m * a + (m + 3) / 4 * 5 + 17 = 11 + (m / 4 * 5 + 4 * (m / 4 * a)) + (if m % 4 = 0 then 0 else 1 + m % 4 * a + 4) + 17 := by
    rw [hp]
    by_cases h0 : m % 4 = 0
    · rw [if_pos h0, h0, Nat.zero_mul]
      have : (m + 3) / 4 = m / 4 := by omega
      rw [this]
      generalize m / 4 * a = P
      omega
    · rw [if_neg h0]
      have : (m + 3) / 4 = m / 4 + 1 := by omega
      rw [this]
      generalize m / 4 * a = P
      generalize m % 4 * a = R
      omega
  rw [e]; exact l2
theorem RecfileTells : chainmanlaw06_RecfileTells.Pure := by
  intro a0 l s n w0 wl ws wn
  refine Ev.rounds ?_
  have no : ∀ c : Bool, c = true → Ev (fun k => chainmanlaw06_RecfileTells.j0 k a0 l s n c) true := fun c hc =>
    Ev.step (f := fun k => (chainmanlaw06_awake.f k).bind fun t => some t) (fun _ => by rw [chainmanlaw06_RecfileTells.j0, if_pos hc]) (Ev.bind awake_ev (Ev.now _))
  obtain ⟨c, hc, hc'⟩ := few_all l 30 (by decide)
  refine Ev.bind hc ?_
  cases c with
  | false => exact Ev.congr (fun k => if_neg (by decide)) (no true rfl)
  | true =>
  obtain ⟨hl, hs⟩ := hc' rfl
  refine Ev.congr (fun k => if_pos rfl) ?_
  by_cases h8 : (s.size : Int) > 800
  · exact no _ (decide_eq_true h8)
  rw [decide_eq_false h8]
  have hsz : s.size ≤ 800 := by omega
  obtain ⟨r, p1, p2, p3⟩ := parse_same a0 s (by omega)
  obtain ⟨g, g1⟩ : ∃ g, Ev (fun k => recfile_GetHead.f k s) g := by
    rcases gethead s (by omega) with ⟨m, _, _, _, h⟩ | ⟨_, h⟩
    · exact ⟨_, h⟩
    · exact ⟨_, h⟩
  have g2 := refgethead s (by omega) g g1
  obtain ⟨v, v1, v2⟩ := len_both a0 n
  have hph : recfile_PutHead.f a0 = some (putHF a0) := puthead a0
  have hsame := same_ev r.1 p3
  have hlay := reflay a0 l (by omega) hs
  have hsum := refsum l (by omega) (fun x hx => by have := hs x hx; omega)
  have hps := recsum l 0 (by omega) (fun x hx => by have := hs x hx; omega)
  have hrph := refputhead a0
  obtain ⟨K1, hlay⟩ := hlay
  obtain ⟨K2, p1⟩ := p1
  obtain ⟨K3, p2⟩ := p2
  obtain ⟨K4, hrph⟩ := hrph
  obtain ⟨K5, g1⟩ := g1
  obtain ⟨K6, g2⟩ := g2
  obtain ⟨K7, hsame⟩ := hsame
  obtain ⟨K8, v2⟩ := v2
  obtain ⟨K9, hsum⟩ := hsum
  obtain ⟨K0, aw⟩ := awake_ev
  dsimp only at hlay p1 p2 hrph g1 g2 hsame v2 hsum aw
  refine ⟨K0 + K1 + K2 + K3 + K4 + K5 + K6 + K7 + K8 + K9 + 1, fun k hk => ?_⟩
  obtain ⟨m, rfl⟩ : ∃ m, k = m + 1 := ⟨k - 1, by omega⟩
  show chainmanlaw06_RecfileTells.j0 (m + 1) a0 l s n false = some true
  rw [chainmanlaw06_RecfileTells.j0, if_neg (by decide), lay_ev a0 l hl hs, Option.bind_some, hlay m (by omega), Option.bind_some, p1 m (by omega), Option.bind_some, p2 m (by omega), Option.bind_some, hph, Option.bind_some, hrph m (by omega), Option.bind_some, g1 m (by omega), Option.bind_some, g2 m (by omega), Option.bind_some]
  rw [if_pos rfl, if_pos (by simp), hsame m (by omega), Option.bind_some, if_pos rfl, if_pos (by simp), if_pos rfl, if_pos rfl, if_pos (by simp), if_pos rfl, if_pos (by simp), v1, Option.bind_some, v2 m (by omega), Option.bind_some, if_pos rfl, hps, Option.bind_some, hsum m (by omega), Option.bind_some, if_pos (by simp), aw m (by omega), Option.bind_some]

end Go.Proofs.Ytahkkgnicgbncaa.Pure
