/- Whether a manifest may be, its bytes, the manifest of any bytes, and any file in it, are the document's; for up to 20 files of names of up to 40 bytes and up to 700 bytes (the law ManifestTells, over bytes and numbers alone). -/
import Derived.Test.YtmacpgkcokpgjaaPManifestTellsx15
import Derived.Lib.Strings
namespace Go.Proofs.Ytmacpgkcokpgjaa.Pure
open Go.RowKit Go.Proofs.Ytmacpgkcokpgjaa.PManifestTells Go.Proofs.YtmacpgkcokpgjaaW.PrintWords Go.Proofs.YtmacpgkcokpgjaaW.PrintLast
set_option linter.unusedVariables false
set_option linter.unusedSimpArgs false
/-! ### numbers of 32 bits as bit vectors -/
theorem u32_of (x : Int) (h : (Lit.int .u32 x).wf = true) : ∃ b : BitVec 32, x = (b.toNat : Int) := by
  have h' : 0 ≤ x ∧ x ≤ 4294967295 := by simpa [Lit.wf, IntKind.min, IntKind.max, IntKind.signed, IntKind.bits] using h
  refine ⟨BitVec.ofInt 32 x, ?_⟩
  rw [BitVec.toNat_ofInt]
  omega
theorem u32_self (c : BitVec 32) : BitVec.ofInt (IntKind.bits .u32) (c.toNat : Int) = c := by
  rw [BitVec.ofInt_natCast]; exact BitVec.ofNat_toNat ..
theorem u32_xor (a b : BitVec 32) : Go.bits .xor .u32 (a.toNat : Int) (b.toNat : Int) = ((a ^^^ b).toNat : Int) := by
  show IntKind.u32.wrap ((BitVec.ofInt (IntKind.bits .u32) (a.toNat : Int) ^^^ BitVec.ofInt (IntKind.bits .u32) (b.toNat : Int)).toNat : Int) = _
  rw [u32_self, u32_self, IntKind.wrap_u32]
  show (((a ^^^ b : BitVec 32).toNat : Int) % 4294967296) = _
  have := (a ^^^ b).isLt
  omega
theorem u32_div (a : BitVec 32) (k : Nat) (c : Int) (hc : c = ((2 ^ k : Nat) : Int)) : (a.toNat : Int) / c = ((a >>> k).toNat : Int) := by
  subst hc
  rw [BitVec.toNat_ushiftRight, Nat.shiftRight_eq_div_pow]
  omega
theorem u32_and_mask (x : Int) (h0 : 0 ≤ x) (m : Nat) (hm : m ≤ 32) : Go.bits .and .u32 x ((2 ^ m - 1 : Nat) : Int) = x % 4294967296 % ((2 ^ m : Nat) : Int) := by
  show IntKind.u32.wrap ((BitVec.ofInt 32 x &&& BitVec.ofInt 32 ((2 ^ m - 1 : Nat) : Int)).toNat : Int) = _
  have hp : 2 ^ m ≤ 2 ^ 32 := Nat.pow_le_pow_right (by decide) hm
  have h1 : 0 < 2 ^ m := Nat.two_pow_pos m
  rw [BitVec.toNat_and, BitVec.ofInt_natCast, BitVec.toNat_ofNat, Nat.mod_eq_of_lt (show 2 ^ m - 1 < 2 ^ 32 by omega), Nat.and_two_pow_sub_one_eq_mod, BitVec.toNat_ofInt, IntKind.wrap_u32]
  have h2 : ((x % ((2 ^ 32 : Nat) : Int)).toNat : Int) = x % 4294967296 := by omega
  have h3 := Nat.mod_lt (x % ((2 ^ 32 : Nat) : Int)).toNat h1
  rw [Int.emod_eq_of_lt (by omega) (by omega), Int.natCast_emod, h2]

namespace Cr
/-! ### the sum, as a function of bit vectors and bytes -/
def stepB (n : BitVec 32) : BitVec 32 := if n.getLsbD 0 then (n >>> 1) ^^^ 0xedb88320#32 else n >>> 1
def byteB (n : BitVec 32) (c : UInt8) : BitVec 32 := stepB (stepB (stepB (stepB (stepB (stepB (stepB (stepB (n ^^^ BitVec.ofNat 32 c.toNat))))))))
def feedB (n : BitVec 32) (l : List UInt8) : BitVec 32 := l.foldl byteB n
def moreB (n : BitVec 32) (l : List UInt8) : BitVec 32 := ~~~ feedB (~~~ n) l
theorem stepB_xor (a b : BitVec 32) : stepB (a ^^^ b) = stepB a ^^^ stepB b := by
  unfold stepB
  rw [BitVec.getLsbD_xor]
  apply BitVec.eq_of_getLsbD_eq
  intro i hi
  cases ha : a.getLsbD 0 <;> cases hb : b.getLsbD 0 <;> simp [BitVec.ushiftRight_xor_distrib] <;>
    cases a.getLsbD (1 + i) <;> cases b.getLsbD (1 + i) <;> cases (0xedb88320#32).getLsbD i <;> rfl
theorem stepB_zero : stepB 0#32 = 0#32 := by decide
theorem stepB_even (n : BitVec 32) (h : n.getLsbD 0 = false) : stepB n = n >>> 1 := by unfold stepB; rw [h]; rfl
/-- four steps of a number whose four low bits are 0 -/
theorem step4_high (n : BitVec 32) (h : ∀ i, i < 4 → n.getLsbD i = false) : stepB (stepB (stepB (stepB n))) = n >>> 4 := by
  have e (m : Nat) (hm : m < 4) : stepB (n >>> m) = n >>> (m + 1) := by
    rw [stepB_even _ (by rw [BitVec.getLsbD_ushiftRight]; exact h m hm), ← BitVec.shiftRight_add]
  have e0 : stepB n = n >>> 1 := stepB_even n (h 0 (by decide))
  rw [e0, e 1 (by decide), e 2 (by decide), e 3 (by decide)]
/-- what four steps make of a half byte -/
def nibT (i : Nat) : BitVec 32 := #[0x00000000#32, 0x1db71064#32, 0x3b6e20c8#32, 0x26d930ac#32, 0x76dc4190#32, 0x6b6b51f4#32, 0x4db26158#32, 0x5005713c#32, 0xedb88320#32, 0xf00f9344#32, 0xd6d6a3e8#32, 0xcb61b38c#32, 0x9b64c2b0#32, 0x86d3d2d4#32, 0xa00ae278#32, 0xbdbdf21c#32].getD i 0#32
theorem step4_low : ∀ i : Fin 16, stepB (stepB (stepB (stepB (BitVec.ofNat 32 i.val)))) = nibT i.val := by decide
theorem step4 (n : BitVec 32) : stepB (stepB (stepB (stepB n))) = (n >>> 4) ^^^ nibT (n.toNat % 16) := by
  have hs : n = (n &&& ~~~ 15#32) ^^^ (n &&& 15#32) := by
    apply BitVec.eq_of_getLsbD_eq
    intro i hi
    simp only [BitVec.getLsbD_xor, BitVec.getLsbD_and, BitVec.getLsbD_not]
    cases n.getLsbD i <;> cases (15#32).getLsbD i <;> simp [hi]
  have hl : n &&& 15#32 = BitVec.ofNat 32 (n.toNat % 16) := by
    apply BitVec.eq_of_toNat_eq
    rw [BitVec.toNat_and, BitVec.toNat_ofNat, BitVec.toNat_ofNat, show (15 % 2 ^ 32) = 2 ^ 4 - 1 from by decide, Nat.and_two_pow_sub_one_eq_mod]
    omega
  have hh : ∀ i, i < 4 → (n &&& ~~~ 15#32).getLsbD i = false := by
    intro i hi
    rw [BitVec.getLsbD_and, BitVec.getLsbD_not]
    have : (15#32).getLsbD i = true := by
      have h4 : i = 0 ∨ i = 1 ∨ i = 2 ∨ i = 3 := by omega
      rcases h4 with rfl | rfl | rfl | rfl <;> decide
    rw [this]; simp
  have hg : (n &&& ~~~ 15#32) >>> 4 = n >>> 4 := by
    apply BitVec.eq_of_getLsbD_eq
    intro i hi
    simp only [BitVec.getLsbD_ushiftRight, BitVec.getLsbD_and, BitVec.getLsbD_not]
    have : (15#32).getLsbD (4 + i) = false := by
      have e : (15#32) = BitVec.ofNat 32 15 := rfl
      rw [e, BitVec.getLsbD_ofNat]
      have : Nat.testBit 15 (4 + i) = false := Nat.testBit_lt_two_pow (Nat.lt_of_lt_of_le (by decide : 15 < 2 ^ 4) (Nat.pow_le_pow_right (by decide) (by omega)))
      rw [this]; simp
    rw [this]
    by_cases h : 4 + i < 32
    · simp [h]
    · rw [BitVec.getLsbD_of_ge _ _ (by omega)]; simp
  conv => lhs; rw [hs]
  simp only [stepB_xor]
  rw [step4_high _ hh, hg, hl]
  congr 1
  exact step4_low ⟨n.toNat % 16, Nat.mod_lt _ (by decide)⟩

/-! ### the program's sum is the function of bit vectors -/
theorem nib_tab : ∀ i : Fin 16, crc_nibble.tab.getD i.val 0 = ((nibT i.val).toNat : Int) := by decide
theorem half_bv (n : BitVec 32) : crc_More.half (n.toNat : Int) = ((stepB (stepB (stepB (stepB n)))).toNat : Int) := by
  unfold crc_More.half
  have h16 : ((n.toNat : Int) % 16).toNat = n.toNat % 16 := by omega
  rw [h16, nib_tab ⟨n.toNat % 16, Nat.mod_lt _ (by decide)⟩, u32_div n 4 16 rfl, u32_xor, step4]
theorem byte_bv (n : BitVec 32) (c : UInt8) : crc_More.byte (n.toNat : Int) (c.toNat : Int) = ((byteB n c).toNat : Int) := by
  have hc : (c.toNat : Int) = ((BitVec.ofNat 32 c.toNat).toNat : Int) := by
    have := c.toNat_lt
    rw [BitVec.toNat_ofNat]; omega
  unfold crc_More.byte byteB
  rw [hc, u32_xor, half_bv, half_bv]
theorem feed_bv (l : List UInt8) : ∀ n : BitVec 32, crc_More.feed (n.toNat : Int) l = ((feedB n l).toNat : Int) := by
  induction l with
  | nil => intro n; rfl
  | cons c l ih =>
    intro n
    show crc_More.feed (crc_More.byte (n.toNat : Int) (c.toNat : Int)) l = _
    rw [byte_bv, ih]; rfl
theorem not_bv (n : BitVec 32) : Go.bits .xor .u32 4294967295 (n.toNat : Int) = ((~~~ n).toNat : Int) := by
  rw [show (4294967295 : Int) = ((BitVec.allOnes 32).toNat : Int) from by decide, u32_xor, BitVec.allOnes_xor]
theorem not_bv' (n : BitVec 32) : Go.bits .xor .u32 (n.toNat : Int) 4294967295 = ((~~~ n).toNat : Int) := by
  rw [show (4294967295 : Int) = ((BitVec.allOnes 32).toNat : Int) from by decide, u32_xor, BitVec.xor_allOnes]
theorem more_bv (n : BitVec 32) (s : ByteArray) (hs : s.size ≤ 9223372036854775807) : crc_More.f (n.toNat : Int) s = some ((moreB n s.data.toList).toNat : Int) := by
  unfold crc_More.f moreB
  rw [if_pos hs, not_bv, feed_bv, not_bv]
theorem of_bv (s : ByteArray) (hs : s.size ≤ 9223372036854775807) : crc_Of.f s = some ((moreB 0#32 s.data.toList).toNat : Int) := by
  unfold crc_Of.f
  rw [show (0 : Int) = ((0#32).toNat : Int) from rfl, more_bv _ s hs, Option.bind_some]
def tailB (n : BitVec 32) : List UInt8 := [UInt8.ofNat (n.toNat % 256), UInt8.ofNat (n.toNat / 256 % 256), UInt8.ofNat (n.toNat / 65536 % 256), UInt8.ofNat (n.toNat / 16777216 % 256)]
def closeB (l : List UInt8) : List UInt8 := l ++ tailB (moreB 0#32 l)
theorem ba_ext {s t : ByteArray} (h : s.data.toList = t.data.toList) : s = t := by
  cases s; cases t
  simp only [ByteArray.mk.injEq]
  exact Array.toList_inj.1 h
theorem ba_append (s t : ByteArray) : (s ++ t).data.toList = s.data.toList ++ t.data.toList := by
  rw [ByteArray.data_append, Array.toList_append]
theorem ba_size (s : ByteArray) : s.size = s.data.toList.length := by simp
theorem tail_nums (n : BitVec 32) : (strOfNums (crc_Close.tail (n.toNat : Int))).data.toList = tailB n := by
  rw [strOfNums_data]
  unfold crc_Close.tail tailB
  simp only [List.map_cons, List.map_nil]
  rw [show ((n.toNat : Int) % 256).toNat = n.toNat % 256 from by omega, show ((n.toNat : Int) / 256 % 256).toNat = n.toNat / 256 % 256 from by omega, show ((n.toNat : Int) / 65536 % 256).toNat = n.toNat / 65536 % 256 from by omega, show ((n.toNat : Int) / 16777216 % 256).toNat = n.toNat / 16777216 % 256 from by omega]
theorem close_bv (s : ByteArray) (hs : s.size ≤ 1000000000) : ∃ c, crc_Close.f s = some c ∧ c.data.toList = closeB s.data.toList := by
  refine ⟨s ++ strOfNums (crc_Close.tail ((moreB 0#32 s.data.toList).toNat : Int)), ?_, ?_⟩
  · unfold crc_Close.f
    rw [of_bv s (by omega), Option.bind_some, if_pos (Int.natCast_nonneg _), if_pos (by omega)]
  · rw [ba_append, tail_nums]; rfl
theorem closeB_len (l : List UInt8) : (closeB l).length = l.length + 4 := by simp [closeB, tailB]
theorem extract_take (s : ByteArray) (m : Nat) : (s.extract 0 m).data.toList = s.data.toList.take m := by
  rw [Lib.extract_data]; simp
/-- what is opened -/
def openB (l : List UInt8) : Option (List UInt8) := if l.length < 4 then none else if closeB (l.take (l.length - 4)) = l then some (l.take (l.length - 4)) else none
theorem open_bv (s : ByteArray) (hs : s.size ≤ 1000000000) : crc_Open.f s = some (match openB s.data.toList with | some t => (⟨t.toArray⟩, true) | none => (⟨#[]⟩, false)) := by
  have hl := ba_size s
  unfold crc_Open.f openB
  by_cases h4 : s.size < 4
  · rw [if_pos (show wrap64 ((s.size : Int) - 4) < 0 by unfold wrap64; omega), if_pos (by omega)]
  · have hw : wrap64 ((s.size : Int) - 4) = ((s.size - 4 : Nat) : Int) := by unfold wrap64; omega
    rw [hw, if_neg (by omega), if_pos (by omega), if_pos (by omega), Int.toNat_natCast, if_neg (by omega)]
    obtain ⟨c, h1, h2⟩ := close_bv (s.extract 0 (s.size - 4)) (by rw [ByteArray.size_extract]; omega)
    rw [h1, Option.bind_some, ByteArray.toList_eq, ByteArray.toList_eq, h2, extract_take, hl]
    by_cases e : closeB (s.data.toList.take (s.data.toList.length - 4)) = s.data.toList
    · rw [if_pos e, if_pos e]
      congr 2
      exact ba_ext (by rw [extract_take])
    · rw [if_neg e, if_neg e]

/-! ### turned bits: the sum as a function of the stream of bits -/
def bitB (b : Bool) : BitVec 32 := if b then 1#32 else 0#32
/-- the register behind p bits of a stream -/
def stB (n : BitVec 32) (f : Nat → Bool) : Nat → BitVec 32
  | 0 => n
  | p + 1 => stepB (stB n f p ^^^ bitB (f p))
def bitsOf (l : List UInt8) (p : Nat) : Bool := (l.getD (p / 8) 0).toNat.testBit (p % 8)
def iterB : Nat → BitVec 32 → BitVec 32
  | 0, n => n
  | d + 1, n => stepB (iterB d n)
theorem iterB_xor (d : Nat) (a b : BitVec 32) : iterB d (a ^^^ b) = iterB d a ^^^ iterB d b := by
  induction d with
  | zero => rfl
  | succ d ih => show stepB _ = _; rw [ih, stepB_xor]; rfl
theorem iterB_shift (d : Nat) (n : BitVec 32) (h : ∀ i, i < d → n.getLsbD i = false) : iterB d n = n >>> d := by
  induction d with
  | zero => simp [iterB]
  | succ d ih =>
    show stepB (iterB d n) = _
    rw [ih (fun i hi => h i (by omega)), stepB_even _ (by rw [BitVec.getLsbD_ushiftRight]; exact h d (by omega)), ← BitVec.shiftRight_add]
theorem bitB_bit (b : Bool) (j : Nat) : (bitB b).getLsbD j = (decide (j = 0) && b) := by
  unfold bitB
  cases b
  · simp
  · by_cases hj : j = 0
    · subst hj; decide
    · simp [hj]
theorem bit_shift (b : Bool) (d : Nat) (hd : d < 32) : iterB d (bitB b <<< d) = bitB b := by
  rw [iterB_shift d _ (fun i hi => by rw [BitVec.getLsbD_shiftLeft]; simp [hi])]
  apply BitVec.eq_of_getLsbD_eq
  intro i hi
  rw [BitVec.getLsbD_ushiftRight, BitVec.getLsbD_shiftLeft]
  by_cases h : d + i < 32
  · simp [h]
  · have h0 : ¬ i = 0 := by omega
    rw [bitB_bit, bitB_bit]
    simp [h, h0]
/-- d bits that are fed one by one, as one number (d at most 32) -/
def numB (f : Nat → Bool) : Nat → BitVec 32
  | 0 => 0#32
  | d + 1 => numB f d ^^^ (bitB (f d) <<< d)
theorem stB_num (n : BitVec 32) (f : Nat → Bool) (d : Nat) (hd : d ≤ 32) : stB n f d = iterB d (n ^^^ numB f d) := by
  induction d with
  | zero => simp [stB, iterB, numB]
  | succ d ih =>
    show stepB (stB n f d ^^^ bitB (f d)) = stepB (iterB d (n ^^^ (numB f d ^^^ (bitB (f d) <<< d))))
    rw [ih (by omega), ← BitVec.xor_assoc, iterB_xor d _ (bitB (f d) <<< d), bit_shift _ d (by omega)]
theorem numB_bit (f : Nat → Bool) (d : Nat) (hd : d ≤ 32) (i : Nat) : (numB f d).getLsbD i = (decide (i < d) && f i) := by
  induction d with
  | zero => simp [numB]
  | succ d ih =>
    show (numB f d ^^^ (bitB (f d) <<< d)).getLsbD i = _
    rw [BitVec.getLsbD_xor, ih (by omega), BitVec.getLsbD_shiftLeft]
    rw [bitB_bit]
    by_cases h1 : i < d
    · have h2 : i < d + 1 := by omega
      simp [h1, h2]
    · by_cases h3 : i = d
      · subst h3
        have : i < 32 := by omega
        simp [this]
      · have h4 : ¬ i < d + 1 := by omega
        have h5 : ¬ i - d = 0 := by omega
        simp [h1, h4, h5]
theorem stB_add (n : BitVec 32) (f : Nat → Bool) (p : Nat) : ∀ q, stB n f (p + q) = stB (stB n f p) (fun i => f (p + i)) q := by
  intro q
  induction q with
  | zero => rfl
  | succ q ih => show stepB (stB n f (p + q) ^^^ _) = stepB _; rw [ih]; rfl
theorem stB_congr (n : BitVec 32) (f g : Nat → Bool) : ∀ p, (∀ i, i < p → f i = g i) → stB n f p = stB n g p := by
  intro p
  induction p with
  | zero => intro _; rfl
  | succ p ih => intro h; show stepB _ = stepB _; rw [ih (fun i hi => h i (by omega)), h p (by omega)]
/-- a byte is its eight bits -/
theorem byte_bits (n : BitVec 32) (c : UInt8) : byteB n c = stB n (fun i => c.toNat.testBit i) 8 := by
  rw [stB_num _ _ 8 (by decide)]
  have hc := c.toNat_lt
  have : numB (fun i => c.toNat.testBit i) 8 = BitVec.ofNat 32 c.toNat := by
    apply BitVec.eq_of_getLsbD_eq
    intro i hi
    rw [numB_bit _ _ (by decide), BitVec.getLsbD_ofNat]
    by_cases h : i < 8
    · simp [h, hi]
    · have : c.toNat.testBit i = false := Nat.testBit_lt_two_pow (Nat.lt_of_lt_of_le hc (by rw [show (2 ^ 8 : Nat) = 2 ^ 8 from rfl]; exact Nat.pow_le_pow_right (by decide) (by omega)))
      simp [h, this]
  rw [this]; rfl
theorem feed_bits (l : List UInt8) : ∀ n, feedB n l = stB n (bitsOf l) (8 * l.length) := by
  induction l with
  | nil => intro n; rfl
  | cons c l ih =>
    intro n
    show feedB (byteB n c) l = _
    rw [ih, byte_bits, show 8 * (c :: l).length = 8 + 8 * l.length from by simp; omega, stB_add]
    have h1 : stB n (bitsOf (c :: l)) 8 = stB n (fun i => c.toNat.testBit i) 8 := stB_congr _ _ _ _ (fun i hi => by
      unfold bitsOf
      rw [Nat.div_eq_of_lt hi, Nat.mod_eq_of_lt hi]; rfl)
    rw [h1]
    refine stB_congr _ _ _ _ (fun i _ => ?_)
    unfold bitsOf
    rw [show (8 + i) / 8 = i / 8 + 1 from by omega, show (8 + i) % 8 = i % 8 from by omega]; rfl
/-- a step can be told again: what is 0 behind it was 0 -/
theorem stepB_inj (n : BitVec 32) (h : stepB n = 0#32) : n = 0#32 := by
  unfold stepB at h
  by_cases h0 : n.getLsbD 0 = true
  · rw [if_pos h0] at h
    have := congrArg (fun z : BitVec 32 => z.getLsbD 31) h
    simp only [BitVec.getLsbD_xor, BitVec.getLsbD_ushiftRight] at this
    rw [BitVec.getLsbD_of_ge n (1 + 31) (by omega)] at this
    rw [show (0xedb88320#32).getLsbD 31 = true from by decide, show (0#32).getLsbD 31 = false from by decide] at this
    cases this
  · rw [if_neg h0] at h
    apply BitVec.eq_of_getLsbD_eq
    intro i hi
    by_cases hi0 : i = 0
    · subst hi0; simp at h0; simp [h0]
    · have := congrArg (fun z : BitVec 32 => z.getLsbD (i - 1)) h
      simp only [BitVec.getLsbD_ushiftRight] at this
      rw [show 1 + (i - 1) = i from by omega] at this
      simpa using this
theorem iterB_inj (d : Nat) (n : BitVec 32) (h : iterB d n = 0#32) : n = 0#32 := by
  induction d with
  | zero => exact h
  | succ d ih => exact ih (stepB_inj _ h)
theorem iterB_zero (d : Nat) : iterB d 0#32 = 0#32 := by
  induction d with
  | zero => rfl
  | succ d ih => show stepB _ = _; rw [ih]; rfl
/-- two streams from one register: their difference goes by itself -/
theorem stB_diff (n : BitVec 32) (f g : Nat → Bool) : ∀ p, stB n f p ^^^ stB n g p = stB 0#32 (fun i => f i != g i) p := by
  intro p
  induction p with
  | zero => exact BitVec.xor_self
  | succ p ih =>
    show stepB _ ^^^ stepB _ = stepB _
    rw [← stepB_xor, ← ih]
    congr 1
    have hb : bitB (f p != g p) = bitB (f p) ^^^ bitB (g p) := by cases f p <;> cases g p <;> decide
    rw [hb]
    apply BitVec.eq_of_getLsbD_eq
    intro i _
    simp only [BitVec.getLsbD_xor]
    cases (stB n f p).getLsbD i <;> cases (stB n g p).getLsbD i <;> cases (bitB (f p)).getLsbD i <;> cases (bitB (g p)).getLsbD i <;> rfl
theorem stB_quiet (n : BitVec 32) (f : Nat → Bool) (d : Nat) (h : ∀ i, i < d → f i = false) : stB n f d = iterB d n := by
  induction d with
  | zero => rfl
  | succ d ih =>
    show stepB _ = stepB _
    rw [ih (fun i hi => h i (by omega)), h d (by omega)]
    simp [bitB]
/-- A BURST: what is turned lies within 32 bits from 'first' on; where something is, the registers part -/
theorem burst (e : Nat → Bool) (first total : Nat) (h : ∀ i, e i = true → first ≤ i ∧ i < first + 32) (hz : stB 0#32 e total = 0#32) : ∀ i, i < total → e i = false := by
  intro i hi
  by_cases hfi : first ≤ i
  · have hmt : ∃ m, m ≤ 32 ∧ first + m ≤ total ∧ (first + m = total ∨ m = 32) := by
      by_cases h32 : first + 32 ≤ total
      · exact ⟨32, by omega, h32, .inr rfl⟩
      · exact ⟨total - first, by omega, by omega, .inl (by omega)⟩
    obtain ⟨m, hm, hle, hor⟩ := hmt
    have h0 : stB 0#32 e first = 0#32 := by
      rw [stB_quiet _ _ _ (fun j hj => by
        cases he : e j with
        | false => rfl
        | true => have := (h j he).1; omega)]
      exact iterB_zero _
    have h1 : stB 0#32 e (first + m) = iterB m (numB (fun j => e (first + j)) m) := by
      rw [stB_add, h0, stB_num _ _ m hm]
      congr 1
      exact BitVec.zero_xor
    have h2 : stB 0#32 e total = iterB (total - (first + m)) (iterB m (numB (fun j => e (first + j)) m)) := by
      rw [← h1]
      conv => lhs; rw [show total = (first + m) + (total - (first + m)) from by omega]
      rw [stB_add]
      refine stB_quiet _ _ _ (fun j hj => ?_)
      cases he : e (first + m + j) with
      | false => rfl
      | true =>
        have := (h _ he).2
        rcases hor with hor | hor <;> omega
    rw [h2] at hz
    have h3 := iterB_inj _ _ (iterB_inj _ _ hz)
    by_cases hlt : i < first + m
    · have := congrArg (fun z : BitVec 32 => z.getLsbD (i - first)) h3
      simp only [numB_bit _ m hm] at this
      rw [show first + (i - first) = i from by omega] at this
      have hd : decide (i - first < m) = true := decide_eq_true (by omega)
      rw [hd] at this
      simpa using this
    · cases he : e i with
      | false => rfl
      | true =>
        have := (h _ he).2
        rcases hor with hor | hor <;> omega
  · cases he : e i with
    | false => rfl
    | true => have := (h i he).1; omega

/-! ### which bytes are closed ones -/
theorem tail_num (n : BitVec 32) : numB (bitsOf (tailB n)) 32 = n := by
  have hn := n.isLt
  apply BitVec.eq_of_getLsbD_eq
  intro i hi
  rw [numB_bit _ _ (by decide)]
  have hd : decide (i < 32) = true := decide_eq_true hi
  rw [hd, Bool.true_and]
  unfold bitsOf tailB BitVec.getLsbD
  have hb : ∀ x : Nat, (UInt8.ofNat (x % 256)).toNat = x % 256 := fun x => by rw [UInt8.toNat_ofNat']; omega
  have ht : ∀ (x j : Nat), j < 8 → (x % 256).testBit j = x.testBit j := fun x j hj => by
    rw [show (256 : Nat) = 2 ^ 8 from rfl, Nat.testBit_mod_two_pow]; simp [hj]
  have hs : ∀ (x s j : Nat), (x / 2 ^ s).testBit j = x.testBit (s + j) := fun x s j => by
    rw [← Nat.shiftRight_eq_div_pow, Nat.testBit_shiftRight]
  have h4 : i / 8 = 0 ∨ i / 8 = 1 ∨ i / 8 = 2 ∨ i / 8 = 3 := by omega
  rcases h4 with e | e | e | e <;> rw [e]
  · show (UInt8.ofNat (n.toNat % 256)).toNat.testBit (i % 8) = _
    rw [hb, ht _ _ (by omega), show i % 8 = i from by omega]
  · show (UInt8.ofNat (n.toNat / 256 % 256)).toNat.testBit (i % 8) = _
    rw [hb, ht _ _ (by omega), show (256 : Nat) = 2 ^ 8 from rfl, hs, show 8 + i % 8 = i from by omega]
  · show (UInt8.ofNat (n.toNat / 65536 % 256)).toNat.testBit (i % 8) = _
    rw [hb, ht _ _ (by omega), show (65536 : Nat) = 2 ^ 16 from rfl, hs, show 16 + i % 8 = i from by omega]
  · show (UInt8.ofNat (n.toNat / 16777216 % 256)).toNat.testBit (i % 8) = _
    rw [hb, ht _ _ (by omega), show (16777216 : Nat) = 2 ^ 24 from rfl, hs, show 24 + i % 8 = i from by omega]
theorem bits_inj (l m : List UInt8) (hl : l.length = m.length) (h : ∀ i, i < 8 * l.length → bitsOf l i = bitsOf m i) : l = m := by
  apply List.ext_getElem hl
  intro k h1 h2
  apply UInt8.toNat_inj.1
  apply Nat.eq_of_testBit_eq
  intro j
  by_cases hj : j < 8
  · have := h (8 * k + j) (by omega)
    unfold bitsOf at this
    rw [show (8 * k + j) / 8 = k from by omega, show (8 * k + j) % 8 = j from by omega, List.getD_eq_getElem?_getD, List.getD_eq_getElem?_getD, List.getElem?_eq_getElem h1, List.getElem?_eq_getElem h2] at this
    exact this
  · have e : ∀ c : UInt8, c.toNat.testBit j = false := fun c => Nat.testBit_lt_two_pow (Nat.lt_of_lt_of_le c.toNat_lt (Nat.pow_le_pow_right (by decide) (by omega)))
    rw [e, e]
theorem valid_iff (l : List UInt8) (h4 : 4 ≤ l.length) : closeB (l.take (l.length - 4)) = l ↔ feedB (BitVec.allOnes 32) l = iterB 32 (BitVec.allOnes 32) := by
  have hp : l = l.take (l.length - 4) ++ l.drop (l.length - 4) := (List.take_append_drop _ _).symm
  have htl : (l.drop (l.length - 4)).length = 4 := by rw [List.length_drop]; omega
  generalize l.take (l.length - 4) = p at hp ⊢
  generalize l.drop (l.length - 4) = t at hp htl
  have hf : feedB (BitVec.allOnes 32) l = iterB 32 (feedB (BitVec.allOnes 32) p ^^^ numB (bitsOf t) 32) := by
    rw [hp]
    show (p ++ t).foldl byteB _ = _
    rw [List.foldl_append]
    show feedB (feedB _ p) t = _
    rw [feed_bits t, htl, stB_num _ _ 32 (by decide)]
  have hm : moreB 0#32 p = ~~~ feedB (BitVec.allOnes 32) p := by
    unfold moreB
    rw [show ~~~ (0#32) = BitVec.allOnes 32 from by decide]
  rw [hf]
  generalize feedB (BitVec.allOnes 32) p = r at hm
  have hc : closeB p = l ↔ tailB (~~~ r) = t := by
    unfold closeB
    rw [hm]
    constructor
    · intro h; rw [hp] at h; exact List.append_cancel_left h
    · intro h; rw [h, ← hp]
  rw [hc]
  constructor
  · intro h
    rw [← h, tail_num]
    congr 1
    apply BitVec.eq_of_getLsbD_eq
    intro i hi
    rw [BitVec.getLsbD_xor, BitVec.getLsbD_not, BitVec.getLsbD_allOnes]
    cases r.getLsbD i <;> simp [hi]
  · intro h
    have h0 : iterB 32 ((r ^^^ numB (bitsOf t) 32) ^^^ BitVec.allOnes 32) = 0#32 := by rw [iterB_xor, h, BitVec.xor_self]
    have h1 := iterB_inj _ _ h0
    have h2 : numB (bitsOf t) 32 = ~~~ r := by
      apply BitVec.eq_of_getLsbD_eq
      intro i hi
      have := congrArg (fun z : BitVec 32 => z.getLsbD i) h1
      simp only [BitVec.getLsbD_xor, BitVec.getLsbD_allOnes, BitVec.getLsbD_zero] at this
      have hd : decide (i < 32) = true := decide_eq_true hi
      rw [hd] at this
      rw [BitVec.getLsbD_not, hd, Bool.true_and]
      revert this
      cases r.getLsbD i <;> cases (numB (bitsOf t) 32).getLsbD i <;> simp
    refine bits_inj _ _ (by rw [htl]; rfl) (fun i hi => ?_)
    have hi' : i < 32 := by simpa [tailB] using hi
    have e1 := congrArg (fun z : BitVec 32 => z.getLsbD i) (tail_num (~~~ r))
    have e2 := congrArg (fun z : BitVec 32 => z.getLsbD i) h2
    simp only [numB_bit _ 32 (Nat.le_refl _)] at e1 e2
    have hd : decide (i < 32) = true := decide_eq_true hi'
    rw [hd, Bool.true_and] at e1 e2
    rw [e1, e2]
theorem closeB_valid (l : List UInt8) : feedB (BitVec.allOnes 32) (closeB l) = iterB 32 (BitVec.allOnes 32) := by
  have hl := closeB_len l
  refine (valid_iff (closeB l) (by omega)).1 ?_
  have : (closeB l).take ((closeB l).length - 4) = l := by
    rw [hl, Nat.add_sub_cancel]
    unfold closeB
    exact List.take_left' rfl
  rw [this]
theorem openB_close (l : List UInt8) : openB (closeB l) = some l := by
  have hl := closeB_len l
  unfold openB
  have : (closeB l).take ((closeB l).length - 4) = l := by
    rw [hl, Nat.add_sub_cancel]
    unfold closeB
    exact List.take_left' rfl
  rw [if_neg (by omega), this, if_pos rfl]
/-- WHAT IS TURNED WITHIN 32 BITS IS NOT OPENED -/
theorem openB_turned (l x : List UInt8) (first : Nat) (hx : x.length = (closeB l).length) (h : ∀ i, bitsOf x i ≠ bitsOf (closeB l) i → first ≤ i ∧ i < first + 32) (hne : ∃ i, i < 8 * x.length ∧ bitsOf x i ≠ bitsOf (closeB l) i) : openB x = none := by
  have hl := closeB_len l
  unfold openB
  rw [if_neg (by omega), if_neg ?_]
  rw [valid_iff x (by omega)]
  intro hv
  have hd : stB 0#32 (fun i => bitsOf x i != bitsOf (closeB l) i) (8 * x.length) = 0#32 := by
    have hc := closeB_valid l
    rw [feed_bits] at hv hc
    rw [← stB_diff (BitVec.allOnes 32), hv, hx, hc, BitVec.xor_self]
  obtain ⟨i, hi, hn⟩ := hne
  have := burst _ first _ (fun j hj => h j (by simpa using hj)) hd i hi
  simp at this
  exact hn this
/-! ### the turning -/
def bitI (l : List Int) (p : Nat) : Bool := (l.getD (p / 8) 0).toNat.testBit (p % 8)
theorem u8_xor (a b : Nat) (ha : a < 256) (hb : b < 256) : Go.bits .xor .u8 (a : Int) (b : Int) = ((a ^^^ b : Nat) : Int) := by
  show IntKind.u8.wrap ((BitVec.ofInt 8 (a : Int) ^^^ BitVec.ofInt 8 (b : Int)).toNat : Int) = _
  rw [BitVec.ofInt_natCast, BitVec.ofInt_natCast, BitVec.toNat_xor, BitVec.toNat_ofNat, BitVec.toNat_ofNat, Nat.mod_eq_of_lt (by omega), Nat.mod_eq_of_lt (by omega), IntKind.wrap_u8]
  have := Nat.xor_lt_two_pow (n := 8) (x := a) (y := b) (by omega) (by omega)
  omega
theorem bit_and (b k : Nat) (hb : b < 4294967296) : (Go.bits .and .u32 ((b : Int) / 2 ^ k) 1 = 1) ↔ b.testBit k = true := by
  have h := u32_and_mask ((b : Int) / 2 ^ k) (Int.ediv_nonneg (Int.natCast_nonneg _) (Int.le_of_lt (Int.pow_pos (by decide)))) 1 (by decide)
  rw [show ((2 ^ 1 - 1 : Nat) : Int) = 1 from by decide, show ((2 ^ 1 : Nat) : Int) = 2 from by decide] at h
  have e : ((b : Int) / 2 ^ k) = ((b / 2 ^ k : Nat) : Int) := by rw [Int.natCast_ediv, Int.natCast_pow]; rfl
  have hle : b / 2 ^ k ≤ b := Nat.div_le_self _ _
  rw [h, e, Nat.testBit_eq_decide_div_mod_eq, decide_eq_true_iff]
  omega
theorem bits_str (l : List Int) (p : Nat) (hr : ∀ x ∈ l, 0 ≤ x ∧ x < 256) : bitsOf (strOfNums l).data.toList p = bitI l p := by
  rw [strOfNums_data]
  unfold bitsOf bitI
  congr 1
  rw [List.getD_eq_getElem?_getD, List.getD_eq_getElem?_getD, List.getElem?_map]
  cases h : l[p / 8]? with
  | none => rfl
  | some x =>
    have hx := hr x (List.mem_of_getElem? h)
    show (UInt8.ofNat x.toNat).toNat = x.toNat
    rw [UInt8.toNat_ofNat']; omega
theorem bits_bytes (s : ByteArray) (p : Nat) : bitI (bytesOf s) p = bitsOf s.data.toList p := by
  unfold bitsOf bitI bytesOf
  congr 1
  rw [List.getD_eq_getElem?_getD, List.getD_eq_getElem?_getD, List.getElem?_map]
  cases h : s.data.toList[p / 8]? with
  | none => rfl
  | some x => show ((x.toNat : Int)).toNat = x.toNat; rw [Int.toNat_natCast]
theorem bytes_range (s : ByteArray) : ∀ x ∈ bytesOf s, 0 ≤ x ∧ x < 256 := by
  intro x hx
  obtain ⟨c, _, rfl⟩ := List.mem_map.1 hx
  have := c.toNat_lt
  omega

/-! ### the document's sum is the function of bit vectors -/
theorem stepI_bv (n : BitVec 32) : (if Int.tmod (n.toNat : Int) 2 = 1 then Go.bits .xor .u32 (Int.tdiv (n.toNat : Int) 2 % 4294967296) 3988292384 else Int.tdiv (n.toNat : Int) 2 % 4294967296) = ((stepB n).toNat : Int) := by
  have hn := n.isLt
  have hd : Int.tdiv (n.toNat : Int) 2 % (4294967296 : Int) = ((n >>> 1).toNat : Int) := by
    rw [Int.tdiv_eq_ediv_of_nonneg (Int.natCast_nonneg _), ← u32_div n 1 2 rfl]; omega
  have hm : (Int.tmod (n.toNat : Int) 2 = 1) ↔ n.getLsbD 0 = true := by
    rw [Int.tmod_eq_emod_of_nonneg (Int.natCast_nonneg _), BitVec.getLsbD, Nat.testBit_zero, decide_eq_true_iff]
    omega
  unfold stepB
  rw [hd]
  by_cases h : n.getLsbD 0 = true
  · rw [if_pos (hm.2 h), if_pos h, show (3988292384 : Int) = ((0xedb88320#32).toNat : Int) from by decide, u32_xor]
  · rw [if_neg (fun e => h (hm.1 e)), if_neg h]
def stepsB : Nat → BitVec 32 → BitVec 32
  | 0, n => n
  | d + 1, n => stepsB d (stepB n)
theorem l1_run (s : ByteArray) (i : Int) : ∀ (d k : Nat) (n : BitVec 32), d ≤ 8 → chainmanref03_More.l1 (k + d + 1) s (n.toNat : Int) i (8 - (d : Int)) = chainmanref03_More.l0 k s ((stepsB d n).toNat : Int) (wrap64 (i + 1)) := by
  intro d
  induction d with
  | zero =>
    intro k n _
    show chainmanref03_More.l1 (k + 1) s _ i _ = _
    rw [chainmanref03_More.l1]
    rw [if_neg (by omega)]; rfl
  | succ d ih =>
    intro k n hd
    show chainmanref03_More.l1 ((k + d + 1) + 1) s _ i _ = _
    rw [chainmanref03_More.l1]
    have hw : wrap64 (8 - ((d + 1 : Nat) : Int) + 1) = 8 - (d : Int) := by unfold wrap64; omega
    rw [if_pos (by omega), hw]
    have h := stepI_bv n
    by_cases ht : Int.tmod (n.toNat : Int) 2 = 1
    · rw [if_pos ht] at h
      rw [if_pos ht, h, ih k (stepB n) (by omega)]; rfl
    · rw [if_neg ht] at h
      rw [if_neg ht, h, ih k (stepB n) (by omega)]; rfl
theorem bt_nat (s : ByteArray) (i : Nat) (h : i < s.data.toList.length) : bt s (i : Int) = ((s.data.toList[i]).toNat : Int) := by
  have h' : i < s.size := by rw [ba_size]; exact h
  unfold bt
  rw [dif_pos (by simpa using h')]
  rfl
theorem l0_run (s : ByteArray) (hs : s.size ≤ 1000000000) : ∀ (r k i : Nat) (n : BitVec 32), i + r = s.size → 10 * r + 1 ≤ k → chainmanref03_More.l0 k s (n.toNat : Int) (i : Int) = some ((~~~ feedB n (s.data.toList.drop i)).toNat : Int) := by
  have hz := ba_size s
  intro r
  induction r with
  | zero =>
    intro k i n hi hk
    obtain ⟨k, rfl⟩ : ∃ m, k = m + 1 := ⟨k - 1, by omega⟩
    rw [chainmanref03_More.l0]
    rw [if_neg (by omega), not_bv', List.drop_of_length_le (by omega)]; rfl
  | succ r ih =>
    intro k i n hi hk
    obtain ⟨k, rfl⟩ : ∃ m, k = (m + 8 + 1) + 1 := ⟨k - 10, by omega⟩
    have hlt : i < s.data.toList.length := by omega
    rw [chainmanref03_More.l0]
    have hc : bt s (i : Int) % 4294967296 = ((BitVec.ofNat 32 (s.data.toList[i]).toNat).toNat : Int) := by
      have := (s.data.toList[i]).toNat_lt
      rw [bt_nat s i hlt, BitVec.toNat_ofNat]; omega
    rw [if_pos (by omega), if_pos (by omega), hc, u32_xor]
    have h8 := l1_run s (i : Int) 8 k (n ^^^ BitVec.ofNat 32 (s.data.toList[i]).toNat) (by omega)
    rw [show ((8 : Int) - ((8 : Nat) : Int)) = 0 from by omega] at h8
    rw [h8, show wrap64 ((i : Int) + 1) = ((i + 1 : Nat) : Int) from by unfold wrap64; omega, ih k (i + 1) _ (by omega) (by omega)]
    rw [List.drop_eq_getElem_cons hlt]
    rfl
theorem refmore_bv (n : BitVec 32) (s : ByteArray) (hs : s.size ≤ 1000000000) (k : Nat) (hk : 10 * s.size + 1 ≤ k) : chainmanref03_More.f k (n.toNat : Int) s = some ((moreB n s.data.toList).toNat : Int) := by
  unfold chainmanref03_More.f
  rw [not_bv', show (0 : Int) = ((0 : Nat) : Int) from rfl, l0_run s hs s.size k 0 _ (by omega) hk]; rfl
theorem refof_bv (s : ByteArray) (hs : s.size ≤ 1000000000) (k : Nat) (hk : 10 * s.size + 1 ≤ k) : chainmanref03_Of.f k s = some ((moreB 0#32 s.data.toList).toNat : Int) := by
  unfold chainmanref03_Of.f
  rw [show (0 : Int) = ((0#32).toNat : Int) from rfl, refmore_bv _ s hs k hk, Option.bind_some]
theorem and255 (x : Int) (h0 : 0 ≤ x) (h1 : x < 4294967296) : Go.bits .and .u32 x 255 % 256 = x % 256 := by
  have h := u32_and_mask x h0 8 (by decide)
  rw [show ((2 ^ 8 - 1 : Nat) : Int) = 255 from by decide, show ((2 ^ 8 : Nat) : Int) = 256 from by decide] at h
  rw [h]; omega
theorem refclose_bv (s : ByteArray) (hs : s.size ≤ 100000000) (k : Nat) (hk : 10 * s.size + 1 ≤ k) : ∃ c, chainmanref03_Close.f k s = some c ∧ c.data.toList = closeB s.data.toList := by
  have hb := (moreB 0#32 s.data.toList).isLt
  refine ⟨s ++ strOfNums (crc_Close.tail ((moreB 0#32 s.data.toList).toNat : Int)), ?_, ?_⟩
  · unfold chainmanref03_Close.f
    rw [refof_bv s (by omega) k hk, Option.bind_some, Option.bind_some]
    have ht : [(Go.bits .and .u32 ((moreB 0#32 s.data.toList).toNat : Int) 255) % 256, (Go.bits .and .u32 (((moreB 0#32 s.data.toList).toNat : Int) / 256) 255) % 256, (Go.bits .and .u32 (((moreB 0#32 s.data.toList).toNat : Int) / 65536) 255) % 256, (((moreB 0#32 s.data.toList).toNat : Int) / 16777216) % 256] = crc_Close.tail ((moreB 0#32 s.data.toList).toNat : Int) := by
      unfold crc_Close.tail
      rw [and255 _ (by omega) (by omega), and255 _ (by omega) (by omega), and255 _ (by omega) (by omega)]
    rw [ht, if_pos ?_]
    rw [strOfNums_size]
    show s.size + 4 ≤ _
    omega
  · rw [ba_append, tail_nums]; rfl

end Cr

namespace Oc
/-! ### numbers as bytes -/
def beN (n k : Nat) : List Int := (List.range k).reverse.map fun i => ((n / 256 ^ i % 256 : Nat) : Int)
theorem beN_len (n k : Nat) : (beN n k).length = k := by simp [beN]
theorem beN_succ (n k : Nat) : beN n (k + 1) = ((n / 256 ^ k % 256 : Nat) : Int) :: beN n k := by
  unfold beN
  rw [List.range_succ, List.reverse_append]; rfl
theorem beN_range (n k : Nat) : ∀ x ∈ beN n k, 0 ≤ x ∧ x < 256 := by
  intro x hx
  obtain ⟨i, _, rfl⟩ := List.mem_map.1 hx
  have := Nat.mod_lt (n / 256 ^ i) (show 256 > 0 by decide)
  omega
def putB (n k : Int) : ByteArray × Bool := if n < 0 ∨ k < 1 ∨ 8 < k then (⟨#[]⟩, false) else if n.toNat < 256 ^ k.toNat then (strOfNums (beN n.toNat k.toNat), true) else (⟨#[]⟩, false)
theorem octs_be (n : Nat) : octet_Put.octs (n : Int) = beN n 8 := by
  have e7 : (n : Int) / 72057594037927936 % 256 = ((n / 256 ^ 7 % 256 : Nat) : Int) := by rw [show 256 ^ 7 = 72057594037927936 from rfl]; omega
  have e6 : (n : Int) / 281474976710656 % 256 = ((n / 256 ^ 6 % 256 : Nat) : Int) := by rw [show 256 ^ 6 = 281474976710656 from rfl]; omega
  have e5 : (n : Int) / 1099511627776 % 256 = ((n / 256 ^ 5 % 256 : Nat) : Int) := by rw [show 256 ^ 5 = 1099511627776 from rfl]; omega
  have e4 : (n : Int) / 4294967296 % 256 = ((n / 256 ^ 4 % 256 : Nat) : Int) := by rw [show 256 ^ 4 = 4294967296 from rfl]; omega
  have e3 : (n : Int) / 16777216 % 256 = ((n / 256 ^ 3 % 256 : Nat) : Int) := by rw [show 256 ^ 3 = 16777216 from rfl]; omega
  have e2 : (n : Int) / 65536 % 256 = ((n / 256 ^ 2 % 256 : Nat) : Int) := by rw [show 256 ^ 2 = 65536 from rfl]; omega
  have e1 : (n : Int) / 256 % 256 = ((n / 256 ^ 1 % 256 : Nat) : Int) := by rw [show 256 ^ 1 = 256 from rfl]; omega
  have e0 : (n : Int) % 256 = ((n / 256 ^ 0 % 256 : Nat) : Int) := by rw [show 256 ^ 0 = 1 from rfl]; omega
  unfold octet_Put.octs
  rw [e7, e6, e5, e4, e3, e2, e1, e0]
  rfl
theorem beN_take (m k : Nat) : ∀ j, m < 256 ^ (k + j) → ((((beN m (k + j)).take j).all (· == 0) = true) ↔ m < 256 ^ k) := by
  intro j
  induction j with
  | zero => intro h; simpa using h
  | succ j ih =>
    intro h
    have hp : 256 ^ (k + (j + 1)) = 256 ^ (k + j) * 256 := Nat.pow_succ ..
    have hx : m / 256 ^ (k + j) < 256 := Nat.div_lt_of_lt_mul (by omega)
    rw [show k + (j + 1) = (k + j) + 1 from rfl, beN_succ, List.take_succ_cons, List.all_cons, Bool.and_eq_true]
    have hz : ((((m / 256 ^ (k + j) % 256 : Nat) : Int) == 0) = true) ↔ m < 256 ^ (k + j) := by
      rw [beq_iff_eq, Nat.mod_eq_of_lt hx]
      constructor
      · intro e
        rcases Nat.lt_or_ge m (256 ^ (k + j)) with h' | h'
        · exact h'
        · have := Nat.div_pos h' (Nat.pow_pos (by decide)); omega
      · intro h'; rw [Nat.div_eq_of_lt h']; rfl
    rw [hz]
    constructor
    · rintro ⟨h1, h2⟩; exact (ih h1).1 h2
    · intro h1
      have : 256 ^ k ≤ 256 ^ (k + j) := Nat.pow_le_pow_right (by decide) (by omega)
      exact ⟨by omega, (ih (by omega)).2 h1⟩
theorem beN_drop (m k : Nat) : ∀ j, (beN m (k + j)).drop j = beN m k := by
  intro j
  induction j with
  | zero => rfl
  | succ j ih => rw [show k + (j + 1) = (k + j) + 1 from rfl, beN_succ, List.drop_succ_cons, ih]
theorem put_bv (n k : Int) (hn : n < 9223372036854775808) : octet_Put.f n k = some (putB n k) := by
  unfold octet_Put.f putB
  by_cases hb : n < 0 ∨ k < 1 ∨ 8 < k
  · rw [if_pos hb, if_pos hb]
  · rw [if_neg hb, if_neg hb]
    obtain ⟨m, rfl⟩ : ∃ m : Nat, n = (m : Int) := ⟨n.toNat, by omega⟩
    obtain ⟨q, rfl⟩ : ∃ q : Nat, k = (q : Int) := ⟨k.toNat, by omega⟩
    have hq8 : q ≤ 8 := by omega
    have hm : m < 256 ^ 8 := by have : 256 ^ 8 = 18446744073709551616 := by decide
                                omega
    have e8 : q + (8 - q) = 8 := by omega
    have h1 := beN_take m q (8 - q) (by rw [e8]; exact hm)
    have h2 := beN_drop m q (8 - q)
    rw [e8] at h1 h2
    rw [octs_be, Int.toNat_natCast, Int.toNat_natCast, show ((8 : Int) - (q : Int)).toNat = 8 - q from by omega, h2]
    by_cases hlt : m < 256 ^ q
    · rw [if_pos (h1.2 hlt), if_pos hlt]
    · rw [if_neg (fun h => hlt (h1.1 h)), if_neg hlt]
def numN (l : List UInt8) : Nat := l.foldl (fun n c => n * 256 + c.toNat) 0
theorem numN_snoc (l : List UInt8) (c : UInt8) : numN (l ++ [c]) = numN l * 256 + c.toNat := by
  unfold numN
  rw [List.foldl_append]; rfl
theorem snoc_ind (P : List UInt8 → Prop) (h0 : P []) (h1 : ∀ m c, P m → P (m ++ [c])) (l : List UInt8) : P l := by
  have : ∀ n (l : List UInt8), l.length = n → P l := by
    intro n
    induction n with
    | zero => intro l hl; rw [List.length_eq_zero_iff.1 hl]; exact h0
    | succ n ih =>
      intro l hl
      rcases List.eq_nil_or_concat l with rfl | ⟨m, c, rfl⟩
      · exact h0
      · rw [List.concat_eq_append] at hl ⊢
        exact h1 m c (ih m (by simpa using hl))
  exact this _ l rfl
theorem numN_lt (l : List UInt8) : numN l < 256 ^ l.length := by
  refine snoc_ind (fun l => numN l < 256 ^ l.length) (by decide) (fun m c ih => ?_) l
  rw [numN_snoc, List.length_append]
  have := c.toNat_lt
  have : 256 ^ (m.length + [c].length) = 256 ^ m.length * 256 := Nat.pow_succ ..
  omega
theorem join_bv (x : Nat) (c : UInt8) (hx : x * 256 < 18446744073709551616) : octet_Get.join (x : Int) (c.toNat : Int) = ((x * 256 + c.toNat : Nat) : Int) := by
  have hc := c.toNat_lt
  have hw : IntKind.u64.wrap ((x : Int) * 256) = ((x * 256 : Nat) : Int) := by
    simp only [IntKind.wrap, IntKind.bits, IntKind.signed, Bool.false_and]
    simp
    omega
  unfold octet_Get.join
  rw [hw]
  show IntKind.u64.wrap ((BitVec.ofInt 64 ((x * 256 : Nat) : Int) ||| BitVec.ofInt 64 (c.toNat : Int)).toNat : Int) = _
  rw [BitVec.ofInt_natCast, BitVec.ofInt_natCast, BitVec.toNat_or, BitVec.toNat_ofNat, BitVec.toNat_ofNat, Nat.mod_eq_of_lt (by omega), Nat.mod_eq_of_lt (by omega)]
  have ho : x * 256 ||| c.toNat = x * 256 + c.toNat := by
    have := Nat.shiftLeft_add_eq_or_of_lt (b := c.toNat) (i := 8) hc x
    rw [Nat.shiftLeft_eq] at this
    exact this.symm
  rw [ho]
  simp only [IntKind.wrap, IntKind.bits, IntKind.signed, Bool.false_and]
  simp
  omega
theorem num_bv (l : List UInt8) (hl : l.length ≤ 8) : octet_Get.num (l.map fun b => (b.toNat : Int)) = (numN l : Int) := by
  refine snoc_ind (fun l => l.length ≤ 8 → octet_Get.num (l.map fun b => (b.toNat : Int)) = (numN l : Int)) (fun _ => rfl) (fun m c ih hl => ?_) l hl
  rw [List.length_append] at hl
  have hm : m.length ≤ 7 := by simp at hl; omega
  have hlt := numN_lt m
  have hp : 256 ^ m.length ≤ 256 ^ 7 := Nat.pow_le_pow_right (by decide) hm
  rw [List.map_append, List.map_singleton, octet_Get.num_snoc, ih (by omega), join_bv _ _ (by omega), numN_snoc]
theorem ba_ext {s t : ByteArray} (h : s.data.toList = t.data.toList) : s = t := by
  cases s; cases t
  simp only [ByteArray.mk.injEq]
  exact Array.toList_inj.1 h
theorem ba_append (s t : ByteArray) : (s ++ t).data.toList = s.data.toList ++ t.data.toList := by
  rw [ByteArray.data_append, Array.toList_append]
theorem ba_size (s : ByteArray) : s.size = s.data.toList.length := by simp
def getB (s : ByteArray) (p k : Int) : Int × Bool :=
  if k < 1 ∨ 8 < k ∨ p < 0 ∨ (s.size : Int) - k < p then (0, false)
  else if numN ((s.data.toList.drop p.toNat).take k.toNat) < 9223372036854775808 then ((numN ((s.data.toList.drop p.toNat).take k.toNat) : Int), true) else (0, false)
theorem get_bv (s : ByteArray) (p k : Int) (hs : s.size ≤ 1000000000) (hp : (Lit.int .i64 p).wf = true) : octet_Get.f s p k = some (getB s p k) := by
  have hp' : -9223372036854775808 ≤ p ∧ p ≤ 9223372036854775807 := by simpa [Lit.wf, IntKind.min, IntKind.max, IntKind.signed, IntKind.bits] using hp
  unfold octet_Get.f getB
  rw [if_pos ⟨hs, hp'.1, hp'.2⟩]
  by_cases hb : k < 1 ∨ 8 < k ∨ p < 0 ∨ (s.size : Int) - k < p
  · rw [if_pos hb, if_pos hb]
  · rw [if_neg hb, if_neg hb]
    have he : bytesOf (s.extract p.toNat (p + k).toNat) = ((s.data.toList.drop p.toNat).take k.toNat).map fun b => (b.toNat : Int) := by
      unfold bytesOf
      rw [Lib.extract_data, show (p + k).toNat - p.toNat = k.toNat from by omega]
    rw [he, num_bv _ (by rw [List.length_take]; omega)]
    by_cases hlt : numN ((s.data.toList.drop p.toNat).take k.toNat) < 9223372036854775808
    · rw [if_pos hlt, if_pos (by omega)]
    · rw [if_neg hlt, if_neg (by omega)]

/-! ### the document's bytes -/
theorem wrap_succ (i : Nat) (h : i < 1000000000) : wrap64 ((i : Int) + 1) = ((i + 1 : Nat) : Int) := by unfold wrap64; omega
theorem stepq (q : Nat) (hq : q < 9223372036854775808) : Int.tmod (q : Int) 256 % 256 = ((q % 256 : Nat) : Int) ∧ wrap64 (Int.tdiv (q : Int) 256) = ((q / 256 : Nat) : Int) := by
  rw [Int.tmod_eq_emod_of_nonneg (Int.natCast_nonneg _), Int.tdiv_eq_ediv_of_nonneg (Int.natCast_nonneg _)]
  unfold wrap64
  omega
theorem beN_fits (x : Int) (n i : Nat) (h : i < 9) : (strOfNums [x]).size + (strOfNums (beN n i)).size ≤ 9223372036854775807 := by
  have h1 : (strOfNums [x]).size = 1 := strOfNums_size _
  have h2 : (strOfNums (beN n i)).size = i := (strOfNums_size _).trans (beN_len _ _)
  omega
theorem refl0 (n k : Nat) (hn : n < 9223372036854775808) : ∀ (r f i : Nat), i + r = k → r < f → k ≤ 8 →
    chainmanref02_Put.l0 f ((n / 256 ^ i : Nat) : Int) (k : Int) (strOfNums (beN n i)) (i : Int) = some (if n < 256 ^ k then (strOfNums (beN n k), true) else (⟨#[]⟩, false)) := by
  intro r
  induction r with
  | zero =>
    intro f i hi hf hk
    obtain ⟨f, rfl⟩ : ∃ m, f = m + 1 := ⟨f - 1, by omega⟩
    obtain rfl : i = k := by omega
    rw [chainmanref02_Put.l0, if_neg (by omega)]
    have hz : (0 < n / 256 ^ i) ↔ ¬ n < 256 ^ i := by
      have h := Nat.div_eq_zero_iff (a := n) (b := 256 ^ i)
      have hp : 256 ^ i ≠ 0 := Nat.ne_of_gt (Nat.pow_pos (by decide))
      constructor
      · intro h1 h2; have := Nat.div_eq_of_lt h2; omega
      · intro h1; exact Nat.div_pos (by omega) (Nat.pow_pos (by decide))
    by_cases h : n < 256 ^ i
    · rw [if_neg (by omega), if_pos h]
    · rw [if_pos (by omega), if_neg h]
  | succ r ih =>
    intro f i hi hf hk
    obtain ⟨f, rfl⟩ : ∃ m, f = m + 1 := ⟨f - 1, by omega⟩
    rw [chainmanref02_Put.l0, if_pos (by omega), Option.bind_some]
    have hsz : (strOfNums [((n / 256 ^ i % 256 : Nat) : Int)]).size + (strOfNums (beN n i)).size ≤ 9223372036854775807 := by
      exact beN_fits _ n i (by omega)
    have a1 : i + 1 + r = k := by omega
    have a2 : r < f := by omega
    have a3 : i < 1000000000 := by omega
    have hq : n / 256 ^ i ≤ n := Nat.div_le_self _ _
    obtain ⟨e1, e2⟩ := stepq (n / 256 ^ i) (Nat.lt_of_le_of_lt hq hn)
    rw [Nat.div_div_eq_div_mul, ← Nat.pow_succ] at e2
    have e3 : wrap64 ((i : Int) + 1) = ((i + 1 : Nat) : Int) := wrap_succ i a3
    have e4 : strOfNums [((n / 256 ^ i % 256 : Nat) : Int)] ++ strOfNums (beN n i) = strOfNums (beN n (i + 1)) := by
      apply ba_ext
      rw [ba_append, strOfNums_data, strOfNums_data, strOfNums_data, beN_succ]; rfl
    rw [e1, if_pos hsz, e2, e4, e3]
    exact ih f (i + 1) a1 a2 hk
theorem refput_bv (n k : Int) (f : Nat) (hf : 20 ≤ f) (hn : n < 9223372036854775808) : chainmanref02_Put.f f n k = some (putB n k) := by
  obtain ⟨f, rfl⟩ : ∃ m, f = m + 1 := ⟨f - 1, by omega⟩
  unfold chainmanref02_Put.f putB
  by_cases h1 : k < 1
  · rw [if_pos h1, if_pos (.inr (.inl h1)), chainmanref02_Put.j0, if_pos rfl]
  · rw [if_neg h1]
    by_cases h2 : k > 8
    · rw [if_pos h2, if_pos (.inr (.inr h2)), chainmanref02_Put.j0, if_pos rfl]
    · rw [if_neg h2]
      by_cases h3 : n < 0
      · rw [if_pos (.inl h3), chainmanref02_Put.j0, if_pos (decide_eq_true h3)]
      · rw [if_neg (by omega), chainmanref02_Put.j0, if_neg (by simpa using h3)]
        obtain ⟨m, rfl⟩ : ∃ m : Nat, n = (m : Int) := ⟨n.toNat, by omega⟩
        obtain ⟨j, rfl⟩ : ∃ j : Nat, k = (j : Int) := ⟨k.toNat, by omega⟩
        have h := refl0 m j (by omega) j f 0 (by omega) (by omega) (by omega)
        rw [Nat.pow_zero, Nat.div_one] at h
        rw [Int.toNat_natCast, Int.toNat_natCast]
        exact h
theorem bt_nat (s : ByteArray) (i : Nat) (h : i < s.data.toList.length) : bt s (i : Int) = ((s.data.toList[i]).toNat : Int) := by
  have h' : i < s.size := by rw [ba_size]; exact h
  unfold bt
  rw [dif_pos (by simpa using h')]
  rfl
theorem numN_grow (l : List UInt8) (j k : Nat) (h : j < k) (hk : k ≤ l.length) : numN (l.take j) * 256 ≤ numN (l.take k) := by
  induction k with
  | zero => omega
  | succ k ih =>
    rw [List.take_succ_eq_append_getElem (show k < l.length by omega), numN_snoc]
    by_cases hjk : j = k
    · subst hjk; omega
    · have := ih (by omega) (by omega); omega
theorem wrap_in (x : Int) (h0 : 0 ≤ x) (h1 : x < 9223372036854775808) : wrap64 x = x := by unfold wrap64; omega
theorem wrap_addn (p i : Nat) (h : p + i < 1000000) : wrap64 ((p : Int) + (i : Int)) = ((p + i : Nat) : Int) := by unfold wrap64; omega
theorem wrap_step (x c : Nat) (hx : x < 36028797018963968) (hc : c < 256) : wrap64 (wrap64 ((x : Int) * 256) + wrap64 (c : Int)) = ((x * 256 + c : Nat) : Int) := by
  rw [wrap_in ((x : Int) * 256) (by omega) (by omega), wrap_in (c : Int) (by omega) (by omega), wrap_in _ (by omega) (by omega)]
  omega
theorem refg0 (s : ByteArray) (hs : s.size ≤ 1000000) (p k : Nat) (hpk : p + k ≤ s.size) (hk8 : k ≤ 8) : ∀ (r f i : Nat), i + r = k → r < f → numN ((s.data.toList.drop p).take i) < 9223372036854775808 →
    chainmanref02_Get.l0 f s (p : Int) (k : Int) (numN ((s.data.toList.drop p).take i) : Int) (i : Int) = some (if numN ((s.data.toList.drop p).take k) < 9223372036854775808 then ((numN ((s.data.toList.drop p).take k) : Int), true) else (0, false)) := by
  have hz := ba_size s
  intro r
  induction r with
  | zero =>
    intro f i hi hf hlt
    obtain ⟨f, rfl⟩ : ∃ m, f = m + 1 := ⟨f - 1, by omega⟩
    obtain rfl : i = k := by omega
    rw [chainmanref02_Get.l0, if_neg (by omega), if_pos hlt]
  | succ r ih =>
    intro f i hi hf hlt
    obtain ⟨f, rfl⟩ : ∃ m, f = m + 1 := ⟨f - 1, by clear ih; omega⟩
    have hln : (s.data.toList.drop p).length = s.size - p := by rw [List.length_drop, hz]
    rw [chainmanref02_Get.l0, if_pos (by clear ih; omega)]
    by_cases hbig : numN ((s.data.toList.drop p).take i) ≥ 36028797018963968
    · have := numN_grow (s.data.toList.drop p) i k (by clear ih; omega) (by clear ih; omega)
      rw [if_pos (by clear ih; omega), if_neg (by clear ih; omega)]
    · have hpi : p + i < 1000000 := by clear ih; omega
      have hlt2 : p + i < s.data.toList.length := by clear ih; omega
      have g1 : ¬ ((numN ((s.data.toList.drop p).take i) : Int) ≥ 36028797018963968) := by clear ih; omega
      have g2 : (0 : Int) ≤ ((p + i : Nat) : Int) := Int.natCast_nonneg _
      have g3 : ((p + i : Nat) : Int) < (s.size : Int) := by clear ih; omega
      have g4 : i < (s.data.toList.drop p).length := by clear ih; omega
      have g5 : i + 1 + r = k := by clear ih; omega
      have g6 : r < f := by clear ih; omega
      have g7 : i < 1000000000 := by clear ih; omega
      have hc := (s.data.toList[p + i]).toNat_lt
      have hsn : (s.data.toList.drop p).take (i + 1) = (s.data.toList.drop p).take i ++ [s.data.toList[p + i]] := by
        rw [List.take_succ_eq_append_getElem g4, List.getElem_drop]
      have hN : numN ((s.data.toList.drop p).take (i + 1)) = numN ((s.data.toList.drop p).take i) * 256 + (s.data.toList[p + i]).toNat := by rw [hsn, numN_snoc]
      have g8 : numN ((s.data.toList.drop p).take (i + 1)) < 9223372036854775808 := by clear ih; omega
      rw [if_neg g1, wrap_addn p i hpi, if_pos g2, if_pos g3, bt_nat s (p + i) hlt2, wrap_step _ _ (Nat.lt_of_not_ge hbig) hc, ← hN, wrap_succ i g7]
      exact ih f (i + 1) g5 g6 g8
theorem refget_bv (s : ByteArray) (p k : Int) (hs : s.size ≤ 1000000) (hp : (Lit.int .i64 p).wf = true) (f : Nat) (hf : 20 ≤ f) : chainmanref02_Get.f f s p k = some (getB s p k) := by
  have hp' : -9223372036854775808 ≤ p ∧ p ≤ 9223372036854775807 := by simpa [Lit.wf, IntKind.min, IntKind.max, IntKind.signed, IntKind.bits] using hp
  obtain ⟨f, rfl⟩ : ∃ m, f = m + 1 := ⟨f - 1, by omega⟩
  unfold chainmanref02_Get.f getB
  by_cases h1 : k < 1
  · rw [if_pos h1, if_pos (.inl h1), chainmanref02_Get.j0, if_pos rfl]
  · rw [if_neg h1]
    by_cases h2 : k > 8
    · rw [if_pos h2, if_pos (.inr (.inl h2)), chainmanref02_Get.j0, if_pos rfl]
    · rw [if_neg h2]
      by_cases h3 : p < 0
      · rw [if_pos h3, if_pos (.inr (.inr (.inl h3))), chainmanref02_Get.j0, if_pos rfl]
      · rw [if_neg h3]
        by_cases h4 : p > (s.size : Int)
        · rw [if_pos h4, if_pos (.inr (.inr (.inr (by omega)))), chainmanref02_Get.j0, if_pos rfl]
        · rw [if_neg h4]
          have hw : wrap64 ((s.size : Int) - p) = (s.size : Int) - p := by unfold wrap64; omega
          rw [hw]
          by_cases h5 : k > (s.size : Int) - p
          · rw [if_pos (.inr (.inr (.inr (by omega)))), chainmanref02_Get.j0, if_pos (decide_eq_true h5)]
          · rw [if_neg (by omega), chainmanref02_Get.j0, if_neg (by simpa using h5)]
            obtain ⟨q, rfl⟩ : ∃ q : Nat, p = (q : Int) := ⟨p.toNat, by omega⟩
            obtain ⟨j, rfl⟩ : ∃ j : Nat, k = (j : Int) := ⟨k.toNat, by omega⟩
            rw [Int.toNat_natCast, Int.toNat_natCast]
            exact refg0 s hs q j (by omega) (by omega) j f 0 (by omega) (by omega) (show (0 : Nat) < 9223372036854775808 by decide)

/-! ### bytes in pieces: the program's and the document's -/
theorem w64 (n : Int) (h : -9223372036854775808 ≤ n ∧ n ≤ 9223372036854775807) : wrap64 n = n := by unfold wrap64; omega
theorem ex_data (s : ByteArray) (a b : Nat) : (s.extract a b).data.toList = (s.data.toList.take b).drop a := by
  rw [ByteArray.data_extract, Array.toList_extract]
  rw [List.extract_eq_drop_take', ]
theorem ex_size (s : ByteArray) (a b : Nat) (hb : b ≤ s.size) : (s.extract a b).size = b - a := by
  rw [ba_size, ex_data, List.length_drop, List.length_take, ← ba_size]; omega
theorem ex_front (s : ByteArray) (a k : Nat) (h : a + k ≤ s.size) : (s.extract a s.size).extract 0 k = s.extract a (a + k) := by
  apply ba_ext
  rw [ex_data, ex_data, ex_data, List.drop_zero, ba_size, List.take_length, List.take_drop]
theorem ex_back (s : ByteArray) (a k : Nat) : (s.extract a s.size).extract k (s.extract a s.size).size = s.extract (a + k) s.size := by
  apply ba_ext
  rw [ex_data, ba_size, ← ba_size, List.take_of_length_le (by rw [ba_size]; exact Nat.le_refl _), ex_data, ex_data, List.drop_drop]

end Oc

/-! ### numbers' bytes, and texts one behind the other -/
def catL (l : List ByteArray) : List UInt8 := (l.map (·.data.toList)).flatten
theorem catL_cons (x : ByteArray) (l : List ByteArray) : catL (x :: l) = x.data.toList ++ catL l := by simp [catL]
theorem catL_le (l : List ByteArray) (m : Nat) (h : ∀ x ∈ l, x.size ≤ m) : (catL l).length ≤ l.length * m := by
  induction l with
  | nil => simp [catL]
  | cons x l ih =>
    have h1 := h x (by simp)
    have h2 := ih (fun y hy => h y (by simp [hy]))
    rw [catL_cons, List.length_append, List.length_cons, Nat.add_mul, ← Cr.ba_size]; omega
theorem catL_len (l : List ByteArray) (m : Nat) (h : ∀ x ∈ l, x.size = m) : (catL l).length = l.length * m := by
  induction l with
  | nil => simp [catL]
  | cons x l ih =>
    have h1 := h x (by simp)
    have h2 := ih (fun y hy => h y (by simp [hy]))
    rw [catL_cons, List.length_append, List.length_cons, Nat.add_mul, ← Cr.ba_size]; omega
theorem wsucc (i : Nat) (h : i < 1000000) : wrap64 ((i : Int) + 1) = ((i + 1 : Nat) : Int) := by unfold wrap64; omega
theorem numN_inj (l : List UInt8) : ∀ m : List UInt8, l.length = m.length → Oc.numN l = Oc.numN m → l = m := by
  refine Oc.snoc_ind (fun l => ∀ m : List UInt8, l.length = m.length → Oc.numN l = Oc.numN m → l = m) ?_ ?_ l
  · intro m h _; exact (List.eq_nil_of_length_eq_zero h.symm).symm
  · intro l c ih m hl hn
    rcases List.eq_nil_or_concat m with rfl | ⟨m', d, rfl⟩
    · simp at hl
    · rw [List.concat_eq_append] at hl hn ⊢
      rw [Oc.numN_snoc, Oc.numN_snoc] at hn
      have hc := c.toNat_lt; have hd := d.toNat_lt
      have e1 := ih m' (by simpa using hl) (by omega)
      have e2 : c = d := UInt8.toNat.inj (by omega)
      rw [e1, e2]
def beU (n k : Nat) : List UInt8 := (Oc.beN n k).map fun x => UInt8.ofNat x.toNat
theorem beU_data (n k : Nat) : (strOfNums (Oc.beN n k)).data.toList = beU n k := strOfNums_data _
theorem beU_len (n k : Nat) : (beU n k).length = k := by unfold beU; rw [List.length_map, Oc.beN_len]
theorem beU_succ (n k : Nat) : beU n (k + 1) = UInt8.ofNat (n / 256 ^ k % 256) :: beU n k := by
  unfold beU; rw [Oc.beN_succ, List.map_cons, Int.toNat_natCast]
/-- what comes back: the number's last k bytes -/
theorem numN_from (l : List UInt8) : ∀ a : Nat, l.foldl (fun n c => n * 256 + c.toNat) a = a * 256 ^ l.length + Oc.numN l := by
  induction l with
  | nil => intro a; simp [Oc.numN]
  | cons c l ih =>
    intro a
    have h1 : (c :: l).foldl (fun n c => n * 256 + c.toNat) a = l.foldl (fun n c => n * 256 + c.toNat) (a * 256 + c.toNat) := rfl
    have h2 : Oc.numN (c :: l) = l.foldl (fun n c => n * 256 + c.toNat) (0 * 256 + c.toNat) := rfl
    rw [h1, ih, h2, ih, List.length_cons, Nat.pow_succ, Nat.add_mul, Nat.zero_mul, Nat.zero_add, Nat.mul_assoc, Nat.mul_comm 256, Nat.add_assoc]
theorem numN_cons (c : UInt8) (l : List UInt8) : Oc.numN (c :: l) = c.toNat * 256 ^ l.length + Oc.numN l := by
  have h := numN_from l (0 * 256 + c.toNat)
  rw [Nat.zero_mul, Nat.zero_add] at h
  have h2 : Oc.numN (c :: l) = l.foldl (fun n c => n * 256 + c.toNat) (0 * 256 + c.toNat) := rfl
  rw [h2, Nat.zero_mul, Nat.zero_add]
  exact h
theorem numN_beU (n : Nat) : ∀ k, Oc.numN (beU n k) = n % 256 ^ k := by
  intro k
  induction k with
  | zero => show 0 = n % 1; rw [Nat.mod_one]
  | succ k ih =>
    have hb : (UInt8.ofNat (n / 256 ^ k % 256)).toNat = n / 256 ^ k % 256 := by
      rw [UInt8.toNat_ofNat']
      exact Nat.mod_mod_of_dvd _ (by decide)
    rw [beU_succ, numN_cons, ih, beU_len, hb, Nat.pow_succ, Nat.mod_mul, Nat.mul_comm (256 ^ k)]
    exact Nat.add_comm _ _

/-! ### ends -/
theorem putB_ok (n k : Nat) (hk : 1 ≤ k) (hk8 : k ≤ 8) (hn : n < 256 ^ k) : Oc.putB (n : Int) (k : Int) = (strOfNums (Oc.beN n k), true) := by
  unfold Oc.putB; rw [if_neg (by omega), Int.toNat_natCast, Int.toNat_natCast, if_pos hn]
theorem be_size (n k : Nat) : (strOfNums (Oc.beN n k)).size = k := (strOfNums_size _).trans (Oc.beN_len _ _)
theorem beU_num (l : List UInt8) : beU (Oc.numN l) l.length = l := by
  refine numN_inj _ _ (beU_len _ _) ?_
  rw [numN_beU, Nat.mod_eq_of_lt (Oc.numN_lt l)]
theorem bt_head (s : ByteArray) (c : UInt8) (L : List UInt8) (h : s.data.toList = c :: L) : bt s 0 = (c.toNat : Int) := by
  have := Oc.bt_nat s 0 (by rw [h]; simp)
  rw [show ((0 : Nat) : Int) = 0 from rfl] at this
  rw [this]; congr 2; simp [h]
theorem num4 (L : List UInt8) (k : Nat) (h : L.length ≤ k) : Oc.numN L < 256 ^ k := Nat.lt_of_lt_of_le (Oc.numN_lt L) (Nat.pow_le_pow_right (by decide) h)
theorem take_len (L : List UInt8) (p k : Nat) (h : p + k ≤ L.length) : ((L.drop p).take k).length = k := by rw [List.length_take, List.length_drop]; omega

/-! ### manifests: their bytes, what may be, and the way back -/
def magL : List UInt8 := [77, 65, 78, 49]
def fileL (x : S82) : List UInt8 := beU x.f0.size 1 ++ (x.f0.data.toList ++ (beU x.f1.toNat 1 ++ (beU x.f2.toNat 8 ++ beU x.f3.toNat 4)))
def filesL (l : List S82) : List UInt8 := (l.map fileL).flatten
def manL (a b : Int) (l : List S82) : List UInt8 := magL ++ (beU a.toNat 2 ++ (beU b.toNat 2 ++ (beU l.length 1 ++ filesL l)))
def rightB (a b : Int) (l : List S82) : Bool := decide (1 ≤ a ∧ a ≤ 7 ∧ 0 ≤ b ∧ b ≤ 1000 ∧ (l.length : Int) ≤ 16) && (List.range l.length).all (manifest_Right.ok l)
/-- What a right file keeps. -/
def okF (x : S82) : Prop := x.f0.size ≤ 24 ∧ 1 ≤ x.f1 ∧ x.f1 ≤ 64 ∧ 0 ≤ x.f2 ∧ x.f2 ≤ 4611686018427387904 ∧ 0 ≤ x.f3 ∧ x.f3 ≤ 4294967295
theorem filesL_cons (x : S82) (l : List S82) : filesL (x :: l) = fileL x ++ filesL l := by simp [filesL]
theorem right_f (a b : Int) (l : List S82) (hl : l.length ≤ 1000000) (hs : ∀ x ∈ l, x.f0.size ≤ 1000000) : manifest_Right.f a b l = some (rightB a b l) := by
  unfold manifest_Right.f
  rw [if_pos ⟨by omega, List.all_eq_true.mpr (fun x hx => decide_eq_true (by have := hs x hx; omega))⟩]
  rfl
theorem right_of {a b : Int} {l : List S82} (h : rightB a b l = true) (hf : ∀ x ∈ l, 0 ≤ x.f3 ∧ x.f3 ≤ 4294967295) : (1 ≤ a ∧ a ≤ 7 ∧ 0 ≤ b ∧ b ≤ 1000 ∧ l.length ≤ 16) ∧ ∀ x ∈ l, okF x := by
  unfold rightB at h
  rw [Bool.and_eq_true] at h
  obtain ⟨h1, h2⟩ := h
  have h1 := of_decide_eq_true h1
  refine ⟨⟨h1.1, h1.2.1, h1.2.2.1, h1.2.2.2.1, by omega⟩, fun x hx => ?_⟩
  obtain ⟨i, hi, rfl⟩ := List.mem_iff_getElem.mp hx
  have h3 := List.all_eq_true.mp h2 i (List.mem_range.mpr hi)
  unfold manifest_Right.ok at h3
  rw [manifest_Right.at l i hi, Bool.and_eq_true] at h3
  have h4 := h3.1
  unfold manifest_Right.mayB at h4
  simp only [Bool.and_eq_true, decide_eq_true_eq] at h4
  have h5 := hf _ hx
  exact ⟨h4.1.2.2, h4.2.1, h4.2.2.1, h4.2.2.2.1, h4.2.2.2.2, h5.1, h5.2⟩
/-! ### the bytes that are put -/
theorem put_ok (n : Int) (k : Nat) (hn0 : 0 ≤ n) (hk : 1 ≤ k) (hk8 : k ≤ 8) (hn : n.toNat < 256 ^ k) (h63 : n < 9223372036854775808) : ∃ p o, octet_Put.f n (k : Int) = some (p, o) ∧ p.data.toList = beU n.toNat k ∧ p.size = k := by
  obtain ⟨m, rfl⟩ := Int.eq_ofNat_of_zero_le hn0
  rw [Int.toNat_natCast] at hn ⊢
  refine ⟨_, _, (Oc.put_bv (m : Int) (k : Int) h63).trans (congrArg some (putB_ok m k hk hk8 hn)), beU_data m k, ?_⟩
  exact be_size m k
theorem row_ok (x : S82) (h : okF x) : ∃ p, manifest_Put.rowO x = some p ∧ p.data.toList = fileL x := by
  obtain ⟨h1, h2, h3, h4, h5, h6, h7⟩ := h
  obtain ⟨p1, o1, e1, d1, s1⟩ := put_ok (x.f0.size : Int) 1 (by omega) (by omega) (by omega) (by rw [Int.toNat_natCast]; omega) (by omega)
  obtain ⟨p2, o2, e2, d2, s2⟩ := put_ok x.f1 1 (by omega) (by omega) (by omega) (by omega) (by omega)
  obtain ⟨p3, o3, e3, d3, s3⟩ := put_ok x.f2 8 (by omega) (by omega) (by omega) (by omega) (by omega)
  obtain ⟨p4, o4, e4, d4, s4⟩ := put_ok x.f3 4 (by omega) (by omega) (by omega) (by omega) (by omega)
  have hw : wrap64 x.f3 = x.f3 := by unfold wrap64; omega
  refine ⟨((((p1 ++ x.f0) ++ p2) ++ p3) ++ p4), ?_, ?_⟩
  · unfold manifest_Put.rowO
    rw [hw]
    rw [show octet_Put.f (x.f0.size : Int) 1 = some (p1, o1) from e1, Option.bind_some, show octet_Put.f x.f1 1 = some (p2, o2) from e2, Option.bind_some, show octet_Put.f x.f2 8 = some (p3, o3) from e3, Option.bind_some, show octet_Put.f x.f3 4 = some (p4, o4) from e4, Option.bind_some]
    exact if_pos ⟨by omega, by show p1.size ≤ _; omega, by show p2.size ≤ _; omega, by show p3.size ≤ _; omega, by show p4.size ≤ _; omega⟩
  · rw [Cr.ba_append, Cr.ba_append, Cr.ba_append, Cr.ba_append, d1, d2, d3, d4, Int.toNat_natCast]
    unfold fileL
    simp only [List.append_assoc]
theorem acc_data (l : List S82) (hf : ∀ x ∈ l, okF x) : ∀ h : ByteArray, (manifest_Put.acc l h).data.toList = h.data.toList ++ filesL l := by
  induction l with
  | nil => intro h; simp [manifest_Put.acc, filesL]
  | cons x l ih =>
    intro h
    obtain ⟨p, e1, e2⟩ := row_ok x (hf x (by simp))
    show (manifest_Put.acc l (h ++ (manifest_Put.rowO x).getD ⟨#[]⟩)).data.toList = _
    rw [ih (fun y hy => hf y (by simp [hy])), e1, Cr.ba_append, filesL_cons]
    show h.data.toList ++ p.data.toList ++ filesL l = _
    rw [e2, List.append_assoc]
theorem fileL_len (x : S82) : (fileL x).length = 14 + x.f0.size := by
  unfold fileL
  rw [List.length_append, List.length_append, List.length_append, List.length_append, beU_len, beU_len, beU_len, beU_len, ← Cr.ba_size]; omega
theorem filesL_len (l : List S82) (hf : ∀ x ∈ l, okF x) : (filesL l).length ≤ 38 * l.length := by
  induction l with
  | nil => simp [filesL]
  | cons x l ih =>
    have h1 := ih (fun y hy => hf y (by simp [hy]))
    have h2 := (hf x (by simp)).1
    rw [filesL_cons, List.length_append, fileL_len, List.length_cons]; omega
theorem manL_len (a b : Int) (l : List S82) : (manL a b l).length = 9 + (filesL l).length := by
  unfold manL magL
  rw [List.length_append, List.length_append, List.length_append, List.length_append, beU_len, beU_len, beU_len, List.length_cons, List.length_cons, List.length_cons, List.length_cons, List.length_nil]; omega
theorem man_put (a b : Int) (l : List S82) (hl : l.length ≤ 1000) (hs : ∀ x ∈ l, x.f0.size ≤ 1000 ∧ 0 ≤ x.f3 ∧ x.f3 ≤ 4294967295) :
    manifest_Put.f a b l = some (if rightB a b l = true then (⟨(Cr.closeB (manL a b l)).toArray⟩, true) else (⟨#[]⟩, false)) := by
  unfold manifest_Put.f
  rw [right_f a b l (by omega) (fun x hx => by have := (hs x hx).1; omega), Option.bind_some]
  by_cases hr : rightB a b l = true
  case neg => rw [if_neg hr, if_neg hr]
  rw [if_pos hr, if_pos hr]
  obtain ⟨⟨h1, h2, h3, h4, h5⟩, hf⟩ := right_of hr (fun x hx => (hs x hx).2)
  obtain ⟨p1, o1, e1, d1, s1⟩ := put_ok a 2 (by omega) (by omega) (by omega) (by omega) (by omega)
  obtain ⟨p2, o2, e2, d2, s2⟩ := put_ok b 2 (by omega) (by omega) (by omega) (by omega) (by omega)
  obtain ⟨p3, o3, e3, d3, s3⟩ := put_ok (l.length : Int) 1 (by omega) (by omega) (by omega) (by rw [Int.toNat_natCast]; omega) (by omega)
  have ht : manifest_Put.told l = true := List.all_eq_true.mpr (fun x hx => by
    obtain ⟨p, e, _⟩ := row_ok x (hf x hx)
    rw [e]; rfl)
  rw [show octet_Put.f a 2 = some (p1, o1) from e1, Option.bind_some, show octet_Put.f b 2 = some (p2, o2) from e2, Option.bind_some, show octet_Put.f (l.length : Int) 1 = some (p3, o3) from e3, Option.bind_some,
    if_pos ⟨by show p1.size ≤ _; omega, by show p2.size ≤ _; omega, by show p3.size ≤ _; omega, by omega, ht⟩]
  have hd := acc_data l hf ((((⟨#[77, 65, 78, 49]⟩ : ByteArray) ++ p1) ++ p2) ++ p3)
  have hd' : (manifest_Put.acc l ((((⟨#[77, 65, 78, 49]⟩ : ByteArray) ++ p1) ++ p2) ++ p3)).data.toList = manL a b l := by
    rw [hd, Cr.ba_append, Cr.ba_append, Cr.ba_append, d1, d2, d3, Int.toNat_natCast]
    unfold manL magL
    simp only [List.append_assoc]
  have hz : (manifest_Put.acc l ((((⟨#[77, 65, 78, 49]⟩ : ByteArray) ++ p1) ++ p2) ++ p3)).size ≤ 1000000000 := by
    rw [Cr.ba_size, hd', manL_len]
    have := filesL_len l hf
    omega
  obtain ⟨c, c1, c2⟩ := Cr.close_bv _ hz
  show (crc_Close.f (manifest_Put.acc l ((((⟨#[77, 65, 78, 49]⟩ : ByteArray) ++ p1) ++ p2) ++ p3))).bind _ = _
  rw [c1, Option.bind_some]
  refine congrArg some (Prod.ext (Cr.ba_ext ?_) rfl)
  rw [c2, hd']
/-! ### what is read back -/
theorem take_ok (B L : List UInt8) (rest : ByteArray) (hr : rest.data.toList = B ++ L) : manifest_bytes_take.f rest (B.length : Int) = some (rest.extract 0 B.length, true, rest.extract B.length rest.size) ∧ (rest.extract 0 B.length).data.toList = B ∧ (rest.extract B.length rest.size).data.toList = L := by
  have hs : rest.size = B.length + L.length := by rw [Cr.ba_size, hr, List.length_append]
  refine ⟨?_, ?_, ?_⟩
  · unfold manifest_bytes_take.f
    rw [if_neg (by omega), if_pos (by omega), Int.toNat_natCast]
  · rw [Oc.ex_data, hr, List.drop_zero]; exact List.take_left
  · rw [Oc.ex_data, List.take_of_length_le (by rw [Cr.ba_size]; exact Nat.le_refl _), hr]; exact List.drop_left
theorem num_ok (v k : Nat) (hk : 1 ≤ k) (hk8 : k ≤ 8) (hv : v < 256 ^ k) (h63 : v < 9223372036854775808) (L : List UInt8) (rest : ByteArray) (hr : rest.data.toList = beU v k ++ L) (hs : rest.size ≤ 1000000) (bad : Bool) :
    ∃ r', manifest_cursor_number.f rest bad (k : Int) = some ((v : Int), r', bad) ∧ r'.data.toList = L := by
  obtain ⟨t1, t2, t3⟩ := take_ok (beU v k) L rest hr
  rw [beU_len] at t1 t2 t3
  refine ⟨_, ?_, t3⟩
  unfold manifest_cursor_number.f
  rw [t1, Option.bind_some]
  have hz : (rest.extract 0 k).size = k := by rw [Cr.ba_size, t2, beU_len]
  rw [Oc.get_bv (rest.extract 0 k) 0 (k : Int) (by omega) (by decide)]
  have hg : Oc.getB (rest.extract 0 k) 0 (k : Int) = ((v : Int), true) := by
    unfold Oc.getB
    have hnum : Oc.numN (((rest.extract 0 k).data.toList.drop (0 : Int).toNat).take (k : Int).toNat) = v := by
      rw [t2, Int.toNat_natCast, show (0 : Int).toNat = 0 from rfl, List.drop_zero, List.take_of_length_le (by rw [beU_len]; exact Nat.le_refl _), numN_beU, Nat.mod_eq_of_lt hv]
    rw [if_neg (by omega), hnum, if_pos h63]
  rw [hg]
  show some (_, _, (bad || !true) || !true) = _
  rw [Bool.not_true, Bool.or_false, Bool.or_false]
theorem text_ok (B L : List UInt8) (rest : ByteArray) (hr : rest.data.toList = B ++ L) (bad : Bool) : ∃ v r', manifest_cursor_text.f rest bad (B.length : Int) = some (v, r', bad) ∧ v.data.toList = B ∧ r'.data.toList = L := by
  obtain ⟨t1, t2, t3⟩ := take_ok B L rest hr
  refine ⟨_, _, ?_, t2, t3⟩
  unfold manifest_cursor_text.f
  rw [t1, Option.bind_some]
  show some (_, _, bad || !true) = _
  rw [Bool.not_true, Bool.or_false]
theorem file_ok (x : S82) (h : okF x) (L : List UInt8) (rest : ByteArray) (hr : rest.data.toList = fileL x ++ L) (hs : rest.size ≤ 1000000) (bad : Bool) : ∃ r', manifest_cursor_file.f rest bad = some (x, r', bad) ∧ r'.data.toList = L := by
  obtain ⟨h1, h2, h3, h4, h5, h6, h7⟩ := h
  have hz := Cr.ba_size rest
  unfold fileL at hr
  simp only [List.append_assoc] at hr
  have hlen := congrArg List.length hr
  simp only [List.length_append, beU_len] at hlen
  obtain ⟨q1, e1, d1⟩ := num_ok x.f0.size 1 (by omega) (by omega) (by omega) (by omega) _ rest hr hs bad
  obtain ⟨v, q2, e2, d2, d3⟩ := text_ok x.f0.data.toList _ q1 d1 bad
  have hv : v = x.f0 := Cr.ba_ext d2
  obtain ⟨q3, e3, d4⟩ := num_ok x.f1.toNat 1 (by omega) (by omega) (by omega) (by omega) _ q2 d3 (by rw [Cr.ba_size, d3]; simp only [List.length_append, beU_len]; omega) bad
  obtain ⟨q4, e4, d5⟩ := num_ok x.f2.toNat 8 (by omega) (by omega) (by omega) (by omega) _ q3 d4 (by rw [Cr.ba_size, d4]; simp only [List.length_append, beU_len]; omega) bad
  obtain ⟨q5, e5, d6⟩ := num_ok x.f3.toNat 4 (by omega) (by omega) (by omega) (by omega) _ q4 d5 (by rw [Cr.ba_size, d5]; simp only [List.length_append, beU_len]; omega) bad
  refine ⟨q5, ?_, d6⟩
  unfold manifest_cursor_file.f
  rw [show manifest_cursor_number.f rest bad 1 = _ from e1, Option.bind_some]
  dsimp only
  rw [show (x.f0.size : Int) = (x.f0.data.toList.length : Int) by rw [← Cr.ba_size], e2, Option.bind_some]
  dsimp only
  rw [show manifest_cursor_number.f q2 bad 1 = _ from e3, Option.bind_some]
  dsimp only
  rw [show manifest_cursor_number.f q3 bad 8 = _ from e4, Option.bind_some]
  dsimp only
  rw [show manifest_cursor_number.f q4 bad 4 = _ from e5, Option.bind_some]
  dsimp only
  have g1 : (x.f1.toNat : Int) = x.f1 := by omega
  have g2 : (x.f2.toNat : Int) = x.f2 := by omega
  have g3 : IntKind.u32.wrap (x.f3.toNat : Int) = x.f3 := by
    simp only [IntKind.wrap, IntKind.bits, IntKind.signed, Bool.false_and]
    simp
    omega
  rw [hv, g1, g2, g3]
theorem loop_ok : ∀ (l acc : List S82) (L : List UInt8) (rest : ByteArray), (∀ x ∈ l, okF x) → rest.data.toList = filesL l ++ L → rest.size ≤ 1000000 → ∃ r', manifest_Get.loop l.length rest false acc = some (acc ++ l, r', false) ∧ r'.data.toList = L := by
  intro l
  induction l with
  | nil => intro acc L rest _ hr _; exact ⟨rest, by rw [List.append_nil]; rfl, by simpa [filesL] using hr⟩
  | cons x l ih =>
    intro acc L rest hf hr hs
    rw [filesL_cons, List.append_assoc] at hr
    obtain ⟨q, e, d⟩ := file_ok x (hf x (by simp)) _ rest hr hs false
    have hlen := congrArg List.length hr
    rw [List.length_append, ← Cr.ba_size, ← d, ← Cr.ba_size] at hlen
    obtain ⟨r', e2, d2⟩ := ih (acc ++ [x]) L q (fun y hy => hf y (by simp [hy])) d (by omega)
    refine ⟨r', ?_, d2⟩
    rw [List.length_cons, manifest_Get.loop, if_neg (by decide), e, Option.bind_some]
    rw [e2, List.append_assoc]; rfl
theorem man_prefix (t : ByteArray) (L : List UInt8) (ht : t.data.toList = magL ++ L) : strings_HasPrefix.f t (⟨#[77, 65, 78, 49]⟩ : ByteArray) = some true := by
  have e4 : ((⟨#[77, 65, 78, 49]⟩ : ByteArray).size : Int) = 4 := rfl
  have hs : t.size = 4 + L.length := by rw [Cr.ba_size, ht, List.length_append]; rfl
  unfold strings_HasPrefix.f stringslite_HasPrefix.f
  rw [e4, if_pos (by omega), if_pos (by omega), if_pos (by omega), Option.bind_some]
  refine congrArg some ?_
  rw [show ((4 : Int)).toNat = 4 from rfl, ByteArray.toList_eq, ByteArray.toList_eq, Cr.extract_take, ht]
  rfl
/-- What a manifest's bytes say. -/
theorem man_get (a b : Int) (l : List S82) (h : rightB a b l = true) (hf : ∀ x ∈ l, 0 ≤ x.f3 ∧ x.f3 ≤ 4294967295) (s : ByteArray) (hs : s.data.toList = Cr.closeB (manL a b l)) : manifest_Get.f s = some (a, b, l, true) := by
  obtain ⟨⟨h1, h2, h3, h4, h5⟩, hok⟩ := right_of h hf
  have hfl := filesL_len l hok
  have hml := manL_len a b l
  have hsz : s.size = 13 + (filesL l).length := by rw [Cr.ba_size, hs, Cr.closeB_len, hml]; omega
  unfold manifest_Get.f
  have ho := Cr.open_bv s (by omega)
  rw [hs, Cr.openB_close] at ho
  obtain ⟨t, ht⟩ : ∃ t : ByteArray, (⟨(manL a b l).toArray⟩ : ByteArray) = t := ⟨_, rfl⟩
  have htd : t.data.toList = manL a b l := by rw [← ht]
  have hts : t.size = 9 + (filesL l).length := by rw [Cr.ba_size, htd, hml]
  rw [show crc_Open.f s = some (t, true) by rw [ho, ← ht], Option.bind_some, if_pos rfl]
  dsimp only
  rw [man_prefix t _ htd, Option.bind_some, if_pos rfl, if_pos ⟨by omega, by omega⟩]
  obtain ⟨q0, hq0⟩ : ∃ q0, t.extract 4 t.size = q0 := ⟨_, rfl⟩
  have d0 : q0.data.toList = beU a.toNat 2 ++ (beU b.toNat 2 ++ (beU l.length 1 ++ filesL l)) := by
    rw [← hq0, Oc.ex_data, List.take_of_length_le (by rw [Cr.ba_size]; exact Nat.le_refl _), htd]
    unfold manL
    exact List.drop_left' rfl
  have z0 : q0.size ≤ 100000 := by
    rw [Cr.ba_size, d0]; simp only [List.length_append, beU_len]; omega
  rw [hq0]
  unfold manifest_Get.body
  obtain ⟨q1, e1, d1⟩ := num_ok a.toNat 2 (by omega) (by omega) (by omega) (by omega) _ q0 d0 (by omega) false
  obtain ⟨q2, e2, d2⟩ := num_ok b.toNat 2 (by omega) (by omega) (by omega) (by omega) _ q1 d1 (by rw [Cr.ba_size, d1]; simp only [List.length_append, beU_len]; omega) false
  obtain ⟨q3, e3, d3⟩ := num_ok l.length 1 (by omega) (by omega) (by omega) (by omega) _ q2 d2 (by rw [Cr.ba_size, d2]; simp only [List.length_append, beU_len]; omega) false
  obtain ⟨q4, e4, d4⟩ := loop_ok l [] [] q3 hok (by rw [d3, List.append_nil]) (by rw [Cr.ba_size, d3]; omega)
  rw [show manifest_cursor_number.f q0 false 2 = _ from e1, Option.bind_some]
  dsimp only
  rw [show manifest_cursor_number.f q1 false 2 = _ from e2, Option.bind_some]
  dsimp only
  rw [show manifest_cursor_number.f q2 false 1 = _ from e3, Option.bind_some]
  dsimp only
  rw [if_pos (by omega), Int.toNat_natCast, e4, Option.bind_some, List.nil_append]
  unfold manifest_Get.ends
  dsimp only
  have g1 : (a.toNat : Int) = a := by omega
  have g2 : (b.toNat : Int) = b := by omega
  rw [if_neg (fun h => h.elim (fun h => absurd h (by decide)) (fun h => h (by rw [ByteArray.toList_eq]; exact d4))), g1, g2, right_f a b l (by omega) (fun x hx => by have := (hok x hx).1; omega), Option.bind_some, h, if_pos rfl]
/-- Of bytes that do not close there is none. -/
theorem man_shut (s : ByteArray) (hs : s.size ≤ 1000000000) (h : Cr.openB s.data.toList = none) : manifest_Get.f s = some (0, 0, [], false) := by
  unfold manifest_Get.f
  rw [Cr.open_bv s hs, h, Option.bind_some, if_neg (by decide)]
  rfl

/-! ### manifests: a file that is put, few files, the same -/
theorem at_hit (l : List S82) (x : S82) : ∃ i, manifest_Find.at (manifest_With.put l x) x.f0 = some i ∧ (manifest_With.put l x).getD i z82 = x := by
  unfold manifest_With.put
  have hx : (x.f0.toList == x.f0.toList) = true := beq_self_eq_true _
  cases h : manifest_Find.at l x.f0 with
  | none =>
    refine ⟨l.length, ?_, ?_⟩
    · unfold manifest_Find.at at h ⊢
      show (l ++ [x]).findIdx? _ = _
      rw [List.findIdx?_append, h, List.findIdx?_cons, hx]
      simp
    · show (l ++ [x]).getD l.length z82 = x
      simp
  | some i =>
    unfold manifest_Find.at at h
    obtain ⟨hi, hp, hn⟩ := List.findIdx?_eq_some_iff_getElem.mp h
    refine ⟨i, ?_, ?_⟩
    · unfold manifest_Find.at
      show (l.set i x).findIdx? _ = _
      refine List.findIdx?_eq_some_iff_getElem.mpr ⟨by rw [List.length_set]; exact hi, ?_, fun j hj => ?_⟩
      · rw [List.getElem_set_self]; exact hx
      · rw [List.getElem_set_ne (by omega)]; exact hn j hj
    · show (l.set i x).getD i z82 = x
      rw [List.getD_eq_getElem?_getD, List.getElem?_set_self hi]; rfl
theorem find_with (a b : Int) (l : List S82) (x : S82) (hl : l.length ≤ 1000000) : ∃ m, manifest_With.f a b l x.f0 x.f1 x.f2 x.f3 = some (a, b, m) ∧ manifest_Find.f a b m x.f0 = some (x.f0, x.f1, x.f2, x.f3, true) := by
  refine ⟨manifest_With.put l x, ?_, ?_⟩
  · unfold manifest_With.f
    rw [if_pos (by omega)]
  · obtain ⟨i, h1, h2⟩ := at_hit l x
    have hlen : (manifest_With.put l x).length ≤ l.length + 1 := by
      unfold manifest_With.put
      split
      · rw [List.length_append]; exact Nat.le_refl _
      · rw [List.length_set]; omega
    unfold manifest_Find.f
    rw [if_pos (by omega), h1]
    show some (((manifest_With.put l x).getD i z82).f0, ((manifest_With.put l x).getD i z82).f1, ((manifest_With.put l x).getD i z82).f2, ((manifest_With.put l x).getD i z82).f3, true) = _
    rw [h2]
theorem rd_at (l : List S82) (i : Nat) (h : i < l.length) : rd_T82 l (i : Int) = l[i] := by
  unfold rd_T82
  rw [Int.toNat_natCast, List.getD_eq_getElem?_getD, List.getElem?_eq_getElem h]; rfl
theorem man_few_ev (a b : Int) (l : List S82) : ∀ d i : Nat, i + d = 20 → (∀ x ∈ l.take i, x.f0.size ≤ 40) → ∃ q, Ev (fun k => chainmanref19_Few.l0 k (i : Int) a b l) q ∧ (q = true → l.length ≤ 20 ∧ ∀ x ∈ l, x.f0.size ≤ 40) := by
  intro d
  induction d with
  | zero =>
    intro i hi h
    refine ⟨decide ((l.length : Int) ≤ 20), ?_, ?_⟩
    · refine Ev.step (f := fun k => chainmanref19_Few.j1 k (i : Int) false a b l) (fun k => ?_) (Ev.step (f := fun _ => some _) (fun k => by rw [chainmanref19_Few.j1, if_neg (by decide)]) (Ev.now _))
      rw [chainmanref19_Few.l0]
      split
      · rw [decide_eq_false (by omega)]
      · rfl
    · intro hb
      have := of_decide_eq_true hb
      exact ⟨by omega, fun x hx => h x (by rw [List.take_of_length_le (by omega)]; exact hx)⟩
  | succ d ih =>
    intro i hi h
    by_cases hlt : i < l.length
    · by_cases hs : l[i].f0.size ≤ 40
      · obtain ⟨q, hq, hq'⟩ := ih (i + 1) (by omega) (by
          intro x hx
          rw [List.take_add_one, List.getElem?_eq_getElem hlt, Option.toList_some, List.mem_append, List.mem_singleton] at hx
          rcases hx with hx | rfl
          · exact h x hx
          · exact hs)
        refine ⟨q, Ev.step (f := fun k => chainmanref19_Few.j1 k (i : Int) true a b l) (fun k => ?_) (Ev.step (fun k => ?_) hq), hq'⟩
        · rw [chainmanref19_Few.l0, if_pos (by omega), decide_eq_true (by omega)]
        · rw [chainmanref19_Few.j1, if_pos rfl, if_pos (by omega), if_pos (by omega), rd_at l i hlt, if_neg (by omega), wsucc i (by omega)]
      · refine ⟨false, Ev.step (f := fun k => chainmanref19_Few.j1 k (i : Int) true a b l) (fun k => ?_) (Ev.step (f := fun _ => some false) (fun k => ?_) (Ev.now _)), by simp⟩
        · rw [chainmanref19_Few.l0, if_pos (by omega), decide_eq_true (by omega)]
        · rw [chainmanref19_Few.j1, if_pos rfl, if_pos (by omega), if_pos (by omega), rd_at l i hlt, if_pos (by omega)]
    · refine ⟨decide ((l.length : Int) ≤ 20), Ev.step (f := fun k => chainmanref19_Few.j1 k (i : Int) false a b l) (fun k => ?_) (Ev.step (f := fun _ => some _) (fun k => by rw [chainmanref19_Few.j1, if_neg (by decide)]) (Ev.now _)), ?_⟩
      · rw [chainmanref19_Few.l0, if_neg (by omega)]
      · intro hb
        have := of_decide_eq_true hb
        exact ⟨by omega, fun x hx => h x (by rw [List.take_of_length_le (by omega)]; exact hx)⟩
theorem man_few (a b : Int) (l : List S82) : ∃ q, Ev (fun k => chainmanref19_Few.f k a b l) q ∧ (q = true → l.length ≤ 20 ∧ ∀ x ∈ l, x.f0.size ≤ 40) := man_few_ev a b l 20 0 rfl (by simp)
theorem man_same_loop (a b : Int) (l : List S82) (hl : l.length ≤ 1000) : ∀ (d i : Nat), i + d = l.length → Ev (fun q => chainmanref19_Same.l0 q (i : Int) a b l a b l) true := by
  intro d
  induction d with
  | zero =>
    intro i hi
    refine Ev.step (f := fun _ => some true) (fun q => ?_) (Ev.now _)
    rw [chainmanref19_Same.l0, if_neg (by omega)]
  | succ d ih =>
    intro i hi
    refine Ev.step (fun q => ?_) (ih (i + 1) (by omega))
    rw [chainmanref19_Same.l0, if_pos (by omega), if_pos (by omega), if_pos (by omega), if_neg (by simp), wsucc i (by omega)]
theorem man_same (a b : Int) (l : List S82) (hl : l.length ≤ 1000) : Ev (fun q => chainmanref19_Same.f q a b l a b l) true := by
  refine Ev.congr (fun q => ?_) (Ev.step (f := fun q => chainmanref19_Same.l0 q 0 a b l a b l) (g := fun q => chainmanref19_Same.j0 q false a b l a b l) (fun q => by rw [chainmanref19_Same.j0, if_neg (by decide)]) (man_same_loop a b l hl l.length 0 (by omega)))
  unfold chainmanref19_Same.f
  rw [if_pos rfl, if_pos rfl, bne_self_eq_false]
theorem man_awake : Ev (fun k => chainmanlaw19_awake.f k) true := by
  have hr : rightB 1 0 [] = true := rfl
  have p1 := man_put 1 0 [] (by simp) (by simp)
  have p2 := man_put 0 0 [] (by simp) (by simp)
  rw [if_pos hr] at p1
  rw [if_neg (show ¬ rightB 0 0 [] = true by decide)] at p2
  obtain ⟨s, hs⟩ : ∃ s : ByteArray, (⟨(Cr.closeB (manL 1 0 [])).toArray⟩ : ByteArray) = s := ⟨_, rfl⟩
  have hsd : s.data.toList = Cr.closeB (manL 1 0 []) := by rw [← hs]
  have hss : s.size = 13 := by rw [Cr.ba_size, hsd, Cr.closeB_len, manL_len]; rfl
  rw [hs] at p1
  have g := man_get 1 0 [] hr (by simp) s hsd
  refine Ev.congr (f := fun k => (chainmanref19_Same.f k 1 0 [] 1 0 []).bind fun t => if t = true then some true else none) (fun k => ?_) (Ev.bind (man_same 1 0 [] (by simp)) (Ev.congr (fun k => if_pos rfl) (Ev.now _)))
  unfold chainmanlaw19_awake.f
  rw [p1, Option.bind_some, p2, Option.bind_some, g, Option.bind_some, if_pos rfl, if_pos (by rw [hss]; rfl), if_neg (by decide), if_pos rfl]
  rfl

/-! ### manifests: the document's functions -/
theorem name_step (s : ByteArray) (i : Nat) (h : i < s.size) (hs : s.size ≤ 1000000) (k : Nat) : chainmanref04_Right.l0 (k + 1) s (i : Int) = if fs_Right.ok (s.data.toList[i]'(by rw [← Cr.ba_size]; exact h)) = true then chainmanref04_Right.l0 k s ((i + 1 : Nat) : Int) else some false := by
  have hb := Oc.bt_nat s i (by rw [← Cr.ba_size]; exact h)
  rw [chainmanref04_Right.l0, if_pos (by omega), if_pos (by omega), hb, wsucc i (by omega)]
  unfold fs_Right.ok
  generalize (s.data.toList[i]'(by rw [← Cr.ba_size]; exact h)).toNat = n
  by_cases hok : (97 ≤ n ∧ n ≤ 122) ∨ (48 ≤ n ∧ n ≤ 57) ∨ n = 46
  · rw [if_pos (decide_eq_true hok)]
    (repeat' split) <;> first | rfl | (exfalso; omega)
  · rw [if_neg (show ¬ (decide ((97 ≤ n ∧ n ≤ 122) ∨ (48 ≤ n ∧ n ≤ 57) ∨ n = 46) = true) by rw [decide_eq_true_eq]; exact hok)]
    (repeat' split) <;> first | rfl | (exfalso; omega)
theorem refname (s : ByteArray) (hs : s.size ≤ 1000000) : Ev (fun k => chainmanref04_Right.f k s) (s.data.toList.all fs_Right.ok && (decide (s.size ≠ 0) && decide (s.size ≤ 24))) := by
  have go : ∀ (d i : Nat), i + d = s.size → Ev (fun k => chainmanref04_Right.l0 k s (i : Int)) ((s.data.toList.drop i).all fs_Right.ok && (decide (s.size ≠ 0) && decide (s.size ≤ 24))) := by
    intro d
    induction d with
    | zero =>
      intro i hi
      rw [List.drop_of_length_le (by rw [← Cr.ba_size]; omega), List.all_nil, Bool.true_and]
      refine Ev.step (f := fun _ => some (decide (s.size ≠ 0) && decide (s.size ≤ 24))) (fun k => ?_) (Ev.now _)
      rw [chainmanref04_Right.l0, if_neg (by omega)]
      by_cases h0 : (s.size : Int) ≥ 1
      · rw [if_pos h0, decide_eq_true (show s.size ≠ 0 by omega), Bool.true_and]
        exact congrArg some (decide_eq_decide.mpr (by omega))
      · rw [if_neg h0, decide_eq_false (show ¬ s.size ≠ 0 by omega), Bool.false_and]
    | succ d ih =>
      intro i hi
      have hlt : i < s.data.toList.length := by rw [← Cr.ba_size]; omega
      rw [List.drop_eq_getElem_cons hlt, List.all_cons]
      cases hok : fs_Right.ok s.data.toList[i] with
      | true =>
        rw [Bool.true_and]
        exact Ev.step (fun k => by rw [name_step s i (by omega) hs, if_pos hok]) (ih (i + 1) (by omega))
      | false =>
        rw [Bool.false_and, Bool.false_and]
        exact Ev.step (f := fun _ => some false) (fun k => by rw [name_step s i (by omega) hs, if_neg (by rw [hok]; decide)]) (Ev.now _)
  exact go s.size 0 (by omega)
theorem refright (a b : Int) (l : List S82) (hl : l.length ≤ 1000) (hs : ∀ x ∈ l, x.f0.size ≤ 1000) : Ev (fun k => chainmanref19_Right.f k a b l) (rightB a b l) := by
  have inner : ∀ (i : Nat), i < l.length → ∀ (x : S82) (r : Bool), Ev (fun k => chainmanref19_Right.l0 k ((i + 1 : Nat) : Int) a b l) r → ∀ (d j : Nat), j + d = i →
      Ev (fun k => chainmanref19_Right.l1 k (i : Int) (j : Int) a b l x.f0 x.f1 x.f2 x.f3) (!((l.take i).drop j).any (fun y => y.f0.toList == x.f0.toList) && r) := by
    intro i hi x r hr d
    induction d with
    | zero =>
      intro j hj
      rw [List.drop_of_length_le (by rw [List.length_take]; omega), List.any_nil, Bool.not_false, Bool.true_and]
      exact Ev.step (fun k => by rw [chainmanref19_Right.l1, if_neg (by omega), wsucc i (by omega)]) hr
    | succ d ih =>
      intro j hj
      have hlt : j < (l.take i).length := by rw [List.length_take]; omega
      rw [List.drop_eq_getElem_cons hlt, List.any_cons, List.getElem_take]
      by_cases he : l[j].f0.toList = x.f0.toList
      · rw [beq_iff_eq.mpr he, Bool.true_or, Bool.not_true, Bool.false_and]
        exact Ev.step (f := fun _ => some false) (fun k => by rw [chainmanref19_Right.l1, if_pos (by omega), if_pos (by omega), if_pos (by omega), rd_at l j (by omega), if_pos he]) (Ev.now _)
      · rw [beq_eq_false_iff_ne.mpr he, Bool.false_or]
        exact Ev.step (fun k => by rw [chainmanref19_Right.l1, if_pos (by omega), if_pos (by omega), if_pos (by omega), rd_at l j (by omega), if_neg he, wsucc j (by omega)]) (ih (j + 1) (by omega))
  have go : ∀ (d i : Nat), i + d = l.length → Ev (fun k => chainmanref19_Right.l0 k (i : Int) a b l) (((List.range l.length).drop i).all (manifest_Right.ok l)) := by
    intro d
    induction d with
    | zero =>
      intro i hi
      rw [List.drop_of_length_le (by rw [List.length_range]; omega)]
      exact Ev.step (f := fun _ => some true) (fun k => by rw [chainmanref19_Right.l0, if_neg (by omega)]) (Ev.now _)
    | succ d ih =>
      intro i hi
      have hlt : i < l.length := by omega
      have hx := hs l[i] (List.getElem_mem hlt)
      rw [List.drop_eq_getElem_cons (by rw [List.length_range]; exact hlt), List.all_cons, List.getElem_range]
      have hin := inner i hlt l[i] _ (ih (i + 1) (by omega)) i 0 (by omega)
      have hok : manifest_Right.ok l i = (manifest_Right.mayB l[i] && !((l.take i).drop 0).any (fun y => y.f0.toList == l[i].f0.toList)) := by
        unfold manifest_Right.ok manifest_Right.met
        rw [manifest_Right.at l i hlt, List.drop_zero]
      rw [hok, Bool.and_assoc]
      unfold manifest_Right.mayB
      have no : ∀ c, c = true → Ev (fun k => chainmanref19_Right.j2 k (i : Int) c a b l l[i].f0 l[i].f1 l[i].f2 l[i].f3) false := fun c hc =>
        Ev.step (f := fun _ => some false) (fun k => by rw [chainmanref19_Right.j2, if_pos hc]) (Ev.now _)
      refine Ev.step (fun k => by rw [chainmanref19_Right.l0, if_pos (by omega), if_pos (by omega), rd_at l i hlt]) (Ev.bind (refname l[i].f0 (by omega)) ?_)
      cases hn : (l[i].f0.data.toList.all fs_Right.ok && (decide (l[i].f0.size ≠ 0) && decide (l[i].f0.size ≤ 24))) with
      | false => rw [Bool.false_and, Bool.false_and]; exact Ev.congr (fun k => if_neg (by decide)) (no true rfl)
      | true =>
        rw [Bool.true_and]
        refine Ev.congr (fun k => if_pos rfl) ?_
        by_cases h1 : l[i].f1 < 1
        · rw [decide_eq_false (show ¬ (1 ≤ l[i].f1 ∧ l[i].f1 ≤ 64 ∧ 0 ≤ l[i].f2 ∧ l[i].f2 ≤ 4611686018427387904) by omega), Bool.false_and]; exact Ev.congr (fun k => if_pos h1) (no true rfl)
        refine Ev.congr (fun k => if_neg h1) ?_
        by_cases h2 : l[i].f1 > 64
        · rw [decide_eq_false (show ¬ (1 ≤ l[i].f1 ∧ l[i].f1 ≤ 64 ∧ 0 ≤ l[i].f2 ∧ l[i].f2 ≤ 4611686018427387904) by omega), Bool.false_and]; exact Ev.congr (fun k => if_pos h2) (no true rfl)
        refine Ev.congr (fun k => if_neg h2) ?_
        by_cases h3 : l[i].f2 < 0
        · rw [decide_eq_false (show ¬ (1 ≤ l[i].f1 ∧ l[i].f1 ≤ 64 ∧ 0 ≤ l[i].f2 ∧ l[i].f2 ≤ 4611686018427387904) by omega), Bool.false_and]; exact Ev.congr (fun k => if_pos h3) (no true rfl)
        refine Ev.congr (fun k => if_neg h3) ?_
        by_cases h4 : l[i].f2 > 4611686018427387904
        · rw [decide_eq_false (show ¬ (1 ≤ l[i].f1 ∧ l[i].f1 ≤ 64 ∧ 0 ≤ l[i].f2 ∧ l[i].f2 ≤ 4611686018427387904) by omega), Bool.false_and]; exact no _ (decide_eq_true h4)
        rw [decide_eq_true (show 1 ≤ l[i].f1 ∧ l[i].f1 ≤ 64 ∧ 0 ≤ l[i].f2 ∧ l[i].f2 ≤ 4611686018427387904 by omega), Bool.true_and, decide_eq_false h4]
        exact Ev.step (fun k => by rw [chainmanref19_Right.j2, if_neg (by decide)]; rfl) hin
  have no : ∀ c, c = true → Ev (fun k => chainmanref19_Right.j0 k c a b l) false := fun c hc =>
    Ev.step (f := fun _ => some false) (fun k => by rw [chainmanref19_Right.j0, if_pos hc]) (Ev.now _)
  unfold rightB chainmanref19_Right.f
  by_cases h1 : a < 1
  · rw [decide_eq_false (show ¬ (1 ≤ a ∧ a ≤ 7 ∧ 0 ≤ b ∧ b ≤ 1000 ∧ (l.length : Int) ≤ 16) by omega), Bool.false_and]; exact Ev.congr (fun k => if_pos h1) (no true rfl)
  refine Ev.congr (fun k => if_neg h1) ?_
  by_cases h2 : a > 7
  · rw [decide_eq_false (show ¬ (1 ≤ a ∧ a ≤ 7 ∧ 0 ≤ b ∧ b ≤ 1000 ∧ (l.length : Int) ≤ 16) by omega), Bool.false_and]; exact Ev.congr (fun k => if_pos h2) (no true rfl)
  refine Ev.congr (fun k => if_neg h2) ?_
  by_cases h3 : b < 0
  · rw [decide_eq_false (show ¬ (1 ≤ a ∧ a ≤ 7 ∧ 0 ≤ b ∧ b ≤ 1000 ∧ (l.length : Int) ≤ 16) by omega), Bool.false_and]; exact Ev.congr (fun k => if_pos h3) (no true rfl)
  refine Ev.congr (fun k => if_neg h3) ?_
  by_cases h4 : b > 1000
  · rw [decide_eq_false (show ¬ (1 ≤ a ∧ a ≤ 7 ∧ 0 ≤ b ∧ b ≤ 1000 ∧ (l.length : Int) ≤ 16) by omega), Bool.false_and]; exact Ev.congr (fun k => if_pos h4) (no true rfl)
  refine Ev.congr (fun k => if_neg h4) ?_
  by_cases h5 : (l.length : Int) > 16
  · rw [decide_eq_false (show ¬ (1 ≤ a ∧ a ≤ 7 ∧ 0 ≤ b ∧ b ≤ 1000 ∧ (l.length : Int) ≤ 16) by omega), Bool.false_and]; exact no _ (decide_eq_true h5)
  rw [decide_eq_true (show 1 ≤ a ∧ a ≤ 7 ∧ 0 ≤ b ∧ b ≤ 1000 ∧ (l.length : Int) ≤ 16 by omega), Bool.true_and, decide_eq_false h5]
  exact Ev.step (fun k => by rw [chainmanref19_Right.j0, if_neg (by decide)]; rfl) (go l.length 0 (by omega))
theorem refmust (n : Int) (k : Nat) (K : Int) (hK : K = (k : Int)) (hn0 : 0 ≤ n) (hk : 1 ≤ k) (hk8 : k ≤ 8) (hn : n.toNat < 256 ^ k) (h63 : n < 9223372036854775808) : ∃ p, Ev (fun q => chainmanref02_Must.f q n K) p ∧ p.data.toList = beU n.toNat k ∧ p.size = k := by
  subst hK
  obtain ⟨m, rfl⟩ := Int.eq_ofNat_of_zero_le hn0
  rw [Int.toNat_natCast] at hn ⊢
  refine ⟨strOfNums (Oc.beN m k), ⟨20, fun q hq => ?_⟩, beU_data m k, be_size m k⟩
  show chainmanref02_Must.f q (m : Int) (k : Int) = _
  unfold chainmanref02_Must.f
  rw [Oc.refput_bv _ _ q hq (by omega), Option.bind_some, putB_ok m k hk hk8 hn]
theorem refput_loop (a b : Int) (l : List S82) (hf : ∀ x ∈ l, okF x) (hl : l.length ≤ 16) : ∀ (d i : Nat) (acc : ByteArray), i + d = l.length → acc.size ≤ 100 + 38 * i → ∃ c, Ev (fun k => chainmanref19_Put.l0 k acc (i : Int) a b l) (c, true) ∧ c.data.toList = Cr.closeB (acc.data.toList ++ filesL (l.drop i)) := by
  intro d
  induction d with
  | zero =>
    intro i acc hi ha
    obtain ⟨c, _, c2⟩ := Cr.refclose_bv acc (by omega) (10 * acc.size + 1) (Nat.le_refl _)
    rw [List.drop_of_length_le (by omega), show filesL [] = [] from rfl, List.append_nil]
    refine ⟨c, ?_, c2⟩
    refine Ev.step (f := fun k => (chainmanref03_Close.f k acc).bind fun t => some (t, true)) (fun k => by rw [chainmanref19_Put.l0, if_neg (by omega)]) (Ev.bind ⟨10 * acc.size + 1, fun k hk => ?_⟩ (Ev.now _))
    obtain ⟨c', c3, c4⟩ := Cr.refclose_bv acc (by omega) k hk
    have hcc : c' = c := Cr.ba_ext (c4.trans c2.symm)
    show chainmanref03_Close.f k acc = some c
    rw [c3, hcc]
  | succ d ih =>
    intro i acc hi ha
    have hlt : i < l.length := by omega
    obtain ⟨h1, h2, h3, h4, h5, h6, h7⟩ := hf l[i] (List.getElem_mem hlt)
    obtain ⟨p1, e1, d1, s1⟩ := refmust (l[i].f0.size : Int) 1 1 rfl (by omega) (by omega) (by omega) (by rw [Int.toNat_natCast]; omega) (by omega)
    obtain ⟨p2, e2, d2, s2⟩ := refmust l[i].f1 1 1 rfl (by omega) (by omega) (by omega) (by omega) (by omega)
    obtain ⟨p3, e3, d3, s3⟩ := refmust l[i].f2 8 8 rfl (by omega) (by omega) (by omega) (by omega) (by omega)
    obtain ⟨p4, e4, d4, s4⟩ := refmust l[i].f3 4 4 rfl (by omega) (by omega) (by omega) (by omega) (by omega)
    have hw : wrap64 l[i].f3 = l[i].f3 := by unfold wrap64; omega
    have z1 : (acc ++ p1).size = acc.size + 1 := by rw [ByteArray.size_append, s1]
    have z2 : ((acc ++ p1) ++ l[i].f0).size = acc.size + 1 + l[i].f0.size := by rw [ByteArray.size_append, z1]
    have z3 : (((acc ++ p1) ++ l[i].f0) ++ p2).size = acc.size + 1 + l[i].f0.size + 1 := by rw [ByteArray.size_append, z2, s2]
    have z4 : ((((acc ++ p1) ++ l[i].f0) ++ p2) ++ p3).size = acc.size + 1 + l[i].f0.size + 1 + 8 := by rw [ByteArray.size_append, z3, s3]
    have z5 : (((((acc ++ p1) ++ l[i].f0) ++ p2) ++ p3) ++ p4).size = acc.size + 1 + l[i].f0.size + 1 + 8 + 4 := by rw [ByteArray.size_append, z4, s4]
    obtain ⟨c, hc, hc2⟩ := ih (i + 1) (((((acc ++ p1) ++ l[i].f0) ++ p2) ++ p3) ++ p4) (by omega) (by rw [z5]; omega)
    refine ⟨c, ?_, ?_⟩
    · refine Ev.step (fun k => by rw [chainmanref19_Put.l0, if_pos (by omega), if_pos (by omega), rd_at l i hlt, hw]) (Ev.bind e1 ?_)
      refine Ev.congr (fun k => by rw [if_pos (by omega), if_pos (by rw [z1]; omega)]) (Ev.bind e2 ?_)
      refine Ev.congr (fun k => by rw [if_pos (by rw [z2]; omega)]) (Ev.bind e3 ?_)
      refine Ev.congr (fun k => by rw [if_pos (by rw [z3]; omega)]) (Ev.bind e4 ?_)
      exact Ev.congr (fun k => by rw [if_pos (by rw [z4]; omega), wsucc i (by omega)]) hc
    · rw [hc2, List.drop_eq_getElem_cons hlt, filesL_cons]
      congr 1
      simp only [Cr.ba_append, d1, d2, d3, d4, Int.toNat_natCast, fileL, List.append_assoc]
theorem refput (a b : Int) (l : List S82) (hl : l.length ≤ 1000) (hs : ∀ x ∈ l, x.f0.size ≤ 1000 ∧ 0 ≤ x.f3 ∧ x.f3 ≤ 4294967295) :
    Ev (fun k => chainmanref19_Put.f k a b l) (if rightB a b l = true then (⟨(Cr.closeB (manL a b l)).toArray⟩, true) else (⟨#[]⟩, false)) := by
  unfold chainmanref19_Put.f
  refine Ev.bind (refright a b l hl (fun x hx => (hs x hx).1)) ?_
  by_cases hr : rightB a b l = true
  case neg => rw [if_neg hr]; exact Ev.congr (fun k => if_neg hr) (Ev.now _)
  rw [if_pos hr]
  refine Ev.congr (fun k => if_pos hr) ?_
  obtain ⟨⟨h1, h2, h3, h4, h5⟩, hf⟩ := right_of hr (fun x hx => (hs x hx).2)
  obtain ⟨p1, e1, d1, s1⟩ := refmust a 2 2 rfl (by omega) (by omega) (by omega) (by omega) (by omega)
  obtain ⟨p2, e2, d2, s2⟩ := refmust b 2 2 rfl (by omega) (by omega) (by omega) (by omega) (by omega)
  obtain ⟨p3, e3, d3, s3⟩ := refmust (l.length : Int) 1 1 rfl (by omega) (by omega) (by omega) (by rw [Int.toNat_natCast]; omega) (by omega)
  have z1 : ((⟨#[77, 65, 78, 49]⟩ : ByteArray) ++ p1).size = 6 := by rw [ByteArray.size_append, s1]; rfl
  have z2 : (((⟨#[77, 65, 78, 49]⟩ : ByteArray) ++ p1) ++ p2).size = 8 := by rw [ByteArray.size_append, z1, s2]
  have z3 : ((((⟨#[77, 65, 78, 49]⟩ : ByteArray) ++ p1) ++ p2) ++ p3).size = 9 := by rw [ByteArray.size_append, z2, s3]
  obtain ⟨c, hc, hc2⟩ := refput_loop a b l hf h5 l.length 0 ((((⟨#[77, 65, 78, 49]⟩ : ByteArray) ++ p1) ++ p2) ++ p3) (by omega) (by rw [z3]; omega)
  refine Ev.bind e1 (Ev.congr (fun k => by rw [if_pos (by omega)]) (Ev.bind e2 (Ev.congr (fun k => by rw [if_pos (by rw [z1]; omega)]) (Ev.bind e3 (Ev.congr (fun k => by rw [if_pos (by rw [z2]; omega)]) ?_)))))
  have hcc : c = ⟨(Cr.closeB (manL a b l)).toArray⟩ := Cr.ba_ext (by
    rw [hc2, List.drop_zero, Cr.ba_append, Cr.ba_append, Cr.ba_append, d1, d2, d3, Int.toNat_natCast]
    unfold manL magL
    simp only [List.append_assoc])
  rw [← hcc]
  exact hc
theorem reffind (a b : Int) (l : List S82) (s : ByteArray) (hl : l.length ≤ 1000) : ∃ r, manifest_Find.f a b l s = some r ∧ Ev (fun k => chainmanref19_Find.f k a b l s) r := by
  have go : ∀ (d i : Nat), i + d = l.length → (∀ j (hj : j < l.length), j < i → (l[j].f0.toList == s.toList) = false) → ∃ r, manifest_Find.f a b l s = some r ∧ Ev (fun k => chainmanref19_Find.l0 k s (i : Int) a b l) r := by
    intro d
    induction d with
    | zero =>
      intro i hi hn
      have hat : manifest_Find.at l s = none := List.findIdx?_eq_none_iff.mpr (fun x hx => by
        obtain ⟨j, hj, rfl⟩ := List.mem_iff_getElem.mp hx
        exact hn j hj (by omega))
      refine ⟨(⟨#[]⟩, 0, 0, 0, false), by unfold manifest_Find.f; rw [if_pos (by omega), hat], ?_⟩
      exact Ev.step (f := fun _ => some _) (fun k => by rw [chainmanref19_Find.l0, if_neg (by omega)]) (Ev.now _)
    | succ d ih =>
      intro i hi hn
      have hlt : i < l.length := by omega
      by_cases he : l[i].f0.toList = s.toList
      · have hat : manifest_Find.at l s = some i := List.findIdx?_eq_some_iff_getElem.mpr ⟨hlt, beq_iff_eq.mpr he, fun j hj => by rw [hn j (by omega) hj]; decide⟩
        refine ⟨(l[i].f0, l[i].f1, l[i].f2, l[i].f3, true), ?_, ?_⟩
        · unfold manifest_Find.f
          rw [if_pos (by omega), hat]
          show some ((l.getD i z82).f0, (l.getD i z82).f1, (l.getD i z82).f2, (l.getD i z82).f3, true) = _
          rw [show l.getD i z82 = l[i] by rw [List.getD_eq_getElem?_getD, List.getElem?_eq_getElem hlt]; rfl]
        · exact Ev.step (f := fun _ => some _) (fun k => by rw [chainmanref19_Find.l0, if_pos (by omega), if_pos (by omega), rd_at l i hlt, if_pos he]) (Ev.now _)
      · obtain ⟨r, h1, h2⟩ := ih (i + 1) (by omega) (fun j hj hji => by
          rcases Nat.lt_or_eq_of_le (Nat.le_of_lt_succ hji) with h | rfl
          · exact hn j hj h
          · exact beq_eq_false_iff_ne.mpr he)
        exact ⟨r, h1, Ev.step (fun k => by rw [chainmanref19_Find.l0, if_pos (by omega), if_pos (by omega), rd_at l i hlt, if_neg he, wsucc i (by omega)]) h2⟩
  exact go l.length 0 (by omega) (fun j _ h => absurd h (Nat.not_lt_zero _))
theorem refwith (a b : Int) (l : List S82) (x : S82) (hl : l.length ≤ 1000) : Ev (fun k => chainmanref19_With.f k a b l x.f0 x.f1 x.f2 x.f3) (a, b, manifest_With.put l x) := by
  have done : ∀ (d i : Nat) (acc : List S82), i + d = l.length → acc.length ≤ 1000 + i → Ev (fun k => chainmanref19_With.l0 k true (i : Int) a b l x.f0 x.f1 x.f2 x.f3 a b acc) (a, b, acc ++ l.drop i) := by
    intro d
    induction d with
    | zero =>
      intro i acc hi ha
      rw [List.drop_of_length_le (by omega), List.append_nil]
      exact Ev.step (f := fun _ => some _) (fun k => by rw [chainmanref19_With.l0, if_neg (by omega), if_pos rfl]) (Ev.now _)
    | succ d ih =>
      intro i acc hi ha
      have hlt : i < l.length := by omega
      have h1 := ih (i + 1) (acc ++ [l[i]]) (by omega) (by rw [List.length_append, List.length_singleton]; omega)
      rw [List.append_assoc, List.singleton_append, ← List.drop_eq_getElem_cons hlt] at h1
      refine Ev.step (fun k => ?_) h1
      rw [chainmanref19_With.l0, if_pos (by omega), if_pos (by omega), rd_at l i hlt, wsucc i (by omega)]
      split
      · rw [if_pos rfl, if_pos (by omega)]
      · rw [if_pos (by omega)]
  have go : ∀ (d i : Nat), i + d = l.length → (∀ j (hj : j < l.length), j < i → (l[j].f0.toList == x.f0.toList) = false) → Ev (fun k => chainmanref19_With.l0 k false (i : Int) a b l x.f0 x.f1 x.f2 x.f3 a b (l.take i)) (a, b, manifest_With.put l x) := by
    intro d
    induction d with
    | zero =>
      intro i hi hn
      have hat : manifest_Find.at l x.f0 = none := List.findIdx?_eq_none_iff.mpr (fun y hy => by
        obtain ⟨j, hj, rfl⟩ := List.mem_iff_getElem.mp hy
        exact hn j hj (by omega))
      have hp : manifest_With.put l x = l ++ [x] := by unfold manifest_With.put; rw [hat]
      rw [hp, List.take_of_length_le (by omega)]
      exact Ev.step (f := fun _ => some _) (fun k => by rw [chainmanref19_With.l0, if_neg (by omega), if_neg (by decide), if_pos (by omega)]) (Ev.now _)
    | succ d ih =>
      intro i hi hn
      have hlt : i < l.length := by omega
      have htl : (l.take i).length = i := by rw [List.length_take]; omega
      by_cases he : l[i].f0.toList = x.f0.toList
      · have hat : manifest_Find.at l x.f0 = some i := List.findIdx?_eq_some_iff_getElem.mpr ⟨hlt, beq_iff_eq.mpr he, fun j hj => by rw [hn j (by omega) hj]; decide⟩
        have hp : manifest_With.put l x = l.take i ++ [x] ++ l.drop (i + 1) := by
          unfold manifest_With.put
          rw [hat]
          show l.set i x = _
          rw [List.set_eq_take_append_cons_drop, if_pos hlt, List.append_assoc]; rfl
        rw [hp]
        exact Ev.step (fun k => by rw [chainmanref19_With.l0, if_pos (by omega), if_pos (by omega), rd_at l i hlt, if_pos he, if_neg (by decide), if_pos (by omega), wsucc i (by omega)]) (done d (i + 1) (l.take i ++ [x]) (by omega) (by rw [List.length_append, htl, List.length_singleton]; omega))
      · have h1 := ih (i + 1) (by omega) (fun j hj hji => by
          rcases Nat.lt_or_eq_of_le (Nat.le_of_lt_succ hji) with h | rfl
          · exact hn j hj h
          · exact beq_eq_false_iff_ne.mpr he)
        rw [List.take_succ_eq_append_getElem hlt] at h1
        exact Ev.step (fun k => by rw [chainmanref19_With.l0, if_pos (by omega), if_pos (by omega), rd_at l i hlt, if_neg he, if_pos (by omega), wsucc i (by omega)]) h1
  exact go l.length 0 (by omega) (fun j _ h => absurd h (Nat.not_lt_zero _))
/-- Whether manifests are the same. -/
def eqN (x y : S82) : Bool := !((x.f0).toList == (y.f0).toList) || (!(x.f1 == y.f1) || (!(x.f2 == y.f2) || (!(x.f3 == y.f3))))
theorem same_both (a b : Int) (l : List S82) (a' b' : Int) (l' : List S82) (hl : l.length ≤ 1000) (hl' : l'.length ≤ 1000) : ∃ r, Ev (fun k => manifest_Same.f k a b l a' b' l') r ∧ Ev (fun k => chainmanref19_Same.f k a b l a' b' l') r := by
  have no : ∀ c, c = true → Ev (fun k => chainmanref19_Same.j0 k c a b l a' b' l') false := fun c hc =>
    Ev.step (f := fun _ => some false) (fun k => by rw [chainmanref19_Same.j0, if_pos hc]) (Ev.now _)
  unfold manifest_Same.f chainmanref19_Same.f
  by_cases ha : a = a'
  case neg => exact ⟨false, Ev.congr (fun k => if_neg ha) (Ev.now _), Ev.congr (fun k => if_neg ha) (no true rfl)⟩
  by_cases hb : b = b'
  case neg => exact ⟨false, Ev.congr (fun k => by rw [if_pos ha, if_neg hb]) (Ev.now _), Ev.congr (fun k => by rw [if_pos ha, if_neg hb]) (no true rfl)⟩
  by_cases hln : (l.length : Int) = (l'.length : Int)
  case neg =>
    refine ⟨false, Ev.congr (f := fun k => (api_File_133.f k l l').bind fun t => some t) (fun k => by rw [if_pos ha, if_pos hb]) (Ev.bind (Ev.congr (f := fun _ => some false) (fun k => by unfold api_File_133.f; rw [if_neg hln]) (Ev.now _)) (Ev.now _)), Ev.congr (fun k => by rw [if_pos ha, if_pos hb]) (no _ (bne_iff_ne.mpr hln))⟩
  have go : ∀ (d i : Nat), i + d = l.length → ∃ r, Ev (fun k => api_File_133.l0 k l l' (l.length : Int) (i : Int)) r ∧ Ev (fun k => chainmanref19_Same.l0 k (i : Int) a b l a' b' l') r := by
    intro d
    induction d with
    | zero => intro i hi; exact ⟨true, Ev.step (f := fun _ => some true) (fun k => by rw [api_File_133.l0, if_neg (by omega)]) (Ev.now _), Ev.step (f := fun _ => some true) (fun k => by rw [chainmanref19_Same.l0, if_neg (by omega)]) (Ev.now _)⟩
    | succ d ih =>
      intro i hi
      cases he : eqN (rd_T82 l (i : Int)) (rd_T82 l' (i : Int)) with
      | true => exact ⟨false, Ev.step (f := fun _ => some false) (fun k => by rw [api_File_133.l0, if_pos (by omega), if_pos (by omega), if_pos (by omega), if_pos (by omega)]; exact if_pos he) (Ev.now _), Ev.step (f := fun _ => some false) (fun k => by rw [chainmanref19_Same.l0, if_pos (by omega), if_pos (by omega), if_pos (by omega)]; exact if_pos he) (Ev.now _)⟩
      | false =>
        obtain ⟨r, h1, h2⟩ := ih (i + 1) (by omega)
        exact ⟨r, Ev.step (fun k => by rw [api_File_133.l0, if_pos (by omega), if_pos (by omega), if_pos (by omega), if_pos (by omega), wsucc i (by omega)]; exact if_neg (Bool.eq_false_iff.mp he)) h1, Ev.step (fun k => by rw [chainmanref19_Same.l0, if_pos (by omega), if_pos (by omega), if_pos (by omega), wsucc i (by omega)]; exact if_neg (Bool.eq_false_iff.mp he)) h2⟩
  obtain ⟨r, h1, h2⟩ := go l.length 0 (by omega)
  refine ⟨r, Ev.congr (f := fun k => (api_File_133.f k l l').bind fun t => some t) (fun k => by rw [if_pos ha, if_pos hb]) (Ev.bind (Ev.congr (fun k => by unfold api_File_133.f; rw [if_pos hln]; rfl) h1) (Ev.now _)), Ev.congr (fun k => by rw [if_pos ha, if_pos hb]) (Ev.step (fun k => by rw [chainmanref19_Same.j0, if_neg (by rw [bne_eq_false_iff_eq.mpr hln]; decide)]; rfl) h2)⟩

/-! ### manifests: what any bytes say -/
theorem man_opens {l t : List UInt8} (h : Cr.openB l = some t) : Cr.closeB t = l := by
  unfold Cr.openB at h
  split at h
  · cases h
  · split at h
    case isFalse => cases h
    case isTrue hc => rw [← Option.some.inj h]; exact hc
theorem man_pre (h : ByteArray) : strings_HasPrefix.f h (⟨#[77, 65, 78, 49]⟩ : ByteArray) = some (decide (h.data.toList.take 4 = magL)) := by
  have e4 : ((⟨#[77, 65, 78, 49]⟩ : ByteArray).size : Int) = 4 := rfl
  unfold strings_HasPrefix.f stringslite_HasPrefix.f
  rw [e4]
  by_cases h4 : (h.size : Int) ≥ 4
  · rw [if_pos h4, if_pos (by omega), if_pos (by omega), Option.bind_some]
    refine congrArg some ?_
    rw [show ((4 : Int)).toNat = 4 from rfl, ByteArray.toList_eq, ByteArray.toList_eq, Cr.extract_take]
    exact Bool.eq_iff_iff.mpr (by rw [beq_iff_eq, decide_eq_true_iff]; exact Iff.rfl)
  · rw [if_neg h4, Option.bind_some]
    refine congrArg some (Eq.symm (decide_eq_false ?_))
    intro e
    have := congrArg List.length e
    rw [List.length_take, ← Cr.ba_size] at this
    simp [magL] at this
    omega
theorem take_tot (rest : ByteArray) (n : Nat) : (rest.size < n ∧ manifest_bytes_take.f rest (n : Int) = some (⟨#[]⟩, false, rest)) ∨ (n ≤ rest.size ∧ manifest_bytes_take.f rest (n : Int) = some (rest.extract 0 n, true, rest.extract n rest.size) ∧ rest.data.toList = (rest.extract 0 n).data.toList ++ (rest.extract n rest.size).data.toList ∧ (rest.extract 0 n).size = n ∧ (rest.extract n rest.size).size ≤ rest.size) := by
  unfold manifest_bytes_take.f
  by_cases h : rest.size < n
  · exact .inl ⟨h, if_pos (by omega)⟩
  · refine .inr ⟨by omega, by rw [if_neg (by omega), if_pos (by omega), Int.toNat_natCast], ?_, ?_, ?_⟩
    · rw [Oc.ex_data, Oc.ex_data, List.drop_zero, List.take_of_length_le (l := rest.data.toList) (i := rest.size) (by rw [Cr.ba_size]; exact Nat.le_refl _), List.take_append_drop]
    · rw [Oc.ex_size _ _ _ (by omega)]; omega
    · rw [Oc.ex_size _ _ _ (Nat.le_refl _)]; omega
theorem num_tot (rest : ByteArray) (hs : rest.size ≤ 1000000) (k : Nat) (K : Int) (hK : K = (k : Int)) (hk : 1 ≤ k) (hk8 : k ≤ 8) (bad : Bool) : ∃ (v : Nat) (r' : ByteArray) (bad' : Bool), manifest_cursor_number.f rest bad K = some ((v : Int), r', bad') ∧ r'.size ≤ rest.size ∧ v < 256 ^ k ∧ v < 9223372036854775808 ∧ (bad' = false → bad = false ∧ rest.data.toList = beU v k ++ r'.data.toList) := by
  subst hK
  unfold manifest_cursor_number.f
  rcases take_tot rest k with ⟨h1, h2⟩ | ⟨h1, h2, h3, h4, h5⟩
  · refine ⟨0, rest, true, ?_, Nat.le_refl _, Nat.pow_pos (by decide), by decide, fun h => by cases h⟩
    rw [h2, Option.bind_some]
    dsimp only
    have hg : octet_Get.f (⟨#[]⟩ : ByteArray) 0 (k : Int) = some (0, false) := by
      rw [Oc.get_bv _ 0 (k : Int) (by show 0 ≤ _; omega) (by decide)]
      unfold Oc.getB
      rw [if_pos (.inr (.inr (.inr (by show (0 : Int) - (k : Int) < 0; omega))))]
    rw [hg, Option.bind_some]
    show some (_, _, (bad || true) || true) = _
    rw [Bool.or_true]; rfl
  · have hlen : (rest.extract 0 k).data.toList.length = k := by rw [← Cr.ba_size]; exact h4
    have hg : octet_Get.f (rest.extract 0 k) 0 (k : Int) = some (if Oc.numN (rest.extract 0 k).data.toList < 9223372036854775808 then ((Oc.numN (rest.extract 0 k).data.toList : Int), true) else (0, false)) := by
      rw [Oc.get_bv _ 0 (k : Int) (by omega) (by decide)]
      unfold Oc.getB
      rw [if_neg (by omega), Int.toNat_natCast, show (0 : Int).toNat = 0 from rfl, List.drop_zero, List.take_of_length_le (by omega)]
    have hn := Oc.numN_lt (rest.extract 0 k).data.toList
    rw [hlen] at hn
    rw [h2, Option.bind_some]
    dsimp only
    rw [hg, Option.bind_some]
    by_cases hlt : Oc.numN (rest.extract 0 k).data.toList < 9223372036854775808
    · rw [if_pos hlt]
      refine ⟨Oc.numN (rest.extract 0 k).data.toList, _, bad, ?_, h5, hn, hlt, fun hb => ⟨hb, ?_⟩⟩
      · show some (_, _, (bad || !true) || !true) = _
        rw [Bool.not_true, Bool.or_false, Bool.or_false]
      · have hu := beU_num (rest.extract 0 k).data.toList
        rw [hlen] at hu
        rw [hu]; exact h3
    · rw [if_neg hlt]
      refine ⟨0, _, true, ?_, h5, Nat.pow_pos (by decide), by decide, fun h => by cases h⟩
      show some (_, _, (bad || !true) || true) = _
      rw [Bool.or_true]; rfl
theorem text_tot (rest : ByteArray) (n : Nat) (bad : Bool) : ∃ (v r' : ByteArray) (bad' : Bool), manifest_cursor_text.f rest bad (n : Int) = some (v, r', bad') ∧ r'.size ≤ rest.size ∧ v.size ≤ rest.size ∧ (bad' = false → bad = false ∧ rest.data.toList = v.data.toList ++ r'.data.toList ∧ v.size = n) := by
  unfold manifest_cursor_text.f
  rcases take_tot rest n with ⟨h1, h2⟩ | ⟨h1, h2, h3, h4, h5⟩
  · refine ⟨⟨#[]⟩, rest, true, ?_, Nat.le_refl _, Nat.zero_le _, fun h => by cases h⟩
    rw [h2, Option.bind_some]
    show some (_, _, bad || true) = _
    rw [Bool.or_true]
  · refine ⟨_, _, bad, ?_, h5, by rw [h4]; exact h1, fun hb => ⟨hb, h3, h4⟩⟩
    rw [h2, Option.bind_some]
    show some (_, _, bad || !true) = _
    rw [Bool.not_true, Bool.or_false]
def r32 (x : S82) : Prop := 0 ≤ x.f3 ∧ x.f3 ≤ 4294967295
theorem file_tot (rest : ByteArray) (hs : rest.size ≤ 1000000) (bad : Bool) : ∃ (x : S82) (r' : ByteArray) (bad' : Bool), manifest_cursor_file.f rest bad = some (x, r', bad') ∧ r'.size ≤ rest.size ∧ x.f0.size ≤ rest.size ∧ r32 x ∧ (bad' = false → bad = false ∧ rest.data.toList = fileL x ++ r'.data.toList) := by
  obtain ⟨n, q1, b1, e1, z1, v1, w1, t1⟩ := num_tot rest hs 1 1 rfl (by omega) (by omega) bad
  obtain ⟨v, q2, b2, e2, z2, y2, t2⟩ := text_tot q1 n b1
  obtain ⟨sz, q3, b3, e3, z3, v3, w3, t3⟩ := num_tot q2 (by omega) 1 1 rfl (by omega) (by omega) b2
  obtain ⟨ct, q4, b4, e4, z4, v4, w4, t4⟩ := num_tot q3 (by omega) 8 8 rfl (by omega) (by omega) b3
  obtain ⟨sm, q5, b5, e5, z5, v5, w5, t5⟩ := num_tot q4 (by omega) 4 4 rfl (by omega) (by omega) b4
  have g3 : IntKind.u32.wrap (sm : Int) = (sm : Int) := by
    simp only [IntKind.wrap, IntKind.bits, IntKind.signed, Bool.false_and]
    simp
    omega
  refine ⟨⟨v, (sz : Int), (ct : Int), (sm : Int)⟩, q5, b5, ?_, by omega, by show v.size ≤ _; omega, ⟨by show (0 : Int) ≤ (sm : Int); omega, by show (sm : Int) ≤ _; omega⟩, fun h => ?_⟩
  · unfold manifest_cursor_file.f
    rw [e1, Option.bind_some]
    dsimp only
    rw [e2, Option.bind_some]
    dsimp only
    rw [e3, Option.bind_some]
    dsimp only
    rw [e4, Option.bind_some]
    dsimp only
    rw [e5, Option.bind_some]
    dsimp only
    rw [g3]
  · obtain ⟨h4, d5⟩ := t5 h
    obtain ⟨h3, d4⟩ := t4 h4
    obtain ⟨h2, d3⟩ := t3 h3
    obtain ⟨h1, d2, hn⟩ := t2 h2
    obtain ⟨h0, d1⟩ := t1 h1
    refine ⟨h0, ?_⟩
    unfold fileL
    dsimp only
    rw [d1, d2, d3, d4, d5, hn, Int.toNat_natCast, Int.toNat_natCast, Int.toNat_natCast]
    simp only [List.append_assoc]
theorem loop_tot : ∀ (n : Nat) (rest : ByteArray) (bad : Bool) (acc : List S82), rest.size ≤ 1000000 → ∃ (l : List S82) (r' : ByteArray) (bad' : Bool), manifest_Get.loop n rest bad acc = some (acc ++ l, r', bad') ∧ r'.size ≤ rest.size ∧ l.length ≤ n ∧ (∀ x ∈ l, x.f0.size ≤ 1000000 ∧ r32 x) ∧ (bad' = false → bad = false ∧ l.length = n ∧ rest.data.toList = filesL l ++ r'.data.toList) := by
  intro n
  induction n with
  | zero => intro rest bad acc hs; exact ⟨[], rest, bad, by rw [List.append_nil]; rfl, Nat.le_refl _, Nat.le_refl _, by simp, fun h => ⟨h, rfl, by simp [filesL]⟩⟩
  | succ n ih =>
    intro rest bad acc hs
    cases bad with
    | true => exact ⟨[], rest, true, by rw [List.append_nil, manifest_Get.loop, if_pos rfl], Nat.le_refl _, by simp, by simp, fun h => by cases h⟩
    | false =>
      obtain ⟨x, q, b1, e1, z1, y1, w1, t1⟩ := file_tot rest hs false
      obtain ⟨l, r', b2, e2, z2, n2, f2, t2⟩ := ih q b1 (acc ++ [x]) (by omega)
      refine ⟨x :: l, r', b2, ?_, by omega, by simpa using n2, ?_, fun h => ?_⟩
      · rw [manifest_Get.loop, if_neg (by decide), e1, Option.bind_some]
        rw [e2, List.append_assoc]; rfl
      · intro y hy
        rcases List.mem_cons.mp hy with rfl | hy
        · exact ⟨by omega, w1⟩
        · exact f2 y hy
      · obtain ⟨hb, hn, hd⟩ := t2 h
        obtain ⟨_, hd1⟩ := t1 hb
        refine ⟨rfl, by rw [List.length_cons, hn], ?_⟩
        rw [hd1, hd, filesL_cons, List.append_assoc]
theorem get_tot (s : ByteArray) (hs : s.size ≤ 1000000) : (∃ a b l, manifest_Get.f s = some (a, b, l, true) ∧ rightB a b l = true ∧ (∀ x ∈ l, r32 x) ∧ s.data.toList = Cr.closeB (manL a b l)) ∨ manifest_Get.f s = some (0, 0, [], false) := by
  have ho := Cr.open_bv s (by omega)
  cases hop : Cr.openB s.data.toList with
  | none => exact .inr (man_shut s (by omega) hop)
  | some t =>
    rw [hop] at ho
    have hcl := man_opens hop
    obtain ⟨T, hT⟩ : ∃ T : ByteArray, (⟨t.toArray⟩ : ByteArray) = T := ⟨_, rfl⟩
    have hTd : T.data.toList = t := by rw [← hT]
    have hTs : T.size ≤ 1000000 := by
      have := congrArg List.length hcl
      rw [Cr.closeB_len, ← Cr.ba_size, ← hTd, ← Cr.ba_size] at this
      omega
    have ho' : crc_Open.f s = some (T, true) := by rw [ho, ← hT]
    have hgo : manifest_Get.f s = if decide (T.data.toList.take 4 = magL) = true then (if 4 ≤ T.size ∧ T.size ≤ 1000000 then manifest_Get.body (T.extract 4 T.size) else none) else some (0, 0, [], false) := by
      unfold manifest_Get.f
      rw [ho', Option.bind_some, if_pos rfl]
      dsimp only
      rw [man_pre, Option.bind_some]
      rfl
    by_cases hm : T.data.toList.take 4 = magL
    case neg => exact .inr (by rw [hgo, decide_eq_false hm, if_neg (by decide)])
    have h4 : 4 ≤ T.size := by
      have := congrArg List.length hm
      rw [List.length_take, ← Cr.ba_size] at this
      simp [magL] at this
      omega
    rw [decide_eq_true hm, if_pos rfl, if_pos ⟨h4, hTs⟩] at hgo
    have hq : (T.extract 4 T.size).size ≤ 1000000 := by rw [Oc.ex_size _ _ _ (Nat.le_refl _)]; omega
    have hqd : T.data.toList = magL ++ (T.extract 4 T.size).data.toList := by
      rw [Oc.ex_data, List.take_of_length_le (by rw [Cr.ba_size]; exact Nat.le_refl _), ← hm, List.take_append_drop]
    obtain ⟨a, q1, b1, e1, z1, v1, w1, t1⟩ := num_tot (T.extract 4 T.size) hq 2 2 rfl (by omega) (by omega) false
    obtain ⟨b, q2, b2, e2, z2, v2, w2, t2⟩ := num_tot q1 (by omega) 2 2 rfl (by omega) (by omega) b1
    obtain ⟨n, q3, b3, e3, z3, v3, w3, t3⟩ := num_tot q2 (by omega) 1 1 rfl (by omega) (by omega) b2
    obtain ⟨l, q4, b4, e4, z4, n4, f4, t4⟩ := loop_tot n q3 b3 [] (by omega)
    rw [List.nil_append] at e4
    have hbody : manifest_Get.f s = manifest_Get.ends (a : Int) (b : Int) (l, q4, b4) := by
      rw [hgo]
      unfold manifest_Get.body
      rw [e1, Option.bind_some]
      dsimp only
      rw [e2, Option.bind_some]
      dsimp only
      rw [e3, Option.bind_some]
      dsimp only
      rw [if_pos (by omega), Int.toNat_natCast, e4, Option.bind_some]
    unfold manifest_Get.ends at hbody
    dsimp only at hbody
    by_cases hb : b4 = true ∨ q4.toList ≠ []
    · rw [if_pos hb] at hbody; exact .inr hbody
    rw [if_neg hb, right_f _ _ l (by omega) (fun x hx => (f4 x hx).1), Option.bind_some] at hbody
    by_cases hr : rightB (a : Int) (b : Int) l = true
    case neg => rw [if_neg hr] at hbody; exact .inr hbody
    rw [if_pos hr] at hbody
    have hb4 : b4 = false := by
      cases b4 with
      | true => exact absurd (.inl rfl) hb
      | false => rfl
    have hq4 : q4.data.toList = [] := by
      rw [← ByteArray.toList_eq]
      exact Classical.byContradiction fun h => hb (.inr h)
    obtain ⟨h3, hn, d4⟩ := t4 hb4
    obtain ⟨h2, d3⟩ := t3 h3
    obtain ⟨h1, d2⟩ := t2 h2
    obtain ⟨_, d1⟩ := t1 h1
    refine .inl ⟨(a : Int), (b : Int), l, hbody, hr, fun x hx => (f4 x hx).2, ?_⟩
    rw [← hcl, ← hTd, hqd, d1, d2, d3, d4, hq4, List.append_nil]
    unfold manL
    rw [Int.toNat_natCast, Int.toNat_natCast, hn]
/-! ### the document's reading of any bytes -/
theorem refget_ev (s : ByteArray) (hs : s.size ≤ 1000000) (p : Int) (hp : 0 ≤ p ∧ p ≤ 9223372036854775807) (K : Int) : Ev (fun k => chainmanref02_Get.f k s p K) (Oc.getB s p K) :=
  ⟨20, fun k hk => Oc.refget_bv s p K hs (by simp [Lit.wf, IntKind.min, IntKind.max, IntKind.signed, IntKind.bits]; omega) k hk⟩
theorem getB_at (s : ByteArray) (p k v : Nat) (P K : Int) (hP : P = (p : Int)) (hK : K = (k : Int)) (R : List UInt8) (hd : s.data.toList.drop p = beU v k ++ R) (hp : p + k ≤ s.size) (hk : 1 ≤ k) (hk8 : k ≤ 8) (hv : v < 256 ^ k) (h63 : v < 9223372036854775808) : Oc.getB s P K = ((v : Int), true) := by
  subst hP hK
  unfold Oc.getB
  rw [if_neg (by omega), Int.toNat_natCast, Int.toNat_natCast, hd, List.take_left' (beU_len v k), numN_beU, Nat.mod_eq_of_lt hv, if_pos h63]
theorem getB_one (s : ByteArray) (p : Nat) : (s.size < p + 1 ∧ Oc.getB s (p : Int) 1 = (0, false)) ∨ (p + 1 ≤ s.size ∧ ∃ n : Nat, n < 256 ∧ Oc.getB s (p : Int) 1 = ((n : Int), true)) := by
  unfold Oc.getB
  by_cases h : s.size < p + 1
  · exact .inl ⟨h, if_pos (.inr (.inr (.inr (by omega))))⟩
  · refine .inr ⟨by omega, Oc.numN ((s.data.toList.drop p).take 1), ?_, ?_⟩
    · have := num4 ((s.data.toList.drop p).take 1) 1 (by rw [List.length_take]; omega)
      omega
    · have := num4 ((s.data.toList.drop p).take 1) 1 (by rw [List.length_take]; omega)
      rw [if_neg (by omega), Int.toNat_natCast, show ((1 : Int)).toNat = 1 from rfl, if_pos (by omega)]
theorem getB_any (s : ByteArray) (p K : Int) : ∃ (v : Nat) (o : Bool), Oc.getB s p K = ((v : Int), o) ∧ v < 9223372036854775808 := by
  unfold Oc.getB
  split
  · exact ⟨0, false, rfl, by decide⟩
  · split
    · exact ⟨_, true, rfl, by assumption⟩
    · exact ⟨0, false, rfl, by decide⟩
theorem wadd (x : Nat) (Y : Int) (y : Nat) (hY : Y = (y : Int)) (h : x + y ≤ 1000000) : wrap64 ((x : Int) + Y) = ((x + y : Nat) : Int) := by
  subst hY
  unfold wrap64; omega
theorem man_ws (p n : Nat) (h : p + n ≤ 100000) : wrap64 ((p : Int) + 1) = ((p + 1 : Nat) : Int) ∧ wrap64 (((p + 1 : Nat) : Int) + (n : Int)) = ((p + 1 + n : Nat) : Int) ∧ wrap64 (((p + 1 + n : Nat) : Int) + 13) = ((p + 1 + n + 13 : Nat) : Int) ∧ wrap64 (((p + 1 + n : Nat) : Int) + 1) = ((p + 1 + n + 1 : Nat) : Int) ∧ wrap64 (((p + 1 + n : Nat) : Int) + 9) = ((p + 1 + n + 9 : Nat) : Int) :=
  ⟨wadd p 1 1 rfl (by omega), wadd (p + 1) _ n rfl (by omega), wadd (p + 1 + n) 13 13 rfl (by omega), wadd (p + 1 + n) 1 1 rfl (by omega), wadd (p + 1 + n) 9 9 rfl (by omega)⟩
def zeroM : Int × Int × List S82 × Bool := (0, 0, [], false)
/-- Behind the files: what was read is put, and compared. -/
theorem ref_end (s : ByteArray) (a b : Int) (l : List S82) (at_ i : Int) (hl : l.length ≤ 1000) (hf : ∀ x ∈ l, x.f0.size ≤ 1000 ∧ r32 x) :
    ∃ r, Ev (fun k => chainmanref19_Get.j1 k s at_ i false a b l) r ∧ ((rightB a b l = true ∧ s.data.toList = Cr.closeB (manL a b l) ∧ r = (a, b, l, true)) ∨ (¬ (rightB a b l = true ∧ s.data.toList = Cr.closeB (manL a b l)) ∧ r = zeroM)) := by
  have hp := refput a b l hl (fun x hx => ⟨(hf x hx).1, (hf x hx).2⟩)
  by_cases hr : rightB a b l = true
  · rw [if_pos hr] at hp
    by_cases hd : s.data.toList = Cr.closeB (manL a b l)
    · refine ⟨_, Ev.step (fun k => by rw [chainmanref19_Get.j1, if_neg (by decide)]) (Ev.bind hp (Ev.congr (f := fun _ => some (a, b, l, true)) (fun k => ?_) (Ev.now _))), .inl ⟨hr, hd, rfl⟩⟩
      rw [if_pos rfl, if_pos (by rw [ByteArray.toList_eq, ByteArray.toList_eq, hd])]
    · refine ⟨_, Ev.step (fun k => by rw [chainmanref19_Get.j1, if_neg (by decide)]) (Ev.bind hp (Ev.congr (f := fun _ => some zeroM) (fun k => ?_) (Ev.now _))), .inr ⟨fun h => hd h.2, rfl⟩⟩
      rw [if_pos rfl, if_neg (by rw [ByteArray.toList_eq, ByteArray.toList_eq]; exact fun h => hd h.symm)]
      rfl
  · rw [if_neg hr] at hp
    refine ⟨_, Ev.step (fun k => by rw [chainmanref19_Get.j1, if_neg (by decide)]) (Ev.bind hp (Ev.congr (f := fun _ => some zeroM) (fun k => ?_) (Ev.now _))), .inr ⟨fun h => hr h.1, rfl⟩⟩
    rw [if_neg (by decide)]
    rfl
theorem ref_loop (s : ByteArray) (hs : 13 ≤ s.size ∧ s.size ≤ 700) (a b : Int) : ∀ (d i at_ : Nat) (l : List S82), i + d = 17 → l.length = i → at_ ≤ s.size → (∀ x ∈ l, x.f0.size ≤ 1000 ∧ r32 x) →
    ∃ r, Ev (fun k => chainmanref19_Get.l0 k s (at_ : Int) (i : Int) a b l) r ∧ (r = zeroM ∨ ∃ l', r = (a, b, l', true) ∧ rightB a b l' = true ∧ (∀ x ∈ l', r32 x) ∧ s.data.toList = Cr.closeB (manL a b l')) := by
  have hb8 := Oc.bt_nat s 8 (by rw [← Cr.ba_size]; omega)
  obtain ⟨c, hc⟩ : ∃ c, (s.data.toList[8]'(by rw [← Cr.ba_size]; omega)).toNat = c := ⟨_, rfl⟩
  have hc256 : c < 256 := by rw [← hc]; exact (s.data.toList[8]'(by rw [← Cr.ba_size]; omega)).toNat_lt
  rw [hc] at hb8
  have hw8 : wrap64 (bt s 8) = (c : Int) := by
    rw [show bt s 8 = (c : Int) from hb8]; unfold wrap64; omega
  intro d
  induction d with
  | zero =>
    intro i at_ l hi hl ha hf
    obtain ⟨r, h1, h2⟩ := ref_end s a b l (at_ : Int) (i : Int) (by omega) hf
    refine ⟨r, Ev.step (fun k => ?_) h1, ?_⟩
    · rw [chainmanref19_Get.l0, if_pos (by omega), hw8, decide_eq_false (show ¬ (i : Int) < 17 by omega)]
      exact ite_self _
    · rcases h2 with ⟨q1, q2, rfl⟩ | ⟨_, rfl⟩
      · exact .inr ⟨l, rfl, q1, fun x hx => (hf x hx).2, q2⟩
      · exact .inl rfl
  | succ d ih =>
    intro i at_ l hi hl ha hf
    by_cases hic : i < c
    case neg =>
      obtain ⟨r, h1, h2⟩ := ref_end s a b l (at_ : Int) (i : Int) (by omega) hf
      refine ⟨r, Ev.step (fun k => by rw [chainmanref19_Get.l0, if_pos (by omega), hw8, if_neg (by omega)]) h1, ?_⟩
      rcases h2 with ⟨q1, q2, rfl⟩ | ⟨_, rfl⟩
      · exact .inr ⟨l, rfl, q1, fun x hx => (hf x hx).2, q2⟩
      · exact .inl rfl
    have no : ∀ (n : Int) (q : Bool), q = true → Ev (fun k => chainmanref19_Get.j2 k s (at_ : Int) (i : Int) n q a b l) zeroM := fun n q hq =>
      Ev.step (f := fun _ => some zeroM) (fun k => by rw [chainmanref19_Get.j2, if_pos hq]; rfl) (Ev.now _)
    have e0 : ∀ k, chainmanref19_Get.l0 (k + 1) s (at_ : Int) (i : Int) a b l = chainmanref19_Get.j1 k s (at_ : Int) (i : Int) true a b l := fun k => by
      rw [chainmanref19_Get.l0, if_pos (by omega), hw8, if_pos (by omega), decide_eq_true (show (i : Int) < 17 by omega)]
    have hg := refget_ev s (by omega) (at_ : Int) (by omega) 1
    rcases getB_one s at_ with ⟨h1, h2⟩ | ⟨h1, n, hn, h2⟩
    · rw [h2] at hg
      refine ⟨zeroM, Ev.step e0 (Ev.step (fun k => by rw [chainmanref19_Get.j1, if_pos rfl]) (Ev.bind hg (Ev.congr (fun k => by rw [if_neg (by decide)]) (no 0 true rfl)))), .inl rfl⟩
    rw [h2] at hg
    have W := Aside0.mk (man_ws at_ n (by omega))
    have e1 : ∀ r, Ev (fun k => chainmanref19_Get.j2 k s (at_ : Int) (i : Int) (n : Int) (decide (((at_ + 1 + n + 13 : Nat) : Int) > (s.size : Int))) a b l) r → Ev (fun k => chainmanref19_Get.l0 k s (at_ : Int) (i : Int) a b l) r := fun r hr =>
      Ev.step e0 (Ev.step (fun k => by rw [chainmanref19_Get.j1, if_pos rfl]) (Ev.bind hg (Ev.congr (fun k => by rw [if_pos rfl]; dsimp only; rw [W.out.1, W.out.2.1, W.out.2.2.1]) hr)))
    by_cases hlong : ((at_ + 1 + n + 13 : Nat) : Int) > (s.size : Int)
    · exact ⟨zeroM, e1 _ (no _ _ (decide_eq_true hlong)), .inl rfl⟩
    rw [decide_eq_false hlong] at e1
    obtain ⟨sz, o1, g1, y1⟩ := getB_any s ((at_ + 1 + n : Nat) : Int) 1
    obtain ⟨ct, o2, g2, y2⟩ := getB_any s ((at_ + 1 + n + 1 : Nat) : Int) 8
    obtain ⟨sm, o3, g3, y3⟩ := getB_any s ((at_ + 1 + n + 9 : Nat) : Int) 4
    have f1 := refget_ev s (by omega) ((at_ + 1 + n : Nat) : Int) (by omega) 1
    have f2 := refget_ev s (by omega) ((at_ + 1 + n + 1 : Nat) : Int) (by omega) 8
    have f3 := refget_ev s (by omega) ((at_ + 1 + n + 9 : Nat) : Int) (by omega) 4
    rw [g1] at f1
    rw [g2] at f2
    rw [g3] at f3
    have e2 : ∀ r, Ev (fun k => if o2 = true then chainmanref19_Get.l0 k s ((at_ + 1 + n + 13 : Nat) : Int) ((i + 1 : Nat) : Int) a b (l ++ [⟨s.extract (at_ + 1) (at_ + 1 + n), (sz : Int), (ct : Int), (sm : Int) % 4294967296⟩]) else some zeroM) r → Ev (fun k => chainmanref19_Get.l0 k s (at_ : Int) (i : Int) a b l) r := fun r hr => by
      refine e1 r (Ev.step (fun k => by rw [chainmanref19_Get.j2, if_neg (by decide), W.out.1, W.out.2.1, if_pos (by omega), if_pos (by omega), if_pos (by omega), W.out.2.2.2.1, W.out.2.2.2.2, W.out.2.2.1]) (Ev.bind f1 (Ev.bind f2 (Ev.bind f3 (Ev.congr (fun k => ?_) hr)))))
      dsimp only
      rw [wsucc i (by omega), Int.toNat_natCast, Int.toNat_natCast]
      cases o2 with
      | false =>
        rw [if_neg (show ¬ (false = true) by decide), if_neg (show ¬ (false = true) by decide)]
        exact congrArg some (show ((0 : Int), (0 : Int), ([] : List S82), false) = zeroM from rfl)
      | true =>
        rw [if_pos (show true = true from rfl), if_pos (show l.length < 3518437208883 by omega), if_pos (show true = true from rfl)]
    cases o2 with
    | false => exact ⟨zeroM, e2 _ (Ev.congr (fun k => if_neg (by decide)) (Ev.now _)), .inl rfl⟩
    | true =>
      obtain ⟨r, h3, h4⟩ := ih (i + 1) (at_ + 1 + n + 13) (l ++ [⟨s.extract (at_ + 1) (at_ + 1 + n), (sz : Int), (ct : Int), (sm : Int) % 4294967296⟩]) (by omega) (by rw [List.length_append, hl]; rfl) (by omega) (by
        intro x hx
        rcases List.mem_append.mp hx with hx | hx
        · exact hf x hx
        · rw [List.mem_singleton] at hx
          subst hx
          refine ⟨?_, ?_, ?_⟩
          · show (s.extract (at_ + 1) (at_ + 1 + n)).size ≤ 1000
            rw [Oc.ex_size _ _ _ (by omega)]; omega
          · show (0 : Int) ≤ (sm : Int) % 4294967296
            omega
          · show (sm : Int) % 4294967296 ≤ 4294967295
            omega)
      exact ⟨r, e2 _ (Ev.congr (fun k => if_pos rfl) h3), h4⟩
theorem filesL_snoc (l : List S82) (x : S82) : filesL (l ++ [x]) = filesL l ++ fileL x := by simp [filesL]
theorem ref_back (s : ByteArray) (hs : s.size ≤ 700) (a b : Int) (l : List S82) (hr : rightB a b l = true) (hf : ∀ x ∈ l, r32 x) (hd : s.data.toList = Cr.closeB (manL a b l)) : Ev (fun k => chainmanref19_Get.f k s) (a, b, l, true) := by
  obtain ⟨⟨h1, h2, h3, h4, h5⟩, hok⟩ := right_of hr hf
  have hfl := filesL_len l hok
  have hss : s.size = 13 + (filesL l).length := by rw [Cr.ba_size, hd, Cr.closeB_len, manL_len]; omega
  obtain ⟨tl, htl⟩ : ∃ tl, Cr.tailB (Cr.moreB 0#32 (manL a b l)) = tl := ⟨_, rfl⟩
  have hdt : s.data.toList = manL a b l ++ tl := by rw [hd]; unfold Cr.closeB; rw [htl]
  have hd4 : s.data.toList.drop 4 = beU a.toNat 2 ++ (beU b.toNat 2 ++ (beU l.length 1 ++ (filesL l ++ tl))) := by
    rw [hdt]
    unfold manL
    rw [List.append_assoc, List.drop_left' (show magL.length = 4 from rfl)]
    simp only [List.append_assoc]
  have hd6 : s.data.toList.drop 6 = beU b.toNat 2 ++ (beU l.length 1 ++ (filesL l ++ tl)) := by
    rw [show 6 = 4 + 2 from rfl, ← List.drop_drop, hd4]; exact List.drop_left' (beU_len _ _)
  have hd8 : s.data.toList.drop 8 = beU l.length 1 ++ (filesL l ++ tl) := by
    rw [show 8 = 6 + 2 from rfl, ← List.drop_drop, hd6]; exact List.drop_left' (beU_len _ _)
  have hd9 : s.data.toList.drop 9 = filesL l ++ tl := by
    rw [show 9 = 8 + 1 from rfl, ← List.drop_drop, hd8]; exact List.drop_left' (beU_len _ _)
  have hb8 := Oc.bt_nat s 8 (by rw [← Cr.ba_size]; omega)
  have hc : (s.data.toList[8]'(by rw [← Cr.ba_size]; omega)).toNat = l.length := by
    have hlt : 8 < s.data.toList.length := by rw [← Cr.ba_size]; omega
    have e := hd8
    rw [List.drop_eq_getElem_cons hlt, beU_succ, show beU l.length 0 = [] from rfl] at e
    have e' := List.cons.inj e |>.1
    rw [e', UInt8.toNat_ofNat', Nat.pow_zero, Nat.div_one]
    omega
  have hw8 : wrap64 (bt s 8) = (l.length : Int) := by
    rw [show bt s 8 = ((s.data.toList[8]'(by rw [← Cr.ba_size]; omega)).toNat : Int) from hb8, hc]; unfold wrap64; omega
  have go : ∀ (d i : Nat), i + d = l.length → Ev (fun k => chainmanref19_Get.l0 k s ((9 + (filesL (l.take i)).length : Nat) : Int) (i : Int) a b (l.take i)) (a, b, l, true) := by
    intro d
    induction d with
    | zero =>
      intro i hi
      rw [List.take_of_length_le (by omega)]
      obtain ⟨r, q1, q2⟩ := ref_end s a b l ((9 + (filesL l).length : Nat) : Int) (i : Int) (by omega) (fun x hx => ⟨by have := (hok x hx).1; omega, hf x hx⟩)
      rcases q2 with ⟨_, _, rfl⟩ | ⟨h, _⟩
      · exact Ev.step (fun k => by rw [chainmanref19_Get.l0, if_pos (by omega), hw8, if_neg (by omega)]) q1
      · exact absurd ⟨hr, hd⟩ h
    | succ d ih =>
      intro i hi
      have hlt : i < l.length := by omega
      obtain ⟨k1, k2, k3, k4, k5, k6, k7⟩ := hok l[i] (List.getElem_mem hlt)
      have hih := ih (i + 1) (by omega)
      rw [List.take_succ_eq_append_getElem hlt, filesL_snoc, List.length_append, fileL_len] at hih
      have hsplit : filesL l = filesL (l.take i) ++ (fileL l[i] ++ filesL (l.drop (i + 1))) := by
        rw [← filesL_cons, ← List.drop_eq_getElem_cons hlt]
        unfold filesL
        rw [← List.flatten_append, ← List.map_append, List.take_append_drop]
      have hlen := congrArg List.length hsplit
      rw [List.length_append, List.length_append, fileL_len] at hlen
      obtain ⟨at_, hat⟩ : ∃ at_, 9 + (filesL (l.take i)).length = at_ := ⟨_, rfl⟩
      rw [hat]
      rw [show 9 + ((filesL (l.take i)).length + (14 + l[i].f0.size)) = at_ + 1 + l[i].f0.size + 13 by omega] at hih
      obtain ⟨R, hR⟩ : ∃ R, filesL (l.drop (i + 1)) ++ tl = R := ⟨_, rfl⟩
      have da : s.data.toList.drop at_ = beU l[i].f0.size 1 ++ (l[i].f0.data.toList ++ (beU l[i].f1.toNat 1 ++ (beU l[i].f2.toNat 8 ++ (beU l[i].f3.toNat 4 ++ R)))) := by
        rw [← hat, ← List.drop_drop, hd9, hsplit, List.append_assoc, List.drop_left' rfl, ← hR]
        unfold fileL
        simp only [List.append_assoc]
      have db : s.data.toList.drop (at_ + 1) = l[i].f0.data.toList ++ (beU l[i].f1.toNat 1 ++ (beU l[i].f2.toNat 8 ++ (beU l[i].f3.toNat 4 ++ R))) := by
        rw [← List.drop_drop, da]; exact List.drop_left' (beU_len _ _)
      have dc : s.data.toList.drop (at_ + 1 + l[i].f0.size) = beU l[i].f1.toNat 1 ++ (beU l[i].f2.toNat 8 ++ (beU l[i].f3.toNat 4 ++ R)) := by
        rw [← List.drop_drop, db]; exact List.drop_left' (Cr.ba_size _).symm
      have dd : s.data.toList.drop (at_ + 1 + l[i].f0.size + 1) = beU l[i].f2.toNat 8 ++ (beU l[i].f3.toNat 4 ++ R) := by
        rw [← List.drop_drop, dc]; exact List.drop_left' (beU_len _ _)
      have de : s.data.toList.drop (at_ + 1 + l[i].f0.size + 9) = beU l[i].f3.toNat 4 ++ R := by
        rw [show at_ + 1 + l[i].f0.size + 9 = (at_ + 1 + l[i].f0.size + 1) + 8 from rfl, ← List.drop_drop, dd]; exact List.drop_left' (beU_len _ _)
      have hg0 := refget_ev s (by omega) (at_ : Int) (by omega) 1
      rw [getB_at s at_ 1 _ (at_ : Int) 1 rfl rfl _ da (by omega) (by omega) (by omega) (by omega) (by omega)] at hg0
      have f1 := refget_ev s (by omega) ((at_ + 1 + l[i].f0.size : Nat) : Int) (by omega) 1
      rw [getB_at s _ 1 _ _ 1 rfl rfl _ dc (by omega) (by omega) (by omega) (by omega) (by omega)] at f1
      have f2 := refget_ev s (by omega) ((at_ + 1 + l[i].f0.size + 1 : Nat) : Int) (by omega) 8
      rw [getB_at s _ 8 _ _ 8 rfl rfl _ dd (by omega) (by omega) (by omega) (by omega) (by omega)] at f2
      have f3 := refget_ev s (by omega) ((at_ + 1 + l[i].f0.size + 9 : Nat) : Int) (by omega) 4
      rw [getB_at s _ 4 _ _ 4 rfl rfl _ de (by omega) (by omega) (by omega) (by omega) (by omega)] at f3
      have W := Aside0.mk (man_ws at_ l[i].f0.size (by omega))
      have hnm : s.extract (at_ + 1) (at_ + 1 + l[i].f0.size) = l[i].f0 := Cr.ba_ext (by
        rw [Oc.ex_data, ← List.take_drop, db]
        exact List.take_left' (by rw [← Cr.ba_size]))
      refine Ev.step (f := fun k => chainmanref19_Get.j1 k s (at_ : Int) (i : Int) true a b (l.take i)) (fun k => by rw [chainmanref19_Get.l0, if_pos (by omega), hw8, if_pos (by omega), decide_eq_true (show (i : Int) < 17 by omega)]) ?_
      refine Ev.step (fun k => by rw [chainmanref19_Get.j1, if_pos rfl]) (Ev.bind hg0 (Ev.congr (f := fun k => chainmanref19_Get.j2 k s (at_ : Int) (i : Int) (l[i].f0.size : Int) false a b (l.take i)) (fun k => by rw [if_pos rfl]; dsimp only; rw [W.out.1, W.out.2.1, W.out.2.2.1, decide_eq_false (show ¬ ((at_ + 1 + l[i].f0.size + 13 : Nat) : Int) > (s.size : Int) by omega)]) ?_))
      refine Ev.step (fun k => by rw [chainmanref19_Get.j2, if_neg (by decide), W.out.1, W.out.2.1, if_pos (by omega), if_pos (by omega), if_pos (by omega), W.out.2.2.2.1, W.out.2.2.2.2, W.out.2.2.1]) (Ev.bind f1 (Ev.bind f2 (Ev.bind f3 (Ev.congr (fun k => ?_) hih))))
      dsimp only
      rw [if_pos rfl, if_pos (by rw [List.length_take]; omega), wsucc i (by omega), Int.toNat_natCast, Int.toNat_natCast, hnm]
      have g1 : (l[i].f1.toNat : Int) = l[i].f1 := by omega
      have g2 : (l[i].f2.toNat : Int) = l[i].f2 := by omega
      have g3 : (l[i].f3.toNat : Int) % 4294967296 = l[i].f3 := by omega
      rw [g1, g2, g3]
  have r1 := refget_ev s (by omega) 4 (by omega) 2
  rw [getB_at s 4 2 _ 4 2 rfl rfl _ hd4 (by omega) (by omega) (by omega) (by omega) (by omega)] at r1
  have r2 := refget_ev s (by omega) 6 (by omega) 2
  rw [getB_at s 6 2 _ 6 2 rfl rfl _ hd6 (by omega) (by omega) (by omega) (by omega) (by omega)] at r2
  have g1 : (a.toNat : Int) = a := by omega
  have g2 : (b.toNat : Int) = b := by omega
  unfold chainmanref19_Get.f
  refine Ev.congr (fun k => if_neg (by omega)) (Ev.bind r1 (Ev.bind r2 ?_))
  dsimp only
  rw [g1, g2]
  exact go l.length 0 (by omega)
theorem get_same (s : ByteArray) (hs : s.size ≤ 700) : ∃ r, manifest_Get.f s = some r ∧ Ev (fun k => chainmanref19_Get.f k s) r ∧ r.2.2.1.length ≤ 1000 := by
  rcases get_tot s (by omega) with ⟨a, b, l, h1, h2, h3, h4⟩ | h0
  · exact ⟨_, h1, ref_back s hs a b l h2 h3 h4, by have := (right_of h2 h3).1.2.2.2.2; show l.length ≤ 1000; omega⟩
  · refine ⟨(0, 0, [], false), h0, ?_, Nat.zero_le _⟩
    unfold chainmanref19_Get.f
    by_cases h13 : (s.size : Int) < 13
    · exact Ev.congr (fun k => if_pos h13) (Ev.now _)
    obtain ⟨a, o1, g1, y1⟩ := getB_any s 4 2
    obtain ⟨b, o2, g2, y2⟩ := getB_any s 6 2
    have r1 := refget_ev s (by omega) 4 (by omega) 2
    have r2 := refget_ev s (by omega) 6 (by omega) 2
    rw [g1] at r1
    rw [g2] at r2
    obtain ⟨r, q1, q2⟩ := ref_loop s ⟨by omega, hs⟩ (a : Int) (b : Int) 17 0 9 [] rfl rfl (by omega) (by simp)
    have hz : r = zeroM := by
      rcases q2 with rfl | ⟨l', rfl, h5, h6, h7⟩
      · rfl
      · have := man_get (a : Int) (b : Int) l' h5 h6 s h7
        rw [h0] at this
        exact absurd this (by simp)
    rw [hz] at q1
    exact Ev.congr (fun k => if_neg h13) (Ev.bind r1 (Ev.bind r2 q1))

theorem ManifestTells : chainmanlaw19_ManifestTells.Pure := by
  intro a b l a' b' l' s f0 f1 f2 f3 wa wb wl wa' wb' wl' ws wf0 wf1 wf2 wf3
  have hl3 : ∀ x ∈ l, 0 ≤ x.f3 ∧ x.f3 ≤ 4294967295 := fun x hx => by
    have := (wl.2 x hx).2.2.2
    simpa [Lit.wf, IntKind.min, IntKind.max, IntKind.signed, IntKind.bits] using this
  refine Ev.rounds ?_
  have no : ∀ c : Bool, c = true → Ev (fun k => chainmanlaw19_ManifestTells.j0 k s c a b l a' b' l' f0 f1 f2 f3) true := fun c hc =>
    Ev.step (f := fun k => (chainmanlaw19_awake.f k).bind fun t => some t) (fun _ => by rw [chainmanlaw19_ManifestTells.j0, if_pos hc]) (Ev.bind man_awake (Ev.now _))
  obtain ⟨c, hc, hc'⟩ := man_few a b l
  refine Ev.bind hc ?_
  cases c with
  | false => exact Ev.congr (fun k => if_neg (by decide)) (no true rfl)
  | true =>
  obtain ⟨hl, hs⟩ := hc' rfl
  refine Ev.congr (fun k => if_pos rfl) ?_
  obtain ⟨c2, hc2, hc2'⟩ := man_few a' b' l'
  refine Ev.bind hc2 ?_
  cases c2 with
  | false => exact Ev.congr (fun k => if_neg (by decide)) (no true rfl)
  | true =>
  obtain ⟨hl2, hs2⟩ := hc2' rfl
  refine Ev.congr (fun k => if_pos rfl) ?_
  by_cases h700 : (s.size : Int) > 700
  · exact Ev.congr (fun k => if_pos h700) (no true rfl)
  refine Ev.congr (fun k => if_neg h700) ?_
  by_cases hn : (f0.size : Int) > 40
  · exact no _ (decide_eq_true hn)
  rw [decide_eq_false hn]
  clear no hc hc' hc2 hc2' wl wl' ws wf0 wf1 wf2 wf3 wa wb wa' wb'
  have hput := man_put a b l (by omega) (fun x hx => ⟨by have := hs x hx; omega, hl3 x hx⟩)
  have rput := refput a b l (by omega) (fun x hx => ⟨by have := hs x hx; omega, hl3 x hx⟩)
  generalize (if rightB a b l = true then ((⟨(Cr.closeB (manL a b l)).toArray⟩ : ByteArray), true) else ((⟨#[]⟩ : ByteArray), false)) = P at hput rput
  obtain ⟨G, hget, rget, hgl⟩ := get_same s (by omega)
  obtain ⟨F, hfind, rfind⟩ := reffind a b l f0 (by omega)
  have hright := right_f a b l (by omega) (fun x hx => by have := hs x hx; omega)
  have rright := refright a b l (by omega) (fun x hx => by have := hs x hx; omega)
  obtain ⟨m, hwith, _⟩ := find_with a b l ⟨f0, f1, f2, f3⟩ (by omega)
  have rwith := refwith a b l ⟨f0, f1, f2, f3⟩ (by omega)
  have hm : m = manifest_With.put l ⟨f0, f1, f2, f3⟩ := by
    unfold manifest_With.f at hwith
    rw [if_pos (by omega)] at hwith
    exact ((Prod.mk.inj (Prod.mk.inj (Option.some.inj hwith)).2).2).symm
  have hml : m.length ≤ 1000 := by
    rw [hm]
    unfold manifest_With.put
    split
    · rw [List.length_append, List.length_singleton]; omega
    · rw [List.length_set]; omega
  rw [← hm] at rwith
  dsimp only at hwith rwith
  obtain ⟨r, hsame, rsame⟩ := same_both a b l a' b' l' (by omega) (by omega)
  obtain ⟨r2, hself, rself⟩ := same_both a b l a b l (by omega) (by omega)
  have hr2 : r2 = true := by
    obtain ⟨K1, h1⟩ := rself
    obtain ⟨K2, h2⟩ := man_same a b l (by omega)
    have e1 := h1 (max K1 K2) (Nat.le_max_left _ _)
    have e2 := h2 (max K1 K2) (Nat.le_max_right _ _)
    dsimp only at e1 e2
    rw [e1] at e2
    exact Option.some.inj e2
  rw [hr2] at hself
  refine Ev.step (fun k => by rw [chainmanlaw19_ManifestTells.j0, if_neg (by decide), hput, Option.bind_some]) ?_
  refine Ev.bind rput ?_
  refine Ev.congr (fun k => by rw [hget, Option.bind_some]) ?_
  refine Ev.bind rget ?_
  refine Ev.congr (fun k => by rw [hfind, Option.bind_some]) ?_
  refine Ev.bind rfind ?_
  refine Ev.congr (fun k => by rw [hright, Option.bind_some]) ?_
  refine Ev.bind rright ?_
  refine Ev.congr (fun k => by rw [if_pos (beq_self_eq_true _), if_pos rfl, if_pos (beq_self_eq_true _)]) ?_
  refine Ev.bind (man_same G.1 G.2.1 G.2.2.1 hgl) ?_
  refine Ev.congr (fun k => by rw [if_pos rfl, if_pos (beq_self_eq_true _), if_pos (by simp), if_pos (beq_self_eq_true _), hwith, Option.bind_some]) ?_
  refine Ev.bind rwith ?_
  refine Ev.bind (man_same a b m hml) ?_
  refine Ev.congr (fun k => if_pos rfl) ?_
  refine Ev.bind hsame (Ev.bind rsame ?_)
  refine Ev.congr (fun k => if_pos (beq_self_eq_true _)) ?_
  refine Ev.bind hself ?_
  exact Ev.congr (fun k => if_pos rfl) (Ev.bind man_awake (Ev.now _))

end Go.Proofs.Ytmacpgkcokpgjaa.Pure
