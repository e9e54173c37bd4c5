/- What is closed is opened again; with some bits turned, all within 32 neighbouring ones, nothing is opened; for up to 400 bytes, any place and any bits (the law CrcTurned, over bytes and numbers alone). -/
import Derived.Test.YtpdgjegnbcillaaPCrcTurnedx1
import Derived.Lib.Strings
namespace Go.Proofs.Ytpdgjegnbcillaa.Pure
open Go.RowKit Go.Proofs.Ytpdgjegnbcillaa.PCrcTurned Go.Proofs.YtpdgjegnbcillaaW.PrintWords Go.Proofs.YtpdgjegnbcillaaW.PrintLast
set_option linter.unusedVariables false
set_option linter.unusedSimpArgs false
/-! ### numbers of 32 bits as bit vectors -/
theorem u32_of (x : Int) (h : (Lit.int .u32 x).wf = true) : ∃ b : BitVec 32, x = (b.toNat : Int) := by
  have h' : 0 ≤ x ∧ x ≤ 4294967295 := by simpa [Lit.wf, IntKind.min, IntKind.max, IntKind.signed, IntKind.bits] using h
  refine ⟨BitVec.ofInt 32 x, ?_⟩
  rw [BitVec.toNat_ofInt]
  omega
theorem u32_self (c : BitVec 32) : BitVec.ofInt (IntKind.bits .u32) (c.toNat : Int) = c := by
  rw [BitVec.ofInt_natCast]; exact BitVec.ofNat_toNat ..
theorem u32_xor (a b : BitVec 32) : Go.bits .xor .u32 (a.toNat : Int) (b.toNat : Int) = ((a ^^^ b).toNat : Int) := by
  show IntKind.u32.wrap ((BitVec.ofInt (IntKind.bits .u32) (a.toNat : Int) ^^^ BitVec.ofInt (IntKind.bits .u32) (b.toNat : Int)).toNat : Int) = _
  rw [u32_self, u32_self, IntKind.wrap_u32]
  show (((a ^^^ b : BitVec 32).toNat : Int) % 4294967296) = _
  have := (a ^^^ b).isLt
  omega
theorem u32_div (a : BitVec 32) (k : Nat) (c : Int) (hc : c = ((2 ^ k : Nat) : Int)) : (a.toNat : Int) / c = ((a >>> k).toNat : Int) := by
  subst hc
  rw [BitVec.toNat_ushiftRight, Nat.shiftRight_eq_div_pow]
  omega
theorem u32_and_mask (x : Int) (h0 : 0 ≤ x) (m : Nat) (hm : m ≤ 32) : Go.bits .and .u32 x ((2 ^ m - 1 : Nat) : Int) = x % 4294967296 % ((2 ^ m : Nat) : Int) := by
  show IntKind.u32.wrap ((BitVec.ofInt 32 x &&& BitVec.ofInt 32 ((2 ^ m - 1 : Nat) : Int)).toNat : Int) = _
  have hp : 2 ^ m ≤ 2 ^ 32 := Nat.pow_le_pow_right (by decide) hm
  have h1 : 0 < 2 ^ m := Nat.two_pow_pos m
  rw [BitVec.toNat_and, BitVec.ofInt_natCast, BitVec.toNat_ofNat, Nat.mod_eq_of_lt (show 2 ^ m - 1 < 2 ^ 32 by omega), Nat.and_two_pow_sub_one_eq_mod, BitVec.toNat_ofInt, IntKind.wrap_u32]
  have h2 : ((x % ((2 ^ 32 : Nat) : Int)).toNat : Int) = x % 4294967296 := by omega
  have h3 := Nat.mod_lt (x % ((2 ^ 32 : Nat) : Int)).toNat h1
  rw [Int.emod_eq_of_lt (by omega) (by omega), Int.natCast_emod, h2]

/-! ### the sum, as a function of bit vectors and bytes -/
def stepB (n : BitVec 32) : BitVec 32 := if n.getLsbD 0 then (n >>> 1) ^^^ 0xedb88320#32 else n >>> 1
def byteB (n : BitVec 32) (c : UInt8) : BitVec 32 := stepB (stepB (stepB (stepB (stepB (stepB (stepB (stepB (n ^^^ BitVec.ofNat 32 c.toNat))))))))
def feedB (n : BitVec 32) (l : List UInt8) : BitVec 32 := l.foldl byteB n
def moreB (n : BitVec 32) (l : List UInt8) : BitVec 32 := ~~~ feedB (~~~ n) l
theorem stepB_xor (a b : BitVec 32) : stepB (a ^^^ b) = stepB a ^^^ stepB b := by
  unfold stepB
  rw [BitVec.getLsbD_xor]
  apply BitVec.eq_of_getLsbD_eq
  intro i hi
  cases ha : a.getLsbD 0 <;> cases hb : b.getLsbD 0 <;> simp [BitVec.ushiftRight_xor_distrib] <;>
    cases a.getLsbD (1 + i) <;> cases b.getLsbD (1 + i) <;> cases (0xedb88320#32).getLsbD i <;> rfl
theorem stepB_zero : stepB 0#32 = 0#32 := by decide
theorem stepB_even (n : BitVec 32) (h : n.getLsbD 0 = false) : stepB n = n >>> 1 := by unfold stepB; rw [h]; rfl
/-- four steps of a number whose four low bits are 0 -/
theorem step4_high (n : BitVec 32) (h : ∀ i, i < 4 → n.getLsbD i = false) : stepB (stepB (stepB (stepB n))) = n >>> 4 := by
  have e (m : Nat) (hm : m < 4) : stepB (n >>> m) = n >>> (m + 1) := by
    rw [stepB_even _ (by rw [BitVec.getLsbD_ushiftRight]; exact h m hm), ← BitVec.shiftRight_add]
  have e0 : stepB n = n >>> 1 := stepB_even n (h 0 (by decide))
  rw [e0, e 1 (by decide), e 2 (by decide), e 3 (by decide)]
/-- what four steps make of a half byte -/
def nibT (i : Nat) : BitVec 32 := #[0x00000000#32, 0x1db71064#32, 0x3b6e20c8#32, 0x26d930ac#32, 0x76dc4190#32, 0x6b6b51f4#32, 0x4db26158#32, 0x5005713c#32, 0xedb88320#32, 0xf00f9344#32, 0xd6d6a3e8#32, 0xcb61b38c#32, 0x9b64c2b0#32, 0x86d3d2d4#32, 0xa00ae278#32, 0xbdbdf21c#32].getD i 0#32
theorem step4_low : ∀ i : Fin 16, stepB (stepB (stepB (stepB (BitVec.ofNat 32 i.val)))) = nibT i.val := by decide
theorem step4 (n : BitVec 32) : stepB (stepB (stepB (stepB n))) = (n >>> 4) ^^^ nibT (n.toNat % 16) := by
  have hs : n = (n &&& ~~~ 15#32) ^^^ (n &&& 15#32) := by
    apply BitVec.eq_of_getLsbD_eq
    intro i hi
    simp only [BitVec.getLsbD_xor, BitVec.getLsbD_and, BitVec.getLsbD_not]
    cases n.getLsbD i <;> cases (15#32).getLsbD i <;> simp [hi]
  have hl : n &&& 15#32 = BitVec.ofNat 32 (n.toNat % 16) := by
    apply BitVec.eq_of_toNat_eq
    rw [BitVec.toNat_and, BitVec.toNat_ofNat, BitVec.toNat_ofNat, show (15 % 2 ^ 32) = 2 ^ 4 - 1 from by decide, Nat.and_two_pow_sub_one_eq_mod]
    omega
  have hh : ∀ i, i < 4 → (n &&& ~~~ 15#32).getLsbD i = false := by
    intro i hi
    rw [BitVec.getLsbD_and, BitVec.getLsbD_not]
    have : (15#32).getLsbD i = true := by
      have h4 : i = 0 ∨ i = 1 ∨ i = 2 ∨ i = 3 := by omega
      rcases h4 with rfl | rfl | rfl | rfl <;> decide
    rw [this]; simp
  have hg : (n &&& ~~~ 15#32) >>> 4 = n >>> 4 := by
    apply BitVec.eq_of_getLsbD_eq
    intro i hi
    simp only [BitVec.getLsbD_ushiftRight, BitVec.getLsbD_and, BitVec.getLsbD_not]
    have : (15#32).getLsbD (4 + i) = false := by
      have e : (15#32) = BitVec.ofNat 32 15 := rfl
      rw [e, BitVec.getLsbD_ofNat]
      have : Nat.testBit 15 (4 + i) = false := Nat.testBit_lt_two_pow (Nat.lt_of_lt_of_le (by decide : 15 < 2 ^ 4) (Nat.pow_le_pow_right (by decide) (by omega)))
      rw [this]; simp
    rw [this]
    by_cases h : 4 + i < 32
    · simp [h]
    · rw [BitVec.getLsbD_of_ge _ _ (by omega)]; simp
  conv => lhs; rw [hs]
  simp only [stepB_xor]
  rw [step4_high _ hh, hg, hl]
  congr 1
  exact step4_low ⟨n.toNat % 16, Nat.mod_lt _ (by decide)⟩

/-! ### the program's sum is the function of bit vectors -/
theorem nib_tab : ∀ i : Fin 16, crc_nibble.tab.getD i.val 0 = ((nibT i.val).toNat : Int) := by decide
theorem half_bv (n : BitVec 32) : crc_More.half (n.toNat : Int) = ((stepB (stepB (stepB (stepB n)))).toNat : Int) := by
  unfold crc_More.half
  have h16 : ((n.toNat : Int) % 16).toNat = n.toNat % 16 := by omega
  rw [h16, nib_tab ⟨n.toNat % 16, Nat.mod_lt _ (by decide)⟩, u32_div n 4 16 rfl, u32_xor, step4]
theorem byte_bv (n : BitVec 32) (c : UInt8) : crc_More.byte (n.toNat : Int) (c.toNat : Int) = ((byteB n c).toNat : Int) := by
  have hc : (c.toNat : Int) = ((BitVec.ofNat 32 c.toNat).toNat : Int) := by
    have := c.toNat_lt
    rw [BitVec.toNat_ofNat]; omega
  unfold crc_More.byte byteB
  rw [hc, u32_xor, half_bv, half_bv]
theorem feed_bv (l : List UInt8) : ∀ n : BitVec 32, crc_More.feed (n.toNat : Int) l = ((feedB n l).toNat : Int) := by
  induction l with
  | nil => intro n; rfl
  | cons c l ih =>
    intro n
    show crc_More.feed (crc_More.byte (n.toNat : Int) (c.toNat : Int)) l = _
    rw [byte_bv, ih]; rfl
theorem not_bv (n : BitVec 32) : Go.bits .xor .u32 4294967295 (n.toNat : Int) = ((~~~ n).toNat : Int) := by
  rw [show (4294967295 : Int) = ((BitVec.allOnes 32).toNat : Int) from by decide, u32_xor, BitVec.allOnes_xor]
theorem not_bv' (n : BitVec 32) : Go.bits .xor .u32 (n.toNat : Int) 4294967295 = ((~~~ n).toNat : Int) := by
  rw [show (4294967295 : Int) = ((BitVec.allOnes 32).toNat : Int) from by decide, u32_xor, BitVec.xor_allOnes]
theorem more_bv (n : BitVec 32) (s : ByteArray) (hs : s.size ≤ 9223372036854775807) : crc_More.f (n.toNat : Int) s = some ((moreB n s.data.toList).toNat : Int) := by
  unfold crc_More.f moreB
  rw [if_pos hs, not_bv, feed_bv, not_bv]
theorem of_bv (s : ByteArray) (hs : s.size ≤ 9223372036854775807) : crc_Of.f s = some ((moreB 0#32 s.data.toList).toNat : Int) := by
  unfold crc_Of.f
  rw [show (0 : Int) = ((0#32).toNat : Int) from rfl, more_bv _ s hs, Option.bind_some]
def tailB (n : BitVec 32) : List UInt8 := [UInt8.ofNat (n.toNat % 256), UInt8.ofNat (n.toNat / 256 % 256), UInt8.ofNat (n.toNat / 65536 % 256), UInt8.ofNat (n.toNat / 16777216 % 256)]
def closeB (l : List UInt8) : List UInt8 := l ++ tailB (moreB 0#32 l)
theorem ba_ext {s t : ByteArray} (h : s.data.toList = t.data.toList) : s = t := by
  cases s; cases t
  simp only [ByteArray.mk.injEq]
  exact Array.toList_inj.1 h
theorem ba_append (s t : ByteArray) : (s ++ t).data.toList = s.data.toList ++ t.data.toList := by
  rw [ByteArray.data_append, Array.toList_append]
theorem ba_size (s : ByteArray) : s.size = s.data.toList.length := by simp
theorem tail_nums (n : BitVec 32) : (strOfNums (crc_Close.tail (n.toNat : Int))).data.toList = tailB n := by
  rw [strOfNums_data]
  unfold crc_Close.tail tailB
  simp only [List.map_cons, List.map_nil]
  rw [show ((n.toNat : Int) % 256).toNat = n.toNat % 256 from by omega, show ((n.toNat : Int) / 256 % 256).toNat = n.toNat / 256 % 256 from by omega, show ((n.toNat : Int) / 65536 % 256).toNat = n.toNat / 65536 % 256 from by omega, show ((n.toNat : Int) / 16777216 % 256).toNat = n.toNat / 16777216 % 256 from by omega]
theorem close_bv (s : ByteArray) (hs : s.size ≤ 1000000000) : ∃ c, crc_Close.f s = some c ∧ c.data.toList = closeB s.data.toList := by
  refine ⟨s ++ strOfNums (crc_Close.tail ((moreB 0#32 s.data.toList).toNat : Int)), ?_, ?_⟩
  · unfold crc_Close.f
    rw [of_bv s (by omega), Option.bind_some, if_pos (Int.natCast_nonneg _), if_pos (by omega)]
  · rw [ba_append, tail_nums]; rfl
theorem closeB_len (l : List UInt8) : (closeB l).length = l.length + 4 := by simp [closeB, tailB]
theorem extract_take (s : ByteArray) (m : Nat) : (s.extract 0 m).data.toList = s.data.toList.take m := by
  rw [Lib.extract_data]; simp
/-- what is opened -/
def openB (l : List UInt8) : Option (List UInt8) := if l.length < 4 then none else if closeB (l.take (l.length - 4)) = l then some (l.take (l.length - 4)) else none
theorem open_bv (s : ByteArray) (hs : s.size ≤ 1000000000) : crc_Open.f s = some (match openB s.data.toList with | some t => (⟨t.toArray⟩, true) | none => (⟨#[]⟩, false)) := by
  have hl := ba_size s
  unfold crc_Open.f openB
  by_cases h4 : s.size < 4
  · rw [if_pos (show wrap64 ((s.size : Int) - 4) < 0 by unfold wrap64; omega), if_pos (by omega)]
  · have hw : wrap64 ((s.size : Int) - 4) = ((s.size - 4 : Nat) : Int) := by unfold wrap64; omega
    rw [hw, if_neg (by omega), if_pos (by omega), if_pos (by omega), Int.toNat_natCast, if_neg (by omega)]
    obtain ⟨c, h1, h2⟩ := close_bv (s.extract 0 (s.size - 4)) (by rw [ByteArray.size_extract]; omega)
    rw [h1, Option.bind_some, ByteArray.toList_eq, ByteArray.toList_eq, h2, extract_take, hl]
    by_cases e : closeB (s.data.toList.take (s.data.toList.length - 4)) = s.data.toList
    · rw [if_pos e, if_pos e]
      congr 2
      exact ba_ext (by rw [extract_take])
    · rw [if_neg e, if_neg e]
theorem awake_k : chainmanlaw03_awake.f = some true := by decide +kernel

/-! ### turned bits: the sum as a function of the stream of bits -/
def bitB (b : Bool) : BitVec 32 := if b then 1#32 else 0#32
/-- the register behind p bits of a stream -/
def stB (n : BitVec 32) (f : Nat → Bool) : Nat → BitVec 32
  | 0 => n
  | p + 1 => stepB (stB n f p ^^^ bitB (f p))
def bitsOf (l : List UInt8) (p : Nat) : Bool := (l.getD (p / 8) 0).toNat.testBit (p % 8)
def iterB : Nat → BitVec 32 → BitVec 32
  | 0, n => n
  | d + 1, n => stepB (iterB d n)
theorem iterB_xor (d : Nat) (a b : BitVec 32) : iterB d (a ^^^ b) = iterB d a ^^^ iterB d b := by
  induction d with
  | zero => rfl
  | succ d ih => show stepB _ = _; rw [ih, stepB_xor]; rfl
theorem iterB_shift (d : Nat) (n : BitVec 32) (h : ∀ i, i < d → n.getLsbD i = false) : iterB d n = n >>> d := by
  induction d with
  | zero => simp [iterB]
  | succ d ih =>
    show stepB (iterB d n) = _
    rw [ih (fun i hi => h i (by omega)), stepB_even _ (by rw [BitVec.getLsbD_ushiftRight]; exact h d (by omega)), ← BitVec.shiftRight_add]
theorem bitB_bit (b : Bool) (j : Nat) : (bitB b).getLsbD j = (decide (j = 0) && b) := by
  unfold bitB
  cases b
  · simp
  · by_cases hj : j = 0
    · subst hj; decide
    · simp [hj]
theorem bit_shift (b : Bool) (d : Nat) (hd : d < 32) : iterB d (bitB b <<< d) = bitB b := by
  rw [iterB_shift d _ (fun i hi => by rw [BitVec.getLsbD_shiftLeft]; simp [hi])]
  apply BitVec.eq_of_getLsbD_eq
  intro i hi
  rw [BitVec.getLsbD_ushiftRight, BitVec.getLsbD_shiftLeft]
  by_cases h : d + i < 32
  · simp [h]
  · have h0 : ¬ i = 0 := by omega
    rw [bitB_bit, bitB_bit]
    simp [h, h0]
/-- d bits that are fed one by one, as one number (d at most 32) -/
def numB (f : Nat → Bool) : Nat → BitVec 32
  | 0 => 0#32
  | d + 1 => numB f d ^^^ (bitB (f d) <<< d)
theorem stB_num (n : BitVec 32) (f : Nat → Bool) (d : Nat) (hd : d ≤ 32) : stB n f d = iterB d (n ^^^ numB f d) := by
  induction d with
  | zero => simp [stB, iterB, numB]
  | succ d ih =>
    show stepB (stB n f d ^^^ bitB (f d)) = stepB (iterB d (n ^^^ (numB f d ^^^ (bitB (f d) <<< d))))
    rw [ih (by omega), ← BitVec.xor_assoc, iterB_xor d _ (bitB (f d) <<< d), bit_shift _ d (by omega)]
theorem numB_bit (f : Nat → Bool) (d : Nat) (hd : d ≤ 32) (i : Nat) : (numB f d).getLsbD i = (decide (i < d) && f i) := by
  induction d with
  | zero => simp [numB]
  | succ d ih =>
    show (numB f d ^^^ (bitB (f d) <<< d)).getLsbD i = _
    rw [BitVec.getLsbD_xor, ih (by omega), BitVec.getLsbD_shiftLeft]
    rw [bitB_bit]
    by_cases h1 : i < d
    · have h2 : i < d + 1 := by omega
      simp [h1, h2]
    · by_cases h3 : i = d
      · subst h3
        have : i < 32 := by omega
        simp [this]
      · have h4 : ¬ i < d + 1 := by omega
        have h5 : ¬ i - d = 0 := by omega
        simp [h1, h4, h5]
theorem stB_add (n : BitVec 32) (f : Nat → Bool) (p : Nat) : ∀ q, stB n f (p + q) = stB (stB n f p) (fun i => f (p + i)) q := by
  intro q
  induction q with
  | zero => rfl
  | succ q ih => show stepB (stB n f (p + q) ^^^ _) = stepB _; rw [ih]; rfl
theorem stB_congr (n : BitVec 32) (f g : Nat → Bool) : ∀ p, (∀ i, i < p → f i = g i) → stB n f p = stB n g p := by
  intro p
  induction p with
  | zero => intro _; rfl
  | succ p ih => intro h; show stepB _ = stepB _; rw [ih (fun i hi => h i (by omega)), h p (by omega)]
/-- a byte is its eight bits -/
theorem byte_bits (n : BitVec 32) (c : UInt8) : byteB n c = stB n (fun i => c.toNat.testBit i) 8 := by
  rw [stB_num _ _ 8 (by decide)]
  have hc := c.toNat_lt
  have : numB (fun i => c.toNat.testBit i) 8 = BitVec.ofNat 32 c.toNat := by
    apply BitVec.eq_of_getLsbD_eq
    intro i hi
    rw [numB_bit _ _ (by decide), BitVec.getLsbD_ofNat]
    by_cases h : i < 8
    · simp [h, hi]
    · have : c.toNat.testBit i = false := Nat.testBit_lt_two_pow (Nat.lt_of_lt_of_le hc (by rw [show (2 ^ 8 : Nat) = 2 ^ 8 from rfl]; exact Nat.pow_le_pow_right (by decide) (by omega)))
      simp [h, this]
  rw [this]; rfl
theorem feed_bits (l : List UInt8) : ∀ n, feedB n l = stB n (bitsOf l) (8 * l.length) := by
  induction l with
  | nil => intro n; rfl
  | cons c l ih =>
    intro n
    show feedB (byteB n c) l = _
    rw [ih, byte_bits, show 8 * (c :: l).length = 8 + 8 * l.length from by simp; omega, stB_add]
    have h1 : stB n (bitsOf (c :: l)) 8 = stB n (fun i => c.toNat.testBit i) 8 := stB_congr _ _ _ _ (fun i hi => by
      unfold bitsOf
      rw [Nat.div_eq_of_lt hi, Nat.mod_eq_of_lt hi]; rfl)
    rw [h1]
    refine stB_congr _ _ _ _ (fun i _ => ?_)
    unfold bitsOf
    rw [show (8 + i) / 8 = i / 8 + 1 from by omega, show (8 + i) % 8 = i % 8 from by omega]; rfl
/-- a step can be told again: what is 0 behind it was 0 -/
theorem stepB_inj (n : BitVec 32) (h : stepB n = 0#32) : n = 0#32 := by
  unfold stepB at h
  by_cases h0 : n.getLsbD 0 = true
  · rw [if_pos h0] at h
    have := congrArg (fun z : BitVec 32 => z.getLsbD 31) h
    simp only [BitVec.getLsbD_xor, BitVec.getLsbD_ushiftRight] at this
    rw [BitVec.getLsbD_of_ge n (1 + 31) (by omega)] at this
    rw [show (0xedb88320#32).getLsbD 31 = true from by decide, show (0#32).getLsbD 31 = false from by decide] at this
    cases this
  · rw [if_neg h0] at h
    apply BitVec.eq_of_getLsbD_eq
    intro i hi
    by_cases hi0 : i = 0
    · subst hi0; simp at h0; simp [h0]
    · have := congrArg (fun z : BitVec 32 => z.getLsbD (i - 1)) h
      simp only [BitVec.getLsbD_ushiftRight] at this
      rw [show 1 + (i - 1) = i from by omega] at this
      simpa using this
theorem iterB_inj (d : Nat) (n : BitVec 32) (h : iterB d n = 0#32) : n = 0#32 := by
  induction d with
  | zero => exact h
  | succ d ih => exact ih (stepB_inj _ h)
theorem iterB_zero (d : Nat) : iterB d 0#32 = 0#32 := by
  induction d with
  | zero => rfl
  | succ d ih => show stepB _ = _; rw [ih]; rfl
/-- two streams from one register: their difference goes by itself -/
theorem stB_diff (n : BitVec 32) (f g : Nat → Bool) : ∀ p, stB n f p ^^^ stB n g p = stB 0#32 (fun i => f i != g i) p := by
  intro p
  induction p with
  | zero => exact BitVec.xor_self
  | succ p ih =>
    show stepB _ ^^^ stepB _ = stepB _
    rw [← stepB_xor, ← ih]
    congr 1
    have hb : bitB (f p != g p) = bitB (f p) ^^^ bitB (g p) := by cases f p <;> cases g p <;> decide
    rw [hb]
    apply BitVec.eq_of_getLsbD_eq
    intro i _
    simp only [BitVec.getLsbD_xor]
    cases (stB n f p).getLsbD i <;> cases (stB n g p).getLsbD i <;> cases (bitB (f p)).getLsbD i <;> cases (bitB (g p)).getLsbD i <;> rfl
theorem stB_quiet (n : BitVec 32) (f : Nat → Bool) (d : Nat) (h : ∀ i, i < d → f i = false) : stB n f d = iterB d n := by
  induction d with
  | zero => rfl
  | succ d ih =>
    show stepB _ = stepB _
    rw [ih (fun i hi => h i (by omega)), h d (by omega)]
    simp [bitB]
/-- A BURST: what is turned lies within 32 bits from 'first' on; where something is, the registers part -/
theorem burst (e : Nat → Bool) (first total : Nat) (h : ∀ i, e i = true → first ≤ i ∧ i < first + 32) (hz : stB 0#32 e total = 0#32) : ∀ i, i < total → e i = false := by
  intro i hi
  by_cases hfi : first ≤ i
  · have hmt : ∃ m, m ≤ 32 ∧ first + m ≤ total ∧ (first + m = total ∨ m = 32) := by
      by_cases h32 : first + 32 ≤ total
      · exact ⟨32, by omega, h32, .inr rfl⟩
      · exact ⟨total - first, by omega, by omega, .inl (by omega)⟩
    obtain ⟨m, hm, hle, hor⟩ := hmt
    have h0 : stB 0#32 e first = 0#32 := by
      rw [stB_quiet _ _ _ (fun j hj => by
        cases he : e j with
        | false => rfl
        | true => have := (h j he).1; omega)]
      exact iterB_zero _
    have h1 : stB 0#32 e (first + m) = iterB m (numB (fun j => e (first + j)) m) := by
      rw [stB_add, h0, stB_num _ _ m hm]
      congr 1
      exact BitVec.zero_xor
    have h2 : stB 0#32 e total = iterB (total - (first + m)) (iterB m (numB (fun j => e (first + j)) m)) := by
      rw [← h1]
      conv => lhs; rw [show total = (first + m) + (total - (first + m)) from by omega]
      rw [stB_add]
      refine stB_quiet _ _ _ (fun j hj => ?_)
      cases he : e (first + m + j) with
      | false => rfl
      | true =>
        have := (h _ he).2
        rcases hor with hor | hor <;> omega
    rw [h2] at hz
    have h3 := iterB_inj _ _ (iterB_inj _ _ hz)
    by_cases hlt : i < first + m
    · have := congrArg (fun z : BitVec 32 => z.getLsbD (i - first)) h3
      simp only [numB_bit _ m hm] at this
      rw [show first + (i - first) = i from by omega] at this
      have hd : decide (i - first < m) = true := decide_eq_true (by omega)
      rw [hd] at this
      simpa using this
    · cases he : e i with
      | false => rfl
      | true =>
        have := (h _ he).2
        rcases hor with hor | hor <;> omega
  · cases he : e i with
    | false => rfl
    | true => have := (h i he).1; omega

/-! ### which bytes are closed ones -/
theorem tail_num (n : BitVec 32) : numB (bitsOf (tailB n)) 32 = n := by
  have hn := n.isLt
  apply BitVec.eq_of_getLsbD_eq
  intro i hi
  rw [numB_bit _ _ (by decide)]
  have hd : decide (i < 32) = true := decide_eq_true hi
  rw [hd, Bool.true_and]
  unfold bitsOf tailB BitVec.getLsbD
  have hb : ∀ x : Nat, (UInt8.ofNat (x % 256)).toNat = x % 256 := fun x => by rw [UInt8.toNat_ofNat']; omega
  have ht : ∀ (x j : Nat), j < 8 → (x % 256).testBit j = x.testBit j := fun x j hj => by
    rw [show (256 : Nat) = 2 ^ 8 from rfl, Nat.testBit_mod_two_pow]; simp [hj]
  have hs : ∀ (x s j : Nat), (x / 2 ^ s).testBit j = x.testBit (s + j) := fun x s j => by
    rw [← Nat.shiftRight_eq_div_pow, Nat.testBit_shiftRight]
  have h4 : i / 8 = 0 ∨ i / 8 = 1 ∨ i / 8 = 2 ∨ i / 8 = 3 := by omega
  rcases h4 with e | e | e | e <;> rw [e]
  · show (UInt8.ofNat (n.toNat % 256)).toNat.testBit (i % 8) = _
    rw [hb, ht _ _ (by omega), show i % 8 = i from by omega]
  · show (UInt8.ofNat (n.toNat / 256 % 256)).toNat.testBit (i % 8) = _
    rw [hb, ht _ _ (by omega), show (256 : Nat) = 2 ^ 8 from rfl, hs, show 8 + i % 8 = i from by omega]
  · show (UInt8.ofNat (n.toNat / 65536 % 256)).toNat.testBit (i % 8) = _
    rw [hb, ht _ _ (by omega), show (65536 : Nat) = 2 ^ 16 from rfl, hs, show 16 + i % 8 = i from by omega]
  · show (UInt8.ofNat (n.toNat / 16777216 % 256)).toNat.testBit (i % 8) = _
    rw [hb, ht _ _ (by omega), show (16777216 : Nat) = 2 ^ 24 from rfl, hs, show 24 + i % 8 = i from by omega]
theorem bits_inj (l m : List UInt8) (hl : l.length = m.length) (h : ∀ i, i < 8 * l.length → bitsOf l i = bitsOf m i) : l = m := by
  apply List.ext_getElem hl
  intro k h1 h2
  apply UInt8.toNat_inj.1
  apply Nat.eq_of_testBit_eq
  intro j
  by_cases hj : j < 8
  · have := h (8 * k + j) (by omega)
    unfold bitsOf at this
    rw [show (8 * k + j) / 8 = k from by omega, show (8 * k + j) % 8 = j from by omega, List.getD_eq_getElem?_getD, List.getD_eq_getElem?_getD, List.getElem?_eq_getElem h1, List.getElem?_eq_getElem h2] at this
    exact this
  · have e : ∀ c : UInt8, c.toNat.testBit j = false := fun c => Nat.testBit_lt_two_pow (Nat.lt_of_lt_of_le c.toNat_lt (Nat.pow_le_pow_right (by decide) (by omega)))
    rw [e, e]
theorem valid_iff (l : List UInt8) (h4 : 4 ≤ l.length) : closeB (l.take (l.length - 4)) = l ↔ feedB (BitVec.allOnes 32) l = iterB 32 (BitVec.allOnes 32) := by
  have hp : l = l.take (l.length - 4) ++ l.drop (l.length - 4) := (List.take_append_drop _ _).symm
  have htl : (l.drop (l.length - 4)).length = 4 := by rw [List.length_drop]; omega
  generalize l.take (l.length - 4) = p at hp ⊢
  generalize l.drop (l.length - 4) = t at hp htl
  have hf : feedB (BitVec.allOnes 32) l = iterB 32 (feedB (BitVec.allOnes 32) p ^^^ numB (bitsOf t) 32) := by
    rw [hp]
    show (p ++ t).foldl byteB _ = _
    rw [List.foldl_append]
    show feedB (feedB _ p) t = _
    rw [feed_bits t, htl, stB_num _ _ 32 (by decide)]
  have hm : moreB 0#32 p = ~~~ feedB (BitVec.allOnes 32) p := by
    unfold moreB
    rw [show ~~~ (0#32) = BitVec.allOnes 32 from by decide]
  rw [hf]
  generalize feedB (BitVec.allOnes 32) p = r at hm
  have hc : closeB p = l ↔ tailB (~~~ r) = t := by
    unfold closeB
    rw [hm]
    constructor
    · intro h; rw [hp] at h; exact List.append_cancel_left h
    · intro h; rw [h, ← hp]
  rw [hc]
  constructor
  · intro h
    rw [← h, tail_num]
    congr 1
    apply BitVec.eq_of_getLsbD_eq
    intro i hi
    rw [BitVec.getLsbD_xor, BitVec.getLsbD_not, BitVec.getLsbD_allOnes]
    cases r.getLsbD i <;> simp [hi]
  · intro h
    have h0 : iterB 32 ((r ^^^ numB (bitsOf t) 32) ^^^ BitVec.allOnes 32) = 0#32 := by rw [iterB_xor, h, BitVec.xor_self]
    have h1 := iterB_inj _ _ h0
    have h2 : numB (bitsOf t) 32 = ~~~ r := by
      apply BitVec.eq_of_getLsbD_eq
      intro i hi
      have := congrArg (fun z : BitVec 32 => z.getLsbD i) h1
      simp only [BitVec.getLsbD_xor, BitVec.getLsbD_allOnes, BitVec.getLsbD_zero] at this
      have hd : decide (i < 32) = true := decide_eq_true hi
      rw [hd] at this
      rw [BitVec.getLsbD_not, hd, Bool.true_and]
      revert this
      cases r.getLsbD i <;> cases (numB (bitsOf t) 32).getLsbD i <;> simp
    refine bits_inj _ _ (by rw [htl]; rfl) (fun i hi => ?_)
    have hi' : i < 32 := by simpa [tailB] using hi
    have e1 := congrArg (fun z : BitVec 32 => z.getLsbD i) (tail_num (~~~ r))
    have e2 := congrArg (fun z : BitVec 32 => z.getLsbD i) h2
    simp only [numB_bit _ 32 (Nat.le_refl _)] at e1 e2
    have hd : decide (i < 32) = true := decide_eq_true hi'
    rw [hd, Bool.true_and] at e1 e2
    rw [e1, e2]
theorem closeB_valid (l : List UInt8) : feedB (BitVec.allOnes 32) (closeB l) = iterB 32 (BitVec.allOnes 32) := by
  have hl := closeB_len l
  refine (valid_iff (closeB l) (by omega)).1 ?_
  have : (closeB l).take ((closeB l).length - 4) = l := by
    rw [hl, Nat.add_sub_cancel]
    unfold closeB
    exact List.take_left' rfl
  rw [this]
theorem openB_close (l : List UInt8) : openB (closeB l) = some l := by
  have hl := closeB_len l
  unfold openB
  have : (closeB l).take ((closeB l).length - 4) = l := by
    rw [hl, Nat.add_sub_cancel]
    unfold closeB
    exact List.take_left' rfl
  rw [if_neg (by omega), this, if_pos rfl]
/-- WHAT IS TURNED WITHIN 32 BITS IS NOT OPENED -/
theorem openB_turned (l x : List UInt8) (first : Nat) (hx : x.length = (closeB l).length) (h : ∀ i, bitsOf x i ≠ bitsOf (closeB l) i → first ≤ i ∧ i < first + 32) (hne : ∃ i, i < 8 * x.length ∧ bitsOf x i ≠ bitsOf (closeB l) i) : openB x = none := by
  have hl := closeB_len l
  unfold openB
  rw [if_neg (by omega), if_neg ?_]
  rw [valid_iff x (by omega)]
  intro hv
  have hd : stB 0#32 (fun i => bitsOf x i != bitsOf (closeB l) i) (8 * x.length) = 0#32 := by
    have hc := closeB_valid l
    rw [feed_bits] at hv hc
    rw [← stB_diff (BitVec.allOnes 32), hv, hx, hc, BitVec.xor_self]
  obtain ⟨i, hi, hn⟩ := hne
  have := burst _ first _ (fun j hj => h j (by simpa using hj)) hd i hi
  simp at this
  exact hn this
/-! ### the turning -/
def bitI (l : List Int) (p : Nat) : Bool := (l.getD (p / 8) 0).toNat.testBit (p % 8)
theorem u8_xor (a b : Nat) (ha : a < 256) (hb : b < 256) : Go.bits .xor .u8 (a : Int) (b : Int) = ((a ^^^ b : Nat) : Int) := by
  show IntKind.u8.wrap ((BitVec.ofInt 8 (a : Int) ^^^ BitVec.ofInt 8 (b : Int)).toNat : Int) = _
  rw [BitVec.ofInt_natCast, BitVec.ofInt_natCast, BitVec.toNat_xor, BitVec.toNat_ofNat, BitVec.toNat_ofNat, Nat.mod_eq_of_lt (by omega), Nat.mod_eq_of_lt (by omega), IntKind.wrap_u8]
  have := Nat.xor_lt_two_pow (n := 8) (x := a) (y := b) (by omega) (by omega)
  omega
theorem bit_and (b k : Nat) (hb : b < 4294967296) : (Go.bits .and .u32 ((b : Int) / 2 ^ k) 1 = 1) ↔ b.testBit k = true := by
  have h := u32_and_mask ((b : Int) / 2 ^ k) (Int.ediv_nonneg (Int.natCast_nonneg _) (Int.le_of_lt (Int.pow_pos (by decide)))) 1 (by decide)
  rw [show ((2 ^ 1 - 1 : Nat) : Int) = 1 from by decide, show ((2 ^ 1 : Nat) : Int) = 2 from by decide] at h
  have e : ((b : Int) / 2 ^ k) = ((b / 2 ^ k : Nat) : Int) := by rw [Int.natCast_ediv, Int.natCast_pow]; rfl
  have hle : b / 2 ^ k ≤ b := Nat.div_le_self _ _
  rw [h, e, Nat.testBit_eq_decide_div_mod_eq, decide_eq_true_iff]
  omega
theorem go_bits (len first b : Nat) (hb : b < 4294967296) (l : List Int) (hl : l.length = len) (hr : ∀ x ∈ l, 0 ≤ x ∧ x < 256) : ∀ k, k ≤ 32 →
    (chainmanref03_Turned.go len first b l k).1.length = len ∧ (∀ x ∈ (chainmanref03_Turned.go len first b l k).1, 0 ≤ x ∧ x < 256) ∧
    (∀ p, p < 8 * len → bitI (chainmanref03_Turned.go len first b l k).1 p = (bitI l p != (decide (first ≤ p) && (decide (p < first + k) && b.testBit (p - first))))) ∧
    ((chainmanref03_Turned.go len first b l k).2 = true ↔ ∃ j, j < k ∧ first + j < 8 * len ∧ b.testBit j = true) := by
  intro k
  induction k with
  | zero =>
    intro _
    refine ⟨hl, hr, fun p _ => ?_, ?_⟩
    · show bitI l p = _
      by_cases h : first ≤ p
      · have : decide (p < first + 0) = false := decide_eq_false (by omega)
        rw [this]; simp
      · simp [h]
    · show false = true ↔ _
      simp
  | succ k ih =>
    intro hk
    obtain ⟨i1, i2, i3, i4⟩ := ih (by omega)
    rw [chainmanref03_Turned.go]
    generalize chainmanref03_Turned.go len first b l k = g at i1 i2 i3 i4
    by_cases hc : (first : Int) + (k : Int) < 8 * (len : Int) ∧ Go.bits .and .u32 ((b : Int) / 2 ^ k) 1 = 1
    · rw [if_pos hc]
      obtain ⟨hin, hbit⟩ := hc
      rw [bit_and b k hb] at hbit
      have ej : (((first : Int) + (k : Int)) / 8).toNat = (first + k) / 8 := by omega
      have em : (((first : Int) + (k : Int)) % 8).toNat = (first + k) % 8 := by omega
      rw [ej, em]
      have hj : (first + k) / 8 < g.1.length := by omega
      have hm : (first + k) % 8 < 8 := by omega
      have hx := i2 _ (List.getElem_mem hj)
      have hgd : g.1.getD ((first + k) / 8) 0 = g.1[(first + k) / 8] := by rw [List.getD_eq_getElem?_getD, List.getElem?_eq_getElem hj]; rfl
      have hpw : ((2 : Int) ^ ((first + k) % 8)) % 256 = ((2 ^ ((first + k) % 8) : Nat) : Int) := by
        have : (first + k) % 8 = 0 ∨ (first + k) % 8 = 1 ∨ (first + k) % 8 = 2 ∨ (first + k) % 8 = 3 ∨ (first + k) % 8 = 4 ∨ (first + k) % 8 = 5 ∨ (first + k) % 8 = 6 ∨ (first + k) % 8 = 7 := by omega
        rcases this with e | e | e | e | e | e | e | e <;> rw [e] <;> decide
      have hp8 : 2 ^ ((first + k) % 8) < 256 := by
        have := Nat.pow_lt_pow_right (a := 2) (by decide) hm
        omega
      obtain ⟨x, hxe⟩ : ∃ x : Nat, g.1[(first + k) / 8] = (x : Int) := ⟨(g.1[(first + k) / 8]).toNat, by omega⟩
      have hx256 : x < 256 := by omega
      rw [hgd, hxe, hpw, u8_xor x _ hx256 hp8]
      have hxl := Nat.xor_lt_two_pow (n := 8) (x := x) (y := 2 ^ ((first + k) % 8)) (by omega) (by omega)
      refine ⟨by rw [List.length_set]; exact i1, ?_, ?_, ?_⟩
      · intro y hy
        rcases List.mem_or_eq_of_mem_set hy with h | h
        · exact i2 y h
        · subst h; omega
      · intro p hp
        have i3p := i3 p hp
        unfold bitI at i3p ⊢
        by_cases hpj : p / 8 = (first + k) / 8
        · rw [hpj] at i3p ⊢
          rw [List.getD_eq_getElem?_getD, List.getElem?_set_self (by omega)]
          rw [hgd, hxe, Int.toNat_natCast] at i3p
          show ((x ^^^ 2 ^ ((first + k) % 8) : Nat) : Int).toNat.testBit (p % 8) = _
          rw [Int.toNat_natCast, Nat.testBit_xor, i3p, Nat.testBit_two_pow]
          by_cases hpe : p = first + k
          · subst hpe
            have h1 : decide (first ≤ first + k) = true := decide_eq_true (by omega)
            have h2 : decide (first + k < first + (k + 1)) = true := decide_eq_true (by omega)
            have h3 : decide (first + k < first + k) = false := decide_eq_false (by omega)
            have h4 : decide ((first + k) % 8 = (first + k) % 8) = true := decide_eq_true rfl
            rw [h1, h2, h3, h4, show first + k - first = k from by omega, hbit]
            cases bitI l (first + k) <;> simp
          · have h4 : decide ((first + k) % 8 = p % 8) = false := decide_eq_false (by omega)
            have h5 : decide (p < first + (k + 1)) = decide (p < first + k) := by
              by_cases h : p < first + k
              · rw [decide_eq_true h, decide_eq_true (by omega)]
              · rw [decide_eq_false h, decide_eq_false (by omega)]
            rw [h4, h5, Bool.xor_false]
        · rw [List.getD_eq_getElem?_getD, List.getElem?_set_ne (by omega), ← List.getD_eq_getElem?_getD, i3p]
          have hpe : p ≠ first + k := fun e => hpj (by rw [e])
          have h5 : decide (p < first + (k + 1)) = decide (p < first + k) := by
            by_cases h : p < first + k
            · rw [decide_eq_true h, decide_eq_true (by omega)]
            · rw [decide_eq_false h, decide_eq_false (by omega)]
          rw [h5]
      · show true = true ↔ _
        refine ⟨fun _ => ⟨k, by omega, by omega, hbit⟩, fun _ => rfl⟩
    · rw [if_neg hc]
      refine ⟨i1, i2, fun p hp => ?_, ?_⟩
      · rw [i3 p hp]
        by_cases hpe : p = first + k
        · subst hpe
          have hbit : b.testBit k = false := by
            cases h : b.testBit k with
            | false => rfl
            | true => exact absurd ⟨by omega, (bit_and b k hb).2 h⟩ hc
          have h3 : decide (first + k < first + k) = false := decide_eq_false (by omega)
          rw [show first + k - first = k from by omega, hbit, h3]
          simp
        · have h5 : decide (p < first + (k + 1)) = decide (p < first + k) := by
            by_cases h : p < first + k
            · rw [decide_eq_true h, decide_eq_true (by omega)]
            · rw [decide_eq_false h, decide_eq_false (by omega)]
          rw [h5]
      · rw [i4]
        constructor
        · rintro ⟨j, h1, h2, h3⟩; exact ⟨j, by omega, h2, h3⟩
        · rintro ⟨j, h1, h2, h3⟩
          refine ⟨j, ?_, h2, h3⟩
          rcases Nat.lt_or_ge j k with h | h
          · exact h
          · have : j = k := by omega
            subst this
            exact absurd ⟨by omega, (bit_and b j hb).2 h3⟩ hc
theorem bits_str (l : List Int) (p : Nat) (hr : ∀ x ∈ l, 0 ≤ x ∧ x < 256) : bitsOf (strOfNums l).data.toList p = bitI l p := by
  rw [strOfNums_data]
  unfold bitsOf bitI
  congr 1
  rw [List.getD_eq_getElem?_getD, List.getD_eq_getElem?_getD, List.getElem?_map]
  cases h : l[p / 8]? with
  | none => rfl
  | some x =>
    have hx := hr x (List.mem_of_getElem? h)
    show (UInt8.ofNat x.toNat).toNat = x.toNat
    rw [UInt8.toNat_ofNat']; omega
theorem bits_bytes (s : ByteArray) (p : Nat) : bitI (bytesOf s) p = bitsOf s.data.toList p := by
  unfold bitsOf bitI bytesOf
  congr 1
  rw [List.getD_eq_getElem?_getD, List.getD_eq_getElem?_getD, List.getElem?_map]
  cases h : s.data.toList[p / 8]? with
  | none => rfl
  | some x => show ((x.toNat : Int)).toNat = x.toNat; rw [Int.toNat_natCast]
theorem bytes_range (s : ByteArray) : ∀ x ∈ bytesOf s, 0 ≤ x ∧ x < 256 := by
  intro x hx
  obtain ⟨c, _, rfl⟩ := List.mem_map.1 hx
  have := c.toNat_lt
  omega

theorem CrcTurned : chainmanlaw03_CrcTurned.Pure := by
  intro a0 a1 a2 hs h1 h2
  have h1' : 0 ≤ a1 ∧ a1 ≤ 65535 := by simpa [Lit.wf, IntKind.min, IntKind.max, IntKind.signed, IntKind.bits] using h1
  have h2' : 0 ≤ a2 ∧ a2 ≤ 4294967295 := by simpa [Lit.wf, IntKind.min, IntKind.max, IntKind.signed, IntKind.bits] using h2
  refine ⟨1, ?_⟩
  unfold chainmanlaw03_CrcTurned.f
  by_cases hl : (a0.size : Int) > 400
  · rw [if_pos hl, awake_k, Option.bind_some]
  · rw [if_neg hl]
    obtain ⟨c, c1, c2⟩ := close_bv a0 (by omega)
    have hcs : c.size = a0.size + 4 := by rw [ba_size, ba_size, c2, closeB_len]
    have ho := open_bv c (by omega)
    rw [c2, openB_close] at ho
    have hmk : (⟨a0.data.toList.toArray⟩ : ByteArray) = a0 := rfl
    rw [c1, Option.bind_some, ho, Option.bind_some, if_pos rfl, if_pos rfl]
    have hne : ((c.size : Int) != wrap64 ((a0.size : Int) + 4)) = false := by
      rw [hcs, show wrap64 ((a0.size : Int) + 4) = ((a0.size + 4 : Nat) : Int) from by unfold wrap64; omega]
      simp
    rw [hne, chainmanlaw03_CrcTurned.j0]
    rw [if_neg (by decide)]
    have e8 : wrap64 (8 * (c.size : Int)) = 8 * (c.size : Int) := by unfold wrap64; omega
    have e1 : wrap64 a1 = a1 := by unfold wrap64; omega
    rw [e8, e1, if_neg (by omega)]
    obtain ⟨f, hf⟩ : ∃ f : Nat, Int.tmod a1 (8 * (c.size : Int)) = (f : Int) := ⟨(a1 % (8 * (c.size : Int))).toNat, by
      rw [Int.tmod_eq_emod_of_nonneg h1'.1]; have := Int.emod_nonneg a1 (show (8 * (c.size : Int)) ≠ 0 by omega); omega⟩
    have hfl : f < 8 * c.size := by
      have := Int.emod_lt_of_pos a1 (show (0 : Int) < 8 * (c.size : Int) by omega)
      rw [Int.tmod_eq_emod_of_nonneg h1'.1] at hf; omega
    obtain ⟨b, rfl⟩ : ∃ b : Nat, a2 = (b : Int) := ⟨a2.toNat, by omega⟩
    rw [hf]
    unfold chainmanref03_Turned.f
    rw [if_pos ⟨by omega, by omega, by omega⟩, Option.bind_some]
    obtain ⟨g1, g2, g3, g4⟩ := go_bits c.size f b (by omega) (bytesOf c) (by unfold bytesOf; simp) (bytes_range c) 32 (by omega)
    generalize chainmanref03_Turned.go c.size f b (bytesOf c) 32 = g at g1 g2 g3 g4
    have hxs : (strOfNums g.1).size = c.size := by rw [strOfNums_size]; exact g1
    have ho2 := open_bv (strOfNums g.1) (by omega)
    have hxl : (strOfNums g.1).data.toList.length = (closeB a0.data.toList).length := by rw [← ba_size, hxs, ba_size, c2]
    have hdiff : ∀ i, i < 8 * c.size → (bitsOf (strOfNums g.1).data.toList i ≠ bitsOf (closeB a0.data.toList) i ↔ (f ≤ i ∧ i < f + 32 ∧ b.testBit (i - f) = true)) := by
      intro i hi
      rw [bits_str _ _ g2, g3 i hi, bits_bytes, c2]
      cases bitsOf (closeB a0.data.toList) i <;> simp [and_assoc]
    cases hg : g.2 with
    | true =>
      obtain ⟨j, j1, j2, j3⟩ := g4.1 hg
      have hno : openB (strOfNums g.1).data.toList = none := by
        refine openB_turned a0.data.toList _ f hxl (fun i hi => ?_) ⟨f + j, ?_, ?_⟩
        · by_cases hlt : i < 8 * c.size
          · have := (hdiff i hlt).1 hi; omega
          · exfalso
            apply hi
            have h0 : ∀ l : List UInt8, l.length = c.size → bitsOf l i = false := fun l hl => by
              unfold bitsOf
              rw [List.getD_eq_getElem?_getD, List.getElem?_eq_none (by omega)]
              simp
            rw [h0 _ (by rw [hxl, ← c2, ← ba_size]), h0 _ (by rw [← c2, ← ba_size])]
        · rw [hxl, ← c2, ← ba_size]; exact j2
        · exact (hdiff _ j2).2 ⟨by omega, by omega, by rw [show f + j - f = j from by omega]; exact j3⟩
      rw [hno] at ho2
      rw [ho2, Option.bind_some]
      rw [if_pos (by decide), if_pos rfl, if_pos (show (⟨#[]⟩ : ByteArray).toList = [] from ByteArray.toList_eq _), awake_k, Option.bind_some]
    | false =>
      have hsame : (strOfNums g.1).data.toList = closeB a0.data.toList := by
        refine bits_inj _ _ hxl (fun i hi => ?_)
        have hi' : i < 8 * c.size := by rw [hxl, ← c2, ← ba_size] at hi; exact hi
        cases Classical.em (bitsOf (strOfNums g.1).data.toList i = bitsOf (closeB a0.data.toList) i) with
        | inl h => exact h
        | inr h =>
          have h3 := (hdiff i hi').1 h
          have : g.2 = true := g4.2 ⟨i - f, by omega, by omega, h3.2.2⟩
          rw [hg] at this; cases this
      rw [hsame, openB_close] at ho2
      rw [ho2, Option.bind_some]
      rw [if_pos (show (true != false) = true from rfl), if_neg (by decide), if_pos rfl, awake_k, Option.bind_some]

end Go.Proofs.Ytpdgjegnbcillaa.Pure
