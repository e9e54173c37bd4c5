/- The sum of any bytes, behind any other sum, and the bytes closed and opened, are the ones of the document; for up to 400 bytes and any sum of 32 bits (the law CrcTells, over bytes and numbers alone). -/
import Derived.Test.YtpdgjegnbcillaaPCrcTellsx1
import Derived.Lib.Strings
namespace Go.Proofs.Ytpdgjegnbcillaa.Pure
open Go.RowKit Go.Proofs.Ytpdgjegnbcillaa.PCrcTells Go.Proofs.YtpdgjegnbcillaaW.PrintWords Go.Proofs.YtpdgjegnbcillaaW.PrintLast
set_option linter.unusedVariables false
set_option linter.unusedSimpArgs false
/-! ### numbers of 32 bits as bit vectors -/
theorem u32_of (x : Int) (h : (Lit.int .u32 x).wf = true) : ∃ b : BitVec 32, x = (b.toNat : Int) := by
  have h' : 0 ≤ x ∧ x ≤ 4294967295 := by simpa [Lit.wf, IntKind.min, IntKind.max, IntKind.signed, IntKind.bits] using h
  refine ⟨BitVec.ofInt 32 x, ?_⟩
  rw [BitVec.toNat_ofInt]
  omega
theorem u32_self (c : BitVec 32) : BitVec.ofInt (IntKind.bits .u32) (c.toNat : Int) = c := by
  rw [BitVec.ofInt_natCast]; exact BitVec.ofNat_toNat ..
theorem u32_xor (a b : BitVec 32) : Go.bits .xor .u32 (a.toNat : Int) (b.toNat : Int) = ((a ^^^ b).toNat : Int) := by
  show IntKind.u32.wrap ((BitVec.ofInt (IntKind.bits .u32) (a.toNat : Int) ^^^ BitVec.ofInt (IntKind.bits .u32) (b.toNat : Int)).toNat : Int) = _
  rw [u32_self, u32_self, IntKind.wrap_u32]
  show (((a ^^^ b : BitVec 32).toNat : Int) % 4294967296) = _
  have := (a ^^^ b).isLt
  omega
theorem u32_div (a : BitVec 32) (k : Nat) (c : Int) (hc : c = ((2 ^ k : Nat) : Int)) : (a.toNat : Int) / c = ((a >>> k).toNat : Int) := by
  subst hc
  rw [BitVec.toNat_ushiftRight, Nat.shiftRight_eq_div_pow]
  omega
theorem u32_and_mask (x : Int) (h0 : 0 ≤ x) (m : Nat) (hm : m ≤ 32) : Go.bits .and .u32 x ((2 ^ m - 1 : Nat) : Int) = x % 4294967296 % ((2 ^ m : Nat) : Int) := by
  show IntKind.u32.wrap ((BitVec.ofInt 32 x &&& BitVec.ofInt 32 ((2 ^ m - 1 : Nat) : Int)).toNat : Int) = _
  have hp : 2 ^ m ≤ 2 ^ 32 := Nat.pow_le_pow_right (by decide) hm
  have h1 : 0 < 2 ^ m := Nat.two_pow_pos m
  rw [BitVec.toNat_and, BitVec.ofInt_natCast, BitVec.toNat_ofNat, Nat.mod_eq_of_lt (show 2 ^ m - 1 < 2 ^ 32 by omega), Nat.and_two_pow_sub_one_eq_mod, BitVec.toNat_ofInt, IntKind.wrap_u32]
  have h2 : ((x % ((2 ^ 32 : Nat) : Int)).toNat : Int) = x % 4294967296 := by omega
  have h3 := Nat.mod_lt (x % ((2 ^ 32 : Nat) : Int)).toNat h1
  rw [Int.emod_eq_of_lt (by omega) (by omega), Int.natCast_emod, h2]

/-! ### the sum, as a function of bit vectors and bytes -/
def stepB (n : BitVec 32) : BitVec 32 := if n.getLsbD 0 then (n >>> 1) ^^^ 0xedb88320#32 else n >>> 1
def byteB (n : BitVec 32) (c : UInt8) : BitVec 32 := stepB (stepB (stepB (stepB (stepB (stepB (stepB (stepB (n ^^^ BitVec.ofNat 32 c.toNat))))))))
def feedB (n : BitVec 32) (l : List UInt8) : BitVec 32 := l.foldl byteB n
def moreB (n : BitVec 32) (l : List UInt8) : BitVec 32 := ~~~ feedB (~~~ n) l
theorem stepB_xor (a b : BitVec 32) : stepB (a ^^^ b) = stepB a ^^^ stepB b := by
  unfold stepB
  rw [BitVec.getLsbD_xor]
  apply BitVec.eq_of_getLsbD_eq
  intro i hi
  cases ha : a.getLsbD 0 <;> cases hb : b.getLsbD 0 <;> simp [BitVec.ushiftRight_xor_distrib] <;>
    cases a.getLsbD (1 + i) <;> cases b.getLsbD (1 + i) <;> cases (0xedb88320#32).getLsbD i <;> rfl
theorem stepB_zero : stepB 0#32 = 0#32 := by decide
theorem stepB_even (n : BitVec 32) (h : n.getLsbD 0 = false) : stepB n = n >>> 1 := by unfold stepB; rw [h]; rfl
/-- four steps of a number whose four low bits are 0 -/
theorem step4_high (n : BitVec 32) (h : ∀ i, i < 4 → n.getLsbD i = false) : stepB (stepB (stepB (stepB n))) = n >>> 4 := by
  have e (m : Nat) (hm : m < 4) : stepB (n >>> m) = n >>> (m + 1) := by
    rw [stepB_even _ (by rw [BitVec.getLsbD_ushiftRight]; exact h m hm), ← BitVec.shiftRight_add]
  have e0 : stepB n = n >>> 1 := stepB_even n (h 0 (by decide))
  rw [e0, e 1 (by decide), e 2 (by decide), e 3 (by decide)]
/-- what four steps make of a half byte -/
def nibT (i : Nat) : BitVec 32 := #[0x00000000#32, 0x1db71064#32, 0x3b6e20c8#32, 0x26d930ac#32, 0x76dc4190#32, 0x6b6b51f4#32, 0x4db26158#32, 0x5005713c#32, 0xedb88320#32, 0xf00f9344#32, 0xd6d6a3e8#32, 0xcb61b38c#32, 0x9b64c2b0#32, 0x86d3d2d4#32, 0xa00ae278#32, 0xbdbdf21c#32].getD i 0#32
theorem step4_low : ∀ i : Fin 16, stepB (stepB (stepB (stepB (BitVec.ofNat 32 i.val)))) = nibT i.val := by decide
theorem step4 (n : BitVec 32) : stepB (stepB (stepB (stepB n))) = (n >>> 4) ^^^ nibT (n.toNat % 16) := by
  have hs : n = (n &&& ~~~ 15#32) ^^^ (n &&& 15#32) := by
    apply BitVec.eq_of_getLsbD_eq
    intro i hi
    simp only [BitVec.getLsbD_xor, BitVec.getLsbD_and, BitVec.getLsbD_not]
    cases n.getLsbD i <;> cases (15#32).getLsbD i <;> simp [hi]
  have hl : n &&& 15#32 = BitVec.ofNat 32 (n.toNat % 16) := by
    apply BitVec.eq_of_toNat_eq
    rw [BitVec.toNat_and, BitVec.toNat_ofNat, BitVec.toNat_ofNat, show (15 % 2 ^ 32) = 2 ^ 4 - 1 from by decide, Nat.and_two_pow_sub_one_eq_mod]
    omega
  have hh : ∀ i, i < 4 → (n &&& ~~~ 15#32).getLsbD i = false := by
    intro i hi
    rw [BitVec.getLsbD_and, BitVec.getLsbD_not]
    have : (15#32).getLsbD i = true := by
      have h4 : i = 0 ∨ i = 1 ∨ i = 2 ∨ i = 3 := by omega
      rcases h4 with rfl | rfl | rfl | rfl <;> decide
    rw [this]; simp
  have hg : (n &&& ~~~ 15#32) >>> 4 = n >>> 4 := by
    apply BitVec.eq_of_getLsbD_eq
    intro i hi
    simp only [BitVec.getLsbD_ushiftRight, BitVec.getLsbD_and, BitVec.getLsbD_not]
    have : (15#32).getLsbD (4 + i) = false := by
      have e : (15#32) = BitVec.ofNat 32 15 := rfl
      rw [e, BitVec.getLsbD_ofNat]
      have : Nat.testBit 15 (4 + i) = false := Nat.testBit_lt_two_pow (Nat.lt_of_lt_of_le (by decide : 15 < 2 ^ 4) (Nat.pow_le_pow_right (by decide) (by omega)))
      rw [this]; simp
    rw [this]
    by_cases h : 4 + i < 32
    · simp [h]
    · rw [BitVec.getLsbD_of_ge _ _ (by omega)]; simp
  conv => lhs; rw [hs]
  simp only [stepB_xor]
  rw [step4_high _ hh, hg, hl]
  congr 1
  exact step4_low ⟨n.toNat % 16, Nat.mod_lt _ (by decide)⟩

/-! ### the program's sum is the function of bit vectors -/
theorem nib_tab : ∀ i : Fin 16, crc_nibble.tab.getD i.val 0 = ((nibT i.val).toNat : Int) := by decide
theorem half_bv (n : BitVec 32) : crc_More.half (n.toNat : Int) = ((stepB (stepB (stepB (stepB n)))).toNat : Int) := by
  unfold crc_More.half
  have h16 : ((n.toNat : Int) % 16).toNat = n.toNat % 16 := by omega
  rw [h16, nib_tab ⟨n.toNat % 16, Nat.mod_lt _ (by decide)⟩, u32_div n 4 16 rfl, u32_xor, step4]
theorem byte_bv (n : BitVec 32) (c : UInt8) : crc_More.byte (n.toNat : Int) (c.toNat : Int) = ((byteB n c).toNat : Int) := by
  have hc : (c.toNat : Int) = ((BitVec.ofNat 32 c.toNat).toNat : Int) := by
    have := c.toNat_lt
    rw [BitVec.toNat_ofNat]; omega
  unfold crc_More.byte byteB
  rw [hc, u32_xor, half_bv, half_bv]
theorem feed_bv (l : List UInt8) : ∀ n : BitVec 32, crc_More.feed (n.toNat : Int) l = ((feedB n l).toNat : Int) := by
  induction l with
  | nil => intro n; rfl
  | cons c l ih =>
    intro n
    show crc_More.feed (crc_More.byte (n.toNat : Int) (c.toNat : Int)) l = _
    rw [byte_bv, ih]; rfl
theorem not_bv (n : BitVec 32) : Go.bits .xor .u32 4294967295 (n.toNat : Int) = ((~~~ n).toNat : Int) := by
  rw [show (4294967295 : Int) = ((BitVec.allOnes 32).toNat : Int) from by decide, u32_xor, BitVec.allOnes_xor]
theorem not_bv' (n : BitVec 32) : Go.bits .xor .u32 (n.toNat : Int) 4294967295 = ((~~~ n).toNat : Int) := by
  rw [show (4294967295 : Int) = ((BitVec.allOnes 32).toNat : Int) from by decide, u32_xor, BitVec.xor_allOnes]
theorem more_bv (n : BitVec 32) (s : ByteArray) (hs : s.size ≤ 9223372036854775807) : crc_More.f (n.toNat : Int) s = some ((moreB n s.data.toList).toNat : Int) := by
  unfold crc_More.f moreB
  rw [if_pos hs, not_bv, feed_bv, not_bv]
theorem of_bv (s : ByteArray) (hs : s.size ≤ 9223372036854775807) : crc_Of.f s = some ((moreB 0#32 s.data.toList).toNat : Int) := by
  unfold crc_Of.f
  rw [show (0 : Int) = ((0#32).toNat : Int) from rfl, more_bv _ s hs, Option.bind_some]
def tailB (n : BitVec 32) : List UInt8 := [UInt8.ofNat (n.toNat % 256), UInt8.ofNat (n.toNat / 256 % 256), UInt8.ofNat (n.toNat / 65536 % 256), UInt8.ofNat (n.toNat / 16777216 % 256)]
def closeB (l : List UInt8) : List UInt8 := l ++ tailB (moreB 0#32 l)
theorem ba_ext {s t : ByteArray} (h : s.data.toList = t.data.toList) : s = t := by
  cases s; cases t
  simp only [ByteArray.mk.injEq]
  exact Array.toList_inj.1 h
theorem ba_append (s t : ByteArray) : (s ++ t).data.toList = s.data.toList ++ t.data.toList := by
  rw [ByteArray.data_append, Array.toList_append]
theorem ba_size (s : ByteArray) : s.size = s.data.toList.length := by simp
theorem tail_nums (n : BitVec 32) : (strOfNums (crc_Close.tail (n.toNat : Int))).data.toList = tailB n := by
  rw [strOfNums_data]
  unfold crc_Close.tail tailB
  simp only [List.map_cons, List.map_nil]
  rw [show ((n.toNat : Int) % 256).toNat = n.toNat % 256 from by omega, show ((n.toNat : Int) / 256 % 256).toNat = n.toNat / 256 % 256 from by omega, show ((n.toNat : Int) / 65536 % 256).toNat = n.toNat / 65536 % 256 from by omega, show ((n.toNat : Int) / 16777216 % 256).toNat = n.toNat / 16777216 % 256 from by omega]
theorem close_bv (s : ByteArray) (hs : s.size ≤ 1000000000) : ∃ c, crc_Close.f s = some c ∧ c.data.toList = closeB s.data.toList := by
  refine ⟨s ++ strOfNums (crc_Close.tail ((moreB 0#32 s.data.toList).toNat : Int)), ?_, ?_⟩
  · unfold crc_Close.f
    rw [of_bv s (by omega), Option.bind_some, if_pos (Int.natCast_nonneg _), if_pos (by omega)]
  · rw [ba_append, tail_nums]; rfl
theorem closeB_len (l : List UInt8) : (closeB l).length = l.length + 4 := by simp [closeB, tailB]
theorem extract_take (s : ByteArray) (m : Nat) : (s.extract 0 m).data.toList = s.data.toList.take m := by
  rw [Lib.extract_data]; simp
/-- what is opened -/
def openB (l : List UInt8) : Option (List UInt8) := if l.length < 4 then none else if closeB (l.take (l.length - 4)) = l then some (l.take (l.length - 4)) else none
theorem open_bv (s : ByteArray) (hs : s.size ≤ 1000000000) : crc_Open.f s = some (match openB s.data.toList with | some t => (⟨t.toArray⟩, true) | none => (⟨#[]⟩, false)) := by
  have hl := ba_size s
  unfold crc_Open.f openB
  by_cases h4 : s.size < 4
  · rw [if_pos (show wrap64 ((s.size : Int) - 4) < 0 by unfold wrap64; omega), if_pos (by omega)]
  · have hw : wrap64 ((s.size : Int) - 4) = ((s.size - 4 : Nat) : Int) := by unfold wrap64; omega
    rw [hw, if_neg (by omega), if_pos (by omega), if_pos (by omega), Int.toNat_natCast, if_neg (by omega)]
    obtain ⟨c, h1, h2⟩ := close_bv (s.extract 0 (s.size - 4)) (by rw [ByteArray.size_extract]; omega)
    rw [h1, Option.bind_some, ByteArray.toList_eq, ByteArray.toList_eq, h2, extract_take, hl]
    by_cases e : closeB (s.data.toList.take (s.data.toList.length - 4)) = s.data.toList
    · rw [if_pos e, if_pos e]
      congr 2
      exact ba_ext (by rw [extract_take])
    · rw [if_neg e, if_neg e]
theorem awake_k : chainmanlaw03_awake.f = some true := by decide +kernel

/-! ### the document's sum is the function of bit vectors -/
theorem stepI_bv (n : BitVec 32) : (if Int.tmod (n.toNat : Int) 2 = 1 then Go.bits .xor .u32 (Int.tdiv (n.toNat : Int) 2 % 4294967296) 3988292384 else Int.tdiv (n.toNat : Int) 2 % 4294967296) = ((stepB n).toNat : Int) := by
  have hn := n.isLt
  have hd : Int.tdiv (n.toNat : Int) 2 % (4294967296 : Int) = ((n >>> 1).toNat : Int) := by
    rw [Int.tdiv_eq_ediv_of_nonneg (Int.natCast_nonneg _), ← u32_div n 1 2 rfl]; omega
  have hm : (Int.tmod (n.toNat : Int) 2 = 1) ↔ n.getLsbD 0 = true := by
    rw [Int.tmod_eq_emod_of_nonneg (Int.natCast_nonneg _), BitVec.getLsbD, Nat.testBit_zero, decide_eq_true_iff]
    omega
  unfold stepB
  rw [hd]
  by_cases h : n.getLsbD 0 = true
  · rw [if_pos (hm.2 h), if_pos h, show (3988292384 : Int) = ((0xedb88320#32).toNat : Int) from by decide, u32_xor]
  · rw [if_neg (fun e => h (hm.1 e)), if_neg h]
def stepsB : Nat → BitVec 32 → BitVec 32
  | 0, n => n
  | d + 1, n => stepsB d (stepB n)
theorem l1_run (s : ByteArray) (i : Int) : ∀ (d k : Nat) (n : BitVec 32), d ≤ 8 → chainmanref03_More.l1 (k + d + 1) s (n.toNat : Int) i (8 - (d : Int)) = chainmanref03_More.l0 k s ((stepsB d n).toNat : Int) (wrap64 (i + 1)) := by
  intro d
  induction d with
  | zero =>
    intro k n _
    show chainmanref03_More.l1 (k + 1) s _ i _ = _
    rw [chainmanref03_More.l1]
    rw [if_neg (by omega)]; rfl
  | succ d ih =>
    intro k n hd
    show chainmanref03_More.l1 ((k + d + 1) + 1) s _ i _ = _
    rw [chainmanref03_More.l1]
    have hw : wrap64 (8 - ((d + 1 : Nat) : Int) + 1) = 8 - (d : Int) := by unfold wrap64; omega
    rw [if_pos (by omega), hw]
    have h := stepI_bv n
    by_cases ht : Int.tmod (n.toNat : Int) 2 = 1
    · rw [if_pos ht] at h
      rw [if_pos ht, h, ih k (stepB n) (by omega)]; rfl
    · rw [if_neg ht] at h
      rw [if_neg ht, h, ih k (stepB n) (by omega)]; rfl
theorem bt_nat (s : ByteArray) (i : Nat) (h : i < s.data.toList.length) : bt s (i : Int) = ((s.data.toList[i]).toNat : Int) := by
  have h' : i < s.size := by rw [ba_size]; exact h
  unfold bt
  rw [dif_pos (by simpa using h')]
  rfl
theorem l0_run (s : ByteArray) (hs : s.size ≤ 1000000000) : ∀ (r k i : Nat) (n : BitVec 32), i + r = s.size → 10 * r + 1 ≤ k → chainmanref03_More.l0 k s (n.toNat : Int) (i : Int) = some ((~~~ feedB n (s.data.toList.drop i)).toNat : Int) := by
  have hz := ba_size s
  intro r
  induction r with
  | zero =>
    intro k i n hi hk
    obtain ⟨k, rfl⟩ : ∃ m, k = m + 1 := ⟨k - 1, by omega⟩
    rw [chainmanref03_More.l0]
    rw [if_neg (by omega), not_bv', List.drop_of_length_le (by omega)]; rfl
  | succ r ih =>
    intro k i n hi hk
    obtain ⟨k, rfl⟩ : ∃ m, k = (m + 8 + 1) + 1 := ⟨k - 10, by omega⟩
    have hlt : i < s.data.toList.length := by omega
    rw [chainmanref03_More.l0]
    have hc : bt s (i : Int) % 4294967296 = ((BitVec.ofNat 32 (s.data.toList[i]).toNat).toNat : Int) := by
      have := (s.data.toList[i]).toNat_lt
      rw [bt_nat s i hlt, BitVec.toNat_ofNat]; omega
    rw [if_pos (by omega), if_pos (by omega), hc, u32_xor]
    have h8 := l1_run s (i : Int) 8 k (n ^^^ BitVec.ofNat 32 (s.data.toList[i]).toNat) (by omega)
    rw [show ((8 : Int) - ((8 : Nat) : Int)) = 0 from by omega] at h8
    rw [h8, show wrap64 ((i : Int) + 1) = ((i + 1 : Nat) : Int) from by unfold wrap64; omega, ih k (i + 1) _ (by omega) (by omega)]
    rw [List.drop_eq_getElem_cons hlt]
    rfl
theorem refmore_bv (n : BitVec 32) (s : ByteArray) (hs : s.size ≤ 1000000000) (k : Nat) (hk : 10 * s.size + 1 ≤ k) : chainmanref03_More.f k (n.toNat : Int) s = some ((moreB n s.data.toList).toNat : Int) := by
  unfold chainmanref03_More.f
  rw [not_bv', show (0 : Int) = ((0 : Nat) : Int) from rfl, l0_run s hs s.size k 0 _ (by omega) hk]; rfl
theorem refof_bv (s : ByteArray) (hs : s.size ≤ 1000000000) (k : Nat) (hk : 10 * s.size + 1 ≤ k) : chainmanref03_Of.f k s = some ((moreB 0#32 s.data.toList).toNat : Int) := by
  unfold chainmanref03_Of.f
  rw [show (0 : Int) = ((0#32).toNat : Int) from rfl, refmore_bv _ s hs k hk, Option.bind_some]
theorem and255 (x : Int) (h0 : 0 ≤ x) (h1 : x < 4294967296) : Go.bits .and .u32 x 255 % 256 = x % 256 := by
  have h := u32_and_mask x h0 8 (by decide)
  rw [show ((2 ^ 8 - 1 : Nat) : Int) = 255 from by decide, show ((2 ^ 8 : Nat) : Int) = 256 from by decide] at h
  rw [h]; omega
theorem refclose_bv (s : ByteArray) (hs : s.size ≤ 100000000) (k : Nat) (hk : 10 * s.size + 1 ≤ k) : ∃ c, chainmanref03_Close.f k s = some c ∧ c.data.toList = closeB s.data.toList := by
  have hb := (moreB 0#32 s.data.toList).isLt
  refine ⟨s ++ strOfNums (crc_Close.tail ((moreB 0#32 s.data.toList).toNat : Int)), ?_, ?_⟩
  · unfold chainmanref03_Close.f
    rw [refof_bv s (by omega) k hk, Option.bind_some, Option.bind_some]
    have ht : [(Go.bits .and .u32 ((moreB 0#32 s.data.toList).toNat : Int) 255) % 256, (Go.bits .and .u32 (((moreB 0#32 s.data.toList).toNat : Int) / 256) 255) % 256, (Go.bits .and .u32 (((moreB 0#32 s.data.toList).toNat : Int) / 65536) 255) % 256, (((moreB 0#32 s.data.toList).toNat : Int) / 16777216) % 256] = crc_Close.tail ((moreB 0#32 s.data.toList).toNat : Int) := by
      unfold crc_Close.tail
      rw [and255 _ (by omega) (by omega), and255 _ (by omega) (by omega), and255 _ (by omega) (by omega)]
    rw [ht, if_pos ?_]
    rw [strOfNums_size]
    show s.size + 4 ≤ _
    omega
  · rw [ba_append, tail_nums]; rfl
theorem refopen_bv (s : ByteArray) (hs : s.size ≤ 100000000) (k : Nat) (hk : 10 * s.size + 1 ≤ k) : chainmanref03_Open.f k s = some (match openB s.data.toList with | some t => (⟨t.toArray⟩, true) | none => (⟨#[]⟩, false)) := by
  have hl := ba_size s
  unfold chainmanref03_Open.f openB
  by_cases h4 : s.size < 4
  · rw [if_pos (by omega), if_pos (by omega)]
  · have hw : wrap64 ((s.size : Int) - 4) = ((s.size - 4 : Nat) : Int) := by unfold wrap64; omega
    rw [if_neg (by omega), hw, if_pos (by omega), if_pos (by omega), Int.toNat_natCast, if_neg (by omega)]
    obtain ⟨c, h1, h2⟩ := refclose_bv (s.extract 0 (s.size - 4)) (by rw [ByteArray.size_extract]; omega) k (by rw [ByteArray.size_extract]; omega)
    rw [h1, Option.bind_some, ByteArray.toList_eq, ByteArray.toList_eq, h2, extract_take, hl]
    by_cases e : closeB (s.data.toList.take (s.data.toList.length - 4)) = s.data.toList
    · rw [if_pos e, if_pos e]
      congr 2
      exact ba_ext (by rw [extract_take])
    · rw [if_neg e, if_neg e]

theorem CrcTells : chainmanlaw03_CrcTells.Pure := by
  intro a0 a1 hs h1
  obtain ⟨n, rfl⟩ := u32_of a1 h1
  refine ⟨4001, ?_⟩
  unfold chainmanlaw03_CrcTells.f
  by_cases hl : (a0.size : Int) > 400
  · rw [if_pos hl, awake_k, Option.bind_some]
  · obtain ⟨c, c1, c2⟩ := close_bv a0 (by omega)
    obtain ⟨d, d1, d2⟩ := refclose_bv a0 (by omega) 4001 (by omega)
    rw [if_neg hl, open_bv a0 (by omega), Option.bind_some, refopen_bv a0 (by omega) 4001 (by omega), Option.bind_some, of_bv a0 (by omega), Option.bind_some, refof_bv a0 (by omega) 4001 (by omega), Option.bind_some, if_pos rfl, more_bv _ a0 (by omega), Option.bind_some, refmore_bv _ a0 (by omega) 4001 (by omega), Option.bind_some, if_pos rfl, c1, Option.bind_some, d1, Option.bind_some, if_pos (by rw [ByteArray.toList_eq, ByteArray.toList_eq, c2, d2]), if_pos rfl, if_pos (by simp), awake_k, Option.bind_some]

end Go.Proofs.Ytpdgjegnbcillaa.Pure
