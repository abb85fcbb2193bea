import Derived.Test.YthellfakdpikjaaProg
import Derived.Test.YthellfakdpikjaaLib
import Derived.Test.YthellfakdpikjaaCrcMath
namespace Go.Proofs.Ythellfakdpikjaa
open Go.RowKit
set_option maxRecDepth 100000
def tabL (k : Nat) : List Value := (List.range 16).map fun i => if i < k then u32 (Crc.nib (BitVec.ofNat 32 i)) else .int .u32 0
def tabA (k : Nat) : Array Value := (tabL k).toArray
theorem size_tabA (k : Nat) : (tabA k).size = 16 := by simp [tabA, tabL]
theorem tabA_zero : tabA 0 = zeros 16 (.int .u32 0) := rfl
theorem tabA_one (k : Nat) : (tabA k).all (·.oneCell') = true := by
  rw [Array.all_eq_true_iff_forall_mem]
  intro v hv
  simp only [tabA, tabL, List.mem_toArray, List.mem_map] at hv
  obtain ⟨i, _, rfl⟩ := hv
  split <;> rfl
theorem tabA_get (k i : Nat) (hi : i < 16) : (tabA k)[i]? = some (if i < k then u32 (Crc.nib (BitVec.ofNat 32 i)) else .int .u32 0) := by
  simp [tabA, tabL, hi]
theorem tabA_set (k : Nat) (hk : k < 16) : (tabA k).setIfInBounds k (u32 (Crc.nib (BitVec.ofNat 32 k))) = tabA (k + 1) := by
  apply Array.ext_getElem?
  intro i
  rw [Array.getElem?_setIfInBounds, size_tabA]
  by_cases hi : i < 16
  · rw [tabA_get _ _ hi, tabA_get _ _ hi]
    by_cases h : k = i
    · subst h; simp [hk]
    · rw [if_neg h]
      by_cases h2 : i < k
      · rw [if_pos h2, if_pos (by omega)]
      · rw [if_neg h2, if_neg (by omega)]
  · rw [if_neg (by omega), Array.getElem?_eq_none (by rw [size_tabA]; omega), Array.getElem?_eq_none (by rw [size_tabA]; omega)]
theorem shl_one (b : BitVec 32) : (b.toNat : Int) * (2 : Int) % (4294967296 : Int) = ((b <<< 1).toNat : Int) := by
  rw [BitVec.toNat_shiftLeft, Nat.shiftLeft_eq]; omega
theorem xor_u32 (a b : BitVec 32) : bits .xor .u32 (a.toNat : Int) (b.toNat : Int) = ((a ^^^ b).toNat : Int) := by
  rw [u32_xor_nat a.toNat b.toNat a.isLt b.isLt, BitVec.toNat_xor]
theorem and_top (a : BitVec 32) : bits .and .u32 (a.toNat : Int) (2147483648 : Int) = if a.msb then (2147483648 : Int) else 0 := by
  rw [show (2147483648 : Int) = ((2147483648#32).toNat : Int) from rfl, u32_and_nat a.toNat (2147483648#32).toNat a.isLt (BitVec.isLt _), ← BitVec.toNat_and]
  have : a &&& 2147483648#32 = if a.msb then 2147483648#32 else 0#32 := by
    apply BitVec.eq_of_getLsbD_eq
    intro i hi
    rw [BitVec.getLsbD_and, show (2147483648#32) = BitVec.twoPow 32 31 by decide, BitVec.getLsbD_twoPow, BitVec.msb_eq_getLsbD_last]
    by_cases h : i = 31
    · subst h; cases h2 : a.getLsbD 31 <;> simp
    · cases h2 : a.getLsbD 31 <;> simp [Ne.symm h]
  rw [this]; split <;> rfl
theorem feed_zs_succ (w : BitVec 32) (j : Nat) : Crc.feed w (Crc.zs (j + 1)) = Crc.step (Crc.feed w (Crc.zs j)) false := by
  have : Crc.zs (j + 1) = Crc.zs j ++ [false] := by unfold Crc.zs; rw [List.replicate_succ']
  rw [this, Crc.feed_append]; rfl
theorem step_yes (b : BitVec 32) (h : 0 < bits .and .u32 (b.toNat : Int) 2147483648) : bits .xor .u32 ((b.toNat : Int) * (2 : Int) % (4294967296 : Int)) 79764919 = ((Crc.step b false).toNat : Int) := by
  rw [and_top] at h
  have hm : b.msb = true := by cases hb : b.msb <;> simp [hb] at h ⊢
  rw [shl_one, show (79764919 : Int) = (Crc.poly.toNat : Int) from rfl, xor_u32]
  unfold Crc.step; rw [hm]; rfl
theorem step_no (b : BitVec 32) (h : bits .and .u32 (b.toNat : Int) 2147483648 ≤ 0) : (b.toNat : Int) * (2 : Int) % (4294967296 : Int) = ((Crc.step b false).toNat : Int) := by
  rw [and_top] at h
  have hm : b.msb = false := by cases hb : b.msb <;> simp [hb] at h ⊢
  rw [shl_one]
  unfold Crc.step; rw [hm]; simp

end Go.Proofs.Ythellfakdpikjaa
namespace Go.Proofs.Ythellfakdpikjaa
open Go.RowKit
set_option maxRecDepth 100000
theorem tab_cell {w : World} {g : Nat} {t : TypeId} (hg : w.heap[g]? = some (.cells (tabA 16) t (0, 0))) (i : Nat) (hi : i < 16) : w.cell? ⟨g, i, none⟩ = some (.int .u32 ((Crc.nib (BitVec.ofNat 32 i)).toNat : Int)) := by
  rw [cell_of_row w g i _ t _ hg, tabA_get _ _ hi, if_pos hi]; rfl
def nb (x : BitVec 32) (y : Nat) : BitVec 32 := (x <<< 4) ^^^ Crc.nib ((x >>> 28) ^^^ BitVec.ofNat 32 y)
theorem nb_eq (x : BitVec 32) (y : Nat) : bits .xor .u32 ((x.toNat : Int) * (16 : Int) % (4294967296 : Int)) ((Crc.nib (BitVec.ofNat 32 (x.toNat / 268435456) ^^^ BitVec.ofNat 32 y)).toNat : Int) = ((nb x y).toNat : Int) := by
  have h1 : (x.toNat : Int) * (16 : Int) % (4294967296 : Int) = ((x <<< 4).toNat : Int) := by
    rw [BitVec.toNat_shiftLeft, Nat.shiftLeft_eq]; omega
  have h2 : BitVec.ofNat 32 (x.toNat / 268435456) = x >>> 28 := by
    apply BitVec.eq_of_toNat_eq
    rw [BitVec.toNat_ofNat, BitVec.toNat_ushiftRight, Nat.shiftRight_eq_div_pow]
    have := x.isLt; omega
  rw [h1, h2, xor_u32]; rfl
theorem raw_succ (l : List UInt8) (k : Nat) (h : k < l.length) : Crc.raw (l.take (k + 1)) = nb (nb (Crc.raw (l.take k)) (l[k].toNat / 16)) (l[k].toNat % 16) := by
  rw [List.take_succ_eq_append_getElem h, Crc.raw_snoc, Crc.feed_byte]; rfl
theorem and15 (n : Nat) (h : n < 256) : bits BinOp.and IntKind.u8 (n : Int) 15 = ((n % 16 : Nat) : Int) := by
  rw [show (15 : Int) = ((15 : Nat) : Int) from rfl, u8_and_nat n 15 h (by omega), show (15 : Nat) = 2 ^ 4 - 1 from rfl, Nat.and_two_pow_sub_one_eq_mod]
theorem idx_u8 (x : BitVec 32) (y : Nat) (hy : y < 16) : bits BinOp.xor IntKind.u8 ((x.toNat : Int) / 268435456) (y : Int) = (((x.toNat / 268435456) ^^^ y : Nat) : Int) := by
  have := x.isLt
  rw [show ((x.toNat : Int) / 268435456) = ((x.toNat / 268435456 : Nat) : Int) from by omega, u8_xor_nat _ _ (by omega) (by omega)]
theorem idx_lt (x : BitVec 32) (y : Nat) (hy : y < 16) : (x.toNat / 268435456) ^^^ y < 16 := by
  have := x.isLt
  exact Nat.xor_lt_two_pow (n := 4) (by omega) (by omega)
theorem not_u32 (x : BitVec 32) : bits .xor .u32 IntKind.u32.max (x.toNat : Int) = ((~~~ x).toNat : Int) := by
  rw [show IntKind.u32.max = (((BitVec.allOnes 32).toNat : Nat) : Int) from by decide, xor_u32]
  congr 2
end Go.Proofs.Ythellfakdpikjaa
namespace Go.Proofs.Ythellfakdpikjaa
open Go.RowKit
set_option maxRecDepth 100000
theorem step_yes' (x : BitVec 32) (b : Bool) (h : x.msb ≠ b) : bits .xor .u32 ((x.toNat : Int) * (2 : Int) % (4294967296 : Int)) 79764919 = ((Crc.step x b).toNat : Int) := by
  rw [shl_one, show (79764919 : Int) = (Crc.poly.toNat : Int) from rfl, xor_u32]
  unfold Crc.step
  cases hm : x.msb <;> cases b <;> simp_all
theorem step_no' (x : BitVec 32) (b : Bool) (h : x.msb = b) : (x.toNat : Int) * (2 : Int) % (4294967296 : Int) = ((Crc.step x b).toNat : Int) := by
  rw [shl_one]
  unfold Crc.step
  cases hm : x.msb <;> cases b <;> simp_all
theorem bit_val (c e : Nat) : ((c : Int) / (2 : Int) ^ e).tmod (2 : Int) = ((c / 2 ^ e % 2 : Nat) : Int) := by
  have h : ((c : Int) / (2 : Int) ^ e) = ((c / 2 ^ e : Nat) : Int) := by rw [Int.natCast_ediv]; congr 1
  rw [h, Int.tmod_eq_emod_of_nonneg (Int.natCast_nonneg _)]; omega
theorem bit_01 (c e : Nat) : ((c : Int) / (2 : Int) ^ e).tmod (2 : Int) = 0 ∨ ((c : Int) / (2 : Int) ^ e).tmod (2 : Int) = 1 := by rw [bit_val]; omega
theorem bit_is (c e : Nat) : (((c : Int) / (2 : Int) ^ e).tmod (2 : Int) == 1) = c.testBit e := by
  rw [bit_val, Nat.testBit_eq_decide_div_mod_eq]
  by_cases h : c / 2 ^ e % 2 = 1
  · simp [h]
  · have : c / 2 ^ e % 2 = 0 := by omega
    simp [this]
theorem not_sub (x : BitVec 32) : (4294967295 : Int) - (x.toNat : Int) = ((~~~ x).toNat : Int) := by
  rw [BitVec.toNat_not]; have := x.isLt; omega
theorem raw_bit (l : List UInt8) (k : Nat) (h : k < l.length) (x : BitVec 32) (j : Nat) (hj : j < 8) :
    Crc.feed x ((Crc.byteBits l[k]).take (j + 1)) = Crc.step (Crc.feed x ((Crc.byteBits l[k]).take j)) (l[k].toNat.testBit (7 - j)) := by
  have hl : j < (Crc.byteBits l[k]).length := by rw [Crc.length_byteBits]; omega
  rw [List.take_succ_eq_append_getElem hl, Crc.feed_append]
  simp [Crc.byteBits, Crc.feed]
theorem raw_next (l : List UInt8) (k : Nat) (h : k < l.length) : Crc.raw (l.take (k + 1)) = Crc.feed (Crc.raw (l.take k)) ((Crc.byteBits l[k]).take 8) := by
  have e : (Crc.byteBits l[k]).take 8 = Crc.byteBits l[k] := List.take_of_length_le (by rw [Crc.length_byteBits]; omega)
  rw [e, List.take_succ_eq_append_getElem h, Crc.raw_snoc]
end Go.Proofs.Ythellfakdpikjaa
