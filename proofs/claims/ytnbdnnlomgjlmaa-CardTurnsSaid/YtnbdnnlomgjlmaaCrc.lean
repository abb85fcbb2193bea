import Derived.Test.YtnbdnnlomgjlmaaProg
import Derived.Test.YtnbdnnlomgjlmaaLib
import Derived.Test.YtnbdnnlomgjlmaaCrcMath
namespace Go.Proofs.Ytnbdnnlomgjlmaa
open Go.RowKit
theorem zeroTab : (Try.prog.info? 83).bind (·.zero) = some (.agg (zeros 16 (.int .u32 0))) := by kernel_rfl
theorem sizeTab : (Try.prog.info? 83).map (·.size) = some 16 := by kernel_rfl
def tabL (k : Nat) : List Value := (List.range 16).map fun i => if i < k then u32 (Crc.nib (BitVec.ofNat 32 i)) else .int .u32 0
def tabA (k : Nat) : Array Value := (tabL k).toArray
theorem size_tabA (k : Nat) : (tabA k).size = 16 := by simp [tabA, tabL]
theorem tabA_zero : tabA 0 = zeros 16 (.int .u32 0) := rfl
theorem tabA_one (k : Nat) : (tabA k).all (·.oneCell') = true := by
  rw [Array.all_eq_true_iff_forall_mem]
  intro v hv
  simp only [tabA, tabL, List.mem_toArray, List.mem_map] at hv
  obtain ⟨i, _, rfl⟩ := hv
  split <;> rfl
theorem tabA_get (k i : Nat) (hi : i < 16) : (tabA k)[i]? = some (if i < k then u32 (Crc.nib (BitVec.ofNat 32 i)) else .int .u32 0) := by
  simp [tabA, tabL, hi]
theorem tabA_set (k : Nat) (hk : k < 16) : (tabA k).setIfInBounds k (u32 (Crc.nib (BitVec.ofNat 32 k))) = tabA (k + 1) := by
  apply Array.ext_getElem?
  intro i
  rw [Array.getElem?_setIfInBounds, size_tabA]
  by_cases hi : i < 16
  · rw [tabA_get _ _ hi, tabA_get _ _ hi]
    by_cases h : k = i
    · subst h; simp [hk]
    · rw [if_neg h]
      by_cases h2 : i < k
      · rw [if_pos h2, if_pos (by omega)]
      · rw [if_neg h2, if_neg (by omega)]
  · rw [if_neg (by omega), Array.getElem?_eq_none (by rw [size_tabA]; omega), Array.getElem?_eq_none (by rw [size_tabA]; omega)]
theorem shl_one (b : BitVec 32) : (b.toNat : Int) * (2 : Int) % (4294967296 : Int) = ((b <<< 1).toNat : Int) := by
  rw [BitVec.toNat_shiftLeft, Nat.shiftLeft_eq]; omega
theorem xor_u32 (a b : BitVec 32) : bits .xor .u32 (a.toNat : Int) (b.toNat : Int) = ((a ^^^ b).toNat : Int) := by
  rw [u32_xor_nat a.toNat b.toNat a.isLt b.isLt, BitVec.toNat_xor]
theorem and_top (a : BitVec 32) : bits .and .u32 (a.toNat : Int) (2147483648 : Int) = if a.msb then (2147483648 : Int) else 0 := by
  rw [show (2147483648 : Int) = ((2147483648#32).toNat : Int) from rfl, u32_and_nat a.toNat (2147483648#32).toNat a.isLt (BitVec.isLt _), ← BitVec.toNat_and]
  have : a &&& 2147483648#32 = if a.msb then 2147483648#32 else 0#32 := by
    apply BitVec.eq_of_getLsbD_eq
    intro i hi
    rw [BitVec.getLsbD_and, show (2147483648#32) = BitVec.twoPow 32 31 by decide, BitVec.getLsbD_twoPow, BitVec.msb_eq_getLsbD_last]
    by_cases h : i = 31
    · subst h; cases h2 : a.getLsbD 31 <;> simp
    · cases h2 : a.getLsbD 31 <;> simp [Ne.symm h]
  rw [this]; split <;> rfl
theorem feed_zs_succ (w : BitVec 32) (j : Nat) : Crc.feed w (Crc.zs (j + 1)) = Crc.step (Crc.feed w (Crc.zs j)) false := by
  have : Crc.zs (j + 1) = Crc.zs j ++ [false] := by unfold Crc.zs; rw [List.replicate_succ']
  rw [this, Crc.feed_append]; rfl
theorem step_yes (b : BitVec 32) (h : 0 < bits .and .u32 (b.toNat : Int) 2147483648) : bits .xor .u32 ((b.toNat : Int) * (2 : Int) % (4294967296 : Int)) 79764919 = ((Crc.step b false).toNat : Int) := by
  rw [and_top] at h
  have hm : b.msb = true := by cases hb : b.msb <;> simp [hb] at h ⊢
  rw [shl_one, show (79764919 : Int) = (Crc.poly.toNat : Int) from rfl, xor_u32]
  unfold Crc.step; rw [hm]; rfl
theorem step_no (b : BitVec 32) (h : bits .and .u32 (b.toNat : Int) 2147483648 ≤ 0) : (b.toNat : Int) * (2 : Int) % (4294967296 : Int) = ((Crc.step b false).toNat : Int) := by
  rw [and_top] at h
  have hm : b.msb = false := by cases hb : b.msb <;> simp [hb] at h ⊢
  rw [shl_one]
  unfold Crc.step; rw [hm]; simp

theorem table_any (w : World) : Calls Try.prog 52 #[] w fun e w' => e = .returned (.agg (tabA 16)) ∧ Below w.heap.size w w' := by
  go_enter Try.func52, Try.ntmps52
  go_wp2_with (refine wpList_alloc_row rfl 83 rfl _ zeroTab ?_)
  go_loopw [1,2,3,4] (fun _ _ _ i wr => ∃ k : Nat, k ≤ 16 ∧ i = .int .i64 k ∧ wr = w.alloc (.cells (tabA k) 83)) (fun _ _ _ i _ => 16 - (intOf i).toNat)
  case atStart => exact ⟨0, by omega, rfl, by rw [tabA_zero]⟩
  case round =>
    obtain ⟨k, hk, rfl, rfl⟩ := hrel
    by_cases hlt : k < 16
    · go_wp2_with fail
      obtain ⟨b0, hb0⟩ : ∃ b : BitVec 32, b = BitVec.ofNat 32 k <<< 28 := ⟨_, rfl⟩
      have hk28 : (k : Int) * 268435456 = (b0.toNat : Int) := by
        rw [hb0, BitVec.toNat_shiftLeft, Nat.shiftLeft_eq, BitVec.toNat_ofNat]; omega
      rw [hk28]
      have HB := Lib.hid hb0; clear hb0 hk28
      have sz := size_tabA k
      go_loop [2,3,10] (fun x _ i => ∃ k : Nat, k ≤ 4 ∧ i = .int .i64 k ∧ x = .int .u32 ((Crc.feed b0 (Crc.zs k)).toNat : Int)) (fun _ _ i => 4 - (intOf i).toNat)
      case atStart => exact ⟨0, by omega, rfl, rfl⟩
      case round =>
        obtain ⟨j, hj, rfl, rfl⟩ := hrel
        by_cases hlt : j < 4
        · go_wp2_with fail
          all_goals go_round
          case rel => exact ⟨j + 1, by omega, by go_num, by rw [feed_zs_succ, step_yes _ (by assumption)]⟩
          case measure => simp [intOf]; omega
          case rel => exact ⟨j + 1, by omega, by go_num, by rw [feed_zs_succ, step_no _ (by assumption)]⟩
          case measure => simp [intOf]; omega
        · obtain rfl : j = 4 := by omega
          go_wp2_with fail
          go_roundw
          case rel => exact ⟨k + 1, by omega, by go_num, by rw [← tabA_set k (by assumption), HB.out]; rfl⟩
          case measure => simp [intOf]; omega
    · obtain rfl : k = 16 := by omega
      have hu : (w.alloc (.cells (tabA 16) 83)).heap[w.heap.size]? = some (.cells (tabA 16) 83) := heap_alloc_new w _
      have HU := Lib.hid hu; clear hu
      go_wp2_with (first | refine wpList_load_row rfl 83 _ rfl w.heap.size rfl 83 (tabA 16) (0, 0) _ HU.out Try.underlying83 rfl (by rw [size_tabA]; exact sizeTab) ?_ | refine wpList_store_row rfl 83 _ _ rfl w.heap.size (tabA 16) rfl rfl 83 (tabA 16) HU.out (by rw [size_tabA]; exact sizeTab) rfl (tabA_one 16) ?_)
      refine bodyPost_ret (v := .agg (tabA 16)) (results_cell_row rfl _ _ w.heap.size 83 (tabA 16) (0, 0) _ rfl (setRow_heap _ _ _ _ _ _ HU.out) Try.underlying83 rfl (by rw [size_tabA]; exact sizeTab)) rfl ⟨rfl, ?_⟩
      exact below_setRow ((Below.refl _ _).alloc (Nat.le_refl _) _) (Nat.le_refl _) _
