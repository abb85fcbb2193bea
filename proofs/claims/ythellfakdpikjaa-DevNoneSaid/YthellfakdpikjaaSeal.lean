import Derived.Test.YthellfakdpikjaaCrc
import Derived.Test.YthellfakdpikjaaArr
namespace Go.Proofs.Ythellfakdpikjaa
open Go.RowKit
set_option maxRecDepth 100000
theorem zeroB : (Try.prog.info? 35).bind (·.zero) = some (.agg (zeros 256 (.int .u8 0))) := by kernel_rfl
theorem sizeB : (Try.prog.info? 35).map (·.size) = some 256 := by kernel_rfl
theorem sizeU8 : (Try.prog.info? 5).map (·.size) = some 1 := by kernel_rfl
theorem blk_set (b : List UInt8) (i : Nat) (c : UInt8) : (blk b).setIfInBounds i (vu8 c) = blk (b.set i c) := by
  simp [blk, List.map_set]
theorem blk_get (b : List UInt8) (i : Nat) (h : i < b.length) : (blk b)[i]? = some (vu8 b[i]) := by simp [blk, h]
theorem blk_one (b : List UInt8) : (blk b).all (·.oneCell') = true := by
  rw [Array.all_eq_true_iff_forall_mem]
  intro v hv
  simp only [blk, List.mem_toArray, List.mem_map] at hv
  obtain ⟨i, _, rfl⟩ := hv
  rfl
theorem zeros_blk (n : Nat) : zeros n (.int .u8 0) = blk (List.replicate n 0) := by simp [zeros, blk, vu8]
/-- The byte of a word that stands i bytes from the upper end. -/
def wbyte (w : BitVec 32) (i : Nat) : UInt8 := UInt8.ofNat (w.toNat / 2 ^ (8 * (3 - i)))
def be4 (w : BitVec 32) : List UInt8 := [wbyte w 0, wbyte w 1, wbyte w 2, wbyte w 3]
def sealB (b : List UInt8) : List UInt8 := b.take 252 ++ be4 (Crc.sum (b.take 252))
theorem length_sealB (b : List UInt8) (h : b.length = 256) : (sealB b).length = 256 := by simp [sealB, be4]; omega
theorem set4 (b : List UInt8) (h : b.length = 256) (c0 c1 c2 c3 : UInt8) : (((b.set 252 c0).set 253 c1).set 254 c2).set 255 c3 = b.take 252 ++ [c0, c1, c2, c3] := by
  apply List.ext_getElem?
  intro i
  simp only [List.getElem?_set, List.length_set, List.getElem?_append, List.length_take, List.getElem?_take, h]
  by_cases h1 : i < 252
  · simp [h1, show ¬ 255 = i by omega, show ¬ 254 = i by omega, show ¬ 253 = i by omega, show ¬ 252 = i by omega]
  · by_cases h2 : i < 256
    · have : i = 252 ∨ i = 253 ∨ i = 254 ∨ i = 255 := by omega
      rcases this with rfl | rfl | rfl | rfl <;> simp
    · have e : b[i]? = none := List.getElem?_eq_none (by omega)
      simp [h1, show ¬ 255 = i by omega, show ¬ 254 = i by omega, show ¬ 253 = i by omega, show ¬ 252 = i by omega, e]
      omega
theorem seal_cells (b : List UInt8) (h : b.length = 256) :
    ((((blk b).setIfInBounds 252 (vu8 (wbyte (Crc.sum (b.take 252)) 0))).setIfInBounds 253 (vu8 (wbyte (Crc.sum (b.take 252)) 1))).setIfInBounds 254 (vu8 (wbyte (Crc.sum (b.take 252)) 2))).setIfInBounds 255 (vu8 (wbyte (Crc.sum (b.take 252)) 3)) = blk (sealB b) := by
  rw [blk_set, blk_set, blk_set, blk_set, set4 b h]; rfl
theorem wb0 (s : BitVec 32) : Value.int .u8 ((s.toNat : Int) / 16777216) = vu8 (wbyte s 0) := by
  have := s.isLt
  simp only [vu8, wbyte, UInt8.toNat_ofNat', Value.int.injEq, true_and]; omega
theorem wb1 (s : BitVec 32) : Value.int .u8 ((s.toNat : Int) / 65536 % 256) = vu8 (wbyte s 1) := by
  simp only [vu8, wbyte, UInt8.toNat_ofNat', Value.int.injEq, true_and]; omega
theorem wb2 (s : BitVec 32) : Value.int .u8 ((s.toNat : Int) / 256 % 256) = vu8 (wbyte s 2) := by
  simp only [vu8, wbyte, UInt8.toNat_ofNat', Value.int.injEq, true_and]; omega
theorem wb3 (s : BitVec 32) : Value.int .u8 ((s.toNat : Int) % 256) = vu8 (wbyte s 3) := by
  simp only [vu8, wbyte, UInt8.toNat_ofNat', Value.int.injEq, true_and]; omega
/-- The world behind the four stores. -/
theorem sealed_world (w1 : World) (g : Nat) (t : TypeId) (b : List UInt8) (hb : b.length = 256) (hg : w1.heap[g]? = some (.cells (blk b) t (0, 0))) :
    ∃ W, W = (((w1.setCell ⟨g, 252, none⟩ (.int .u8 (((Crc.sum (b.take 252)).toNat : Int) / 16777216))).setCell ⟨g, 253, none⟩ (.int .u8 (((Crc.sum (b.take 252)).toNat : Int) / 65536 % 256))).setCell
        ⟨g, 254, none⟩ (.int .u8 (((Crc.sum (b.take 252)).toNat : Int) / 256 % 256))).setCell ⟨g, 255, none⟩ (.int .u8 (((Crc.sum (b.take 252)).toNat : Int) % 256)) ∧
      W.heap[g]? = some (.cells (blk (sealB b)) t (0, 0)) ∧ (∀ k, k ≠ g → W.heap[k]? = w1.heap[k]?) ∧ W.heap.size = w1.heap.size ∧ ∀ B a, Below B a w1 → B ≤ g → Below B a W := by
  refine ⟨_, rfl, ?_, ?_, ?_, ?_⟩
  · have := heap_setCell_same _ g 255 _ t (vu8 (wbyte (Crc.sum (b.take 252)) 3)) (heap_setCell_same _ g 254 _ t (vu8 (wbyte (Crc.sum (b.take 252)) 2)) (heap_setCell_same _ g 253 _ t (vu8 (wbyte (Crc.sum (b.take 252)) 1)) (heap_setCell_same w1 g 252 _ t (vu8 (wbyte (Crc.sum (b.take 252)) 0)) hg)))
    rw [seal_cells b hb] at this
    rw [wb0, wb1, wb2, wb3]
    exact this
  · intro k hk
    rw [heap_setCell_other _ _ _ _ hk, heap_setCell_other _ _ _ _ hk, heap_setCell_other _ _ _ _ hk, heap_setCell_other _ _ _ _ hk]
  · simp [World.setCell]
  · intro B a h hB
    exact (((h.setCell hB _).setCell hB _).setCell hB _).setCell hB _