import Derived.Test.YtnphgaiiiiknpaaDoorCrc
import Derived.Test.YtnphgaiiiiknpaaDoorLib
namespace Go.Proofs.YtnphgaiiiiknpaaDoor
open Go.RowKit
set_option maxRecDepth 100000
theorem zeroB : (Tryd.prog.info? 45).bind (·.zero) = some (.agg (zeros 256 (.int .u8 0))) := by kernel_rfl
theorem sizeB : (Tryd.prog.info? 45).map (·.size) = some 256 := by kernel_rfl
theorem sizeU8 : (Tryd.prog.info? 5).map (·.size) = some 1 := by kernel_rfl
theorem blk_set (b : List UInt8) (i : Nat) (c : UInt8) : (blk b).setIfInBounds i (vu8 c) = blk (b.set i c) := by
  simp [blk, List.map_set]
theorem blk_get (b : List UInt8) (i : Nat) (h : i < b.length) : (blk b)[i]? = some (vu8 b[i]) := by simp [blk, h]
theorem blk_one (b : List UInt8) : (blk b).all (·.oneCell') = true := by
  rw [Array.all_eq_true_iff_forall_mem]
  intro v hv
  simp only [blk, List.mem_toArray, List.mem_map] at hv
  obtain ⟨i, _, rfl⟩ := hv
  rfl
theorem zeros_blk (n : Nat) : zeros n (.int .u8 0) = blk (List.replicate n 0) := by simp [zeros, blk, vu8]
/-- The byte of a word that stands i bytes from the upper end. -/
def wbyte (w : BitVec 32) (i : Nat) : UInt8 := UInt8.ofNat (w.toNat / 2 ^ (8 * (3 - i)))
def be4 (w : BitVec 32) : List UInt8 := [wbyte w 0, wbyte w 1, wbyte w 2, wbyte w 3]
def sealB (b : List UInt8) : List UInt8 := b.take 252 ++ be4 (Crc.sum (b.take 252))
theorem length_sealB (b : List UInt8) (h : b.length = 256) : (sealB b).length = 256 := by simp [sealB, be4]; omega
theorem set4 (b : List UInt8) (h : b.length = 256) (c0 c1 c2 c3 : UInt8) : (((b.set 252 c0).set 253 c1).set 254 c2).set 255 c3 = b.take 252 ++ [c0, c1, c2, c3] := by
  apply List.ext_getElem?
  intro i
  simp only [List.getElem?_set, List.length_set, List.getElem?_append, List.length_take, List.getElem?_take, h]
  by_cases h1 : i < 252
  · simp [h1, show ¬ 255 = i by omega, show ¬ 254 = i by omega, show ¬ 253 = i by omega, show ¬ 252 = i by omega]
  · by_cases h2 : i < 256
    · have : i = 252 ∨ i = 253 ∨ i = 254 ∨ i = 255 := by omega
      rcases this with rfl | rfl | rfl | rfl <;> simp
    · have e : b[i]? = none := List.getElem?_eq_none (by omega)
      simp [h1, show ¬ 255 = i by omega, show ¬ 254 = i by omega, show ¬ 253 = i by omega, show ¬ 252 = i by omega, e]
      omega
theorem seal_cells (b : List UInt8) (h : b.length = 256) :
    ((((blk b).setIfInBounds 252 (vu8 (wbyte (Crc.sum (b.take 252)) 0))).setIfInBounds 253 (vu8 (wbyte (Crc.sum (b.take 252)) 1))).setIfInBounds 254 (vu8 (wbyte (Crc.sum (b.take 252)) 2))).setIfInBounds 255 (vu8 (wbyte (Crc.sum (b.take 252)) 3)) = blk (sealB b) := by
  rw [blk_set, blk_set, blk_set, blk_set, set4 b h]; rfl
theorem wb0 (s : BitVec 32) : Value.int .u8 ((s.toNat : Int) / 16777216) = vu8 (wbyte s 0) := by
  have := s.isLt
  simp only [vu8, wbyte, UInt8.toNat_ofNat', Value.int.injEq, true_and]; omega
theorem wb1 (s : BitVec 32) : Value.int .u8 ((s.toNat : Int) / 65536 % 256) = vu8 (wbyte s 1) := by
  simp only [vu8, wbyte, UInt8.toNat_ofNat', Value.int.injEq, true_and]; omega
theorem wb2 (s : BitVec 32) : Value.int .u8 ((s.toNat : Int) / 256 % 256) = vu8 (wbyte s 2) := by
  simp only [vu8, wbyte, UInt8.toNat_ofNat', Value.int.injEq, true_and]; omega
theorem wb3 (s : BitVec 32) : Value.int .u8 ((s.toNat : Int) % 256) = vu8 (wbyte s 3) := by
  simp only [vu8, wbyte, UInt8.toNat_ofNat', Value.int.injEq, true_and]; omega
/-- The world behind the four stores. -/
theorem sealed_world (w1 : World) (g : Nat) (t : TypeId) (b : List UInt8) (hb : b.length = 256) (hg : w1.heap[g]? = some (.cells (blk b) t (0, 0))) :
    ∃ W, W = (((w1.setCell ⟨g, 252, none⟩ (.int .u8 (((Crc.sum (b.take 252)).toNat : Int) / 16777216))).setCell ⟨g, 253, none⟩ (.int .u8 (((Crc.sum (b.take 252)).toNat : Int) / 65536 % 256))).setCell
        ⟨g, 254, none⟩ (.int .u8 (((Crc.sum (b.take 252)).toNat : Int) / 256 % 256))).setCell ⟨g, 255, none⟩ (.int .u8 (((Crc.sum (b.take 252)).toNat : Int) % 256)) ∧
      W.heap[g]? = some (.cells (blk (sealB b)) t (0, 0)) ∧ (∀ k, k ≠ g → W.heap[k]? = w1.heap[k]?) ∧ W.heap.size = w1.heap.size ∧ ∀ B a, Below B a w1 → B ≤ g → Below B a W := by
  refine ⟨_, rfl, ?_, ?_, ?_, ?_⟩
  · have := heap_setCell_same _ g 255 _ t (vu8 (wbyte (Crc.sum (b.take 252)) 3)) (heap_setCell_same _ g 254 _ t (vu8 (wbyte (Crc.sum (b.take 252)) 2)) (heap_setCell_same _ g 253 _ t (vu8 (wbyte (Crc.sum (b.take 252)) 1)) (heap_setCell_same w1 g 252 _ t (vu8 (wbyte (Crc.sum (b.take 252)) 0)) hg)))
    rw [seal_cells b hb] at this
    rw [wb0, wb1, wb2, wb3]
    exact this
  · intro k hk
    rw [heap_setCell_other _ _ _ _ hk, heap_setCell_other _ _ _ _ hk, heap_setCell_other _ _ _ _ hk, heap_setCell_other _ _ _ _ hk]
  · simp [World.setCell]
  · intro B a h hB
    exact (((h.setCell hB _).setCell hB _).setCell hB _).setCell hB _
set_option maxHeartbeats 400000 in
theorem seal_any (b : List UInt8) (hb : b.length = 256) (w : World) : Calls Tryd.prog 71 #[.agg (blk b)] w fun e w' => e = .returned (.agg (blk (sealB b))) ∧ Below w.heap.size w w' := by
  have hsz := size_blk b
  rw [hb] at hsz
  have hconv : (convert 99 9 (.slice (some ⟨w.heap.size, 0, none⟩) 252 256)).run Tryd.prog ((w.alloc (.cells (blk b) 45)).alloc (.cells (zeros 256 (.int .u8 0)) 45)) = .ok (.string ⟨(b.take 252).toArray⟩) ((w.alloc (.cells (blk b) 45)).alloc (.cells (zeros 256 (.int .u8 0)) 45)) :=
    run_bytes_str _ 99 9 5 _ _ _ Tryd.underlying99 Tryd.underlying5 Tryd.underlying9 _ (by simp [hb]) (fun j v hj => by
      rw [List.map_take, List.getElem?_take] at hj
      split at hj
      · rw [Addr.add_lit, Nat.zero_add, World.cell?_alloc_past _ _ _ (by simp), cell_of_row _ _ _ _ _ _ (heap_alloc_new w _)]
        simpa [blk] using hj
      · cases hj)
  go_enter Tryd.func71, Tryd.ntmps71
  go_wp2_with (first
   | refine wpList_alloc_row rfl 45 rfl _ zeroB ?_
   | (go_at_call 78; refine (sum_any _ _ ?_).mono ?_))
  · show (List.take 252 b).toArray.size ≤ maxLen
    simp [maxLen]; omega
  rintro e w1 rfl hb1
  have hg : w1.heap[w.heap.size]? = some (.cells (blk b) 45 (0, 0)) := (hb1.block _ (by omega)).trans (heap_alloc2_old w _ _)
  have hg2 : w1.heap[w.heap.size + 1]? = some (.cells (zeros 256 (.int .u8 0)) 45 (0, 0)) := (hb1.block _ (by omega)).trans (heap_alloc2_new w _ _)
  have hB : Below w.heap.size w w1 := (((Below.refl _ _).alloc (Nat.le_refl _) _).alloc (by simp) _).trans (hb1.mono (by omega))
  have hsz1 := hb1.size
  simp only [World.size_alloc] at hsz1
  obtain ⟨W, hW, hWg, hWo, hWs, hWB⟩ := sealed_world w1 w.heap.size _ b hb hg
  have hWg2 := (hWo (w.heap.size + 1) (by omega)).trans hg2
  have hB' := hWB _ _ hB (Nat.le_refl _)
  have HW := Lib.hid hW
  have HWg := Lib.hid hWg
  have HWg2 := Lib.hid hWg2
  have hs := (Crc.sum (List.take 252 b)).isLt
  clear hW hWg hWg2 hWo hWs hWB
  have hc : ∀ i, i < 256 → w1.cell? ⟨w.heap.size, i, none⟩ = (blk b)[i]? := fun i _ => cell_of_row w1 _ i _ _ _ hg
  have hc0 : w1.cell? ⟨w.heap.size, 252, none⟩ = some (vu8 b[252]) := by rw [hc 252 (by omega), blk_get _ _ (by omega)]
  have hc1 : w1.cell? ⟨w.heap.size, 253, none⟩ = some (vu8 b[253]) := by rw [hc 253 (by omega), blk_get _ _ (by omega)]
  have hc2 : w1.cell? ⟨w.heap.size, 254, none⟩ = some (vu8 b[254]) := by rw [hc 254 (by omega), blk_get _ _ (by omega)]
  have hc3 : w1.cell? ⟨w.heap.size, 255, none⟩ = some (vu8 b[255]) := by rw [hc 255 (by omega), blk_get _ _ (by omega)]
  have hf : ∀ i, w1.frozen? ⟨w.heap.size, i, none⟩ = false := fun i => frozen_of_row w1 _ i _ _ hg
  have HG := Lib.hid hg
  have HG2 := Lib.hid hg2
  clear hconv hg hg2 hb1 hc
  go_wp2_with fail
  refine wp_loop_rounds 5 ?_
  rw [rounds_succ]
  go_wp2_with fail
  rw [rounds_succ]
  go_wp2_with fail
  rw [rounds_succ]
  go_wp2_with fail
  rw [rounds_succ]
  go_wp2_with fail
  rw [rounds_succ]
  rw [← HW.out]
  clear hc0 hc1 hc2 hc3 hf hB hsz hsz1 hs
  have hs4 : (blk (sealB b)).size = 256 := by rw [size_blk, length_sealB b hb]
  have HS4 := Lib.hid hs4
  clear hs4
  go_wp2_with (first
   | refine wpList_load_row rfl 45 _ rfl w.heap.size rfl 45 (blk (sealB b)) (0, 0) _ HWg.out Tryd.underlying45 rfl (by rw [HS4.out]; exact sizeB) ?_
   | refine wpList_store_row rfl 45 _ _ rfl (w.heap.size + 1) (blk (sealB b)) rfl rfl 45 _ HWg2.out (by rw [HS4.out]; exact sizeB) (by rw [HS4.out, size_zeros]) (blk_one _) ?_)
  refine bodyPost_ret (v := .agg (blk (sealB b))) (results_cell_row rfl _ _ (w.heap.size + 1) 45 _ (0, 0) _ rfl (setRow_heap _ _ _ _ _ _ HWg2.out) Tryd.underlying45 rfl (by rw [HS4.out]; exact sizeB)) rfl ⟨rfl, ?_⟩
  exact below_setRow hB' (by omega) _
