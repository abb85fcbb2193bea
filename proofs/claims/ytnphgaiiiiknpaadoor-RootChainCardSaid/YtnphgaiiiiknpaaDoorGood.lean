import Derived.Test.YtnphgaiiiiknpaaDoorSeal
import Derived.Test.YtnphgaiiiiknpaaDoorQuiet
namespace Go.Proofs.YtnphgaiiiiknpaaDoor
open Go.RowKit
set_option maxRecDepth 100000
theorem good_any (b : List UInt8) (hb : b.length = 256) (w : World) : Calls Tryd.prog 72 #[.agg (blk b)] w fun e w' => e = .returned (.bool (decide (sealB b = b))) ∧ Below w.heap.size w w' := by
  have hs : (blk b).size = 256 := by rw [size_blk, hb]
  have HS := Lib.hid hs; clear hs
  go_enter Tryd.func72, Tryd.ntmps72
  go_wp2_with fail
  have hg : (w.alloc (.cells (blk b) 45)).heap[w.heap.size]? = some (.cells (blk b) 45 (0, 0)) := heap_alloc_new w _
  have HB : Below w.heap.size w (w.alloc (.cells (blk b) 45)) := (Below.refl _ _).alloc (Nat.le_refl _) _
  refine wp_region_since (by kernel_rfl) (by kernel_rfl) ?_
  refine wq_load_row 45 _ w.heap.size 45 (blk b) (0, 0) _ rfl rfl rfl (fun w' hC => hC.row hg) Tryd.underlying45 rfl (by rw [HS.out]; exact sizeB) ?_
  refine wq_call 71 _ _ _ _ _ rfl rfl Tryd.func71 rfl (by kernel_rfl) (fun w' hC => hC.call (seal_any b hb w')) ?_
  refine wq_load_row 45 _ w.heap.size 45 (blk b) (0, 0) _ rfl rfl rfl (fun w' hC => hC.row hg) Tryd.underlying45 rfl (by rw [HS.out]; exact sizeB) ?_
  refine wq_eql .eql _ 45 45 _ _ rfl rfl _ _ rfl rfl (by kernel_rfl) (fun w => run_eql_blk w 45 5 256 Tryd.underlying45 Tryd.underlying5 sizeU8 _ _ (length_sealB b hb) hb) ?_
  refine wq_assign _ rfl rfl ?_
  refine wpQuiet_nil ?_
  intro w' hC
  simp only [Act.put, List.setIfInBounds_toArray, List.set_cons_zero, List.set_cons_succ]
  go_wp2_with fail
  go_ret
  exact ⟨rfl, HB.trans (hC.mono (by simp))⟩
end Go.Proofs.YtnphgaiiiiknpaaDoor
namespace Go.Proofs.YtnphgaiiiiknpaaDoor
open Go.RowKit
set_option maxRecDepth 100000
def zeroBlk : List UInt8 := List.replicate 256 0
theorem length_zeroBlk : zeroBlk.length = 256 := List.length_replicate
theorem zero_cells : zeros 256 (.int .u8 0) = blk zeroBlk := zeros_blk 256
theorem zero_any (b : List UInt8) (hb : b.length = 256) (w : World) : Calls Tryd.prog 26 #[.agg (blk b)] w fun e w' => e = .returned (.bool (decide (b = zeroBlk))) ∧ Below w.heap.size w w' := by
  have hs : (blk b).size = 256 := by rw [size_blk, hb]
  have HS := Lib.hid hs; clear hs
  have hg : (w.alloc (.cells (blk b) 45)).heap[w.heap.size]? = some (.cells (blk b) 45 (0, 0)) := heap_alloc_new w _
  have HG := Lib.hid hg; clear hg
  have hz : (Tryd.prog.info? 45).bind (·.zero) = some (.agg (blk zeroBlk)) := by rw [zeroB, zero_cells]
  have HZ := Lib.hid hz; clear hz
  go_enter Tryd.func26, Tryd.ntmps26
  go_wp2_with (first
   | refine wpList_load_row rfl 45 _ rfl w.heap.size rfl 45 (blk b) (0, 0) _ HG.out Tryd.underlying45 rfl (by rw [HS.out]; exact sizeB) ?_
   | refine wpList_build_none rfl 45 rfl (blk zeroBlk) HZ.out Tryd.underlying45 (by kernel_rfl) ?_
   | refine wpList_eql .eql _ 45 _ _ _ rfl rfl _ _ rfl rfl (by kernel_rfl) (fun w => run_eql_blk w 45 5 256 Tryd.underlying45 Tryd.underlying5 sizeU8 _ _ hb length_zeroBlk) ?_)
  go_ret
  exact ⟨rfl, (Below.refl _ _).alloc (Nat.le_refl _) _⟩
end Go.Proofs.YtnphgaiiiiknpaaDoor
namespace Go.Proofs.YtnphgaiiiiknpaaDoor
open Go.RowKit
set_option maxRecDepth 100000
set_option maxHeartbeats 400000 in
theorem refseal_any (b : List UInt8) (hb : b.length = 256) (w : World) : Calls Tryd.prog 58 #[.agg (blk b)] w fun e w' => e = .returned (.agg (blk (sealB b))) ∧ Below w.heap.size w w' := by
  have hsz := size_blk b
  rw [hb] at hsz
  have hconv : (convert 99 9 (.slice (some ⟨w.heap.size, 0, none⟩) 252 256)).run Tryd.prog ((w.alloc (.cells (blk b) 45)).alloc (.cells (zeros 256 (.int .u8 0)) 45)) = .ok (.string ⟨(b.take 252).toArray⟩) ((w.alloc (.cells (blk b) 45)).alloc (.cells (zeros 256 (.int .u8 0)) 45)) :=
    run_bytes_str _ 99 9 5 _ _ _ Tryd.underlying99 Tryd.underlying5 Tryd.underlying9 _ (by simp [hb]) (fun j v hj => by
      rw [List.map_take, List.getElem?_take] at hj
      split at hj
      · rw [Addr.add_lit, Nat.zero_add, World.cell?_alloc_past _ _ _ (by simp), cell_of_row _ _ _ _ _ _ (heap_alloc_new w _)]
        simpa [blk] using hj
      · cases hj)
  go_enter Tryd.func58, Tryd.ntmps58
  go_wp2_with (first
   | refine wpList_alloc_row rfl 45 rfl _ zeroB ?_
   | (go_at_call 67; refine (refsum_any _ _ ?_).mono ?_))
  · show (List.take 252 b).toArray.size ≤ maxLen
    simp [maxLen]; omega
  rintro e w1 rfl hb1
  have hg : w1.heap[w.heap.size]? = some (.cells (blk b) 45 (0, 0)) := (hb1.block _ (by omega)).trans (heap_alloc2_old w _ _)
  have hg2 : w1.heap[w.heap.size + 1]? = some (.cells (zeros 256 (.int .u8 0)) 45 (0, 0)) := (hb1.block _ (by omega)).trans (heap_alloc2_new w _ _)
  have hB : Below w.heap.size w w1 := (((Below.refl _ _).alloc (Nat.le_refl _) _).alloc (by simp) _).trans (hb1.mono (by omega))
  have hsz1 := hb1.size
  simp only [World.size_alloc] at hsz1
  obtain ⟨W, hW, hWg, hWo, hWs, hWB⟩ := sealed_world w1 w.heap.size _ b hb hg
  have hWg2 := (hWo (w.heap.size + 1) (by omega)).trans hg2
  have hB' := hWB _ _ hB (Nat.le_refl _)
  have HW := Lib.hid hW
  have HWg := Lib.hid hWg
  have HWg2 := Lib.hid hWg2
  have hs := (Crc.sum (List.take 252 b)).isLt
  clear hW hWg hWg2 hWo hWs hWB
  have hc : ∀ i, i < 256 → w1.cell? ⟨w.heap.size, i, none⟩ = (blk b)[i]? := fun i _ => cell_of_row w1 _ i _ _ _ hg
  have hc0 : w1.cell? ⟨w.heap.size, 252, none⟩ = some (vu8 b[252]) := by rw [hc 252 (by omega), blk_get _ _ (by omega)]
  have hc1 : w1.cell? ⟨w.heap.size, 253, none⟩ = some (vu8 b[253]) := by rw [hc 253 (by omega), blk_get _ _ (by omega)]
  have hc2 : w1.cell? ⟨w.heap.size, 254, none⟩ = some (vu8 b[254]) := by rw [hc 254 (by omega), blk_get _ _ (by omega)]
  have hc3 : w1.cell? ⟨w.heap.size, 255, none⟩ = some (vu8 b[255]) := by rw [hc 255 (by omega), blk_get _ _ (by omega)]
  have hf : ∀ i, w1.frozen? ⟨w.heap.size, i, none⟩ = false := fun i => frozen_of_row w1 _ i _ _ hg
  have HG := Lib.hid hg
  have HG2 := Lib.hid hg2
  clear hconv hg hg2 hb1 hc
  have hs4 : (blk (sealB b)).size = 256 := by rw [size_blk, length_sealB b hb]
  have HS4 := Lib.hid hs4
  clear hs4
  go_wp2_with (first
   | (rw [← HW.out]; refine wpList_load_row rfl 45 _ rfl w.heap.size rfl 45 (blk (sealB b)) (0, 0) _ HWg.out Tryd.underlying45 rfl (by rw [HS4.out]; exact sizeB) ?_)
   | refine wpList_store_row rfl 45 _ _ rfl (w.heap.size + 1) (blk (sealB b)) rfl rfl 45 _ HWg2.out (by rw [HS4.out]; exact sizeB) (by rw [HS4.out, size_zeros]) (blk_one _) ?_)
  refine bodyPost_ret (v := .agg (blk (sealB b))) (results_cell_row rfl _ _ (w.heap.size + 1) 45 _ (0, 0) _ rfl (setRow_heap _ _ _ _ _ _ HWg2.out) Tryd.underlying45 rfl (by rw [HS4.out]; exact sizeB)) rfl ⟨rfl, ?_⟩
  exact below_setRow hB' (by omega) _

end Go.Proofs.YtnphgaiiiiknpaaDoor
