import Derived.Test.YtnfmdcohacflmaaDoorSeal
import Derived.Test.YtnfmdcohacflmaaDoorQuiet
namespace Go.Proofs.YtnfmdcohacflmaaDoor
open Go.RowKit
set_option maxRecDepth 100000
theorem good_any (b : List UInt8) (hb : b.length = 256) (w : World) : Calls Tryd.prog 28 #[.agg (blk b)] w fun e w' => e = .returned (.bool (decide (sealB b = b))) ∧ Below w.heap.size w w' := by
  have hs : (blk b).size = 256 := by rw [size_blk, hb]
  have HS := Lib.hid hs; clear hs
  go_enter Tryd.func28, Tryd.ntmps28
  go_wp2_with fail
  have hg : (w.alloc (.cells (blk b) 33)).heap[w.heap.size]? = some (.cells (blk b) 33 (0, 0)) := heap_alloc_new w _
  have HB : Below w.heap.size w (w.alloc (.cells (blk b) 33)) := (Below.refl _ _).alloc (Nat.le_refl _) _
  refine wp_region_since (by kernel_rfl) (by kernel_rfl) ?_
  refine wq_load_row 33 _ w.heap.size 33 (blk b) (0, 0) _ rfl rfl rfl (fun w' hC => hC.row hg) Tryd.underlying33 rfl (by rw [HS.out]; exact sizeB) ?_
  refine wq_call 21 _ _ _ _ _ rfl rfl Tryd.func21 rfl (by kernel_rfl) (fun w' hC => hC.call (seal_any b hb w')) ?_
  refine wq_load_row 33 _ w.heap.size 33 (blk b) (0, 0) _ rfl rfl rfl (fun w' hC => hC.row hg) Tryd.underlying33 rfl (by rw [HS.out]; exact sizeB) ?_
  refine wq_eql .eql _ 33 33 _ _ rfl rfl _ _ rfl rfl (by kernel_rfl) (fun w => run_eql_blk w 33 5 256 Tryd.underlying33 Tryd.underlying5 sizeU8 _ _ (length_sealB b hb) hb) ?_
  refine wq_assign _ rfl rfl ?_
  refine wpQuiet_nil ?_
  intro w' hC
  simp only [Act.put, List.setIfInBounds_toArray, List.set_cons_zero, List.set_cons_succ]
  go_wp2_with fail
  go_ret
  exact ⟨rfl, HB.trans (hC.mono (by simp))⟩
end Go.Proofs.YtnfmdcohacflmaaDoor
namespace Go.Proofs.YtnfmdcohacflmaaDoor
open Go.RowKit
set_option maxRecDepth 100000
def zeroBlk : List UInt8 := List.replicate 256 0
theorem length_zeroBlk : zeroBlk.length = 256 := List.length_replicate
theorem zero_cells : zeros 256 (.int .u8 0) = blk zeroBlk := zeros_blk 256
end Go.Proofs.YtnfmdcohacflmaaDoor
namespace Go.Proofs.YtnfmdcohacflmaaDoor
open Go.RowKit
set_option maxRecDepth 100000
end Go.Proofs.YtnfmdcohacflmaaDoor
