import Derived.Test.YtnbdnnlomgjlmaaGood
namespace Go.Proofs.Ytnbdnnlomgjlmaa
open Go.RowKit
def zeroBlk : List UInt8 := List.replicate 256 0
theorem length_zeroBlk : zeroBlk.length = 256 := List.length_replicate
theorem zero_cells : zeros 256 (.int .u8 0) = blk zeroBlk := zeros_blk 256
theorem zero_any (b : List UInt8) (hb : b.length = 256) (w : World) : Calls Try.prog 22 #[.agg (blk b)] w fun e w' => e = .returned (.bool (decide (b = zeroBlk))) ∧ Below w.heap.size w w' := by
  have hs : (blk b).size = 256 := by rw [size_blk, hb]
  have HS := Lib.hid hs; clear hs
  have hg : (w.alloc (.cells (blk b) 23)).heap[w.heap.size]? = some (.cells (blk b) 23 (0, 0)) := heap_alloc_new w _
  have HG := Lib.hid hg; clear hg
  have hz : (Try.prog.info? 23).bind (·.zero) = some (.agg (blk zeroBlk)) := by rw [zeroB, zero_cells]
  have HZ := Lib.hid hz; clear hz
  go_enter Try.func22, Try.ntmps22
  go_wp2_with (first
   | refine wpList_load_row rfl 23 _ rfl w.heap.size rfl 23 (blk b) (0, 0) _ HG.out Try.underlying23 rfl (by rw [HS.out]; exact sizeB) ?_
   | refine wpList_build_none rfl 23 rfl (blk zeroBlk) HZ.out Try.underlying23 (by kernel_rfl) ?_
   | refine wpList_eql .eql _ 23 _ _ _ rfl rfl _ _ rfl rfl (by kernel_rfl) (fun w => run_eql_blk w 23 5 256 Try.underlying23 Try.underlying5 sizeU8 _ _ hb length_zeroBlk) ?_)
  go_ret
  exact ⟨rfl, (Below.refl _ _).alloc (Nat.le_refl _) _⟩
