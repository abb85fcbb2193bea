import Derived.Test.YtnbdnnlomgjlmaaSeal
import Derived.Test.YtnbdnnlomgjlmaaQuiet
namespace Go.Proofs.Ytnbdnnlomgjlmaa
open Go.RowKit
theorem good_any (b : List UInt8) (hb : b.length = 256) (w : World) : Calls Try.prog 20 #[.agg (blk b)] w fun e w' => e = .returned (.bool (decide (sealB b = b))) ∧ Below w.heap.size w w' := by
  have hs : (blk b).size = 256 := by rw [size_blk, hb]
  have HS := Lib.hid hs; clear hs
  go_enter Try.func20, Try.ntmps20
  go_wp2_with fail
  have hg : (w.alloc (.cells (blk b) 23)).heap[w.heap.size]? = some (.cells (blk b) 23 (0, 0)) := heap_alloc_new w _
  have HB : Below w.heap.size w (w.alloc (.cells (blk b) 23)) := (Below.refl _ _).alloc (Nat.le_refl _) _
  refine wp_region_since (by kernel_rfl) (by kernel_rfl) ?_
  refine wq_load_row 23 _ w.heap.size 23 (blk b) (0, 0) _ rfl rfl rfl (fun w' hC => hC.row hg) Try.underlying23 rfl (by rw [HS.out]; exact sizeB) ?_
  refine wq_call 18 _ _ _ _ _ rfl rfl Try.func18 rfl (by kernel_rfl) (fun w' hC => hC.call (seal_any b hb w')) ?_
  refine wq_load_row 23 _ w.heap.size 23 (blk b) (0, 0) _ rfl rfl rfl (fun w' hC => hC.row hg) Try.underlying23 rfl (by rw [HS.out]; exact sizeB) ?_
  refine wq_eql .eql _ 23 23 _ _ rfl rfl _ _ rfl rfl (by kernel_rfl) (fun w => run_eql_blk w 23 5 256 Try.underlying23 Try.underlying5 sizeU8 _ _ (length_sealB b hb) hb) ?_
  refine wq_assign _ rfl rfl ?_
  refine wpQuiet_nil ?_
  intro w' hC
  simp only [Act.put, List.setIfInBounds_toArray, List.set_cons_zero, List.set_cons_succ]
  go_wp2_with fail
  go_ret
  exact ⟨rfl, HB.trans (hC.mono (by simp))⟩
