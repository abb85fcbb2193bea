/- CrcTells: the sum of any bytes, and what a block is sealed as, are the document's: the law returns true for every text and every block. -/
import Derived.Test.YtnbdnnlomgjlmaaCrcHead
namespace Go.Proofs.Ytnbdnnlomgjlmaa
open Go.RowKit
set_option maxRecDepth 100000 in
theorem crctells_any (s : ByteArray) (b : List UInt8) (hs : s.size ≤ maxLen) (hb : b.length = 256) (w : World) : Calls Try.prog 3 #[.string s, .agg (blk b)] w fun e w' => e = .returned (.bool true) ∧ Below w.heap.size w w' := by
  have hs' : s.size ≤ 9223372036854775807 := hs
  have hg : (w.alloc (.cells (blk b) 23)).heap[w.heap.size]? = some (.cells (blk b) 23 (0, 0)) := heap_alloc_new w _
  have HG := Lib.hid hg; clear hg
  have HS := Lib.hid hs; clear hs
  have L := Lib.hid hb; clear hb
  have HB : Below w.heap.size w (w.alloc (.cells (blk b) 23)) := (Below.refl _ _).alloc (Nat.le_refl _) _
  by_cases h : 3000 < s.size
  · have h' : (3000 : Int) < (s.size : Int) := by omega
    go_enter Try.func3, Try.ntmps3
    go_wp2_with (go_at_call 15; refine (crchead_any _).mono ?_; rintro e w1 ⟨rfl, hb1⟩)
    go_ret
    exact ⟨rfl, HB.trans (hb1.mono (by simp))⟩
  · have h' : ¬ (3000 : Int) < (s.size : Int) := by omega
    go_enter Try.func3, Try.ntmps3
    go_wp2_with fail
    refine wp_region_since (by kernel_rfl) (by kernel_rfl) ?_
    refine wq_move _ rfl rfl ?_
    simp only [Act.put, List.setIfInBounds_toArray, List.set_cons_zero, List.set_cons_succ]
    refine wq_call 16 _ _ _ _ _ rfl rfl Try.func16 rfl (by kernel_rfl) (fun w' hC => hC.call (sum_any s w' HS.out)) ?_
    simp only [Act.put, List.setIfInBounds_toArray, List.set_cons_zero, List.set_cons_succ]
    refine wq_move _ rfl rfl ?_
    simp only [Act.put, List.setIfInBounds_toArray, List.set_cons_zero, List.set_cons_succ]
    refine wq_call 17 _ _ _ _ _ rfl rfl Try.func17 rfl (by kernel_rfl) (fun w' hC => hC.call (refsum_any s w' HS.out)) ?_
    simp only [Act.put, List.setIfInBounds_toArray, List.set_cons_zero, List.set_cons_succ]
    refine wq_eql_int true _ _ _ _ _ _ _ rfl rfl rfl rfl (beq_self_eq_true _) ?_
    simp only [Act.put, List.setIfInBounds_toArray, List.set_cons_zero, List.set_cons_succ]
    refine wq_move _ rfl rfl ?_
    simp only [Act.put, List.setIfInBounds_toArray, List.set_cons_zero, List.set_cons_succ]
    refine wq_load_row 23 _ w.heap.size 23 (blk b) (0, 0) _ rfl rfl rfl (fun w' hC => hC.row HG.out) Try.underlying23 rfl (by rw [size_blk, L.out]; exact sizeB) ?_
    simp only [Act.put, List.setIfInBounds_toArray, List.set_cons_zero, List.set_cons_succ]
    refine wq_call 18 _ _ _ _ _ rfl rfl Try.func18 rfl (by kernel_rfl) (fun w' hC => hC.call (seal_any b L.out w')) ?_
    simp only [Act.put, List.setIfInBounds_toArray, List.set_cons_zero, List.set_cons_succ]
    refine wq_load_row 23 _ w.heap.size 23 (blk b) (0, 0) _ rfl rfl rfl (fun w' hC => hC.row HG.out) Try.underlying23 rfl (by rw [size_blk, L.out]; exact sizeB) ?_
    simp only [Act.put, List.setIfInBounds_toArray, List.set_cons_zero, List.set_cons_succ]
    refine wq_call 19 _ _ _ _ _ rfl rfl Try.func19 rfl (by kernel_rfl) (fun w' hC => hC.call (refseal_any b L.out w')) ?_
    simp only [Act.put, List.setIfInBounds_toArray, List.set_cons_zero, List.set_cons_succ]
    refine wq_eql .eql true 23 23 _ _ rfl rfl _ _ rfl rfl (by kernel_rfl) (fun w => by rw [run_eql_blk w 23 5 256 Try.underlying23 Try.underlying5 sizeU8 (sealB b) (sealB b) (length_sealB b L.out) (length_sealB b L.out), decide_eq_true rfl]) ?_
    simp only [Act.put, List.setIfInBounds_toArray, List.set_cons_zero, List.set_cons_succ]
    refine wq_pick true _ _ _ rfl rfl rfl ?_
    simp only [Act.put, List.setIfInBounds_toArray, List.set_cons_zero, List.set_cons_succ]
    refine wq_move _ rfl rfl ?_
    simp only [Act.put, List.setIfInBounds_toArray, List.set_cons_zero, List.set_cons_succ]
    refine wq_load_row 23 _ w.heap.size 23 (blk b) (0, 0) _ rfl rfl rfl (fun w' hC => hC.row HG.out) Try.underlying23 rfl (by rw [size_blk, L.out]; exact sizeB) ?_
    simp only [Act.put, List.setIfInBounds_toArray, List.set_cons_zero, List.set_cons_succ]
    refine wq_call 20 _ _ _ _ _ rfl rfl Try.func20 rfl (by kernel_rfl) (fun w' hC => hC.call (good_any b L.out w')) ?_
    simp only [Act.put, List.setIfInBounds_toArray, List.set_cons_zero, List.set_cons_succ]
    refine wq_load_row 23 _ w.heap.size 23 (blk b) (0, 0) _ rfl rfl rfl (fun w' hC => hC.row HG.out) Try.underlying23 rfl (by rw [size_blk, L.out]; exact sizeB) ?_
    simp only [Act.put, List.setIfInBounds_toArray, List.set_cons_zero, List.set_cons_succ]
    refine wq_call 21 _ _ _ _ _ rfl rfl Try.func21 rfl (by kernel_rfl) (fun w' hC => hC.call (refgood_any b L.out w')) ?_
    simp only [Act.put, List.setIfInBounds_toArray, List.set_cons_zero, List.set_cons_succ]
    refine wq_eql_bool true _ _ _ _ _ _ rfl rfl Try.underlying4 rfl rfl (beq_self_eq_true _) ?_
    simp only [Act.put, List.setIfInBounds_toArray, List.set_cons_zero, List.set_cons_succ]
    refine wq_pick true _ _ _ rfl rfl rfl ?_
    simp only [Act.put, List.setIfInBounds_toArray, List.set_cons_zero, List.set_cons_succ]
    refine wq_move _ rfl rfl ?_
    simp only [Act.put, List.setIfInBounds_toArray, List.set_cons_zero, List.set_cons_succ]
    refine wq_load_row 23 _ w.heap.size 23 (blk b) (0, 0) _ rfl rfl rfl (fun w' hC => hC.row HG.out) Try.underlying23 rfl (by rw [size_blk, L.out]; exact sizeB) ?_
    simp only [Act.put, List.setIfInBounds_toArray, List.set_cons_zero, List.set_cons_succ]
    refine wq_call 22 _ _ _ _ _ rfl rfl Try.func22 rfl (by kernel_rfl) (fun w' hC => hC.call (zero_any b L.out w')) ?_
    simp only [Act.put, List.setIfInBounds_toArray, List.set_cons_zero, List.set_cons_succ]
    refine wq_load_row 23 _ w.heap.size 23 (blk b) (0, 0) _ rfl rfl rfl (fun w' hC => hC.row HG.out) Try.underlying23 rfl (by rw [size_blk, L.out]; exact sizeB) ?_
    simp only [Act.put, List.setIfInBounds_toArray, List.set_cons_zero, List.set_cons_succ]
    refine wq_call 23 _ _ _ _ _ rfl rfl Try.func23 rfl (by kernel_rfl) (fun w' hC => hC.call (refzero_any b L.out w')) ?_
    simp only [Act.put, List.setIfInBounds_toArray, List.set_cons_zero, List.set_cons_succ]
    refine wq_eql_bool true _ _ _ _ _ _ rfl rfl Try.underlying4 rfl rfl (beq_self_eq_true _) ?_
    simp only [Act.put, List.setIfInBounds_toArray, List.set_cons_zero, List.set_cons_succ]
    refine wq_pick true _ _ _ rfl rfl rfl ?_
    simp only [Act.put, List.setIfInBounds_toArray, List.set_cons_zero, List.set_cons_succ]
    refine wq_move _ rfl rfl ?_
    simp only [Act.put, List.setIfInBounds_toArray, List.set_cons_zero, List.set_cons_succ]
    refine wq_call 15 _ _ _ _ _ rfl rfl Try.func15 rfl (by kernel_rfl) (fun w' hC => hC.call (crchead_any w')) ?_
    simp only [Act.put, List.setIfInBounds_toArray, List.set_cons_zero, List.set_cons_succ]
    refine wq_pick true _ _ _ rfl rfl rfl ?_
    simp only [Act.put, List.setIfInBounds_toArray, List.set_cons_zero, List.set_cons_succ]
    refine wq_assign _ rfl rfl ?_
    simp only [Act.put, List.setIfInBounds_toArray, List.set_cons_zero, List.set_cons_succ]
    refine wpQuiet_nil ?_
    intro w' hC
    go_wp2_with fail
    go_ret
    exact ⟨rfl, HB.trans (hC.mono (by simp))⟩
