import Derived.Test.YtnbdnnlomgjlmaaGood3
namespace Go.Proofs.Ytnbdnnlomgjlmaa
open Go.RowKit
theorem seal_seal (b : List UInt8) (h : b.length = 256) : sealB (sealB b) = sealB b := by
  have e : (sealB b).take 252 = b.take 252 := by
    unfold sealB
    rw [List.take_append_of_le_length (by simp; omega), List.take_take]; rfl
  unfold sealB at e ⊢
  rw [e]
theorem seal_zero_ne : ¬ sealB zeroBlk = zeroBlk := by decide +kernel
theorem size_lit (l : List UInt8) (h : l.length ≤ 1000) : (⟨l.toArray⟩ : ByteArray).size ≤ maxLen := by
  show l.toArray.size ≤ maxLen
  unfold maxLen; simp; omega
theorem good_is (b : List UInt8) (hb : b.length = 256) (w : World) (r : Bool) (hr : decide (sealB b = b) = r) : Calls Try.prog 20 #[.agg (blk b)] w fun e w' => e = .returned (.bool r) ∧ Below w.heap.size w w' :=
  hr ▸ good_any b hb w
theorem zero_is (b : List UInt8) (hb : b.length = 256) (w : World) (r : Bool) (hr : decide (b = zeroBlk) = r) : Calls Try.prog 22 #[.agg (blk b)] w fun e w' => e = .returned (.bool r) ∧ Below w.heap.size w w' :=
  hr ▸ zero_any b hb w
set_option maxRecDepth 100000 in
theorem crchead_any (w : World) : Calls Try.prog 15 #[] w fun e w' => e = .returned (.bool true) ∧ Below w.heap.size w w' := by
  have hz : (Try.prog.info? 23).bind (·.zero) = some (.agg (blk zeroBlk)) := by rw [zeroB, zero_cells]
  have HZ := Lib.hid hz; clear hz
  have hg : (w.alloc (.cells (blk zeroBlk) 23)).heap[w.heap.size]? = some (.cells (blk zeroBlk) 23 (0, 0)) := heap_alloc_new w _
  have HG := Lib.hid hg; clear hg
  have hlz := length_zeroBlk
  have hls := length_sealB zeroBlk hlz
  have hgz : decide (sealB zeroBlk = zeroBlk) = false := decide_eq_false seal_zero_ne
  have hgs : decide (sealB (sealB zeroBlk) = sealB zeroBlk) = true := decide_eq_true (seal_seal _ hlz)
  have hsz : decide (sealB zeroBlk = zeroBlk) = false := hgz
  have L := Lib.hid hlz; have LS := Lib.hid hls; have GZ := Lib.hid hgz; have GS := Lib.hid hgs
  clear hlz hls hgz hgs hsz
  go_enter Try.func15, Try.ntmps15
  go_upto_region 2 with (first
   | refine wpList_build_none rfl 23 rfl (blk zeroBlk) HZ.out Try.underlying23 (by kernel_rfl) ?_
   | refine wpList_alloc_row rfl 23 rfl _ HZ.out ?_
   | refine wpList_store_new rfl 23 _ _ rfl _ _ _ rfl rfl (by rw [size_blk, L.out]; exact sizeB) rfl (blk_one _) ?_)
  have HB : Below w.heap.size w (w.alloc (.cells (blk zeroBlk) 23)) := (Below.refl _ _).alloc (Nat.le_refl _) _
  refine wp_plain_since ?_
  refine wq_call 16 _ _ _ _ _ rfl rfl Try.func16 rfl (by kernel_rfl) (fun w' hC => hC.call (sum_any ⟨#[]⟩ w' (size_lit [] (by simp)))) ?_
  simp only [Act.put, List.setIfInBounds_toArray, List.set_cons_zero, List.set_cons_succ]
  refine wq_eql_int true _ _ _ _ _ _ _ rfl rfl rfl rfl (by decide +kernel) ?_
  simp only [Act.put, List.setIfInBounds_toArray, List.set_cons_zero, List.set_cons_succ]
  refine wq_move _ rfl rfl ?_
  simp only [Act.put, List.setIfInBounds_toArray, List.set_cons_zero, List.set_cons_succ]
  refine wq_call 16 _ _ _ _ _ rfl rfl Try.func16 rfl (by kernel_rfl) (fun w' hC => hC.call (sum_any ⟨#[49, 50, 51, 52, 53, 54, 55, 56, 57]⟩ w' (size_lit [49, 50, 51, 52, 53, 54, 55, 56, 57] (by simp)))) ?_
  simp only [Act.put, List.setIfInBounds_toArray, List.set_cons_zero, List.set_cons_succ]
  refine wq_eql_int true _ _ _ _ _ _ _ rfl rfl rfl rfl (by decide +kernel) ?_
  simp only [Act.put, List.setIfInBounds_toArray, List.set_cons_zero, List.set_cons_succ]
  refine wq_pick true _ _ _ rfl rfl rfl ?_
  simp only [Act.put, List.setIfInBounds_toArray, List.set_cons_zero, List.set_cons_succ]
  refine wq_move _ rfl rfl ?_
  simp only [Act.put, List.setIfInBounds_toArray, List.set_cons_zero, List.set_cons_succ]
  refine wq_load_row 23 _ w.heap.size 23 (blk zeroBlk) (0, 0) _ rfl rfl rfl (fun w' hC => hC.row HG.out) Try.underlying23 rfl (by rw [size_blk, L.out]; exact sizeB) ?_
  simp only [Act.put, List.setIfInBounds_toArray, List.set_cons_zero, List.set_cons_succ]
  refine wq_call 18 _ _ _ _ _ rfl rfl Try.func18 rfl (by kernel_rfl) (fun w' hC => hC.call (seal_any zeroBlk L.out w')) ?_
  simp only [Act.put, List.setIfInBounds_toArray, List.set_cons_zero, List.set_cons_succ]
  refine wq_call 20 _ _ _ _ _ rfl rfl Try.func20 rfl (by kernel_rfl) (fun w' hC => hC.call (good_is (sealB zeroBlk) LS.out w' true GS.out)) ?_
  simp only [Act.put, List.setIfInBounds_toArray, List.set_cons_zero, List.set_cons_succ]
  refine wq_pick true _ _ _ rfl rfl rfl ?_
  simp only [Act.put, List.setIfInBounds_toArray, List.set_cons_zero, List.set_cons_succ]
  refine wq_move _ rfl rfl ?_
  simp only [Act.put, List.setIfInBounds_toArray, List.set_cons_zero, List.set_cons_succ]
  refine wq_load_row 23 _ w.heap.size 23 (blk zeroBlk) (0, 0) _ rfl rfl rfl (fun w' hC => hC.row HG.out) Try.underlying23 rfl (by rw [size_blk, L.out]; exact sizeB) ?_
  simp only [Act.put, List.setIfInBounds_toArray, List.set_cons_zero, List.set_cons_succ]
  refine wq_call 20 _ _ _ _ _ rfl rfl Try.func20 rfl (by kernel_rfl) (fun w' hC => hC.call (good_is zeroBlk L.out w' false GZ.out)) ?_
  simp only [Act.put, List.setIfInBounds_toArray, List.set_cons_zero, List.set_cons_succ]
  refine wq_not false _ _ rfl rfl rfl ?_
  simp only [Act.put, List.setIfInBounds_toArray, List.set_cons_zero, List.set_cons_succ]
  refine wq_pick true _ _ _ rfl rfl rfl ?_
  simp only [Act.put, List.setIfInBounds_toArray, List.set_cons_zero, List.set_cons_succ]
  refine wq_move _ rfl rfl ?_
  simp only [Act.put, List.setIfInBounds_toArray, List.set_cons_zero, List.set_cons_succ]
  refine wq_load_row 23 _ w.heap.size 23 (blk zeroBlk) (0, 0) _ rfl rfl rfl (fun w' hC => hC.row HG.out) Try.underlying23 rfl (by rw [size_blk, L.out]; exact sizeB) ?_
  simp only [Act.put, List.setIfInBounds_toArray, List.set_cons_zero, List.set_cons_succ]
  refine wq_call 22 _ _ _ _ _ rfl rfl Try.func22 rfl (by kernel_rfl) (fun w' hC => hC.call (zero_is zeroBlk L.out w' true (decide_eq_true rfl))) ?_
  simp only [Act.put, List.setIfInBounds_toArray, List.set_cons_zero, List.set_cons_succ]
  refine wq_pick true _ _ _ rfl rfl rfl ?_
  simp only [Act.put, List.setIfInBounds_toArray, List.set_cons_zero, List.set_cons_succ]
  refine wq_move _ rfl rfl ?_
  simp only [Act.put, List.setIfInBounds_toArray, List.set_cons_zero, List.set_cons_succ]
  refine wq_load_row 23 _ w.heap.size 23 (blk zeroBlk) (0, 0) _ rfl rfl rfl (fun w' hC => hC.row HG.out) Try.underlying23 rfl (by rw [size_blk, L.out]; exact sizeB) ?_
  simp only [Act.put, List.setIfInBounds_toArray, List.set_cons_zero, List.set_cons_succ]
  refine wq_call 18 _ _ _ _ _ rfl rfl Try.func18 rfl (by kernel_rfl) (fun w' hC => hC.call (seal_any zeroBlk L.out w')) ?_
  simp only [Act.put, List.setIfInBounds_toArray, List.set_cons_zero, List.set_cons_succ]
  refine wq_call 22 _ _ _ _ _ rfl rfl Try.func22 rfl (by kernel_rfl) (fun w' hC => hC.call (zero_is (sealB zeroBlk) LS.out w' false GZ.out)) ?_
  simp only [Act.put, List.setIfInBounds_toArray, List.set_cons_zero, List.set_cons_succ]
  refine wq_not false _ _ rfl rfl rfl ?_
  simp only [Act.put, List.setIfInBounds_toArray, List.set_cons_zero, List.set_cons_succ]
  refine wq_pick true _ _ _ rfl rfl rfl ?_
  simp only [Act.put, List.setIfInBounds_toArray, List.set_cons_zero, List.set_cons_succ]
  refine wq_assign _ rfl rfl ?_
  simp only [Act.put, List.setIfInBounds_toArray, List.set_cons_zero]
  refine wpQuiet_nil ?_
  intro w' hC
  go_wp2_with fail
  go_ret
  exact ⟨rfl, HB.trans (hC.mono (by simp))⟩
