/- CrcSeals: a sealed block is sealed, has the bytes ahead of its sum as they were, and is the same when it is sealed again: the law returns true for every block and every four bytes. -/
import Derived.Test.YtnbdnnlomgjlmaaCrcHead
namespace Go.Proofs.Ytnbdnnlomgjlmaa
open Go.RowKit
theorem seal_ne_zero (b : List UInt8) (h : b.length = 256) : ¬ sealB b = zeroBlk := by
  intro e
  have h1 := seal_seal b h
  rw [e] at h1
  exact seal_zero_ne h1
theorem take_tail (b t : List UInt8) (h : b.length = 256) : (b.take 252 ++ t).take 252 = b.take 252 := by
  rw [List.take_append_of_le_length (by simp; omega), List.take_take]; rfl
theorem seal_tail (b t : List UInt8) (h : b.length = 256) : sealB (b.take 252 ++ t) = sealB b := by
  unfold sealB; rw [take_tail b t h]
theorem seal_get (b : List UInt8) (h : b.length = 256) (k : Nat) (hk : k < 252) : (blk (sealB b))[k]? = (blk b)[k]? := by
  unfold sealB
  simp [blk, List.getElem?_append, hk, show k < 256 by omega, h]
theorem quad (t : List UInt8) : t.length = 4 → ∃ a b c d, t = [a, b, c, d] := by
  intro h
  match t, h with
  | [a, b, c, d], _ => exact ⟨a, b, c, d, rfl⟩
theorem blk_some (b : List UInt8) (i : Nat) (h : i < b.length) : ∃ v, (blk b)[i]? = some v := ⟨_, blk_get b i h⟩
theorem y_cells (b : List UInt8) (t0 t1 t2 t3 : UInt8) (h : b.length = 256) :
    ((((blk b).setIfInBounds 252 (Value.int .u8 (t0.toNat : Int))).setIfInBounds 253 (Value.int .u8 (t1.toNat : Int))).setIfInBounds 254 (Value.int .u8 (t2.toNat : Int))).setIfInBounds 255 (Value.int .u8 (t3.toNat : Int)) = blk (b.take 252 ++ [t0, t1, t2, t3]) := by
  rw [← set4 b h]
  simp only [← blk_set]; rfl
theorem length_y (b t : List UInt8) (h : b.length = 256) (ht : t.length = 4) : (b.take 252 ++ t).length = 256 := by simp [ht]; omega
theorem good_eq (y b : List UInt8) (h : sealB y = sealB b) : (decide (sealB y = y) == decide (y = sealB b)) = true := by
  rw [h]
  by_cases e : y = sealB b
  · simp [e.symm]
  · simp [e, Ne.symm e]
set_option maxRecDepth 100000 in
theorem crcseals_any (b t : List UInt8) (hb : b.length = 256) (ht : t.length = 4) (w : World) : Calls Try.prog 4 #[.agg (blk b), .agg (blk t)] w fun e w' => e = .returned (.bool true) ∧ Below w.heap.size w w' := by
  obtain ⟨t0, t1, t2, t3, rfl⟩ := quad t ht
  have L := Lib.hid hb
  have LS := Lib.hid (length_sealB b hb)
  have HG := Lib.hid (heap_alloc2_old w (.cells (blk b) 23) (.cells (blk [t0, t1, t2, t3]) 30))
  have HT := Lib.hid (heap_alloc2_new w (.cells (blk b) 23) (.cells (blk [t0, t1, t2, t3]) 30))
  clear hb ht
  go_enter Try.func4, Try.ntmps4
  go_wp2_with (first
   | refine wpList_load_row rfl 23 _ rfl w.heap.size rfl 23 (blk b) (0, 0) _ HG.out Try.underlying23 rfl (by rw [size_blk, L.out]; exact sizeB) ?_
   | (go_at_call 18; refine (seal_any b L.out _).mono ?_; rintro e w1 ⟨rfl, hb1⟩; have HG1 := Lib.hid ((hb1.block w.heap.size (by simp; omega)).trans HG.out); have HT1 := Lib.hid ((hb1.block (w.heap.size + 1) (by simp)).trans HT.out); have HB1 : Below w.heap.size w w1 := (((Below.refl _ _).alloc (Nat.le_refl _) _).alloc (by simp) _).trans (hb1.mono (by simp; omega)); have hz1 := hb1.size; simp only [World.size_alloc] at hz1; clear hb1)
   | refine wpList_alloc_row rfl 23 rfl _ zeroB ?_
   | refine wpList_store_new rfl 23 _ _ rfl _ _ _ rfl rfl (by rw [size_blk, LS.out]; exact sizeB) (by rw [size_blk, LS.out, size_zeros]) (blk_one _) ?_
   | refine wpList_load_row rfl 23 _ rfl w.heap.size rfl 23 (blk b) (0, 0) _ ((Below.heap_alloc w1 _ _ (by omega)).trans HG1.out) Try.underlying23 rfl (by rw [size_blk, L.out]; exact sizeB) ?_
   | refine wpList_store_new rfl 23 _ _ rfl _ _ _ rfl rfl (by rw [size_blk, L.out]; exact sizeB) (by rw [size_blk, L.out, size_zeros]) (blk_one _) ?_)
  have tc : ∀ i v, (blk [t0, t1, t2, t3])[i]? = some v → w1.cell? ⟨w.heap.size + 1, i, none⟩ = some v := fun i v h => (cell_of_row w1 _ i _ _ _ HT1.out).trans h
  have c0 : w1.cell? ⟨w.heap.size + 1, 0, none⟩ = some (.int .u8 (t0.toNat : Int)) := tc 0 _ rfl
  have c1 : w1.cell? ⟨w.heap.size + 1, 1, none⟩ = some (.int .u8 (t1.toNat : Int)) := tc 1 _ rfl
  have c2 : w1.cell? ⟨w.heap.size + 1, 2, none⟩ = some (.int .u8 (t2.toNat : Int)) := tc 2 _ rfl
  have c3 : w1.cell? ⟨w.heap.size + 1, 3, none⟩ = some (.int .u8 (t3.toNat : Int)) := tc 3 _ rfl
  obtain ⟨e0, d0⟩ := blk_some b 252 (by rw [L.out]; omega)
  obtain ⟨e1, d1⟩ := blk_some b 253 (by rw [L.out]; omega)
  obtain ⟨e2, d2⟩ := blk_some b 254 (by rw [L.out]; omega)
  obtain ⟨e3, d3⟩ := blk_some b 255 (by rw [L.out]; omega)
  have hsb := size_blk b
  rw [L.out] at hsb
  clear tc
  have hz2 : w.heap.size + 1 < w1.heap.size := by omega
  have hz3 : w.heap.size < w1.heap.size := by omega
  refine wp_loop_rounds 5 ?_
  rw [rounds_succ]
  go_wp2_with fail
  rw [rounds_succ]
  go_wp2_with fail
  rw [rounds_succ]
  go_wp2_with fail
  rw [rounds_succ]
  go_wp2_with fail
  rw [rounds_succ]
  go_wp2_with fail
  rw [y_cells b t0 t1 t2 t3 L.out]
  have LY := Lib.hid (length_y b [t0, t1, t2, t3] L.out rfl)
  have SY := Lib.hid (seal_tail b [t0, t1, t2, t3] L.out)
  generalize b.take 252 ++ [t0, t1, t2, t3] = y at LY SY ⊢
  obtain ⟨W, hW⟩ : ∃ W, W = (w1.alloc (.cells (blk (sealB b)) 23)).alloc (.cells (blk y) 23) := ⟨_, rfl⟩
  have HX := Lib.hid (show W.heap[w1.heap.size]? = some (.cells (blk (sealB b)) 23 (0, 0)) from by rw [hW]; exact heap_alloc2_old w1 _ _)
  have HY := Lib.hid (show W.heap[w1.heap.size + 1]? = some (.cells (blk y) 23 (0, 0)) from by rw [hW]; exact heap_alloc2_new w1 _ _)
  have HGW := Lib.hid (show W.heap[w.heap.size]? = some (.cells (blk b) 23 (0, 0)) from by
    rw [hW, Below.heap_alloc _ _ _ (by simp; omega), Below.heap_alloc _ _ _ hz3]; exact HG1.out)
  have HBW : Below w.heap.size w W := by rw [hW]; exact (HB1.alloc HB1.size _).alloc (by simp; omega) _
  rw [← hW]
  clear hW c0 c1 c2 c3 d0 d1 d2 d3 hsb hz1 hz2 hz3
  have HC := Lib.hid (fun (k : Nat) (hk : k < 252) => (show W.cell? ⟨w1.heap.size, k, none⟩ = some (.int .u8 ((b[k]'(by rw [L.out]; omega)).toNat : Int)) from by
    rw [cell_of_row _ _ _ _ _ _ HX.out, seal_get b L.out k hk, blk_get b k (by rw [L.out]; omega)]; rfl))
  have HD := Lib.hid (fun (k : Nat) (hk : k < 252) => (show W.cell? ⟨w.heap.size, k, none⟩ = some (.int .u8 ((b[k]'(by rw [L.out]; omega)).toNat : Int)) from by
    rw [cell_of_row _ _ _ _ _ _ HGW.out, blk_get b k (by rw [L.out]; omega)]; rfl))
  go_loopw [4, 8] (fun _ i wr => ∃ k : Nat, k ≤ 252 ∧ i = .int .i64 k ∧ ∃ n, wr = W.drewN n) (fun _ i _ => 252 - (intOf i).toNat)
  case atStart => exact ⟨0, by omega, rfl, 0, rfl⟩
  case round =>
    obtain ⟨k, hk, rfl, n, rfl⟩ := hrel
    by_cases hlt : k < 252
    · have h1 := HC.out k hlt
      have h2 := HD.out k hlt
      generalize (b[k]'(by rw [L.out]; omega)).toNat = c at h1 h2
      go_wp2_with fail
      go_quiet (fail)
      go_wp2_with fail
      go_roundw
      case rel => exact ⟨k + 1, by omega, by go_num, _, rfl⟩
      case measure => simp [intOf]; omega
    · obtain rfl : k = 252 := by omega
      go_wp2_with fail
      refine wp_region_since (by kernel_rfl) (by kernel_rfl) ?_
      refine wq_load_row 23 _ w1.heap.size 23 (blk (sealB b)) (0, 0) _ rfl rfl rfl (fun w' hC => hC.row HX.out) Try.underlying23 rfl (by rw [size_blk, LS.out]; exact sizeB) ?_
      simp only [Act.put, List.setIfInBounds_toArray, List.set_cons_zero, List.set_cons_succ]
      refine wq_call 20 _ _ _ _ _ rfl rfl Try.func20 rfl (by kernel_rfl) (fun w' hC => hC.call (good_is (sealB b) LS.out w' true (decide_eq_true (seal_seal b L.out)))) ?_
      simp only [Act.put, List.setIfInBounds_toArray, List.set_cons_zero, List.set_cons_succ]
      refine wq_move _ rfl rfl ?_
      simp only [Act.put, List.setIfInBounds_toArray, List.set_cons_zero, List.set_cons_succ]
      refine wq_load_row 23 _ (w1.heap.size + 1) 23 (blk y) (0, 0) _ rfl rfl rfl (fun w' hC => hC.row HY.out) Try.underlying23 rfl (by rw [size_blk, LY.out]; exact sizeB) ?_
      simp only [Act.put, List.setIfInBounds_toArray, List.set_cons_zero, List.set_cons_succ]
      refine wq_call 18 _ _ _ _ _ rfl rfl Try.func18 rfl (by kernel_rfl) (fun w' hC => hC.call (seal_any y LY.out w')) ?_
      simp only [Act.put, List.setIfInBounds_toArray, List.set_cons_zero, List.set_cons_succ]
      refine wq_load_row 23 _ w1.heap.size 23 (blk (sealB b)) (0, 0) _ rfl rfl rfl (fun w' hC => hC.row HX.out) Try.underlying23 rfl (by rw [size_blk, LS.out]; exact sizeB) ?_
      simp only [Act.put, List.setIfInBounds_toArray, List.set_cons_zero, List.set_cons_succ]
      refine wq_eql .eql true 23 23 _ _ rfl rfl _ _ rfl rfl (by kernel_rfl) (fun w => by rw [run_eql_blk w 23 5 256 Try.underlying23 Try.underlying5 sizeU8 (sealB y) (sealB b) (length_sealB y LY.out) LS.out, decide_eq_true SY.out]) ?_
      simp only [Act.put, List.setIfInBounds_toArray, List.set_cons_zero, List.set_cons_succ]
      refine wq_pick true _ _ _ rfl rfl rfl ?_
      simp only [Act.put, List.setIfInBounds_toArray, List.set_cons_zero, List.set_cons_succ]
      refine wq_move _ rfl rfl ?_
      simp only [Act.put, List.setIfInBounds_toArray, List.set_cons_zero, List.set_cons_succ]
      refine wq_load_row 23 _ w1.heap.size 23 (blk (sealB b)) (0, 0) _ rfl rfl rfl (fun w' hC => hC.row HX.out) Try.underlying23 rfl (by rw [size_blk, LS.out]; exact sizeB) ?_
      simp only [Act.put, List.setIfInBounds_toArray, List.set_cons_zero, List.set_cons_succ]
      refine wq_call 18 _ _ _ _ _ rfl rfl Try.func18 rfl (by kernel_rfl) (fun w' hC => hC.call (seal_any (sealB b) LS.out w')) ?_
      simp only [Act.put, List.setIfInBounds_toArray, List.set_cons_zero, List.set_cons_succ]
      refine wq_load_row 23 _ w1.heap.size 23 (blk (sealB b)) (0, 0) _ rfl rfl rfl (fun w' hC => hC.row HX.out) Try.underlying23 rfl (by rw [size_blk, LS.out]; exact sizeB) ?_
      simp only [Act.put, List.setIfInBounds_toArray, List.set_cons_zero, List.set_cons_succ]
      refine wq_eql .eql true 23 23 _ _ rfl rfl _ _ rfl rfl (by kernel_rfl) (fun w => by rw [run_eql_blk w 23 5 256 Try.underlying23 Try.underlying5 sizeU8 (sealB (sealB b)) (sealB b) (length_sealB _ LS.out) LS.out, decide_eq_true (seal_seal b L.out)]) ?_
      simp only [Act.put, List.setIfInBounds_toArray, List.set_cons_zero, List.set_cons_succ]
      refine wq_pick true _ _ _ rfl rfl rfl ?_
      simp only [Act.put, List.setIfInBounds_toArray, List.set_cons_zero, List.set_cons_succ]
      refine wq_move _ rfl rfl ?_
      simp only [Act.put, List.setIfInBounds_toArray, List.set_cons_zero, List.set_cons_succ]
      refine wq_load_row 23 _ w1.heap.size 23 (blk (sealB b)) (0, 0) _ rfl rfl rfl (fun w' hC => hC.row HX.out) Try.underlying23 rfl (by rw [size_blk, LS.out]; exact sizeB) ?_
      simp only [Act.put, List.setIfInBounds_toArray, List.set_cons_zero, List.set_cons_succ]
      refine wq_call 22 _ _ _ _ _ rfl rfl Try.func22 rfl (by kernel_rfl) (fun w' hC => hC.call (zero_is (sealB b) LS.out w' false (decide_eq_false (seal_ne_zero b L.out)))) ?_
      simp only [Act.put, List.setIfInBounds_toArray, List.set_cons_zero, List.set_cons_succ]
      refine wq_not false _ _ rfl rfl rfl ?_
      simp only [Act.put, List.setIfInBounds_toArray, List.set_cons_zero, List.set_cons_succ]
      refine wq_pick true _ _ _ rfl rfl rfl ?_
      simp only [Act.put, List.setIfInBounds_toArray, List.set_cons_zero, List.set_cons_succ]
      refine wq_move _ rfl rfl ?_
      simp only [Act.put, List.setIfInBounds_toArray, List.set_cons_zero, List.set_cons_succ]
      refine wq_load_row 23 _ (w1.heap.size + 1) 23 (blk y) (0, 0) _ rfl rfl rfl (fun w' hC => hC.row HY.out) Try.underlying23 rfl (by rw [size_blk, LY.out]; exact sizeB) ?_
      simp only [Act.put, List.setIfInBounds_toArray, List.set_cons_zero, List.set_cons_succ]
      refine wq_call 20 _ _ _ _ _ rfl rfl Try.func20 rfl (by kernel_rfl) (fun w' hC => hC.call (good_any y LY.out w')) ?_
      simp only [Act.put, List.setIfInBounds_toArray, List.set_cons_zero, List.set_cons_succ]
      refine wq_load_row 23 _ (w1.heap.size + 1) 23 (blk y) (0, 0) _ rfl rfl rfl (fun w' hC => hC.row HY.out) Try.underlying23 rfl (by rw [size_blk, LY.out]; exact sizeB) ?_
      simp only [Act.put, List.setIfInBounds_toArray, List.set_cons_zero, List.set_cons_succ]
      refine wq_load_row 23 _ w1.heap.size 23 (blk (sealB b)) (0, 0) _ rfl rfl rfl (fun w' hC => hC.row HX.out) Try.underlying23 rfl (by rw [size_blk, LS.out]; exact sizeB) ?_
      simp only [Act.put, List.setIfInBounds_toArray, List.set_cons_zero, List.set_cons_succ]
      refine wq_eql .eql (decide (y = sealB b)) 23 23 _ _ rfl rfl _ _ rfl rfl (by kernel_rfl) (fun w => run_eql_blk w 23 5 256 Try.underlying23 Try.underlying5 sizeU8 y (sealB b) LY.out LS.out) ?_
      simp only [Act.put, List.setIfInBounds_toArray, List.set_cons_zero, List.set_cons_succ]
      refine wq_eql_bool true _ _ _ _ _ _ rfl rfl Try.underlying4 rfl rfl (good_eq y b SY.out) ?_
      simp only [Act.put, List.setIfInBounds_toArray, List.set_cons_zero, List.set_cons_succ]
      refine wq_pick true _ _ _ rfl rfl rfl ?_
      simp only [Act.put, List.setIfInBounds_toArray, List.set_cons_zero, List.set_cons_succ]
      refine wq_move _ rfl rfl ?_
      simp only [Act.put, List.setIfInBounds_toArray, List.set_cons_zero, List.set_cons_succ]
      refine wq_call 15 _ _ _ _ _ rfl rfl Try.func15 rfl (by kernel_rfl) (fun w' hC => hC.call (crchead_any w')) ?_
      simp only [Act.put, List.setIfInBounds_toArray, List.set_cons_zero, List.set_cons_succ]
      refine wq_pick true _ _ _ rfl rfl rfl ?_
      simp only [Act.put, List.setIfInBounds_toArray, List.set_cons_zero, List.set_cons_succ]
      refine wq_assign _ rfl rfl ?_
      simp only [Act.put, List.setIfInBounds_toArray, List.set_cons_zero, List.set_cons_succ]
      refine wpQuiet_nil ?_
      intro w' hC
      go_wp2_with fail
      go_ret
      exact ⟨rfl, (below_drewN HBW n).trans (hC.mono HBW.size)⟩
