/- The device layer: the document's device of nought blocks: what it answers. -/
import Derived.Test.YtnbdnnlomgjlmaaDevFuses
import Derived.Test.YtnbdnnlomgjlmaaDevCopy
namespace Go.Proofs.Ytnbdnnlomgjlmaa
open Go.RowKit
set_option linter.unusedSimpArgs false
set_option linter.unusedVariables false
set_option maxRecDepth 100000
def rfV (f : Bool) (k : Int) (n : Int) : Array Value := #[.int .u32 0, .slice none 0 0, .slice none 0 0, .bool f, .int .i64 k, .bool false, .int .u64 n]
theorem sizeRf : (Try.prog.info? 75).map (·.size) = some 7 := by kernel_rfl
theorem zeroRf : (Try.prog.info? 75).bind (·.zero) = some (.agg (rfV false 0 0)) := by kernel_rfl
theorem rfOne (f : Bool) (k : Int) (n : Int) : (rfV f k n).all (·.oneCell') = true := by
  rw [Array.all_eq_true_iff_forall_mem]
  intro v hv
  simp only [rfV, List.mem_toArray, List.mem_cons, List.not_mem_nil, or_false] at hv
  rcases hv with rfl | rfl | rfl | rfl | rfl | rfl | rfl <;> rfl
theorem heap_alloc3_new (w : World) (o1 o2 o3 : Obj) : (((w.alloc o1).alloc o2).alloc o3).heap[w.heap.size + 2]? = some o3 := by
  have := heap_alloc_new ((w.alloc o1).alloc o2) o3
  rwa [show ((w.alloc o1).alloc o2).heap.size = w.heap.size + 2 by simp] at this
set_option maxHeartbeats 1000000 in
theorem refburn_zero (w : World) : Calls Try.prog 92 #[.agg (rfV false 0 0)] w fun e w' => e = .returned (.agg (rfV false 0 1)) ∧ Below w.heap.size w w' := by
  unfold rfV
  go_enter Try.func92, Try.ntmps92
  go_wp2
  refine bodyPost_ret (v := _) (results_cell_row rfl _ _ (w.heap.size + 1) 75 _ (0, 0) _ rfl (heap_alloc2_new w _ _) Try.underlying75 rfl sizeRf) rfl ⟨rfl, ((Below.refl _ _).alloc (Nat.le_refl _) _).alloc (by simp) _⟩
set_option maxHeartbeats 1000000 in
theorem reffuse_zero (k : Int) (w : World) : Calls Try.prog 79 #[.agg (rfV false 0 0), .int .i64 k] w fun e w' => e = .returned (.tuple #[.agg (if k < 0 then rfV false 0 0 else rfV true k 0), .int .i64 (if k < 0 then 2 else 0)]) ∧ Below w.heap.size w w' := by
  unfold rfV
  by_cases hk : k < 0
  · go_enter Try.func79, Try.ntmps79
    go_wp2
    refine bodyPost_ret (v := _) (results_cell_slot rfl _ _ (w.heap.size + 1) 75 _ (0, 0) _ _ rfl rfl (heap_alloc2_new w _ _) Try.underlying75 rfl sizeRf) rfl ⟨?_, ((Below.refl _ _).alloc (Nat.le_refl _) _).alloc (by simp) _⟩
    rfl
  · go_enter Try.func79, Try.ntmps79
    go_wp2
    refine bodyPost_ret (v := _) (results_cell_slot rfl _ _ (w.heap.size + 1) 75 _ (0, 0) _ _ rfl rfl (heap_alloc2_new w _ _) Try.underlying75 rfl sizeRf) rfl ⟨?_, ((Below.refl _ _).alloc (Nat.le_refl _) _).alloc (by simp) _⟩
    rfl
set_option maxHeartbeats 1000000 in
theorem refwrite_zero (a : Nat) (b : List UInt8) (w : World) : Calls Try.prog 76 #[.agg (rfV false 0 0), .int .u32 (a : Int), .agg (blk b)] w fun e w' => e = .returned (.tuple #[.agg (rfV false 0 0), .int .i64 2]) ∧ Below w.heap.size w w' := by
  unfold rfV
  have ha : ((0 : Int) ≤ (a : Int)) := by omega
  go_enter Try.func76, Try.ntmps76
  go_wp2
  refine bodyPost_ret (v := _) (results_cell_slot rfl _ _ (w.heap.size + 2) 75 _ (0, 0) _ _ rfl rfl (heap_alloc3_new w _ _ _) Try.underlying75 rfl sizeRf) rfl ⟨?_, (((Below.refl _ _).alloc (Nat.le_refl _) _).alloc (by simp) _).alloc (by simp; omega) _⟩
  rfl
set_option maxHeartbeats 1000000 in
theorem refflush_zero (w : World) : Calls Try.prog 77 #[.agg (rfV false 0 0)] w fun e w' => e = .returned (.tuple #[.agg (rfV false 0 1), .int .i64 0]) ∧ Below w.heap.size w w' := by
  have q1 := ((Rows.start w).alloc (rfV false 0 0) 75).alloc (rfV false 0 0) 75
  go_enter Try.func77, Try.ntmps77
  unfold rfV
  obtain ⟨W, hW⟩ : ∃ W, W = (w.alloc (.cells (rfV false 0 0) 75)).alloc (.cells (rfV false 0 0) 75) := ⟨_, rfl⟩
  rw [show (w.alloc (.cells (rfV false 0 0) 75)).heap.size = w.heap.size + 1 by simp, ← hW] at q1
  have hW' := hW
  unfold rfV at hW'
  go_upto_region 1 with (fail)
  rw [← hW']
  clear hW hW'
  obtain ⟨g1, hg1⟩ : ∃ g, g = w.heap.size := ⟨_, rfl⟩
  rw [← hg1] at q1 ⊢
  clear hg1
  have R1 := Lib.hid q1
  clear q1
  have c5 : W.cell? ⟨g1, 5, none⟩ = some (.bool false) := R1.out.cell 1 5 rfl rfl
  go_upto_region 3 with (fail)
  clear c5
  go_upto_region 4 with (first
    | refine wpList_load_row rfl 75 _ rfl g1 rfl 75 (rfV false 0 0) (0, 0) _ (R1.out.get 1 rfl) Try.underlying75 rfl sizeRf ?_
    | (go_at_call 92; refine (refburn_zero _).mono ?_; rintro e w2 ⟨rfl, hb⟩; have R2 := Lib.hid (R1.out.call hb); clear hb R1)
    | refine wpList_store_row rfl 75 _ _ rfl g1 (rfV false 0 1) rfl rfl 75 _ (R2.out.get 1 rfl) sizeRf rfl (rfOne _ _ _) ?_)
  have q3 := R2.out.setRow 1 (rfV false 0 1) rfl
  obtain ⟨W3, hW3⟩ : ∃ W, W = w2.setRow g1 (rfV false 0 1) := ⟨_, rfl⟩
  rw [← hW3] at q3 ⊢
  have R3 := Lib.hid q3
  clear q3 hW3 R2
  have c5 : W3.cell? ⟨g1, 5, none⟩ = some (.bool false) := R3.out.cell 1 5 rfl rfl
  have c2 : W3.cell? ⟨g1, 2, none⟩ = some (.slice none 0 0) := R3.out.cell 1 2 rfl rfl
  have f2 : W3.frozen? ⟨g1, 2, none⟩ = false := R3.out.free 1 2 rfl
  go_wp2_with fail
  refine wp_loop_rounds 1 ?_
  rw [rounds_succ]
  go_upto_region 11 with (fail)
  have q4 := R3.out.setCell 1 2 (.slice none 0 0) rfl
  have q5 : Rows w (W3.setCell ⟨g1, 2, none⟩ (.slice none 0 0)) [(g1 + 1, rfV false 0 0, 75), (g1, rfV false 0 1, 75)] := by simpa [rfV] using q4
  obtain ⟨W4, hW4⟩ : ∃ W, W = W3.setCell ⟨g1, 2, none⟩ (.slice none 0 0) := ⟨_, rfl⟩
  rw [← hW4] at q5 ⊢
  have R4 := Lib.hid q5
  clear q4 q5 hW4 R3 c2 c5 f2
  go_wp2_with (first
    | refine wpList_load_row rfl 75 _ rfl g1 rfl 75 (rfV false 0 1) (0, 0) _ (R4.out.get 1 rfl) Try.underlying75 rfl sizeRf ?_
    | refine wpList_store_row rfl 75 _ _ rfl (g1 + 1) (rfV false 0 1) rfl rfl 75 _ (R4.out.get 0 rfl) sizeRf rfl (rfOne _ _ _) ?_)
  have R5 := R4.out.setRow 0 (rfV false 0 1) rfl
  refine bodyPost_ret (v := _) (results_cell_slot rfl _ _ (g1 + 1) 75 _ (0, 0) _ _ rfl rfl (R5.get 0 rfl) Try.underlying75 rfl sizeRf) rfl ⟨?_, R5.below⟩
  rfl
set_option maxHeartbeats 2000000 in
theorem refcrash_zero (A : Option Addr) (n c : Nat) (hn : n ≤ 9223372036854775807) (ks : List (Nat × Nat)) (w : World) (hk : KeepsIn w A n ks []) : Calls Try.prog 78 #[.agg (rfV false 0 0), .slice A n c] w fun e w' => e = .returned (.agg (rfV false 0 0)) ∧ Below w.heap.size w w' := by
  have HK := Lib.hid hk
  have HKL : Hid (ks.length = n) := Lib.hid hk.len
  have q1 := ((Rows.start w).alloc (rfV false 0 0) 75).alloc (rfV false 0 0) 75
  clear hk
  go_enter Try.func78, Try.ntmps78
  unfold rfV
  obtain ⟨W, hW⟩ : ∃ W, W = (w.alloc (.cells (rfV false 0 0) 75)).alloc (.cells (rfV false 0 0) 75) := ⟨_, rfl⟩
  rw [show (w.alloc (.cells (rfV false 0 0) 75)).heap.size = w.heap.size + 1 by simp, ← hW] at q1
  have hW' := hW
  unfold rfV at hW'
  go_upto_region 1 with (fail)
  rw [← hW']
  clear hW hW'
  obtain ⟨g1, hg1⟩ : ∃ g, g = w.heap.size := ⟨_, rfl⟩
  rw [← hg1] at q1 ⊢
  clear hg1
  have R1 := Lib.hid q1
  clear q1
  go_wp2_with fail
  go_loopw [5, 6, 7, 8] (fun i _ _ _ wr => ∃ k : Nat, k ≤ n ∧ i = .int .i64 (k : Int) ∧ Rows w wr [(g1 + 1, rfV false 0 0, 75), (g1, rfV false 0 0, 75)]) (fun i _ _ _ _ => n - (intOf i).toNat)
  case atStart => exact ⟨0, by omega, rfl, R1.out⟩
  case round =>
    obtain ⟨k, hk, rfl, hR⟩ := hrel
    have RR := Lib.hid hR
    clear hR R1
    by_cases hlt : k < n
    · have hkl : k < ks.length := by rw [HKL.out]; exact hlt
      obtain ⟨b, off, hA, hb, _, hcell⟩ := HK.out.at_.resolve_left (by omega)
      subst hA
      have hkb := HK.out.lt ks[k] (List.getElem_mem hkl)
      have hcc := (hcell k hkl).1
      generalize ks[k].1 = ka at hkb hcc
      have c0 : wr.cell? ⟨b, off + k * 2, none⟩ = some (.int .u16 (ka : Int)) := (RR.out.below.cell hb).trans hcc
      have HKB := Lib.hid hkb.1
      clear hcc hcell hb hkb
      go_upto_region 4 with (fail)
      refine wk_region_since (by kernel_rfl) (by kernel_rfl) ?_
      repeat (first
        | (refine wk_move _ (by first | exact wanted_none rfl | exact wanted_yes _ _ rfl rfl) rfl ?_; simp only [Act.put, Act.eval, Array.getD_eq_getD_getElem?, List.getElem?_toArray, List.getElem?_cons_succ, List.getElem?_cons_zero, Option.getD_some, List.setIfInBounds_toArray, List.set_cons_zero, List.set_cons_succ])
        | (refine wk_assign _ (by first | exact wanted_none rfl | exact wanted_yes _ _ rfl rfl) rfl ?_; simp only [Act.put, Act.eval, Array.getD_eq_getD_getElem?, List.getElem?_toArray, List.getElem?_cons_succ, List.getElem?_cons_zero, Option.getD_some, List.setIfInBounds_toArray, List.set_cons_zero, List.set_cons_succ])
        | (refine wk_pickt _ _ _ _ (by first | exact wanted_none rfl | exact wanted_yes _ _ rfl rfl) rfl rfl rfl ?_; simp only [Act.put, Act.eval, Array.getD_eq_getD_getElem?, List.getElem?_toArray, List.getElem?_cons_succ, List.getElem?_cons_zero, Option.getD_some, List.setIfInBounds_toArray, List.set_cons_zero, List.set_cons_succ])
        | (refine wk_pickf _ _ _ _ (by first | exact wanted_none rfl | exact wanted_yes _ _ rfl rfl) rfl rfl rfl ?_; simp only [Act.put, Act.eval, Array.getD_eq_getD_getElem?, List.getElem?_toArray, List.getElem?_cons_succ, List.getElem?_cons_zero, Option.getD_some, List.setIfInBounds_toArray, List.set_cons_zero, List.set_cons_succ])
        | (refine wk_skip (wanted_not _ true false rfl rfl rfl) ?_; simp only [Act.put, List.setIfInBounds_toArray, List.set_cons_zero, List.set_cons_succ])
        | (refine wk_skip (wanted_not _ false true rfl rfl rfl) ?_; simp only [Act.put, List.setIfInBounds_toArray, List.set_cons_zero, List.set_cons_succ])
        | (refine wk_skip (wanted_undef _ _ rfl rfl) ?_; simp only [Act.put, List.setIfInBounds_toArray, List.set_cons_zero, List.set_cons_succ])
        | (refine wk_not true _ _ (by first | exact wanted_none rfl | exact wanted_yes _ _ rfl rfl) rfl rfl ?_; simp only [Act.put, List.setIfInBounds_toArray, List.set_cons_zero, List.set_cons_succ])
        | (refine wk_not false _ _ (by first | exact wanted_none rfl | exact wanted_yes _ _ rfl rfl) rfl rfl ?_; simp only [Act.put, List.setIfInBounds_toArray, List.set_cons_zero, List.set_cons_succ]))
      refine wk_index 61 80 _ _ b off n c k 2 .i64 (by first | exact wanted_none rfl | exact wanted_yes _ _ rfl rfl) rfl Try.underlying61 sizeKeep rfl rfl hlt ?_
      simp only [Act.put, List.setIfInBounds_toArray, List.set_cons_zero, List.set_cons_succ]
      refine wk_field 80 _ 32 0 0 _ _ _ (by first | exact wanted_none rfl | exact wanted_yes _ _ rfl rfl) rfl (by kernel_rfl) (by kernel_rfl) (by kernel_rfl) rfl ?_
      simp only [Act.put, List.setIfInBounds_toArray, List.set_cons_zero, List.set_cons_succ, Nat.zero_add]
      refine wk_load1 _ _ _ _ _ rfl (by kernel_rfl) rfl rfl (fun w' hC => hC.cell c0) Try.underlying32 ?_
      simp only [Act.put, List.setIfInBounds_toArray, List.set_cons_zero, List.set_cons_succ]
      refine wk_convert 32 3 _ _ (.int .i64 (ka : Int)) (by exact wanted_none rfl) rfl rfl (fun w => run_conv_int _ _ .u16 .i64 Try.underlying32 Try.underlying3 _ (by have := HKB.out; rw [IntKind.wrap_i64]; omega) w) ?_
      simp only [Act.put, List.setIfInBounds_toArray, List.set_cons_zero, List.set_cons_succ]
      refine wk_field 75 _ 73 2 0 _ _ _ (by first | exact wanted_none rfl | exact wanted_yes _ _ rfl rfl) rfl (by kernel_rfl) (by kernel_rfl) (by kernel_rfl) rfl ?_
      simp only [Act.put, List.setIfInBounds_toArray, List.set_cons_zero, List.set_cons_succ, Nat.zero_add]
      refine wk_load1 _ _ _ _ _ rfl (by kernel_rfl) rfl rfl (fun w' hC => hC.cell (RR.out.cell 1 2 rfl rfl)) Try.underlying73 ?_
      simp only [Act.put, List.setIfInBounds_toArray, List.set_cons_zero, List.set_cons_succ]
      refine wk_len_slice _ _ _ _ _ _ Try.underlying73 (by kernel_rfl) rfl rfl ?_
      simp only [Act.put, List.setIfInBounds_toArray, List.set_cons_zero, List.set_cons_succ]
      refine wk_cmp_int .geq (true) _ _ _ _ _ _ _ (by kernel_rfl) rfl rfl rfl (by simp [cmpInt]) ?_
      simp only [Act.put, List.setIfInBounds_toArray, List.set_cons_zero, List.set_cons_succ]
      repeat (first
        | (refine wk_move _ (by first | exact wanted_none rfl | exact wanted_yes _ _ rfl rfl) rfl ?_; simp only [Act.put, Act.eval, Array.getD_eq_getD_getElem?, List.getElem?_toArray, List.getElem?_cons_succ, List.getElem?_cons_zero, Option.getD_some, List.setIfInBounds_toArray, List.set_cons_zero, List.set_cons_succ])
        | (refine wk_assign _ (by first | exact wanted_none rfl | exact wanted_yes _ _ rfl rfl) rfl ?_; simp only [Act.put, Act.eval, Array.getD_eq_getD_getElem?, List.getElem?_toArray, List.getElem?_cons_succ, List.getElem?_cons_zero, Option.getD_some, List.setIfInBounds_toArray, List.set_cons_zero, List.set_cons_succ])
        | (refine wk_pickt _ _ _ _ (by first | exact wanted_none rfl | exact wanted_yes _ _ rfl rfl) rfl rfl rfl ?_; simp only [Act.put, Act.eval, Array.getD_eq_getD_getElem?, List.getElem?_toArray, List.getElem?_cons_succ, List.getElem?_cons_zero, Option.getD_some, List.setIfInBounds_toArray, List.set_cons_zero, List.set_cons_succ])
        | (refine wk_pickf _ _ _ _ (by first | exact wanted_none rfl | exact wanted_yes _ _ rfl rfl) rfl rfl rfl ?_; simp only [Act.put, Act.eval, Array.getD_eq_getD_getElem?, List.getElem?_toArray, List.getElem?_cons_succ, List.getElem?_cons_zero, Option.getD_some, List.setIfInBounds_toArray, List.set_cons_zero, List.set_cons_succ])
        | (refine wk_skip (wanted_not _ true false rfl rfl rfl) ?_; simp only [Act.put, List.setIfInBounds_toArray, List.set_cons_zero, List.set_cons_succ])
        | (refine wk_skip (wanted_not _ false true rfl rfl rfl) ?_; simp only [Act.put, List.setIfInBounds_toArray, List.set_cons_zero, List.set_cons_succ])
        | (refine wk_skip (wanted_undef _ _ rfl rfl) ?_; simp only [Act.put, List.setIfInBounds_toArray, List.set_cons_zero, List.set_cons_succ])
        | (refine wk_not true _ _ (by first | exact wanted_none rfl | exact wanted_yes _ _ rfl rfl) rfl rfl ?_; simp only [Act.put, List.setIfInBounds_toArray, List.set_cons_zero, List.set_cons_succ])
        | (refine wk_not false _ _ (by first | exact wanted_none rfl | exact wanted_yes _ _ rfl rfl) rfl rfl ?_; simp only [Act.put, List.setIfInBounds_toArray, List.set_cons_zero, List.set_cons_succ]))
      refine wk_nil ?_
      intro w' hC
      have R2 := Lib.hid (RR.out.since hC)
      clear hC c0
      go_wp2_with fail
      exact ⟨⟨k + 1, by omega, by simp, R2.out⟩, by simp [intOf]; omega⟩
    · obtain rfl : k = n := by omega
      have hz : ¬ ((k : Int) < (k : Int)) := by omega
      go_upto_region 13 with (fail)
      have hc := RR.out.cell 1 2 rfl (rfl)
      have hf := RR.out.free 1 2 rfl
      have q0 := Lib.hid (RR.out.setCell 1 2 ((.slice none 0 0)) rfl)
      go_upto_region 14 with (fail)
      have q1 := q0.out
      clear q0 hc hf
      obtain ⟨W2, hW⟩ : ∃ W, W = wr.setCell ⟨g1, 2, none⟩ ((.slice none 0 0)) := ⟨_, rfl⟩
      rw [← hW] at q1 ⊢
      clear hW
      simp only [List.set_cons_zero, List.set_cons_succ] at q1
      have R2 := Lib.hid q1
      clear q1
      have hc := R2.out.cell 1 3 rfl (rfl)
      have hf := R2.out.free 1 3 rfl
      have q0 := Lib.hid (R2.out.setCell 1 3 ((.bool false)) rfl)
      go_upto_region 15 with (fail)
      have q1 := q0.out
      clear q0 hc hf
      obtain ⟨W3, hW⟩ : ∃ W, W = W2.setCell ⟨g1, 3, none⟩ ((.bool false)) := ⟨_, rfl⟩
      rw [← hW] at q1 ⊢
      clear hW
      simp only [List.set_cons_zero, List.set_cons_succ] at q1
      have R3 := Lib.hid q1
      clear q1
      have hc := R3.out.cell 1 4 rfl (rfl)
      have hf := R3.out.free 1 4 rfl
      have q0 := Lib.hid (R3.out.setCell 1 4 ((.int .i64 0)) rfl)
      go_upto_region 16 with (fail)
      have q1 := q0.out
      clear q0 hc hf
      obtain ⟨W4, hW⟩ : ∃ W, W = W3.setCell ⟨g1, 4, none⟩ ((.int .i64 0)) := ⟨_, rfl⟩
      rw [← hW] at q1 ⊢
      clear hW
      simp only [List.set_cons_zero, List.set_cons_succ] at q1
      have R4 := Lib.hid q1
      clear q1
      have hc := R4.out.cell 1 5 rfl (rfl)
      have hf := R4.out.free 1 5 rfl
      have q0 := Lib.hid (R4.out.setCell 1 5 ((.bool false)) rfl)
      go_upto_region 17 with (fail)
      have q1 := q0.out
      clear q0 hc hf
      obtain ⟨W5, hW⟩ : ∃ W, W = W4.setCell ⟨g1, 5, none⟩ ((.bool false)) := ⟨_, rfl⟩
      rw [← hW] at q1 ⊢
      clear hW
      simp only [List.set_cons_zero, List.set_cons_succ] at q1
      have R5 := Lib.hid q1
      clear q1
      have q6 : Rows w W5 [(g1 + 1, rfV false 0 0, 75), (g1, rfV false 0 0, 75)] := by
        have := R5.out
        simpa [rfV] using this
      have R6 := Lib.hid q6
      clear q6 R5
      go_wp2_with (first
        | refine wpList_load_row rfl 75 _ rfl g1 rfl 75 (rfV false 0 0) (0, 0) _ (R6.out.get 1 rfl) Try.underlying75 rfl sizeRf ?_
        | refine wpList_store_row rfl 75 _ _ rfl (g1 + 1) (rfV false 0 0) rfl rfl 75 _ (R6.out.get 0 rfl) sizeRf rfl (rfOne _ _ _) ?_)
      have R7 := R6.out.setRow 0 (rfV false 0 0) rfl
      refine bodyPost_ret (v := _) (results_cell_row rfl _ _ (g1 + 1) 75 _ (0, 0) _ rfl (R7.get 0 rfl) Try.underlying75 rfl sizeRf) rfl ⟨rfl, R7.below⟩
end Go.Proofs.Ytnbdnnlomgjlmaa
