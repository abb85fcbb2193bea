/- The tally layer: Bit and Turn at the places that the law's head asks for. -/
import Derived.Test.YtnhfkmfmmgaecaaDoorRef05G
namespace Go.Proofs.YtnhfkmfmmgaecaaDoor
open Go.RowKit
set_option linter.unusedSimpArgs false
set_option maxRecDepth 100000
/-- The pick of one bit. -/
def ti70 : List Nat := ti0.set 1 64
def tiC70 : Array Value := pcells .u32 .u64 0 ti70
theorem bit_zero (w : World) : Calls Tryd.prog 84 #[.agg tizero, .int .i64 70] w fun e w' => e = .returned (.tuple #[.int .i64 0, .int .i64 0]) ∧ Below w.heap.size w w' := by
  obtain ⟨C, hC⟩ : ∃ C, C = tizero := ⟨_, rfl⟩
  have HC2 : Hid (C[2]? = some (.int .u64 0)) := Lib.hid (by rw [hC]; rfl)
  rw [← hC]
  clear hC
  have q1 := (Rows.start w).alloc C 93
  go_enter Tryd.func84, Tryd.ntmps84
  go_upto_region 1 with (fail)
  obtain ⟨W1, hW⟩ : ∃ W, W = w.alloc (.cells C 93) := ⟨_, rfl⟩
  rw [← hW] at q1 ⊢
  clear hW
  obtain ⟨g1, hg⟩ : ∃ g, g = w.heap.size := ⟨_, rfl⟩
  rw [← hg] at q1 ⊢
  clear hg
  have R1 := Lib.hid q1
  clear q1
  have c2 : W1.cell? ⟨g1, 2, none⟩ = some (.int .u64 0) := R1.out.cell 0 2 rfl HC2.out
  go_wp2_with fail
  go_ret2
  have hb : wrap64 (bits BinOp.and IntKind.u64 0 1) = 0 := by decide +kernel
  refine ⟨?_, R1.out.below⟩
  show Ending.returned (.tuple #[.int .i64 (wrap64 (bits BinOp.and IntKind.u64 0 1)), .int .i64 0]) = _
  rw [hb]
theorem bit_one (w : World) : Calls Tryd.prog 84 #[.agg tiC70, .int .i64 70] w fun e w' => e = .returned (.tuple #[.int .i64 1, .int .i64 0]) ∧ Below w.heap.size w w' := by
  obtain ⟨C, hC⟩ : ∃ C, C = tiC70 := ⟨_, rfl⟩
  have HC2 : Hid (C[2]? = some (.int .u64 64)) := Lib.hid (by rw [hC]; rfl)
  rw [← hC]
  clear hC
  have q1 := (Rows.start w).alloc C 93
  go_enter Tryd.func84, Tryd.ntmps84
  go_upto_region 1 with (fail)
  obtain ⟨W1, hW⟩ : ∃ W, W = w.alloc (.cells C 93) := ⟨_, rfl⟩
  rw [← hW] at q1 ⊢
  clear hW
  obtain ⟨g1, hg⟩ : ∃ g, g = w.heap.size := ⟨_, rfl⟩
  rw [← hg] at q1 ⊢
  clear hg
  have R1 := Lib.hid q1
  clear q1
  have c2 : W1.cell? ⟨g1, 2, none⟩ = some (.int .u64 64) := R1.out.cell 0 2 rfl HC2.out
  go_wp2_with fail
  go_ret2
  have hb : wrap64 (bits BinOp.and IntKind.u64 1 1) = 1 := by decide +kernel
  refine ⟨?_, R1.out.below⟩
  show Ending.returned (.tuple #[.int .i64 (wrap64 (bits BinOp.and IntKind.u64 1 1)), .int .i64 0]) = _
  rw [hb]
theorem bit_far (w : World) (C : Array Value) : Calls Tryd.prog 84 #[.agg C, .int .i64 1024] w fun e w' => e = .returned (.tuple #[.int .i64 0, .int .i64 2]) ∧ Below w.heap.size w w' := by
  have q1 := (Rows.start w).alloc C 93
  go_enter Tryd.func84, Tryd.ntmps84
  go_upto_region 1 with (fail)
  obtain ⟨W1, hW⟩ : ∃ W, W = w.alloc (.cells C 93) := ⟨_, rfl⟩
  rw [← hW] at q1 ⊢
  clear hW
  obtain ⟨g1, hg⟩ : ∃ g, g = w.heap.size := ⟨_, rfl⟩
  rw [← hg] at q1 ⊢
  clear hg
  have R1 := Lib.hid q1
  clear q1
  go_wp2_with fail
  go_ret2
  exact ⟨rfl, R1.out.below⟩
theorem sizeti70 : tiC70.size = 17 := by unfold tiC70 ti70 ti0; simp [size_pcells]
theorem turn_far (w : World) (C : Array Value) (hC : C.size = 17) : Calls Tryd.prog 83 #[.agg C, .int .i64 1024] w fun e w' => e = .returned (.tuple #[.agg tizero, .int .i64 2]) ∧ Below w.heap.size w w' := by
  have HCS := Lib.hid hC
  clear hC
  have q1 := ((Rows.start w).alloc C 93).alloc tizero 93
  obtain ⟨g1, hg1⟩ : ∃ g, g = w.heap.size := ⟨_, rfl⟩
  obtain ⟨g2, hg2⟩ : ∃ g, g = (w.alloc (.cells C 93)).heap.size := ⟨_, rfl⟩
  rw [← hg2, ← hg1] at q1
  have hg2' : w.heap.size + 1 = g2 := by rw [hg2]; simp
  have G1 := Lib.hid hg1
  have G2 := Lib.hid hg2'
  have Q1 := Lib.hid q1
  clear hg1 hg2 hg2' q1
  go_enter Tryd.func83, Tryd.ntmps83
  go_upto_region 1 with (refine wpList_alloc_row rfl 93 rfl _ zero_ti ?_)
  have q1 := Q1.out
  obtain ⟨W1, hW⟩ : ∃ W, W = (w.alloc (.cells C 93)).alloc (.cells tizero 93) := ⟨_, rfl⟩
  rw [← hW] at q1 ⊢
  rw [G2.out, ← G1.out]
  have R1 := Lib.hid q1
  clear hW q1 Q1 G1 G2
  go_wp2_with (refine wpList_load_row rfl 93 _ rfl g1 rfl 93 C (0, 0) _ (R1.out.get 1 rfl) Tryd.underlying93 rfl (by rw [HCS.out]; exact sizePick) ?_)
  refine (bit_far _ _).mono ?_
  rintro e w2 ⟨rfl, hb⟩
  have R2 := Lib.hid (R1.out.call hb)
  clear hb
  go_wp2_with (first
    | refine wpList_build_none rfl 93 rfl _ zero_ti Tryd.underlying93 rfl ?_
    | refine wpList_store_row rfl 93 _ _ rfl g2 tizero rfl rfl 93 _ (R2.out.get 0 rfl) sizePick rfl tizero_one ?_)
  refine bodyPost_ret (results_cell_slot rfl _ _ g2 93 _ (0, 0) _ _ rfl rfl (setRow_heap _ _ _ _ _ _ (R2.out.get 0 rfl)) Tryd.underlying93 rfl sizePick) rfl ⟨rfl, ?_⟩
  exact (R2.out.setRow 0 _ rfl).below
set_option maxHeartbeats 1000000 in
theorem turn_70 (w : World) : Calls Tryd.prog 83 #[.agg tizero, .int .i64 70] w fun e w' => e = .returned (.tuple #[.agg tiC70, .int .i64 0]) ∧ Below w.heap.size w w' := by
  obtain ⟨C, hC⟩ : ∃ C, C = tizero := ⟨_, rfl⟩
  have HC2 : Hid (C[2]? = some (.int .u64 0)) := Lib.hid (by rw [hC]; rfl)
  have HCS : Hid (C.size = 17) := Lib.hid (by rw [hC]; exact tizero_size)
  have HBIT : Hid (∀ w : World, Calls Tryd.prog 84 #[.agg C, .int .i64 70] w fun e w' => e = .returned (.tuple #[.int .i64 0, .int .i64 0]) ∧ Below w.heap.size w w') := Lib.hid (fun w => by rw [hC]; exact bit_zero w)
  obtain ⟨D, hD⟩ : ∃ D, D = tiC70 := ⟨_, rfl⟩
  have HSET : Hid (C.setIfInBounds 2 (.int .u64 64) = D) := Lib.hid (by rw [hC, hD]; exact pcells_set .u32 .u64 0 ti0 1 64)
  have HDS : Hid (D.size = 17) := Lib.hid (by rw [hD]; exact sizeti70)
  have HDO : Hid (D.all (·.oneCell') = true) := Lib.hid (by rw [hD]; exact pcells_one _ _ _ _)
  rw [← hC, ← hD]
  clear hC hD
  have q1 := ((Rows.start w).alloc C 93).alloc tizero 93
  obtain ⟨g1, hg1⟩ : ∃ g, g = w.heap.size := ⟨_, rfl⟩
  obtain ⟨g2, hg2⟩ : ∃ g, g = (w.alloc (.cells C 93)).heap.size := ⟨_, rfl⟩
  rw [← hg2, ← hg1] at q1
  have hg2' : w.heap.size + 1 = g2 := by rw [hg2]; simp
  have G1 := Lib.hid hg1
  have G2 := Lib.hid hg2'
  have Q1 := Lib.hid q1
  clear hg1 hg2 hg2' q1
  go_enter Tryd.func83, Tryd.ntmps83
  go_upto_region 1 with (refine wpList_alloc_row rfl 93 rfl _ zero_ti ?_)
  have q1 := Q1.out
  obtain ⟨W1, hW⟩ : ∃ W, W = (w.alloc (.cells C 93)).alloc (.cells tizero 93) := ⟨_, rfl⟩
  rw [← hW] at q1 ⊢
  rw [G2.out, ← G1.out]
  have R1 := Lib.hid q1
  clear hW q1 Q1 G1 G2
  go_wp2_with (refine wpList_load_row rfl 93 _ rfl g1 rfl 93 C (0, 0) _ (R1.out.get 1 rfl) Tryd.underlying93 rfl (by rw [HCS.out]; exact sizePick) ?_)
  refine (HBIT.out _).mono ?_
  rintro e w2 ⟨rfl, hb⟩
  have R2 := Lib.hid (R1.out.call hb)
  clear hb
  go_upto_region 4 with (fail)
  refine wk_region_tail 11 (by kernel_rfl) (by kernel_rfl) ?_
  simp only [List.take_succ_cons, List.take_zero, List.drop_succ_cons, List.drop_zero]
  repeat (first
    | (refine wk_move _ (by first | exact wanted_none rfl | exact wanted_yes _ _ rfl rfl) rfl ?_; simp only [Act.put, Act.eval, Array.getD_eq_getD_getElem?, List.getElem?_toArray, List.getElem?_cons_succ, List.getElem?_cons_zero, Option.getD_some, List.setIfInBounds_toArray, List.set_cons_zero, List.set_cons_succ])
    | (refine wk_assign _ (by first | exact wanted_none rfl | exact wanted_yes _ _ rfl rfl) rfl ?_; simp only [Act.put, Act.eval, Array.getD_eq_getD_getElem?, List.getElem?_toArray, List.getElem?_cons_succ, List.getElem?_cons_zero, Option.getD_some, List.setIfInBounds_toArray, List.set_cons_zero, List.set_cons_succ])
    | (refine wk_pickt _ _ _ _ (by first | exact wanted_none rfl | exact wanted_yes _ _ rfl rfl) rfl rfl rfl ?_; simp only [Act.put, Act.eval, Array.getD_eq_getD_getElem?, List.getElem?_toArray, List.getElem?_cons_succ, List.getElem?_cons_zero, Option.getD_some, List.setIfInBounds_toArray, List.set_cons_zero, List.set_cons_succ])
    | (refine wk_pickf _ _ _ _ (by first | exact wanted_none rfl | exact wanted_yes _ _ rfl rfl) rfl rfl rfl ?_; simp only [Act.put, Act.eval, Array.getD_eq_getD_getElem?, List.getElem?_toArray, List.getElem?_cons_succ, List.getElem?_cons_zero, Option.getD_some, List.setIfInBounds_toArray, List.set_cons_zero, List.set_cons_succ])
    | (refine wk_skip (wanted_not _ true false rfl rfl rfl) ?_; simp only [Act.put, List.setIfInBounds_toArray, List.set_cons_zero, List.set_cons_succ])
    | (refine wk_skip (wanted_not _ false true rfl rfl rfl) ?_; simp only [Act.put, List.setIfInBounds_toArray, List.set_cons_zero, List.set_cons_succ])
    | (refine wk_skip (wanted_undef _ _ rfl rfl) ?_; simp only [Act.put, List.setIfInBounds_toArray, List.set_cons_zero, List.set_cons_succ])
    | (refine wk_not true _ _ (by first | exact wanted_none rfl | exact wanted_yes _ _ rfl rfl) rfl rfl ?_; simp only [Act.put, List.setIfInBounds_toArray, List.set_cons_zero, List.set_cons_succ])
    | (refine wk_not false _ _ (by first | exact wanted_none rfl | exact wanted_yes _ _ rfl rfl) rfl rfl ?_; simp only [Act.put, List.setIfInBounds_toArray, List.set_cons_zero, List.set_cons_succ]))
  refine wk_bin (.int .i64 1) _ _ _ _ _ (by kernel_rfl) rfl (fun w => rfl) ?_
  simp only [Act.put, List.setIfInBounds_toArray, List.set_cons_zero, List.set_cons_succ]
  refine wk_field 93 _ 91 1 15 _ g1 0 (by kernel_rfl) rfl (by kernel_rfl) (by kernel_rfl) (by kernel_rfl) rfl ?_
  simp only [Act.put, List.setIfInBounds_toArray, List.set_cons_zero, List.set_cons_succ]
  refine wk_index_at 91 29 _ _ g1 1 1 16 .i64 (by kernel_rfl) rfl Tryd.underlying91 tielem rfl rfl (by decide) ?_
  simp only [Act.put, List.setIfInBounds_toArray, List.set_cons_zero, List.set_cons_succ]
  refine wk_load1 _ _ _ _ _ rfl (by kernel_rfl) rfl rfl (fun w' hC => (R2.out.since hC).cell 1 2 rfl HC2.out) Tryd.underlying29 ?_
  simp only [Act.put, List.setIfInBounds_toArray, List.set_cons_zero, List.set_cons_succ]
  repeat (first
    | (refine wk_move _ (by first | exact wanted_none rfl | exact wanted_yes _ _ rfl rfl) rfl ?_; simp only [Act.put, Act.eval, Array.getD_eq_getD_getElem?, List.getElem?_toArray, List.getElem?_cons_succ, List.getElem?_cons_zero, Option.getD_some, List.setIfInBounds_toArray, List.set_cons_zero, List.set_cons_succ])
    | (refine wk_assign _ (by first | exact wanted_none rfl | exact wanted_yes _ _ rfl rfl) rfl ?_; simp only [Act.put, Act.eval, Array.getD_eq_getD_getElem?, List.getElem?_toArray, List.getElem?_cons_succ, List.getElem?_cons_zero, Option.getD_some, List.setIfInBounds_toArray, List.set_cons_zero, List.set_cons_succ])
    | (refine wk_pickt _ _ _ _ (by first | exact wanted_none rfl | exact wanted_yes _ _ rfl rfl) rfl rfl rfl ?_; simp only [Act.put, Act.eval, Array.getD_eq_getD_getElem?, List.getElem?_toArray, List.getElem?_cons_succ, List.getElem?_cons_zero, Option.getD_some, List.setIfInBounds_toArray, List.set_cons_zero, List.set_cons_succ])
    | (refine wk_pickf _ _ _ _ (by first | exact wanted_none rfl | exact wanted_yes _ _ rfl rfl) rfl rfl rfl ?_; simp only [Act.put, Act.eval, Array.getD_eq_getD_getElem?, List.getElem?_toArray, List.getElem?_cons_succ, List.getElem?_cons_zero, Option.getD_some, List.setIfInBounds_toArray, List.set_cons_zero, List.set_cons_succ])
    | (refine wk_skip (wanted_not _ true false rfl rfl rfl) ?_; simp only [Act.put, List.setIfInBounds_toArray, List.set_cons_zero, List.set_cons_succ])
    | (refine wk_skip (wanted_not _ false true rfl rfl rfl) ?_; simp only [Act.put, List.setIfInBounds_toArray, List.set_cons_zero, List.set_cons_succ])
    | (refine wk_skip (wanted_undef _ _ rfl rfl) ?_; simp only [Act.put, List.setIfInBounds_toArray, List.set_cons_zero, List.set_cons_succ])
    | (refine wk_not true _ _ (by first | exact wanted_none rfl | exact wanted_yes _ _ rfl rfl) rfl rfl ?_; simp only [Act.put, List.setIfInBounds_toArray, List.set_cons_zero, List.set_cons_succ])
    | (refine wk_not false _ _ (by first | exact wanted_none rfl | exact wanted_yes _ _ rfl rfl) rfl rfl ?_; simp only [Act.put, List.setIfInBounds_toArray, List.set_cons_zero, List.set_cons_succ]))
  refine wk_bin (.int .i64 6) _ _ _ _ _ (by kernel_rfl) rfl (fun w => rfl) ?_
  simp only [Act.put, List.setIfInBounds_toArray, List.set_cons_zero, List.set_cons_succ]
  refine wk_bin (.int .u64 64) _ _ _ _ _ (by kernel_rfl) rfl (fun w => rfl) ?_
  simp only [Act.put, List.setIfInBounds_toArray, List.set_cons_zero, List.set_cons_succ]
  refine wk_bin (.int .u64 64) _ _ _ _ _ (by kernel_rfl) rfl (fun w => rfl) ?_
  simp only [Act.put, List.setIfInBounds_toArray, List.set_cons_zero, List.set_cons_succ]
  refine wk_field 93 _ 91 1 15 _ g1 0 (by kernel_rfl) rfl (by kernel_rfl) (by kernel_rfl) (by kernel_rfl) rfl ?_
  simp only [Act.put, List.setIfInBounds_toArray, List.set_cons_zero, List.set_cons_succ]
  refine wk_index_at 91 29 _ _ g1 1 1 16 .i64 (by kernel_rfl) rfl Tryd.underlying91 tielem rfl rfl (by decide) ?_
  simp only [Act.put, List.setIfInBounds_toArray, List.set_cons_zero, List.set_cons_succ]
  refine wk_nil ?_
  intro w' hC
  have R3 := Lib.hid (R2.out.since hC)
  clear hC
  have c5 : w'.cell? ⟨g1, 2, none⟩ = some (.int .u64 0) := R3.out.cell 1 2 rfl HC2.out
  have f5 := R3.out.free 1 2 rfl
  have q1 := Lib.hid (R3.out.setCell 1 2 (.int .u64 64) rfl)
  go_upto_region 5 with (fail)
  obtain ⟨V5, hV5⟩ : ∃ V, V = w'.setCell ⟨g1, 2, none⟩ (.int .u64 64) := ⟨_, rfl⟩
  have q2 := q1.out
  rw [← hV5] at q2 ⊢
  simp only [List.set_cons_zero, List.set_cons_succ] at q2
  rw [HSET.out] at q2
  have R4 := Lib.hid q2
  clear hV5 q1 q2 c5 f5
  go_wp2_with (first
    | refine wpList_load_row rfl 93 _ rfl g1 rfl 93 D (0, 0) _ (R4.out.get 1 rfl) Tryd.underlying93 rfl (by rw [HDS.out]; exact sizePick) ?_
    | refine wpList_store_row rfl 93 _ _ rfl g2 D rfl rfl 93 _ (R4.out.get 0 rfl) (by rw [HDS.out]; exact sizePick) (by rw [HDS.out, tizero_size]) HDO.out ?_)
  refine bodyPost_ret (v := .tuple #[.agg D, .int .i64 0]) (results_cell_slot rfl _ _ g2 93 _ (0, 0) _ _ rfl rfl (setRow_heap _ _ _ _ _ _ (R4.out.get 0 rfl)) Tryd.underlying93 rfl (by rw [HDS.out]; exact sizePick)) rfl ⟨rfl, ?_⟩
  exact (R4.out.setRow 0 D rfl).below
end Go.Proofs.YtnhfkmfmmgaecaaDoor
