/- The tally layer: Put and PutPick. Written by mktally.py. -/
import Derived.Test.YtnhfkmfmmgaecaaDoorTallyPut
import Derived.Test.YtnhfkmfmmgaecaaDoorSteps
namespace Go.Proofs.YtnhfkmfmmgaecaaDoor
open Go.RowKit
set_option linter.unusedSimpArgs false
set_option maxRecDepth 100000
section
variable {P : Program} {ops : Array Oper} {C : World → Prop} {o : Oper} {a : Act} {rest : List Oper} {Q : Act → Prop}
/-- p[:] of an array behind a pointer into a block. -/
theorem wk_slice_whole (N : Nat) (t e : TypeId) (x : Operand) (g off : Nat) (hw : Region.wanted o (yielded ops a.tmps) = true) (ho : o.op = .slice t x none none none) (ht : P.underlying t = some (.array N e))
    (hs : (P.info? e).map (·.size) = some 1) (hx : a.eval x = .pointer (some ⟨g, off, none⟩)) (hN : 0 < N) (h : WQ P ops C Q rest (a.put o.dst (.slice (some ⟨g, off, none⟩) N N))) : WQ P ops C Q (o :: rest) a :=
  wk_val _ hw (fun w _ => by
    obtain ⟨f, hf, hf1⟩ : ∃ f, P.info? e = some f ∧ f.size = 1 := by
      cases hq : P.info? e with
      | none => simp [hq] at hs
      | some f => exact ⟨f, rfl, by simpa [hq] using hs⟩
    have h0 : ¬ N = 0 := by omega
    unfold execOp
    simp only [ho, hx, Option.map_none]
    simp [Instr.sliceAt, Instr.slice, run_underlying ht, Instr.sliceBounds, Instr.sliceBound, asIntOf, sizeOf, typeInfo, hf, hf1, Addr.add_lit, h0, Instr.sureAddr]) h
end
theorem taelem : (Tryd.prog.info? 87).map (·.size) = some 1 := by kernel_rfl
set_option maxHeartbeats 1000000 in
theorem taPut_any (h : Nat) (l : List Nat) (hn : POk 4 2 64 h l) (w : World) :
    Calls Tryd.prog 46 #[.agg (pcells .u32 .u16 h l)] w fun e w' => e = .returned (.tuple #[.agg (blk (taputB h l)), .int .i64 (taputE h)]) ∧ Below w.heap.size w w' := by
  obtain ⟨C, hC⟩ : ∃ C, C = pcells .u32 .u16 h l := ⟨_, rfl⟩
  have HC0 : Hid (C[0]? = some (.int .u32 (h : Int))) := Lib.hid (by rw [hC]; rfl)
  have HCK : Hid (∀ k, (hk : k < l.length) → C[1 + k]? = some (.int .u16 (l[k] : Int))) := Lib.hid (fun k hk => by rw [hC, Nat.add_comm]; exact pcells_get _ _ _ _ k hk)
  have HPUT : Hid (∀ (W : World) (g c : Nat), g < W.heap.size → (∀ k, (hk : k < l.length) → W.cell? ⟨g, 1 + k, none⟩ = some (.int .u16 (l[k] : Int))) → Calls Tryd.prog 78 #[.int .u8 84, .int .u32 (h : Int), .int .u32 16384, .slice (some ⟨g, 1, none⟩) 64 c, .int .i64 2] W fun e w' => e = .returned (.tuple #[.agg (blk (taputB h l)), .int .i64 (taputE h)]) ∧ Below W.heap.size W w') := Lib.hid (fun W g c hg hc => taput_any W g 1 c h l hn hg hc)
  obtain ⟨D, hD⟩ : ∃ D, D = blk (taputB h l) := ⟨_, rfl⟩
  obtain ⟨E, hE⟩ : ∃ E, E = taputE h := ⟨_, rfl⟩
  have HDS : Hid (D.size = 256) := Lib.hid (by rw [hD, size_blk, length_taputB hn])
  have HDO : Hid (D.all (·.oneCell') = true) := Lib.hid (by rw [hD]; exact blk_one _)
  rw [← hD, ← hE] at HPUT ⊢
  rw [← hC]
  clear hC hn hD hE
  have q1 := ((Rows.start w).alloc C 90).alloc (zeros 256 (.int .u8 0)) 33
  obtain ⟨g1, hg1⟩ : ∃ g, g = w.heap.size := ⟨_, rfl⟩
  obtain ⟨g2, hg2⟩ : ∃ g, g = (w.alloc (.cells C 90)).heap.size := ⟨_, rfl⟩
  rw [← hg2, ← hg1] at q1
  have hg2' : w.heap.size + 1 = g2 := by rw [hg2]; simp
  have G1 := Lib.hid hg1
  have G2 := Lib.hid hg2'
  have Q1 := Lib.hid q1
  clear hg1 hg2 hg2' q1
  go_enter Tryd.func46, Tryd.ntmps46
  go_upto_region 1 with (refine wpList_alloc_row rfl 33 rfl _ zeroB ?_)
  have q1 := Q1.out
  obtain ⟨W1, hW⟩ : ∃ W, W = (w.alloc (.cells C 90)).alloc (.cells (zeros 256 (.int .u8 0)) 33) := ⟨_, rfl⟩
  rw [← hW] at q1 ⊢
  rw [G2.out, ← G1.out]
  have R1 := Lib.hid q1
  clear hW q1 Q1 G1 G2
  refine wk_region_tail 7 (by kernel_rfl) (by kernel_rfl) ?_
  simp only [List.take_succ_cons, List.take_zero, List.drop_succ_cons, List.drop_zero]
  refine wk_field 90 _ 52 0 0 _ g1 0 (by kernel_rfl) rfl (by kernel_rfl) (by kernel_rfl) (by kernel_rfl) rfl ?_
  simp only [Act.put, List.setIfInBounds_toArray, List.set_cons_zero, List.set_cons_succ]
  refine wk_load1 _ _ _ _ _ rfl (by kernel_rfl) rfl rfl (fun w' hC => hC.cell (R1.out.cell 1 0 rfl HC0.out)) Tryd.underlying52 ?_
  simp only [Act.put, List.setIfInBounds_toArray, List.set_cons_zero, List.set_cons_succ]
  refine wk_field 90 _ 88 1 63 _ g1 0 (by kernel_rfl) rfl (by kernel_rfl) (by kernel_rfl) (by kernel_rfl) rfl ?_
  simp only [Act.put, List.setIfInBounds_toArray, List.set_cons_zero, List.set_cons_succ]
  refine wk_slice_whole 64 88 87 _ g1 1 (by kernel_rfl) rfl Tryd.underlying88 taelem rfl (by omega) ?_
  simp only [Act.put, List.setIfInBounds_toArray, List.set_cons_zero, List.set_cons_succ]
  refine wk_call 78 _ _ _ _ _ (by kernel_rfl) rfl Tryd.func78 rfl (by kernel_rfl) (fun w' hC => hC.call (HPUT.out w' g1 _ (Nat.lt_of_lt_of_le (R1.out.lt 1 rfl) (Below.size hC)) (fun k hk => (R1.out.since hC).cell 1 (1 + k) rfl (HCK.out k hk)))) ?_
  simp only [Act.put, List.setIfInBounds_toArray, List.set_cons_zero, List.set_cons_succ]
  refine wk_extract _ _ _ _ (by first | exact wanted_none rfl | exact wanted_yes _ _ rfl rfl) rfl rfl rfl ?_
  simp only [Act.put, List.setIfInBounds_toArray, List.set_cons_zero, List.set_cons_succ]
  refine wk_extract _ _ _ _ (by first | exact wanted_none rfl | exact wanted_yes _ _ rfl rfl) rfl rfl rfl ?_
  simp only [Act.put, List.setIfInBounds_toArray, List.set_cons_zero, List.set_cons_succ]
  refine wk_nil ?_
  intro w' hC
  have R2 := Lib.hid (R1.out.since hC)
  clear hC
  go_wp2_with (refine wpList_store_row rfl 33 _ _ rfl g2 D rfl rfl 33 _ (R2.out.get 0 rfl) (by rw [HDS.out]; exact sizeB) (by rw [HDS.out, size_zeros]) HDO.out ?_)
  refine bodyPost_ret (v := .tuple #[.agg D, .int .i64 E]) (results_cell_slot rfl _ _ g2 33 _ (0, 0) _ _ rfl rfl (setRow_heap _ _ _ _ _ _ (R2.out.get 0 rfl)) Tryd.underlying33 rfl (by rw [HDS.out]; exact sizeB)) rfl ⟨rfl, ?_⟩
  exact (R2.out.setRow 0 D rfl).below
theorem tielem : (Tryd.prog.info? 29).map (·.size) = some 1 := by kernel_rfl
set_option maxHeartbeats 1000000 in
theorem tiPut_any (h : Nat) (l : List Nat) (hn : POk 4 8 16 h l) (w : World) :
    Calls Tryd.prog 48 #[.agg (pcells .u32 .u64 h l)] w fun e w' => e = .returned (.tuple #[.agg (blk (tiputB h l)), .int .i64 (tiputE h)]) ∧ Below w.heap.size w w' := by
  obtain ⟨C, hC⟩ : ∃ C, C = pcells .u32 .u64 h l := ⟨_, rfl⟩
  have HC0 : Hid (C[0]? = some (.int .u32 (h : Int))) := Lib.hid (by rw [hC]; rfl)
  have HCK : Hid (∀ k, (hk : k < l.length) → C[1 + k]? = some (.int .u64 (l[k] : Int))) := Lib.hid (fun k hk => by rw [hC, Nat.add_comm]; exact pcells_get _ _ _ _ k hk)
  have HPUT : Hid (∀ (W : World) (g c : Nat), g < W.heap.size → (∀ k, (hk : k < l.length) → W.cell? ⟨g, 1 + k, none⟩ = some (.int .u64 (l[k] : Int))) → Calls Tryd.prog 79 #[.int .u8 80, .int .u32 (h : Int), .int .u32 16, .slice (some ⟨g, 1, none⟩) 16 c, .int .i64 8] W fun e w' => e = .returned (.tuple #[.agg (blk (tiputB h l)), .int .i64 (tiputE h)]) ∧ Below W.heap.size W w') := Lib.hid (fun W g c hg hc => tiput_any W g 1 c h l hn hg hc)
  obtain ⟨D, hD⟩ : ∃ D, D = blk (tiputB h l) := ⟨_, rfl⟩
  obtain ⟨E, hE⟩ : ∃ E, E = tiputE h := ⟨_, rfl⟩
  have HDS : Hid (D.size = 256) := Lib.hid (by rw [hD, size_blk, length_tiputB hn])
  have HDO : Hid (D.all (·.oneCell') = true) := Lib.hid (by rw [hD]; exact blk_one _)
  rw [← hD, ← hE] at HPUT ⊢
  rw [← hC]
  clear hC hn hD hE
  have q1 := ((Rows.start w).alloc C 93).alloc (zeros 256 (.int .u8 0)) 33
  obtain ⟨g1, hg1⟩ : ∃ g, g = w.heap.size := ⟨_, rfl⟩
  obtain ⟨g2, hg2⟩ : ∃ g, g = (w.alloc (.cells C 93)).heap.size := ⟨_, rfl⟩
  rw [← hg2, ← hg1] at q1
  have hg2' : w.heap.size + 1 = g2 := by rw [hg2]; simp
  have G1 := Lib.hid hg1
  have G2 := Lib.hid hg2'
  have Q1 := Lib.hid q1
  clear hg1 hg2 hg2' q1
  go_enter Tryd.func48, Tryd.ntmps48
  go_upto_region 1 with (refine wpList_alloc_row rfl 33 rfl _ zeroB ?_)
  have q1 := Q1.out
  obtain ⟨W1, hW⟩ : ∃ W, W = (w.alloc (.cells C 93)).alloc (.cells (zeros 256 (.int .u8 0)) 33) := ⟨_, rfl⟩
  rw [← hW] at q1 ⊢
  rw [G2.out, ← G1.out]
  have R1 := Lib.hid q1
  clear hW q1 Q1 G1 G2
  refine wk_region_tail 7 (by kernel_rfl) (by kernel_rfl) ?_
  simp only [List.take_succ_cons, List.take_zero, List.drop_succ_cons, List.drop_zero]
  refine wk_field 93 _ 52 0 0 _ g1 0 (by kernel_rfl) rfl (by kernel_rfl) (by kernel_rfl) (by kernel_rfl) rfl ?_
  simp only [Act.put, List.setIfInBounds_toArray, List.set_cons_zero, List.set_cons_succ]
  refine wk_load1 _ _ _ _ _ rfl (by kernel_rfl) rfl rfl (fun w' hC => hC.cell (R1.out.cell 1 0 rfl HC0.out)) Tryd.underlying52 ?_
  simp only [Act.put, List.setIfInBounds_toArray, List.set_cons_zero, List.set_cons_succ]
  refine wk_field 93 _ 91 1 15 _ g1 0 (by kernel_rfl) rfl (by kernel_rfl) (by kernel_rfl) (by kernel_rfl) rfl ?_
  simp only [Act.put, List.setIfInBounds_toArray, List.set_cons_zero, List.set_cons_succ]
  refine wk_slice_whole 16 91 29 _ g1 1 (by kernel_rfl) rfl Tryd.underlying91 tielem rfl (by omega) ?_
  simp only [Act.put, List.setIfInBounds_toArray, List.set_cons_zero, List.set_cons_succ]
  refine wk_call 79 _ _ _ _ _ (by kernel_rfl) rfl Tryd.func79 rfl (by kernel_rfl) (fun w' hC => hC.call (HPUT.out w' g1 _ (Nat.lt_of_lt_of_le (R1.out.lt 1 rfl) (Below.size hC)) (fun k hk => (R1.out.since hC).cell 1 (1 + k) rfl (HCK.out k hk)))) ?_
  simp only [Act.put, List.setIfInBounds_toArray, List.set_cons_zero, List.set_cons_succ]
  refine wk_extract _ _ _ _ (by first | exact wanted_none rfl | exact wanted_yes _ _ rfl rfl) rfl rfl rfl ?_
  simp only [Act.put, List.setIfInBounds_toArray, List.set_cons_zero, List.set_cons_succ]
  refine wk_extract _ _ _ _ (by first | exact wanted_none rfl | exact wanted_yes _ _ rfl rfl) rfl rfl rfl ?_
  simp only [Act.put, List.setIfInBounds_toArray, List.set_cons_zero, List.set_cons_succ]
  refine wk_nil ?_
  intro w' hC
  have R2 := Lib.hid (R1.out.since hC)
  clear hC
  go_wp2_with (refine wpList_store_row rfl 33 _ _ rfl g2 D rfl rfl 33 _ (R2.out.get 0 rfl) (by rw [HDS.out]; exact sizeB) (by rw [HDS.out, size_zeros]) HDO.out ?_)
  refine bodyPost_ret (v := .tuple #[.agg D, .int .i64 E]) (results_cell_slot rfl _ _ g2 33 _ (0, 0) _ _ rfl rfl (setRow_heap _ _ _ _ _ _ (R2.out.get 0 rfl)) Tryd.underlying33 rfl (by rw [HDS.out]; exact sizeB)) rfl ⟨rfl, ?_⟩
  exact (R2.out.setRow 0 D rfl).below
end Go.Proofs.YtnhfkmfmmgaecaaDoor
