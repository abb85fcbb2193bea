/- The card layer's law: its head holds. -/
import Derived.Test.YtfbafmgclfnigaaDoorCard
import Derived.Test.YtfbafmgclfnigaaDoorCopies
import Derived.Test.YtfbafmgclfnigaaDoorQuiet
namespace Go.Proofs.YtfbafmgclfnigaaDoor
open Go.RowKit
set_option linter.unusedSimpArgs false
def cOne : Card := ⟨⟨#[97, 98]⟩, 7, 0, 3, 0, 9, 2, 5, false⟩
theorem cOne_ok : cOne.Ok := ⟨by decide, by decide, by decide, by decide, by decide, by decide, by decide, by decide⟩
def zeroCard : Array Value := #[.string ⟨#[]⟩, .int .u32 0, .int .u32 0, .int .u32 0, .int .u32 0, .int .u32 0, .int .u32 0, .int .u32 0, .bool false]
theorem zeroC : (Tryd.prog.info? 26).bind (·.zero) = some (.agg zeroCard) := by kernel_rfl
theorem sizeC : (Tryd.prog.info? 26).map (·.size) = some 9 := by kernel_rfl
theorem one_any (w : World) : Calls Tryd.prog 36 #[] w fun e w' => e = .returned (.agg cOne.cells) ∧ Below w.heap.size w w' := by
  have hg : (w.alloc (.cells zeroCard 26)).heap[w.heap.size]? = some (.cells zeroCard 26 (0, 0)) := heap_alloc_new w _
  have HG := Lib.hid hg
  clear hg
  go_enter Tryd.func36, Tryd.ntmps36
  go_wp2_with (first
    | refine wpList_alloc_row rfl 26 rfl _ zeroC ?_
    | refine wpList_store_new rfl 26 _ _ rfl _ cOne.cells _ rfl rfl sizeC rfl (by simp [Card.cells, cu, Value.oneCell']) ?_)
  refine bodyPost_ret (v := .agg cOne.cells) (results_cell_row rfl _ _ w.heap.size 26 _ (0, 0) _ rfl (heap_alloc_new w _) Tryd.underlying26 rfl sizeC) rfl ⟨rfl, (Below.refl _ _).alloc (Nat.le_refl _) _⟩
theorem cells_one (c : Card) : c.cells.all (·.oneCell') = true := by simp [Card.cells, cu, Value.oneCell']
theorem may_is (c : Card) (hc : c.Ok) (w : World) (r : Bool) (hr : c.may = r) : Calls Tryd.prog 13 #[.agg c.cells] w fun e w' => e = .returned (.bool r) ∧ Below w.heap.size w w' := hr ▸ may_any c hc w
def cId : Card := { cOne with id := 0 }
def cUsed : Card := { cOne with used := 6 }
def cRoot : Card := { cOne with root := 0 }
def cOnly : Card := { cOne with only := true }
def cRight : Card := { cOne with right := 7 }
def cBare : Card := { cOne with name := ⟨#[]⟩ }
theorem cId_ok : cId.Ok := ⟨by decide, by decide, by decide, by decide, by decide, by decide, by decide, by decide⟩
theorem cUsed_ok : cUsed.Ok := ⟨by decide, by decide, by decide, by decide, by decide, by decide, by decide, by decide⟩
theorem cRoot_ok : cRoot.Ok := ⟨by decide, by decide, by decide, by decide, by decide, by decide, by decide, by decide⟩
theorem cOnly_ok : cOnly.Ok := ⟨by decide, by decide, by decide, by decide, by decide, by decide, by decide, by decide⟩
theorem cRight_ok : cRight.Ok := ⟨by decide, by decide, by decide, by decide, by decide, by decide, by decide, by decide⟩
theorem cBare_ok : cBare.Ok := ⟨by decide, by decide, by decide, by decide, by decide, by decide, by decide, by decide⟩
theorem own_two {w : World} {base : Nat} {v : Value} {x y : Nat} (h : OwnNums w base v [x, y]) :
    ∃ k c, v = .slice (some ⟨k, 0, none⟩) 2 c ∧ w.cell? ⟨k, 0, none⟩ = some (.int .u32 (x : Int)) ∧ w.cell? ⟨k, 1, none⟩ = some (.int .u32 (y : Int)) := by
  obtain ⟨a, c, rfl, hk⟩ := own_form2 h
  obtain ⟨k, rfl, hb⟩ := hk (by simp)
  have hc := World.ownsRow.cells h hb
  exact ⟨k, c, rfl, hc 0 _ rfl, hc 1 _ rfl⟩
theorem six (j : Nat) (h : j < 6) : j = 0 ∨ j = 1 ∨ j = 2 ∨ j = 3 ∨ j = 4 ∨ j = 5 := by omega
set_option maxRecDepth 100000 in
set_option maxHeartbeats 2000000 in
theorem cardhead_any (w : World) : Calls Tryd.prog 10 #[] w fun e w' => e = .returned (.bool true) ∧ Below w.heap.size w w' := by
  go_enter Tryd.func10, Tryd.ntmps10
  go_wp2_with fail
  refine (one_any _).mono ?_
  rintro e w1 ⟨rfl, hb1⟩
  obtain ⟨C, hC⟩ : ∃ C, C = cOne.cells := ⟨_, rfl⟩
  rw [← hC]
  have HC := Lib.hid hC
  have hC1 : C.all (·.oneCell') = true := hC ▸ cells_one _
  have hCs : C.size = 9 := by rw [hC]; rfl
  have HC1 := Lib.hid hC1
  have HCS := Lib.hid hCs
  have HPUT : Hid (∀ w, Calls Tryd.prog 11 #[.agg C] w fun e w' => e = .returned (.tuple #[.agg (blk (doneB 67 cOne.bytes)), .int .i64 0]) ∧ Below w.heap.size w w') := Lib.hid (fun w => by rw [hC]; exact put_any cOne cOne_ok rfl w)
  have HKIDS : Hid (∀ w, Calls Tryd.prog 16 #[.agg C] w fun e w' => ∃ v, e = .returned v ∧ OwnNums w' w.heap.size v [7, 9] ∧ Below w.heap.size w w') := Lib.hid (fun w => by rw [hC]; exact kids_any cOne cOne_ok w)
  have HMAY : Hid (∀ w, Calls Tryd.prog 13 #[.agg C] w fun e w' => e = .returned (.bool true) ∧ Below w.heap.size w w') := Lib.hid (fun w => by rw [hC]; exact may_is cOne cOne_ok w true rfl)
  obtain ⟨D, hD⟩ : ∃ D, D = doneB 67 cOne.bytes := ⟨_, rfl⟩
  have HDL : Hid (D.length = 256) := Lib.hid (by rw [hD, length_doneB _ _ (by rw [Card.length_bytes _ (by decide)]; omega)])
  have HD4 : Hid (decide ((⟨(D.take 4).toArray⟩ : ByteArray) = ⟨#[67, 2, 97, 98]⟩) = true) := Lib.hid (by
    have : D.take 4 = [67, 2, 97, 98] := by
      have h := congrArg (List.take 4) (take_doneB 67 cOne.bytes (by rw [Card.length_bytes _ (by decide)]; omega))
      rw [List.take_take, List.take_take] at h
      rw [hD, show (4 : Nat) = min 4 252 from rfl, h]
      decide +kernel
    rw [this]; decide)
  rw [← hD] at HPUT
  have HDS : Hid ((blk D).size = 256) := Lib.hid (by rw [hD, size_blk, length_doneB _ _ (by rw [Card.length_bytes _ (by decide)]; omega)])
  clear hD
  obtain ⟨W1, hW1⟩ : ∃ W1, W1 = w1.alloc (.cells C 26) := ⟨_, rfl⟩
  have hg1 : W1.heap[w1.heap.size]? = some (.cells C 26 (0, 0)) := by rw [hW1]; exact heap_alloc_new _ _
  have HW1 := Lib.hid hW1
  have HG1 := Lib.hid hg1
  have hs1 : W1.heap.size = w1.heap.size + 1 := by rw [hW1]; simp
  have HS1 := Lib.hid hs1
  have HB1 := Lib.hid (show Below w.heap.size w W1 from by rw [hW1]; exact hb1.alloc hb1.size _)
  clear hC hC1 hCs hW1 hg1 hs1
  go_wp2_with (first
    | refine wpList_alloc_row rfl 26 rfl _ zeroC ?_
    | (refine wpList_store_new rfl 26 _ _ rfl _ C _ rfl rfl (by rw [HCS.out]; exact sizeC) (by rw [HCS.out]; rfl) HC1.out ?_)
    | (rw [← HW1.out]; refine wpList_load_row rfl 26 _ rfl w1.heap.size rfl 26 C (0, 0) _ HG1.out Tryd.underlying26 rfl (by rw [HCS.out]; exact sizeC) ?_))
  refine (HPUT.out _).mono ?_
  rintro e w2 ⟨rfl, hb2⟩
  have hg2 : w2.heap[w1.heap.size]? = some (.cells C 26 (0, 0)) := (hb2.block _ (by rw [HS1.out]; omega)).trans HG1.out
  have hs2 : w1.heap.size + 1 ≤ w2.heap.size := by have := hb2.size; rw [HS1.out] at this; exact this
  have HB2 := Lib.hid (HB1.out.trans (hb2.mono HB1.out.size))
  obtain ⟨W2, hW2⟩ : ∃ W2, W2 = w2.alloc (.cells (blk D) 29) := ⟨_, rfl⟩
  have hg3 : W2.heap[w1.heap.size]? = some (.cells C 26 (0, 0)) := by rw [hW2, Go.heap_alloc_old _ _ (by omega)]; exact hg2
  have hg4 : W2.heap[w2.heap.size]? = some (.cells (blk D) 29 (0, 0)) := by rw [hW2]; exact heap_alloc_new _ _
  have hs3 : W2.heap.size = w2.heap.size + 1 := by rw [hW2]; simp
  have HB3 := Lib.hid (show Below w.heap.size w W2 from by rw [hW2]; exact HB2.out.alloc HB2.out.size _)
  have HW2 := Lib.hid hW2
  have HG3 := Lib.hid hg3
  have HG4 := Lib.hid hg4
  have HS3 := Lib.hid hs3
  clear hb2 hg2 hg3 hg4 hW2 hs3 hb1
  go_upto_region 3 with (first
    | refine wpList_alloc_row rfl 29 rfl _ zeroB ?_
    | (refine wpList_store_new rfl 29 _ _ rfl _ (blk D) _ rfl rfl (by rw [HDS.out]; exact sizeB) (by rw [HDS.out, size_zeros]) (blk_one _) ?_))
  rw [← HW2.out]
  refine wp_region_copies (by kernel_rfl) 6 (fun j => 17 + j) (fun j => 4 + j) 1 26 ?hl C zeroCard _ Tryd.underlying26 rfl (by rw [HCS.out]; exact sizeC) zeroC (by rw [HCS.out]; rfl) HC1.out w1.heap.size rfl HG3.out ?hlt ?_
  case hl =>
    refine ⟨rfl, ?_, ?_, ?_, by decide +kernel, ?_, ?_, ?_, ?_⟩
    · intro j hj
      rcases six j hj with rfl | rfl | rfl | rfl | rfl | rfl <;> exact ⟨_, rfl, rfl, rfl, rfl⟩
    · intro j hj
      rcases six j hj with rfl | rfl | rfl | rfl | rfl | rfl <;> exact ⟨_, rfl, rfl, rfl, rfl⟩
    · intro j hj
      rcases six j hj with rfl | rfl | rfl | rfl | rfl | rfl <;> exact ⟨_, rfl, rfl, rfl, rfl, by decide +kernel, by decide +kernel⟩
    · intro j k _ _ h; simp at h; omega
    · intro j k _ _ h; simp at h; omega
    · intro j k hj hk; simp; omega
    · intro j hj; simp; omega
  case hlt => intro j hj; simp; omega
  intro b W3 hbs hne hb3
  simp only [copied, Nat.reduceAdd, List.setIfInBounds_toArray, List.set_cons_zero, List.set_cons_succ]
  -- STORES
  obtain ⟨b0, e0⟩ : ∃ x, x = b 0 := ⟨_, rfl⟩
  obtain ⟨b1, e1⟩ : ∃ x, x = b 1 := ⟨_, rfl⟩
  obtain ⟨b2, e2⟩ : ∃ x, x = b 2 := ⟨_, rfl⟩
  obtain ⟨b3, e3⟩ : ∃ x, x = b 3 := ⟨_, rfl⟩
  obtain ⟨b4, e4⟩ : ∃ x, x = b 4 := ⟨_, rfl⟩
  obtain ⟨b5, e5⟩ : ∃ x, x = b 5 := ⟨_, rfl⟩
  rw [← e0, ← e1, ← e2, ← e3, ← e4, ← e5]
  obtain ⟨l0, r0⟩ := hbs 0 (by omega)
  rw [← e0] at l0 r0
  obtain ⟨l1, r1⟩ := hbs 1 (by omega)
  rw [← e1] at l1 r1
  obtain ⟨l2, r2⟩ := hbs 2 (by omega)
  rw [← e2] at l2 r2
  obtain ⟨l3, r3⟩ := hbs 3 (by omega)
  rw [← e3] at l3 r3
  obtain ⟨l4, r4⟩ := hbs 4 (by omega)
  rw [← e4] at l4 r4
  obtain ⟨l5, r5⟩ := hbs 5 (by omega)
  rw [← e5] at l5 r5
  have n01 : b0 ≠ b1 := by rw [e0, e1]; exact hne 0 1 (by omega) (by omega) (by omega)
  have n02 : b0 ≠ b2 := by rw [e0, e2]; exact hne 0 2 (by omega) (by omega) (by omega)
  have n03 : b0 ≠ b3 := by rw [e0, e3]; exact hne 0 3 (by omega) (by omega) (by omega)
  have n04 : b0 ≠ b4 := by rw [e0, e4]; exact hne 0 4 (by omega) (by omega) (by omega)
  have n05 : b0 ≠ b5 := by rw [e0, e5]; exact hne 0 5 (by omega) (by omega) (by omega)
  have n10 : b1 ≠ b0 := by rw [e1, e0]; exact hne 1 0 (by omega) (by omega) (by omega)
  have n12 : b1 ≠ b2 := by rw [e1, e2]; exact hne 1 2 (by omega) (by omega) (by omega)
  have n13 : b1 ≠ b3 := by rw [e1, e3]; exact hne 1 3 (by omega) (by omega) (by omega)
  have n14 : b1 ≠ b4 := by rw [e1, e4]; exact hne 1 4 (by omega) (by omega) (by omega)
  have n15 : b1 ≠ b5 := by rw [e1, e5]; exact hne 1 5 (by omega) (by omega) (by omega)
  have n20 : b2 ≠ b0 := by rw [e2, e0]; exact hne 2 0 (by omega) (by omega) (by omega)
  have n21 : b2 ≠ b1 := by rw [e2, e1]; exact hne 2 1 (by omega) (by omega) (by omega)
  have n23 : b2 ≠ b3 := by rw [e2, e3]; exact hne 2 3 (by omega) (by omega) (by omega)
  have n24 : b2 ≠ b4 := by rw [e2, e4]; exact hne 2 4 (by omega) (by omega) (by omega)
  have n25 : b2 ≠ b5 := by rw [e2, e5]; exact hne 2 5 (by omega) (by omega) (by omega)
  have n30 : b3 ≠ b0 := by rw [e3, e0]; exact hne 3 0 (by omega) (by omega) (by omega)
  have n31 : b3 ≠ b1 := by rw [e3, e1]; exact hne 3 1 (by omega) (by omega) (by omega)
  have n32 : b3 ≠ b2 := by rw [e3, e2]; exact hne 3 2 (by omega) (by omega) (by omega)
  have n34 : b3 ≠ b4 := by rw [e3, e4]; exact hne 3 4 (by omega) (by omega) (by omega)
  have n35 : b3 ≠ b5 := by rw [e3, e5]; exact hne 3 5 (by omega) (by omega) (by omega)
  have n40 : b4 ≠ b0 := by rw [e4, e0]; exact hne 4 0 (by omega) (by omega) (by omega)
  have n41 : b4 ≠ b1 := by rw [e4, e1]; exact hne 4 1 (by omega) (by omega) (by omega)
  have n42 : b4 ≠ b2 := by rw [e4, e2]; exact hne 4 2 (by omega) (by omega) (by omega)
  have n43 : b4 ≠ b3 := by rw [e4, e3]; exact hne 4 3 (by omega) (by omega) (by omega)
  have n45 : b4 ≠ b5 := by rw [e4, e5]; exact hne 4 5 (by omega) (by omega) (by omega)
  have n50 : b5 ≠ b0 := by rw [e5, e0]; exact hne 5 0 (by omega) (by omega) (by omega)
  have n51 : b5 ≠ b1 := by rw [e5, e1]; exact hne 5 1 (by omega) (by omega) (by omega)
  have n52 : b5 ≠ b2 := by rw [e5, e2]; exact hne 5 2 (by omega) (by omega) (by omega)
  have n53 : b5 ≠ b3 := by rw [e5, e3]; exact hne 5 3 (by omega) (by omega) (by omega)
  have n54 : b5 ≠ b4 := by rw [e5, e4]; exact hne 5 4 (by omega) (by omega) (by omega)
  have hw1b : w1.heap.size < W2.heap.size := by rw [HS3.out]; omega
  have hw2b : w2.heap.size < W2.heap.size := by rw [HS3.out]; omega
  have c0 : W3.heap[w1.heap.size]? = some (.cells C 26 (0, 0)) := (hb3.block _ hw1b).trans HG3.out
  have d0 : W3.heap[w2.heap.size]? = some (.cells (blk D) 29 (0, 0)) := (hb3.block _ hw2b).trans HG4.out
  have B0 : Below w.heap.size w W3 := HB3.out.trans (hb3.mono HB3.out.size)
  have lw : w.heap.size ≤ W2.heap.size := HB3.out.size
  obtain ⟨V1, hV1⟩ : ∃ V, V = W3.setCell ⟨b0, 3, none⟩ (.int .u32 0) := ⟨_, rfl⟩
  have HV1 := Lib.hid hV1
  have t0 : V1.heap[b0]? = some (.cells (C.setIfInBounds 3 (.int .u32 0)) 26 (0, 0)) := by rw [hV1]; exact heap_setCell_same _ _ _ _ _ _ r0
  have o0 : ∀ k, k ≠ b0 → V1.heap[k]? = W3.heap[k]? := fun k hk => by rw [hV1, heap_setCell_other _ _ _ _ hk]
  have q0 := cell_of_row W3 b0 3 _ _ _ r0
  have f0 : W3.frozen? ⟨b0, 3, none⟩ = false := frozen_of_row W3 b0 3 _ _ r0
  have B1 : Below w.heap.size w V1 := by rw [hV1]; exact B0.setCell (Nat.le_trans lw l0) _
  rw [← o0 _ (by omega)] at c0 d0
  rw [← o0 _ n10] at r1
  rw [← o0 _ n20] at r2
  rw [← o0 _ n30] at r3
  rw [← o0 _ n40] at r4
  rw [← o0 _ n50] at r5
  obtain ⟨V2, hV2⟩ : ∃ V, V = V1.setCell ⟨b1, 6, none⟩ (.int .u32 6) := ⟨_, rfl⟩
  have HV2 := Lib.hid hV2
  have t1 : V2.heap[b1]? = some (.cells (C.setIfInBounds 6 (.int .u32 6)) 26 (0, 0)) := by rw [hV2]; exact heap_setCell_same _ _ _ _ _ _ r1
  have o1 : ∀ k, k ≠ b1 → V2.heap[k]? = V1.heap[k]? := fun k hk => by rw [hV2, heap_setCell_other _ _ _ _ hk]
  have q1 := cell_of_row V1 b1 6 _ _ _ r1
  have f1 : V1.frozen? ⟨b1, 6, none⟩ = false := frozen_of_row V1 b1 6 _ _ r1
  have B2 : Below w.heap.size w V2 := by rw [hV2]; exact B1.setCell (Nat.le_trans lw l1) _
  rw [← o1 _ (by omega)] at c0 d0
  rw [← o1 _ n01] at t0
  rw [← o1 _ n21] at r2
  rw [← o1 _ n31] at r3
  rw [← o1 _ n41] at r4
  rw [← o1 _ n51] at r5
  obtain ⟨V3, hV3⟩ : ∃ V, V = V2.setCell ⟨b2, 5, none⟩ (.int .u32 0) := ⟨_, rfl⟩
  have HV3 := Lib.hid hV3
  have t2 : V3.heap[b2]? = some (.cells (C.setIfInBounds 5 (.int .u32 0)) 26 (0, 0)) := by rw [hV3]; exact heap_setCell_same _ _ _ _ _ _ r2
  have o2 : ∀ k, k ≠ b2 → V3.heap[k]? = V2.heap[k]? := fun k hk => by rw [hV3, heap_setCell_other _ _ _ _ hk]
  have q2 := cell_of_row V2 b2 5 _ _ _ r2
  have f2 : V2.frozen? ⟨b2, 5, none⟩ = false := frozen_of_row V2 b2 5 _ _ r2
  have B3 : Below w.heap.size w V3 := by rw [hV3]; exact B2.setCell (Nat.le_trans lw l2) _
  rw [← o2 _ (by omega)] at c0 d0
  rw [← o2 _ n02] at t0
  rw [← o2 _ n12] at t1
  rw [← o2 _ n32] at r3
  rw [← o2 _ n42] at r4
  rw [← o2 _ n52] at r5
  obtain ⟨V4, hV4⟩ : ∃ V, V = V3.setCell ⟨b3, 8, none⟩ (.bool true) := ⟨_, rfl⟩
  have HV4 := Lib.hid hV4
  have t3 : V4.heap[b3]? = some (.cells (C.setIfInBounds 8 (.bool true)) 26 (0, 0)) := by rw [hV4]; exact heap_setCell_same _ _ _ _ _ _ r3
  have o3 : ∀ k, k ≠ b3 → V4.heap[k]? = V3.heap[k]? := fun k hk => by rw [hV4, heap_setCell_other _ _ _ _ hk]
  have q3 := cell_of_row V3 b3 8 _ _ _ r3
  have f3 : V3.frozen? ⟨b3, 8, none⟩ = false := frozen_of_row V3 b3 8 _ _ r3
  have B4 : Below w.heap.size w V4 := by rw [hV4]; exact B3.setCell (Nat.le_trans lw l3) _
  rw [← o3 _ (by omega)] at c0 d0
  rw [← o3 _ n03] at t0
  rw [← o3 _ n13] at t1
  rw [← o3 _ n23] at t2
  rw [← o3 _ n43] at r4
  rw [← o3 _ n53] at r5
  obtain ⟨V5, hV5⟩ : ∃ V, V = V4.setCell ⟨b4, 2, none⟩ (.int .u32 7) := ⟨_, rfl⟩
  have HV5 := Lib.hid hV5
  have t4 : V5.heap[b4]? = some (.cells (C.setIfInBounds 2 (.int .u32 7)) 26 (0, 0)) := by rw [hV5]; exact heap_setCell_same _ _ _ _ _ _ r4
  have o4 : ∀ k, k ≠ b4 → V5.heap[k]? = V4.heap[k]? := fun k hk => by rw [hV5, heap_setCell_other _ _ _ _ hk]
  have q4 := cell_of_row V4 b4 2 _ _ _ r4
  have f4 : V4.frozen? ⟨b4, 2, none⟩ = false := frozen_of_row V4 b4 2 _ _ r4
  have B5 : Below w.heap.size w V5 := by rw [hV5]; exact B4.setCell (Nat.le_trans lw l4) _
  rw [← o4 _ (by omega)] at c0 d0
  rw [← o4 _ n04] at t0
  rw [← o4 _ n14] at t1
  rw [← o4 _ n24] at t2
  rw [← o4 _ n34] at t3
  rw [← o4 _ n54] at r5
  obtain ⟨V6, hV6⟩ : ∃ V, V = V5.setCell ⟨b5, 0, none⟩ (.string ⟨#[]⟩) := ⟨_, rfl⟩
  have HV6 := Lib.hid hV6
  have t5 : V6.heap[b5]? = some (.cells (C.setIfInBounds 0 (.string ⟨#[]⟩)) 26 (0, 0)) := by rw [hV6]; exact heap_setCell_same _ _ _ _ _ _ r5
  have o5 : ∀ k, k ≠ b5 → V6.heap[k]? = V5.heap[k]? := fun k hk => by rw [hV6, heap_setCell_other _ _ _ _ hk]
  have q5 := cell_of_row V5 b5 0 _ _ _ r5
  have f5 : V5.frozen? ⟨b5, 0, none⟩ = false := frozen_of_row V5 b5 0 _ _ r5
  have B6 : Below w.heap.size w V6 := by rw [hV6]; exact B5.setCell (Nat.le_trans lw l5) _
  rw [← o5 _ (by omega)] at c0 d0
  rw [← o5 _ n05] at t0
  rw [← o5 _ n15] at t1
  rw [← o5 _ n25] at t2
  rw [← o5 _ n35] at t3
  rw [← o5 _ n45] at t4
  have hcv : ∀ k, k < 9 → C[k]? = cOne.cells[k]? := fun k _ => by rw [HC.out]
  rw [hcv 3 (by omega), show cOne.cells[3]? = some (cu cOne.id) from rfl] at q0
  rw [hcv 6 (by omega), show cOne.cells[6]? = some (cu cOne.used) from rfl] at q1
  rw [hcv 5 (by omega), show cOne.cells[5]? = some (cu cOne.root) from rfl] at q2
  rw [hcv 8 (by omega), show cOne.cells[8]? = some (.bool cOne.only) from rfl] at q3
  rw [hcv 2 (by omega), show cOne.cells[2]? = some (cu cOne.right) from rfl] at q4
  rw [hcv 0 (by omega), show cOne.cells[0]? = some (.string cOne.name) from rfl] at q5
  rw [HC.out, show cOne.cells.setIfInBounds 3 (.int .u32 0) = cId.cells from rfl] at t0
  have T0 := Lib.hid t0
  rw [HC.out, show cOne.cells.setIfInBounds 6 (.int .u32 6) = cUsed.cells from rfl] at t1
  have T1 := Lib.hid t1
  rw [HC.out, show cOne.cells.setIfInBounds 5 (.int .u32 0) = cRoot.cells from rfl] at t2
  have T2 := Lib.hid t2
  rw [HC.out, show cOne.cells.setIfInBounds 8 (.bool true) = cOnly.cells from rfl] at t3
  have T3 := Lib.hid t3
  rw [HC.out, show cOne.cells.setIfInBounds 2 (.int .u32 7) = cRight.cells from rfl] at t4
  have T4 := Lib.hid t4
  rw [HC.out, show cOne.cells.setIfInBounds 0 (.string ⟨#[]⟩) = cBare.cells from rfl] at t5
  have T5 := Lib.hid t5
  have C0 := Lib.hid c0
  have D0 := Lib.hid d0
  have BB := Lib.hid B6
  clear t0 o0 l0 r0 e0 hV1 B0 t1 o1 l1 r1 e1 hV2 B1 t2 o2 l2 r2 e2 hV3 B2 t3 o3 l3 r3 e3 hV4 B3 t4 o4 l4 r4 e4 hV5 B4 t5 o5 l5 r5 e5 hV6 B5 B6 c0 d0 hcv hbs hne hb3 hw1b hw2b lw hs2 n01 n02 n03 n04 n05 n10 n12 n13 n14 n15 n20 n21 n23 n24 n25 n30 n31 n32 n34 n35 n40 n41 n42 n43 n45 n50 n51 n52 n53 n54
  go_upto_region 5 with (fail)
  rw [← HV1.out]
  clear q0 f0
  go_upto_region 6 with (fail)
  rw [← HV2.out]
  clear q1 f1
  go_upto_region 7 with (fail)
  rw [← HV3.out]
  clear q2 f2
  go_upto_region 8 with (fail)
  rw [← HV4.out]
  clear q3 f3
  go_upto_region 9 with (fail)
  rw [← HV5.out]
  clear q4 f4
  go_upto_region 10 with (fail)
  rw [← HV6.out]
  clear q5 f5
  go_wp2_with (refine wpList_load_row rfl 26 _ rfl w1.heap.size rfl 26 C (0, 0) _ C0.out Tryd.underlying26 rfl (by rw [HCS.out]; exact sizeC) ?_)
  refine (HKIDS.out _).mono ?_
  rintro e V7 ⟨v, rfl, hv, hb7⟩
  obtain ⟨kb, kc, rfl, k0, k1⟩ := own_two hv
  have B7 := Lib.hid (BB.out.trans (hb7.mono BB.out.size))
  have C7 := Lib.hid ((hb7.block _ (Array.getElem?_eq_some_iff.1 C0.out).1).trans C0.out)
  have D7 := Lib.hid ((hb7.block _ (Array.getElem?_eq_some_iff.1 D0.out).1).trans D0.out)
  have U0 := Lib.hid ((hb7.block _ (Array.getElem?_eq_some_iff.1 T0.out).1).trans T0.out)
  have U1 := Lib.hid ((hb7.block _ (Array.getElem?_eq_some_iff.1 T1.out).1).trans T1.out)
  have U2 := Lib.hid ((hb7.block _ (Array.getElem?_eq_some_iff.1 T2.out).1).trans T2.out)
  have U3 := Lib.hid ((hb7.block _ (Array.getElem?_eq_some_iff.1 T3.out).1).trans T3.out)
  have U4 := Lib.hid ((hb7.block _ (Array.getElem?_eq_some_iff.1 T4.out).1).trans T4.out)
  have U5 := Lib.hid ((hb7.block _ (Array.getElem?_eq_some_iff.1 T5.out).1).trans T5.out)
  have K0 := Lib.hid k0
  have K1 := Lib.hid k1
  clear hv hb7 k0 k1
  go_upto_region 11 with (fail)
  refine wk_plain_since ?_
  repeat (first
    | (refine wk_move _ (by first | exact wanted_none rfl | exact wanted_yes _ _ rfl rfl) rfl ?_; simp only [Act.put, Act.eval, Array.getD_eq_getD_getElem?, List.getElem?_toArray, List.getElem?_cons_succ, List.getElem?_cons_zero, Option.getD_some, List.setIfInBounds_toArray, List.set_cons_zero, List.set_cons_succ])
    | (refine wk_assign _ (by first | exact wanted_none rfl | exact wanted_yes _ _ rfl rfl) rfl ?_; simp only [Act.put, Act.eval, Array.getD_eq_getD_getElem?, List.getElem?_toArray, List.getElem?_cons_succ, List.getElem?_cons_zero, Option.getD_some, List.setIfInBounds_toArray, List.set_cons_zero, List.set_cons_succ])
    | (refine wk_pickt _ _ _ _ (by first | exact wanted_none rfl | exact wanted_yes _ _ rfl rfl) rfl rfl rfl ?_; simp only [Act.put, Act.eval, Array.getD_eq_getD_getElem?, List.getElem?_toArray, List.getElem?_cons_succ, List.getElem?_cons_zero, Option.getD_some, List.setIfInBounds_toArray, List.set_cons_zero, List.set_cons_succ])
    | (refine wk_pickf _ _ _ _ (by first | exact wanted_none rfl | exact wanted_yes _ _ rfl rfl) rfl rfl rfl ?_; simp only [Act.put, Act.eval, Array.getD_eq_getD_getElem?, List.getElem?_toArray, List.getElem?_cons_succ, List.getElem?_cons_zero, Option.getD_some, List.setIfInBounds_toArray, List.set_cons_zero, List.set_cons_succ])
    | (refine wk_skip (wanted_not _ true false rfl rfl rfl) ?_; simp only [Act.put, List.setIfInBounds_toArray, List.set_cons_zero, List.set_cons_succ])
    | (refine wk_skip (wanted_not _ false true rfl rfl rfl) ?_; simp only [Act.put, List.setIfInBounds_toArray, List.set_cons_zero, List.set_cons_succ])
    | (refine wk_skip (wanted_undef _ _ rfl rfl) ?_; simp only [Act.put, List.setIfInBounds_toArray, List.set_cons_zero, List.set_cons_succ])
    | (refine wk_not true _ _ (by first | exact wanted_none rfl | exact wanted_yes _ _ rfl rfl) rfl rfl ?_; simp only [Act.put, List.setIfInBounds_toArray, List.set_cons_zero, List.set_cons_succ])
    | (refine wk_not false _ _ (by first | exact wanted_none rfl | exact wanted_yes _ _ rfl rfl) rfl rfl ?_; simp only [Act.put, List.setIfInBounds_toArray, List.set_cons_zero, List.set_cons_succ]))
  refine wk_eql_int true _ _ _ _ _ _ _ (by kernel_rfl) rfl rfl rfl (by decide) ?_
  simp only [Act.put, List.setIfInBounds_toArray, List.set_cons_zero, List.set_cons_succ]
  repeat (first
    | (refine wk_move _ (by first | exact wanted_none rfl | exact wanted_yes _ _ rfl rfl) rfl ?_; simp only [Act.put, Act.eval, Array.getD_eq_getD_getElem?, List.getElem?_toArray, List.getElem?_cons_succ, List.getElem?_cons_zero, Option.getD_some, List.setIfInBounds_toArray, List.set_cons_zero, List.set_cons_succ])
    | (refine wk_assign _ (by first | exact wanted_none rfl | exact wanted_yes _ _ rfl rfl) rfl ?_; simp only [Act.put, Act.eval, Array.getD_eq_getD_getElem?, List.getElem?_toArray, List.getElem?_cons_succ, List.getElem?_cons_zero, Option.getD_some, List.setIfInBounds_toArray, List.set_cons_zero, List.set_cons_succ])
    | (refine wk_pickt _ _ _ _ (by first | exact wanted_none rfl | exact wanted_yes _ _ rfl rfl) rfl rfl rfl ?_; simp only [Act.put, Act.eval, Array.getD_eq_getD_getElem?, List.getElem?_toArray, List.getElem?_cons_succ, List.getElem?_cons_zero, Option.getD_some, List.setIfInBounds_toArray, List.set_cons_zero, List.set_cons_succ])
    | (refine wk_pickf _ _ _ _ (by first | exact wanted_none rfl | exact wanted_yes _ _ rfl rfl) rfl rfl rfl ?_; simp only [Act.put, Act.eval, Array.getD_eq_getD_getElem?, List.getElem?_toArray, List.getElem?_cons_succ, List.getElem?_cons_zero, Option.getD_some, List.setIfInBounds_toArray, List.set_cons_zero, List.set_cons_succ])
    | (refine wk_skip (wanted_not _ true false rfl rfl rfl) ?_; simp only [Act.put, List.setIfInBounds_toArray, List.set_cons_zero, List.set_cons_succ])
    | (refine wk_skip (wanted_not _ false true rfl rfl rfl) ?_; simp only [Act.put, List.setIfInBounds_toArray, List.set_cons_zero, List.set_cons_succ])
    | (refine wk_skip (wanted_undef _ _ rfl rfl) ?_; simp only [Act.put, List.setIfInBounds_toArray, List.set_cons_zero, List.set_cons_succ])
    | (refine wk_not true _ _ (by first | exact wanted_none rfl | exact wanted_yes _ _ rfl rfl) rfl rfl ?_; simp only [Act.put, List.setIfInBounds_toArray, List.set_cons_zero, List.set_cons_succ])
    | (refine wk_not false _ _ (by first | exact wanted_none rfl | exact wanted_yes _ _ rfl rfl) rfl rfl ?_; simp only [Act.put, List.setIfInBounds_toArray, List.set_cons_zero, List.set_cons_succ]))
  refine wk_slice_arr 4 256 .i64 _ _ _ _ _ (by kernel_rfl) rfl Tryd.underlying29 sizeU8 rfl rfl (by omega) (by omega) ?_
  simp only [Act.put, List.setIfInBounds_toArray, List.set_cons_zero, List.set_cons_succ]
  refine wk_bytes_pre _ _ _ _ _ _ _ 29 D (by kernel_rfl) rfl rfl Tryd.underlying81 Tryd.underlying5 Tryd.underlying9 (by rw [HDL.out]; omega) (fun w' hC => hC.row D7.out) ?_
  simp only [Act.put, List.setIfInBounds_toArray, List.set_cons_zero, List.set_cons_succ]
  refine wk_eql_str (true) _ _ _ _ _ _ (by kernel_rfl) rfl rfl rfl (HD4.out) ?_
  simp only [Act.put, List.setIfInBounds_toArray, List.set_cons_zero, List.set_cons_succ]
  repeat (first
    | (refine wk_move _ (by first | exact wanted_none rfl | exact wanted_yes _ _ rfl rfl) rfl ?_; simp only [Act.put, Act.eval, Array.getD_eq_getD_getElem?, List.getElem?_toArray, List.getElem?_cons_succ, List.getElem?_cons_zero, Option.getD_some, List.setIfInBounds_toArray, List.set_cons_zero, List.set_cons_succ])
    | (refine wk_assign _ (by first | exact wanted_none rfl | exact wanted_yes _ _ rfl rfl) rfl ?_; simp only [Act.put, Act.eval, Array.getD_eq_getD_getElem?, List.getElem?_toArray, List.getElem?_cons_succ, List.getElem?_cons_zero, Option.getD_some, List.setIfInBounds_toArray, List.set_cons_zero, List.set_cons_succ])
    | (refine wk_pickt _ _ _ _ (by first | exact wanted_none rfl | exact wanted_yes _ _ rfl rfl) rfl rfl rfl ?_; simp only [Act.put, Act.eval, Array.getD_eq_getD_getElem?, List.getElem?_toArray, List.getElem?_cons_succ, List.getElem?_cons_zero, Option.getD_some, List.setIfInBounds_toArray, List.set_cons_zero, List.set_cons_succ])
    | (refine wk_pickf _ _ _ _ (by first | exact wanted_none rfl | exact wanted_yes _ _ rfl rfl) rfl rfl rfl ?_; simp only [Act.put, Act.eval, Array.getD_eq_getD_getElem?, List.getElem?_toArray, List.getElem?_cons_succ, List.getElem?_cons_zero, Option.getD_some, List.setIfInBounds_toArray, List.set_cons_zero, List.set_cons_succ])
    | (refine wk_skip (wanted_not _ true false rfl rfl rfl) ?_; simp only [Act.put, List.setIfInBounds_toArray, List.set_cons_zero, List.set_cons_succ])
    | (refine wk_skip (wanted_not _ false true rfl rfl rfl) ?_; simp only [Act.put, List.setIfInBounds_toArray, List.set_cons_zero, List.set_cons_succ])
    | (refine wk_skip (wanted_undef _ _ rfl rfl) ?_; simp only [Act.put, List.setIfInBounds_toArray, List.set_cons_zero, List.set_cons_succ])
    | (refine wk_not true _ _ (by first | exact wanted_none rfl | exact wanted_yes _ _ rfl rfl) rfl rfl ?_; simp only [Act.put, List.setIfInBounds_toArray, List.set_cons_zero, List.set_cons_succ])
    | (refine wk_not false _ _ (by first | exact wanted_none rfl | exact wanted_yes _ _ rfl rfl) rfl rfl ?_; simp only [Act.put, List.setIfInBounds_toArray, List.set_cons_zero, List.set_cons_succ]))
  refine wk_len_slice _ _ _ _ _ _ Tryd.underlying37 (by kernel_rfl) rfl rfl ?_
  simp only [Act.put, List.setIfInBounds_toArray, List.set_cons_zero, List.set_cons_succ]
  refine wk_eql_int true _ _ _ _ _ _ _ (by kernel_rfl) rfl rfl rfl (by decide) ?_
  simp only [Act.put, List.setIfInBounds_toArray, List.set_cons_zero, List.set_cons_succ]
  repeat (first
    | (refine wk_move _ (by first | exact wanted_none rfl | exact wanted_yes _ _ rfl rfl) rfl ?_; simp only [Act.put, Act.eval, Array.getD_eq_getD_getElem?, List.getElem?_toArray, List.getElem?_cons_succ, List.getElem?_cons_zero, Option.getD_some, List.setIfInBounds_toArray, List.set_cons_zero, List.set_cons_succ])
    | (refine wk_assign _ (by first | exact wanted_none rfl | exact wanted_yes _ _ rfl rfl) rfl ?_; simp only [Act.put, Act.eval, Array.getD_eq_getD_getElem?, List.getElem?_toArray, List.getElem?_cons_succ, List.getElem?_cons_zero, Option.getD_some, List.setIfInBounds_toArray, List.set_cons_zero, List.set_cons_succ])
    | (refine wk_pickt _ _ _ _ (by first | exact wanted_none rfl | exact wanted_yes _ _ rfl rfl) rfl rfl rfl ?_; simp only [Act.put, Act.eval, Array.getD_eq_getD_getElem?, List.getElem?_toArray, List.getElem?_cons_succ, List.getElem?_cons_zero, Option.getD_some, List.setIfInBounds_toArray, List.set_cons_zero, List.set_cons_succ])
    | (refine wk_pickf _ _ _ _ (by first | exact wanted_none rfl | exact wanted_yes _ _ rfl rfl) rfl rfl rfl ?_; simp only [Act.put, Act.eval, Array.getD_eq_getD_getElem?, List.getElem?_toArray, List.getElem?_cons_succ, List.getElem?_cons_zero, Option.getD_some, List.setIfInBounds_toArray, List.set_cons_zero, List.set_cons_succ])
    | (refine wk_skip (wanted_not _ true false rfl rfl rfl) ?_; simp only [Act.put, List.setIfInBounds_toArray, List.set_cons_zero, List.set_cons_succ])
    | (refine wk_skip (wanted_not _ false true rfl rfl rfl) ?_; simp only [Act.put, List.setIfInBounds_toArray, List.set_cons_zero, List.set_cons_succ])
    | (refine wk_skip (wanted_undef _ _ rfl rfl) ?_; simp only [Act.put, List.setIfInBounds_toArray, List.set_cons_zero, List.set_cons_succ])
    | (refine wk_not true _ _ (by first | exact wanted_none rfl | exact wanted_yes _ _ rfl rfl) rfl rfl ?_; simp only [Act.put, List.setIfInBounds_toArray, List.set_cons_zero, List.set_cons_succ])
    | (refine wk_not false _ _ (by first | exact wanted_none rfl | exact wanted_yes _ _ rfl rfl) rfl rfl ?_; simp only [Act.put, List.setIfInBounds_toArray, List.set_cons_zero, List.set_cons_succ]))
  refine wk_index _ _ _ _ _ _ (2) _ (0) 1 .i64 (by kernel_rfl) rfl Tryd.underlying37 sizeU32 rfl rfl (by omega) ?_
  simp only [Act.put, List.setIfInBounds_toArray, List.set_cons_zero, List.set_cons_succ, Nat.mul_one, Nat.zero_add]
  refine wk_load1 _ _ _ _ _ rfl (by kernel_rfl) rfl rfl (fun w' hC => hC.cell K0.out) Tryd.underlying22 ?_
  simp only [Act.put, List.setIfInBounds_toArray, List.set_cons_zero, List.set_cons_succ]
  refine wk_eql_int true _ _ _ _ _ _ _ (by kernel_rfl) rfl rfl rfl (by decide) ?_
  simp only [Act.put, List.setIfInBounds_toArray, List.set_cons_zero, List.set_cons_succ]
  repeat (first
    | (refine wk_move _ (by first | exact wanted_none rfl | exact wanted_yes _ _ rfl rfl) rfl ?_; simp only [Act.put, Act.eval, Array.getD_eq_getD_getElem?, List.getElem?_toArray, List.getElem?_cons_succ, List.getElem?_cons_zero, Option.getD_some, List.setIfInBounds_toArray, List.set_cons_zero, List.set_cons_succ])
    | (refine wk_assign _ (by first | exact wanted_none rfl | exact wanted_yes _ _ rfl rfl) rfl ?_; simp only [Act.put, Act.eval, Array.getD_eq_getD_getElem?, List.getElem?_toArray, List.getElem?_cons_succ, List.getElem?_cons_zero, Option.getD_some, List.setIfInBounds_toArray, List.set_cons_zero, List.set_cons_succ])
    | (refine wk_pickt _ _ _ _ (by first | exact wanted_none rfl | exact wanted_yes _ _ rfl rfl) rfl rfl rfl ?_; simp only [Act.put, Act.eval, Array.getD_eq_getD_getElem?, List.getElem?_toArray, List.getElem?_cons_succ, List.getElem?_cons_zero, Option.getD_some, List.setIfInBounds_toArray, List.set_cons_zero, List.set_cons_succ])
    | (refine wk_pickf _ _ _ _ (by first | exact wanted_none rfl | exact wanted_yes _ _ rfl rfl) rfl rfl rfl ?_; simp only [Act.put, Act.eval, Array.getD_eq_getD_getElem?, List.getElem?_toArray, List.getElem?_cons_succ, List.getElem?_cons_zero, Option.getD_some, List.setIfInBounds_toArray, List.set_cons_zero, List.set_cons_succ])
    | (refine wk_skip (wanted_not _ true false rfl rfl rfl) ?_; simp only [Act.put, List.setIfInBounds_toArray, List.set_cons_zero, List.set_cons_succ])
    | (refine wk_skip (wanted_not _ false true rfl rfl rfl) ?_; simp only [Act.put, List.setIfInBounds_toArray, List.set_cons_zero, List.set_cons_succ])
    | (refine wk_skip (wanted_undef _ _ rfl rfl) ?_; simp only [Act.put, List.setIfInBounds_toArray, List.set_cons_zero, List.set_cons_succ])
    | (refine wk_not true _ _ (by first | exact wanted_none rfl | exact wanted_yes _ _ rfl rfl) rfl rfl ?_; simp only [Act.put, List.setIfInBounds_toArray, List.set_cons_zero, List.set_cons_succ])
    | (refine wk_not false _ _ (by first | exact wanted_none rfl | exact wanted_yes _ _ rfl rfl) rfl rfl ?_; simp only [Act.put, List.setIfInBounds_toArray, List.set_cons_zero, List.set_cons_succ]))
  refine wk_index _ _ _ _ _ _ (2) _ (1) 1 .i64 (by kernel_rfl) rfl Tryd.underlying37 sizeU32 rfl rfl (by omega) ?_
  simp only [Act.put, List.setIfInBounds_toArray, List.set_cons_zero, List.set_cons_succ, Nat.mul_one, Nat.zero_add]
  refine wk_load1 _ _ _ _ _ rfl (by kernel_rfl) rfl rfl (fun w' hC => hC.cell K1.out) Tryd.underlying22 ?_
  simp only [Act.put, List.setIfInBounds_toArray, List.set_cons_zero, List.set_cons_succ]
  refine wk_eql_int true _ _ _ _ _ _ _ (by kernel_rfl) rfl rfl rfl (by decide) ?_
  simp only [Act.put, List.setIfInBounds_toArray, List.set_cons_zero, List.set_cons_succ]
  repeat (first
    | (refine wk_move _ (by first | exact wanted_none rfl | exact wanted_yes _ _ rfl rfl) rfl ?_; simp only [Act.put, Act.eval, Array.getD_eq_getD_getElem?, List.getElem?_toArray, List.getElem?_cons_succ, List.getElem?_cons_zero, Option.getD_some, List.setIfInBounds_toArray, List.set_cons_zero, List.set_cons_succ])
    | (refine wk_assign _ (by first | exact wanted_none rfl | exact wanted_yes _ _ rfl rfl) rfl ?_; simp only [Act.put, Act.eval, Array.getD_eq_getD_getElem?, List.getElem?_toArray, List.getElem?_cons_succ, List.getElem?_cons_zero, Option.getD_some, List.setIfInBounds_toArray, List.set_cons_zero, List.set_cons_succ])
    | (refine wk_pickt _ _ _ _ (by first | exact wanted_none rfl | exact wanted_yes _ _ rfl rfl) rfl rfl rfl ?_; simp only [Act.put, Act.eval, Array.getD_eq_getD_getElem?, List.getElem?_toArray, List.getElem?_cons_succ, List.getElem?_cons_zero, Option.getD_some, List.setIfInBounds_toArray, List.set_cons_zero, List.set_cons_succ])
    | (refine wk_pickf _ _ _ _ (by first | exact wanted_none rfl | exact wanted_yes _ _ rfl rfl) rfl rfl rfl ?_; simp only [Act.put, Act.eval, Array.getD_eq_getD_getElem?, List.getElem?_toArray, List.getElem?_cons_succ, List.getElem?_cons_zero, Option.getD_some, List.setIfInBounds_toArray, List.set_cons_zero, List.set_cons_succ])
    | (refine wk_skip (wanted_not _ true false rfl rfl rfl) ?_; simp only [Act.put, List.setIfInBounds_toArray, List.set_cons_zero, List.set_cons_succ])
    | (refine wk_skip (wanted_not _ false true rfl rfl rfl) ?_; simp only [Act.put, List.setIfInBounds_toArray, List.set_cons_zero, List.set_cons_succ])
    | (refine wk_skip (wanted_undef _ _ rfl rfl) ?_; simp only [Act.put, List.setIfInBounds_toArray, List.set_cons_zero, List.set_cons_succ])
    | (refine wk_not true _ _ (by first | exact wanted_none rfl | exact wanted_yes _ _ rfl rfl) rfl rfl ?_; simp only [Act.put, List.setIfInBounds_toArray, List.set_cons_zero, List.set_cons_succ])
    | (refine wk_not false _ _ (by first | exact wanted_none rfl | exact wanted_yes _ _ rfl rfl) rfl rfl ?_; simp only [Act.put, List.setIfInBounds_toArray, List.set_cons_zero, List.set_cons_succ]))
  refine wk_load_row 26 _ _ 26 C (0, 0) _ (by kernel_rfl) rfl rfl (fun w' hC => hC.row C7.out) Tryd.underlying26 rfl (by rw [HCS.out]; exact sizeC) ?_
  simp only [Act.put, List.setIfInBounds_toArray, List.set_cons_zero, List.set_cons_succ]
  refine wk_call 13 _ _ _ _ _ (by kernel_rfl) rfl Tryd.func13 rfl (by kernel_rfl) (fun w' hC => hC.call (HMAY.out w')) ?_
  simp only [Act.put, List.setIfInBounds_toArray, List.set_cons_zero, List.set_cons_succ]
  repeat (first
    | (refine wk_move _ (by first | exact wanted_none rfl | exact wanted_yes _ _ rfl rfl) rfl ?_; simp only [Act.put, Act.eval, Array.getD_eq_getD_getElem?, List.getElem?_toArray, List.getElem?_cons_succ, List.getElem?_cons_zero, Option.getD_some, List.setIfInBounds_toArray, List.set_cons_zero, List.set_cons_succ])
    | (refine wk_assign _ (by first | exact wanted_none rfl | exact wanted_yes _ _ rfl rfl) rfl ?_; simp only [Act.put, Act.eval, Array.getD_eq_getD_getElem?, List.getElem?_toArray, List.getElem?_cons_succ, List.getElem?_cons_zero, Option.getD_some, List.setIfInBounds_toArray, List.set_cons_zero, List.set_cons_succ])
    | (refine wk_pickt _ _ _ _ (by first | exact wanted_none rfl | exact wanted_yes _ _ rfl rfl) rfl rfl rfl ?_; simp only [Act.put, Act.eval, Array.getD_eq_getD_getElem?, List.getElem?_toArray, List.getElem?_cons_succ, List.getElem?_cons_zero, Option.getD_some, List.setIfInBounds_toArray, List.set_cons_zero, List.set_cons_succ])
    | (refine wk_pickf _ _ _ _ (by first | exact wanted_none rfl | exact wanted_yes _ _ rfl rfl) rfl rfl rfl ?_; simp only [Act.put, Act.eval, Array.getD_eq_getD_getElem?, List.getElem?_toArray, List.getElem?_cons_succ, List.getElem?_cons_zero, Option.getD_some, List.setIfInBounds_toArray, List.set_cons_zero, List.set_cons_succ])
    | (refine wk_skip (wanted_not _ true false rfl rfl rfl) ?_; simp only [Act.put, List.setIfInBounds_toArray, List.set_cons_zero, List.set_cons_succ])
    | (refine wk_skip (wanted_not _ false true rfl rfl rfl) ?_; simp only [Act.put, List.setIfInBounds_toArray, List.set_cons_zero, List.set_cons_succ])
    | (refine wk_skip (wanted_undef _ _ rfl rfl) ?_; simp only [Act.put, List.setIfInBounds_toArray, List.set_cons_zero, List.set_cons_succ])
    | (refine wk_not true _ _ (by first | exact wanted_none rfl | exact wanted_yes _ _ rfl rfl) rfl rfl ?_; simp only [Act.put, List.setIfInBounds_toArray, List.set_cons_zero, List.set_cons_succ])
    | (refine wk_not false _ _ (by first | exact wanted_none rfl | exact wanted_yes _ _ rfl rfl) rfl rfl ?_; simp only [Act.put, List.setIfInBounds_toArray, List.set_cons_zero, List.set_cons_succ]))
  refine wk_load_row 26 _ _ 26 cId.cells (0, 0) _ (by kernel_rfl) rfl rfl (fun w' hC => hC.row U0.out) Tryd.underlying26 rfl sizeC ?_
  simp only [Act.put, List.setIfInBounds_toArray, List.set_cons_zero, List.set_cons_succ]
  refine wk_call 13 _ _ _ _ _ (by kernel_rfl) rfl Tryd.func13 rfl (by kernel_rfl) (fun w' hC => hC.call (may_is cId cId_ok w' false rfl)) ?_
  simp only [Act.put, List.setIfInBounds_toArray, List.set_cons_zero, List.set_cons_succ]
  repeat (first
    | (refine wk_move _ (by first | exact wanted_none rfl | exact wanted_yes _ _ rfl rfl) rfl ?_; simp only [Act.put, Act.eval, Array.getD_eq_getD_getElem?, List.getElem?_toArray, List.getElem?_cons_succ, List.getElem?_cons_zero, Option.getD_some, List.setIfInBounds_toArray, List.set_cons_zero, List.set_cons_succ])
    | (refine wk_assign _ (by first | exact wanted_none rfl | exact wanted_yes _ _ rfl rfl) rfl ?_; simp only [Act.put, Act.eval, Array.getD_eq_getD_getElem?, List.getElem?_toArray, List.getElem?_cons_succ, List.getElem?_cons_zero, Option.getD_some, List.setIfInBounds_toArray, List.set_cons_zero, List.set_cons_succ])
    | (refine wk_pickt _ _ _ _ (by first | exact wanted_none rfl | exact wanted_yes _ _ rfl rfl) rfl rfl rfl ?_; simp only [Act.put, Act.eval, Array.getD_eq_getD_getElem?, List.getElem?_toArray, List.getElem?_cons_succ, List.getElem?_cons_zero, Option.getD_some, List.setIfInBounds_toArray, List.set_cons_zero, List.set_cons_succ])
    | (refine wk_pickf _ _ _ _ (by first | exact wanted_none rfl | exact wanted_yes _ _ rfl rfl) rfl rfl rfl ?_; simp only [Act.put, Act.eval, Array.getD_eq_getD_getElem?, List.getElem?_toArray, List.getElem?_cons_succ, List.getElem?_cons_zero, Option.getD_some, List.setIfInBounds_toArray, List.set_cons_zero, List.set_cons_succ])
    | (refine wk_skip (wanted_not _ true false rfl rfl rfl) ?_; simp only [Act.put, List.setIfInBounds_toArray, List.set_cons_zero, List.set_cons_succ])
    | (refine wk_skip (wanted_not _ false true rfl rfl rfl) ?_; simp only [Act.put, List.setIfInBounds_toArray, List.set_cons_zero, List.set_cons_succ])
    | (refine wk_skip (wanted_undef _ _ rfl rfl) ?_; simp only [Act.put, List.setIfInBounds_toArray, List.set_cons_zero, List.set_cons_succ])
    | (refine wk_not true _ _ (by first | exact wanted_none rfl | exact wanted_yes _ _ rfl rfl) rfl rfl ?_; simp only [Act.put, List.setIfInBounds_toArray, List.set_cons_zero, List.set_cons_succ])
    | (refine wk_not false _ _ (by first | exact wanted_none rfl | exact wanted_yes _ _ rfl rfl) rfl rfl ?_; simp only [Act.put, List.setIfInBounds_toArray, List.set_cons_zero, List.set_cons_succ]))
  refine wk_load_row 26 _ _ 26 cUsed.cells (0, 0) _ (by kernel_rfl) rfl rfl (fun w' hC => hC.row U1.out) Tryd.underlying26 rfl sizeC ?_
  simp only [Act.put, List.setIfInBounds_toArray, List.set_cons_zero, List.set_cons_succ]
  refine wk_call 13 _ _ _ _ _ (by kernel_rfl) rfl Tryd.func13 rfl (by kernel_rfl) (fun w' hC => hC.call (may_is cUsed cUsed_ok w' false rfl)) ?_
  simp only [Act.put, List.setIfInBounds_toArray, List.set_cons_zero, List.set_cons_succ]
  repeat (first
    | (refine wk_move _ (by first | exact wanted_none rfl | exact wanted_yes _ _ rfl rfl) rfl ?_; simp only [Act.put, Act.eval, Array.getD_eq_getD_getElem?, List.getElem?_toArray, List.getElem?_cons_succ, List.getElem?_cons_zero, Option.getD_some, List.setIfInBounds_toArray, List.set_cons_zero, List.set_cons_succ])
    | (refine wk_assign _ (by first | exact wanted_none rfl | exact wanted_yes _ _ rfl rfl) rfl ?_; simp only [Act.put, Act.eval, Array.getD_eq_getD_getElem?, List.getElem?_toArray, List.getElem?_cons_succ, List.getElem?_cons_zero, Option.getD_some, List.setIfInBounds_toArray, List.set_cons_zero, List.set_cons_succ])
    | (refine wk_pickt _ _ _ _ (by first | exact wanted_none rfl | exact wanted_yes _ _ rfl rfl) rfl rfl rfl ?_; simp only [Act.put, Act.eval, Array.getD_eq_getD_getElem?, List.getElem?_toArray, List.getElem?_cons_succ, List.getElem?_cons_zero, Option.getD_some, List.setIfInBounds_toArray, List.set_cons_zero, List.set_cons_succ])
    | (refine wk_pickf _ _ _ _ (by first | exact wanted_none rfl | exact wanted_yes _ _ rfl rfl) rfl rfl rfl ?_; simp only [Act.put, Act.eval, Array.getD_eq_getD_getElem?, List.getElem?_toArray, List.getElem?_cons_succ, List.getElem?_cons_zero, Option.getD_some, List.setIfInBounds_toArray, List.set_cons_zero, List.set_cons_succ])
    | (refine wk_skip (wanted_not _ true false rfl rfl rfl) ?_; simp only [Act.put, List.setIfInBounds_toArray, List.set_cons_zero, List.set_cons_succ])
    | (refine wk_skip (wanted_not _ false true rfl rfl rfl) ?_; simp only [Act.put, List.setIfInBounds_toArray, List.set_cons_zero, List.set_cons_succ])
    | (refine wk_skip (wanted_undef _ _ rfl rfl) ?_; simp only [Act.put, List.setIfInBounds_toArray, List.set_cons_zero, List.set_cons_succ])
    | (refine wk_not true _ _ (by first | exact wanted_none rfl | exact wanted_yes _ _ rfl rfl) rfl rfl ?_; simp only [Act.put, List.setIfInBounds_toArray, List.set_cons_zero, List.set_cons_succ])
    | (refine wk_not false _ _ (by first | exact wanted_none rfl | exact wanted_yes _ _ rfl rfl) rfl rfl ?_; simp only [Act.put, List.setIfInBounds_toArray, List.set_cons_zero, List.set_cons_succ]))
  refine wk_load_row 26 _ _ 26 cRoot.cells (0, 0) _ (by kernel_rfl) rfl rfl (fun w' hC => hC.row U2.out) Tryd.underlying26 rfl sizeC ?_
  simp only [Act.put, List.setIfInBounds_toArray, List.set_cons_zero, List.set_cons_succ]
  refine wk_call 13 _ _ _ _ _ (by kernel_rfl) rfl Tryd.func13 rfl (by kernel_rfl) (fun w' hC => hC.call (may_is cRoot cRoot_ok w' false rfl)) ?_
  simp only [Act.put, List.setIfInBounds_toArray, List.set_cons_zero, List.set_cons_succ]
  repeat (first
    | (refine wk_move _ (by first | exact wanted_none rfl | exact wanted_yes _ _ rfl rfl) rfl ?_; simp only [Act.put, Act.eval, Array.getD_eq_getD_getElem?, List.getElem?_toArray, List.getElem?_cons_succ, List.getElem?_cons_zero, Option.getD_some, List.setIfInBounds_toArray, List.set_cons_zero, List.set_cons_succ])
    | (refine wk_assign _ (by first | exact wanted_none rfl | exact wanted_yes _ _ rfl rfl) rfl ?_; simp only [Act.put, Act.eval, Array.getD_eq_getD_getElem?, List.getElem?_toArray, List.getElem?_cons_succ, List.getElem?_cons_zero, Option.getD_some, List.setIfInBounds_toArray, List.set_cons_zero, List.set_cons_succ])
    | (refine wk_pickt _ _ _ _ (by first | exact wanted_none rfl | exact wanted_yes _ _ rfl rfl) rfl rfl rfl ?_; simp only [Act.put, Act.eval, Array.getD_eq_getD_getElem?, List.getElem?_toArray, List.getElem?_cons_succ, List.getElem?_cons_zero, Option.getD_some, List.setIfInBounds_toArray, List.set_cons_zero, List.set_cons_succ])
    | (refine wk_pickf _ _ _ _ (by first | exact wanted_none rfl | exact wanted_yes _ _ rfl rfl) rfl rfl rfl ?_; simp only [Act.put, Act.eval, Array.getD_eq_getD_getElem?, List.getElem?_toArray, List.getElem?_cons_succ, List.getElem?_cons_zero, Option.getD_some, List.setIfInBounds_toArray, List.set_cons_zero, List.set_cons_succ])
    | (refine wk_skip (wanted_not _ true false rfl rfl rfl) ?_; simp only [Act.put, List.setIfInBounds_toArray, List.set_cons_zero, List.set_cons_succ])
    | (refine wk_skip (wanted_not _ false true rfl rfl rfl) ?_; simp only [Act.put, List.setIfInBounds_toArray, List.set_cons_zero, List.set_cons_succ])
    | (refine wk_skip (wanted_undef _ _ rfl rfl) ?_; simp only [Act.put, List.setIfInBounds_toArray, List.set_cons_zero, List.set_cons_succ])
    | (refine wk_not true _ _ (by first | exact wanted_none rfl | exact wanted_yes _ _ rfl rfl) rfl rfl ?_; simp only [Act.put, List.setIfInBounds_toArray, List.set_cons_zero, List.set_cons_succ])
    | (refine wk_not false _ _ (by first | exact wanted_none rfl | exact wanted_yes _ _ rfl rfl) rfl rfl ?_; simp only [Act.put, List.setIfInBounds_toArray, List.set_cons_zero, List.set_cons_succ]))
  refine wk_load_row 26 _ _ 26 cOnly.cells (0, 0) _ (by kernel_rfl) rfl rfl (fun w' hC => hC.row U3.out) Tryd.underlying26 rfl sizeC ?_
  simp only [Act.put, List.setIfInBounds_toArray, List.set_cons_zero, List.set_cons_succ]
  refine wk_call 13 _ _ _ _ _ (by kernel_rfl) rfl Tryd.func13 rfl (by kernel_rfl) (fun w' hC => hC.call (may_is cOnly cOnly_ok w' false rfl)) ?_
  simp only [Act.put, List.setIfInBounds_toArray, List.set_cons_zero, List.set_cons_succ]
  repeat (first
    | (refine wk_move _ (by first | exact wanted_none rfl | exact wanted_yes _ _ rfl rfl) rfl ?_; simp only [Act.put, Act.eval, Array.getD_eq_getD_getElem?, List.getElem?_toArray, List.getElem?_cons_succ, List.getElem?_cons_zero, Option.getD_some, List.setIfInBounds_toArray, List.set_cons_zero, List.set_cons_succ])
    | (refine wk_assign _ (by first | exact wanted_none rfl | exact wanted_yes _ _ rfl rfl) rfl ?_; simp only [Act.put, Act.eval, Array.getD_eq_getD_getElem?, List.getElem?_toArray, List.getElem?_cons_succ, List.getElem?_cons_zero, Option.getD_some, List.setIfInBounds_toArray, List.set_cons_zero, List.set_cons_succ])
    | (refine wk_pickt _ _ _ _ (by first | exact wanted_none rfl | exact wanted_yes _ _ rfl rfl) rfl rfl rfl ?_; simp only [Act.put, Act.eval, Array.getD_eq_getD_getElem?, List.getElem?_toArray, List.getElem?_cons_succ, List.getElem?_cons_zero, Option.getD_some, List.setIfInBounds_toArray, List.set_cons_zero, List.set_cons_succ])
    | (refine wk_pickf _ _ _ _ (by first | exact wanted_none rfl | exact wanted_yes _ _ rfl rfl) rfl rfl rfl ?_; simp only [Act.put, Act.eval, Array.getD_eq_getD_getElem?, List.getElem?_toArray, List.getElem?_cons_succ, List.getElem?_cons_zero, Option.getD_some, List.setIfInBounds_toArray, List.set_cons_zero, List.set_cons_succ])
    | (refine wk_skip (wanted_not _ true false rfl rfl rfl) ?_; simp only [Act.put, List.setIfInBounds_toArray, List.set_cons_zero, List.set_cons_succ])
    | (refine wk_skip (wanted_not _ false true rfl rfl rfl) ?_; simp only [Act.put, List.setIfInBounds_toArray, List.set_cons_zero, List.set_cons_succ])
    | (refine wk_skip (wanted_undef _ _ rfl rfl) ?_; simp only [Act.put, List.setIfInBounds_toArray, List.set_cons_zero, List.set_cons_succ])
    | (refine wk_not true _ _ (by first | exact wanted_none rfl | exact wanted_yes _ _ rfl rfl) rfl rfl ?_; simp only [Act.put, List.setIfInBounds_toArray, List.set_cons_zero, List.set_cons_succ])
    | (refine wk_not false _ _ (by first | exact wanted_none rfl | exact wanted_yes _ _ rfl rfl) rfl rfl ?_; simp only [Act.put, List.setIfInBounds_toArray, List.set_cons_zero, List.set_cons_succ]))
  refine wk_load_row 26 _ _ 26 cRight.cells (0, 0) _ (by kernel_rfl) rfl rfl (fun w' hC => hC.row U4.out) Tryd.underlying26 rfl sizeC ?_
  simp only [Act.put, List.setIfInBounds_toArray, List.set_cons_zero, List.set_cons_succ]
  refine wk_call 13 _ _ _ _ _ (by kernel_rfl) rfl Tryd.func13 rfl (by kernel_rfl) (fun w' hC => hC.call (may_is cRight cRight_ok w' false rfl)) ?_
  simp only [Act.put, List.setIfInBounds_toArray, List.set_cons_zero, List.set_cons_succ]
  repeat (first
    | (refine wk_move _ (by first | exact wanted_none rfl | exact wanted_yes _ _ rfl rfl) rfl ?_; simp only [Act.put, Act.eval, Array.getD_eq_getD_getElem?, List.getElem?_toArray, List.getElem?_cons_succ, List.getElem?_cons_zero, Option.getD_some, List.setIfInBounds_toArray, List.set_cons_zero, List.set_cons_succ])
    | (refine wk_assign _ (by first | exact wanted_none rfl | exact wanted_yes _ _ rfl rfl) rfl ?_; simp only [Act.put, Act.eval, Array.getD_eq_getD_getElem?, List.getElem?_toArray, List.getElem?_cons_succ, List.getElem?_cons_zero, Option.getD_some, List.setIfInBounds_toArray, List.set_cons_zero, List.set_cons_succ])
    | (refine wk_pickt _ _ _ _ (by first | exact wanted_none rfl | exact wanted_yes _ _ rfl rfl) rfl rfl rfl ?_; simp only [Act.put, Act.eval, Array.getD_eq_getD_getElem?, List.getElem?_toArray, List.getElem?_cons_succ, List.getElem?_cons_zero, Option.getD_some, List.setIfInBounds_toArray, List.set_cons_zero, List.set_cons_succ])
    | (refine wk_pickf _ _ _ _ (by first | exact wanted_none rfl | exact wanted_yes _ _ rfl rfl) rfl rfl rfl ?_; simp only [Act.put, Act.eval, Array.getD_eq_getD_getElem?, List.getElem?_toArray, List.getElem?_cons_succ, List.getElem?_cons_zero, Option.getD_some, List.setIfInBounds_toArray, List.set_cons_zero, List.set_cons_succ])
    | (refine wk_skip (wanted_not _ true false rfl rfl rfl) ?_; simp only [Act.put, List.setIfInBounds_toArray, List.set_cons_zero, List.set_cons_succ])
    | (refine wk_skip (wanted_not _ false true rfl rfl rfl) ?_; simp only [Act.put, List.setIfInBounds_toArray, List.set_cons_zero, List.set_cons_succ])
    | (refine wk_skip (wanted_undef _ _ rfl rfl) ?_; simp only [Act.put, List.setIfInBounds_toArray, List.set_cons_zero, List.set_cons_succ])
    | (refine wk_not true _ _ (by first | exact wanted_none rfl | exact wanted_yes _ _ rfl rfl) rfl rfl ?_; simp only [Act.put, List.setIfInBounds_toArray, List.set_cons_zero, List.set_cons_succ])
    | (refine wk_not false _ _ (by first | exact wanted_none rfl | exact wanted_yes _ _ rfl rfl) rfl rfl ?_; simp only [Act.put, List.setIfInBounds_toArray, List.set_cons_zero, List.set_cons_succ]))
  refine wk_load_row 26 _ _ 26 cBare.cells (0, 0) _ (by kernel_rfl) rfl rfl (fun w' hC => hC.row U5.out) Tryd.underlying26 rfl sizeC ?_
  simp only [Act.put, List.setIfInBounds_toArray, List.set_cons_zero, List.set_cons_succ]
  refine wk_call 13 _ _ _ _ _ (by kernel_rfl) rfl Tryd.func13 rfl (by kernel_rfl) (fun w' hC => hC.call (may_is cBare cBare_ok w' false rfl)) ?_
  simp only [Act.put, List.setIfInBounds_toArray, List.set_cons_zero, List.set_cons_succ]
  repeat (first
    | (refine wk_move _ (by first | exact wanted_none rfl | exact wanted_yes _ _ rfl rfl) rfl ?_; simp only [Act.put, Act.eval, Array.getD_eq_getD_getElem?, List.getElem?_toArray, List.getElem?_cons_succ, List.getElem?_cons_zero, Option.getD_some, List.setIfInBounds_toArray, List.set_cons_zero, List.set_cons_succ])
    | (refine wk_assign _ (by first | exact wanted_none rfl | exact wanted_yes _ _ rfl rfl) rfl ?_; simp only [Act.put, Act.eval, Array.getD_eq_getD_getElem?, List.getElem?_toArray, List.getElem?_cons_succ, List.getElem?_cons_zero, Option.getD_some, List.setIfInBounds_toArray, List.set_cons_zero, List.set_cons_succ])
    | (refine wk_pickt _ _ _ _ (by first | exact wanted_none rfl | exact wanted_yes _ _ rfl rfl) rfl rfl rfl ?_; simp only [Act.put, Act.eval, Array.getD_eq_getD_getElem?, List.getElem?_toArray, List.getElem?_cons_succ, List.getElem?_cons_zero, Option.getD_some, List.setIfInBounds_toArray, List.set_cons_zero, List.set_cons_succ])
    | (refine wk_pickf _ _ _ _ (by first | exact wanted_none rfl | exact wanted_yes _ _ rfl rfl) rfl rfl rfl ?_; simp only [Act.put, Act.eval, Array.getD_eq_getD_getElem?, List.getElem?_toArray, List.getElem?_cons_succ, List.getElem?_cons_zero, Option.getD_some, List.setIfInBounds_toArray, List.set_cons_zero, List.set_cons_succ])
    | (refine wk_skip (wanted_not _ true false rfl rfl rfl) ?_; simp only [Act.put, List.setIfInBounds_toArray, List.set_cons_zero, List.set_cons_succ])
    | (refine wk_skip (wanted_not _ false true rfl rfl rfl) ?_; simp only [Act.put, List.setIfInBounds_toArray, List.set_cons_zero, List.set_cons_succ])
    | (refine wk_skip (wanted_undef _ _ rfl rfl) ?_; simp only [Act.put, List.setIfInBounds_toArray, List.set_cons_zero, List.set_cons_succ])
    | (refine wk_not true _ _ (by first | exact wanted_none rfl | exact wanted_yes _ _ rfl rfl) rfl rfl ?_; simp only [Act.put, List.setIfInBounds_toArray, List.set_cons_zero, List.set_cons_succ])
    | (refine wk_not false _ _ (by first | exact wanted_none rfl | exact wanted_yes _ _ rfl rfl) rfl rfl ?_; simp only [Act.put, List.setIfInBounds_toArray, List.set_cons_zero, List.set_cons_succ]))
  refine wk_nil ?_
  intro w' hC
  have hfin : Below w.heap.size w w' := B7.out.trans (Below.mono hC B7.out.size)
  go_wp2_with fail
  go_ret
  exact ⟨rfl, hfin⟩
end Go.Proofs.YtfbafmgclfnigaaDoor
