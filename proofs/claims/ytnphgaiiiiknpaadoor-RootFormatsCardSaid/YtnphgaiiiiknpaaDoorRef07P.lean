/- The document's Put of a root. -/
import Derived.Test.YtnphgaiiiiknpaaDoorRef07
import Derived.Test.YtnphgaiiiiknpaaDoorRef07N
namespace Go.Proofs.YtnphgaiiiiknpaaDoor
open Go.RowKit
set_option linter.unusedSimpArgs false
set_option maxRecDepth 100000
set_option maxHeartbeats 1000000 in
theorem refput_no (c : Root) (hm : c.may = false) (w : World) :
    Calls Tryd.prog 21 #[.agg c.cells] w fun e w' => e = .returned (.tuple #[.agg (zeros 256 (.int .u8 0)), .int .i64 2]) ∧ Below w.heap.size w w' := by
  obtain ⟨W, hW⟩ : ∃ W, W = (w.alloc (.cells c.cells 34)).alloc (.cells (zeros 256 (.int .u8 0)) 45) := ⟨_, rfl⟩
  have hB : Below w.heap.size w W := by rw [hW]; exact ((Below.refl _ _).alloc (Nat.le_refl _) _).alloc (by simp) _
  have hg0 : W.heap[w.heap.size]? = some (.cells c.cells 34 (0, 0)) := by rw [hW]; exact heap_alloc2_old w _ _
  have hg1 : W.heap[w.heap.size + 1]? = some (.cells (zeros 256 (.int .u8 0)) 45 (0, 0)) := by rw [hW]; exact heap_alloc2_new w _ _
  have hs : W.heap.size = w.heap.size + 2 := by rw [hW]; simp
  have hM := refmay_any c W
  rw [hm] at hM
  have HM := Lib.hid hM
  have HW := Lib.hid hW
  have HS := Lib.hid hs
  have HG0 := Lib.hid hg0
  have HG1 := Lib.hid hg1
  have hcs : c.cells.size = 8 := rfl
  have HCS := Lib.hid hcs
  have hz : (Tryd.prog.info? 34).map (·.size) = some 8 := by kernel_rfl
  have HZ := Lib.hid hz
  clear hW hs hg0 hg1 hM hm hcs hz
  obtain ⟨cs, hcs⟩ : ∃ cs, cs = c.cells := ⟨_, rfl⟩
  rw [← hcs] at HM HW HG0 HCS ⊢
  clear hcs
  go_enter Tryd.func21, Tryd.ntmps21
  go_wp2_with (first
   | refine wpList_alloc_row rfl 45 rfl _ zeroB ?_
   | (rw [← HW.out]; refine wpList_load_row rfl 34 _ rfl w.heap.size rfl 34 cs (0, 0) _ HG0.out Tryd.underlying34 rfl (by rw [HCS.out]; exact HZ.out) ?_))
  refine HM.out.mono ?_
  rintro e w1 ⟨rfl, hb1⟩
  have hr1 : w1.heap[w.heap.size + 1]? = some (.cells (zeros 256 (.int .u8 0)) 45 (0, 0)) := (hb1.block _ (by rw [HS.out]; omega)).trans HG1.out
  have hB1 : Below w.heap.size w w1 := hB.trans (hb1.mono (by rw [HS.out]; omega))
  have HR1 := Lib.hid hr1
  have HB1 := Lib.hid hB1
  clear hr1 hB1 hb1 hB
  go_wp2_with (first
   | refine wpList_build_none rfl 45 rfl _ zeroB Tryd.underlying45 rfl ?_
   | refine wpList_store_row rfl 45 _ _ rfl (w.heap.size + 1) (zeros 256 (.int .u8 0)) rfl rfl 45 _ HR1.out (by rw [size_zeros]; exact sizeB) (by rw [size_zeros]) zeros_one ?_)
  refine bodyPost_ret (v := .tuple #[.agg (zeros 256 (.int .u8 0)), .int .i64 2]) (results_cell_slot rfl _ _ (w.heap.size + 1) 45 _ (0, 0) _ _ rfl rfl (setRow_heap _ _ _ _ _ _ HR1.out) Tryd.underlying45 rfl (by rw [size_zeros]; exact sizeB)) rfl ⟨rfl, ?_⟩
  exact below_setRow HB1.out (by omega) _
set_option maxHeartbeats 2000000 in
theorem refput_any (c : Root) (hc : c.Ok) (hm : c.may = true) (w : World) :
    Calls Tryd.prog 21 #[.agg c.cells] w fun e w' => e = .returned (.tuple #[.agg (blk (doneB 82 c.bytes)), .int .i64 0]) ∧ Below w.heap.size w w' := by
  obtain ⟨W, hW⟩ : ∃ W, W = (w.alloc (.cells c.cells 34)).alloc (.cells (zeros 256 (.int .u8 0)) 45) := ⟨_, rfl⟩
  have hB : Below w.heap.size w W := by rw [hW]; exact ((Below.refl _ _).alloc (Nat.le_refl _) _).alloc (by simp) _
  have hg0 : W.heap[w.heap.size]? = some (.cells c.cells 34 (0, 0)) := by rw [hW]; exact heap_alloc2_old w _ _
  have hg1 : W.heap[w.heap.size + 1]? = some (.cells (zeros 256 (.int .u8 0)) 45 (0, 0)) := by rw [hW]; exact heap_alloc2_new w _ _
  have hs : W.heap.size = w.heap.size + 2 := by rw [hW]; simp
  have hM := refmay_any c W
  rw [hm] at hM
  have HM := Lib.hid hM
  have HW := Lib.hid hW
  have HS := Lib.hid hs
  have HG0 := Lib.hid hg0
  have HG1 := Lib.hid hg1
  have hcs : c.cells.size = 8 := rfl
  have HCS := Lib.hid hcs
  have hz : (Tryd.prog.info? 34).map (·.size) = some 8 := by kernel_rfl
  have HZ := Lib.hid hz
  clear hW hs hg0 hg1 hM hm hcs hz
  obtain ⟨D, hDe⟩ : ∃ D, D = doneB 82 c.bytes := ⟨_, rfl⟩
  rw [← hDe]
  have HDE := Lib.hid hDe
  clear hDe
  obtain ⟨f, hf⟩ : ∃ f : Nat → Nat, f = fun k => c.nums.getD k 0 := ⟨_, rfl⟩
  have hcg : ∀ k, k < 6 → c.cells[k + 1]? = some (.int .u32 (f k : Int)) := by rw [hf]; exact rcells_get c
  have HF := Lib.hid hf
  clear hf
  have hc0 : c.cells[0]? = some (.int .u64 (c.gen : Int)) := rfl
  have hc7 : c.cells[7]? = some (.int .u8 (c.vols : Int)) := rfl
  obtain ⟨cs, hcs⟩ : ∃ cs, cs = c.cells := ⟨_, rfl⟩
  rw [← hcs] at HM HW HG0 HCS hcg hc0 hc7 ⊢
  have CG := Lib.hid hcg
  have C0 := Lib.hid hc0
  have C7 := Lib.hid hc7
  clear hcg hc0 hc7
  clear hcs
  go_enter Tryd.func21, Tryd.ntmps21
  go_wp2_with (first
   | refine wpList_alloc_row rfl 45 rfl _ zeroB ?_
   | (rw [← HW.out]; refine wpList_load_row rfl 34 _ rfl w.heap.size rfl 34 cs (0, 0) _ HG0.out Tryd.underlying34 rfl (by rw [HCS.out]; exact HZ.out) ?_))
  refine HM.out.mono ?_
  rintro e w1 ⟨rfl, hb1⟩
  have hr1 : w1.heap[w.heap.size + 1]? = some (.cells (zeros 256 (.int .u8 0)) 45 (0, 0)) := (hb1.block _ (by rw [HS.out]; omega)).trans HG1.out
  have hr0 : w1.heap[w.heap.size]? = some (.cells cs 34 (0, 0)) := (hb1.block _ (by rw [HS.out]; omega)).trans HG0.out
  have hB1 : Below w.heap.size w w1 := hB.trans (hb1.mono (by rw [HS.out]; omega))
  have HR1 := Lib.hid hr1
  have HR0 := Lib.hid hr0
  have hs1 : w.heap.size + 2 ≤ w1.heap.size := by rw [← HS.out]; exact hb1.size
  have HB1 := Lib.hid hB1
  clear hr0 hr1 hB1 hb1 hB
  have k1 : w1.cell? ⟨w.heap.size, 1, none⟩ = some (.int .u32 (f 0 : Int)) := (cell_of_row w1 _ 1 _ _ _ HR0.out).trans (CG.out 0 (by omega))
  have k2 : w1.cell? ⟨w.heap.size, 2, none⟩ = some (.int .u32 (f 1 : Int)) := (cell_of_row w1 _ 2 _ _ _ HR0.out).trans (CG.out 1 (by omega))
  have k3 : w1.cell? ⟨w.heap.size, 3, none⟩ = some (.int .u32 (f 2 : Int)) := (cell_of_row w1 _ 3 _ _ _ HR0.out).trans (CG.out 2 (by omega))
  have k4 : w1.cell? ⟨w.heap.size, 4, none⟩ = some (.int .u32 (f 3 : Int)) := (cell_of_row w1 _ 4 _ _ _ HR0.out).trans (CG.out 3 (by omega))
  have k5 : w1.cell? ⟨w.heap.size, 5, none⟩ = some (.int .u32 (f 4 : Int)) := (cell_of_row w1 _ 5 _ _ _ HR0.out).trans (CG.out 4 (by omega))
  have k6 : w1.cell? ⟨w.heap.size, 6, none⟩ = some (.int .u32 (f 5 : Int)) := (cell_of_row w1 _ 6 _ _ _ HR0.out).trans (CG.out 5 (by omega))
  have k0 : w1.cell? ⟨w.heap.size, 0, none⟩ = some (.int .u64 (c.gen : Int)) := (cell_of_row w1 _ 0 _ _ _ HR0.out).trans C0.out
  go_upto_region 4 with (fail)
  obtain ⟨R, hR⟩ : ∃ R, R = #[Value.int .u32 (f 0 : Int), Value.int .u32 (f 1 : Int), Value.int .u32 (f 2 : Int), Value.int .u32 (f 3 : Int), Value.int .u32 (f 4 : Int), Value.int .u32 (f 5 : Int)] := ⟨_, rfl⟩
  rw [← hR]
  have hRg : ∀ k, k < 6 → R[k]? = some (.int .u32 (f k : Int)) := by
    intro k hk
    rw [hR]
    have : k = 0 ∨ k = 1 ∨ k = 2 ∨ k = 3 ∨ k = 4 ∨ k = 5 := by omega
    rcases this with rfl | rfl | rfl | rfl | rfl | rfl <;> rfl
  obtain ⟨g, hg⟩ : ∃ g, g = w1.heap.size := ⟨_, rfl⟩
  rw [← hg] at hs1 ⊢
  obtain ⟨W2, hW2⟩ : ∃ W2, W2 = w1.alloc (.cells R 22) := ⟨_, rfl⟩
  rw [← hW2]
  have hb2 : Below w1.heap.size w1 W2 := by rw [hW2]; exact (Below.refl _ _).alloc (Nat.le_refl _) _
  have hgr : W2.heap[g]? = some (.cells R 22 (0, 0)) := by rw [hW2, hg]; exact heap_alloc_new _ _
  rw [← hg] at hb2
  have HRW := Lib.hid ((hb2.block _ (by omega)).trans HR0.out)
  have HRB := Lib.hid ((hb2.block _ (by omega)).trans HR1.out)
  have HB2 := Lib.hid (HB1.out.trans (hb2.mono (by omega)))
  have HGR := Lib.hid hgr
  have HRG := Lib.hid hRg
  have q0 : W2.cell? ⟨w.heap.size, 0, none⟩ = some (.int .u64 (c.gen : Int)) := (cell_of_row W2 _ 0 _ _ _ HRW.out).trans C0.out
  clear k0 k1 k2 k3 k4 k5 k6 hb2 hgr hRg hW2 hR hg
  go_wp2_with fail
  refine (refnum_any 8 (by omega) c.gen hc.gen _).mono ?_
  rintro e w3 ⟨rfl, hb3⟩
  have hs2 : g < W2.heap.size := (Array.getElem?_eq_some_iff.1 HGR.out).1
  have r0 : w3.heap[w.heap.size]? = some (.cells cs 34 (0, 0)) := (hb3.block _ (by omega)).trans HRW.out
  have r1 : w3.heap[w.heap.size + 1]? = some (.cells (zeros 256 (.int .u8 0)) 45 (0, 0)) := (hb3.block _ (by omega)).trans HRB.out
  have r2 : w3.heap[g]? = some (.cells R 22 (0, 0)) := (hb3.block _ hs2).trans HGR.out
  have hb : Below w.heap.size w w3 := HB2.out.trans (hb3.mono (by omega))
  have I0 := Lib.hid r0
  have I1 := Lib.hid r1
  have I2 := Lib.hid r2
  have IB := Lib.hid hb
  have hu0 : lowsS c.gen 8 = (⟨(c.upto 0).toArray⟩ : ByteArray) := by simp [lowsS, Root.upto]
  obtain ⟨US, hUS⟩ : ∃ US : Nat → ByteArray, US = fun k => ⟨(c.upto k).toArray⟩ := ⟨_, rfl⟩
  have hu1 : lowsS c.gen 8 = US 0 := by rw [hUS]; exact hu0
  have hul : ∀ k, k ≤ 6 → (US k).size = 8 + 4 * k := by
    intro k hk
    rw [hUS]
    show (c.upto k).toArray.size = _
    simp [c.length_upto k hk]
  have hus : ∀ k, k < 6 → US k ++ lowsS (f k) 4 = US (k + 1) := by
    intro k hk
    rw [HF.out, hUS]
    show (⟨(c.upto k).toArray⟩ : ByteArray) ++ lowsS (c.nums.getD k 0) 4 = ⟨(c.upto (k + 1)).toArray⟩
    rw [← c.upto_succ k hk]
    apply ByteArray.ext
    apply Array.toList_inj.1
    simp [lowsS]
  have hue : US 6 ++ lowsS c.vols 1 = (⟨c.bytes.toArray⟩ : ByteArray) := by
    rw [hUS]
    apply ByteArray.ext
    apply Array.toList_inj.1
    simp [lowsS, Root.bytes]
  rw [hu1]
  have UL := Lib.hid hul
  have US1 := Lib.hid hus
  have UE := Lib.hid hue
  clear r0 r1 r2 hb hu0 hu1 hul hus hue hUS hb3 q0
  go_upto_region 5 with (fail)
  go_wp2_with fail
  go_loopw [5, 6] (fun s i wr => ∃ k : Nat, k ≤ 6 ∧ i = .int .i64 k ∧ s = .string (US k) ∧ wr.heap[w.heap.size]? = some (.cells cs 34 (0, 0)) ∧ wr.heap[w.heap.size + 1]? = some (.cells (zeros 256 (.int .u8 0)) 45 (0, 0)) ∧ wr.heap[g]? = some (.cells R 22 (0, 0)) ∧ Below w.heap.size w wr) (fun _ i _ => 6 - (intOf i).toNat)
  case atStart => exact ⟨0, by omega, rfl, rfl, I0.out, I1.out, I2.out, IB.out⟩
  case round =>
    obtain ⟨k, hk, rfl, rfl, r0, r1, r2, hb⟩ := hrel
    have J0 := Lib.hid r0
    have J1 := Lib.hid r1
    have J2 := Lib.hid r2
    have JB := Lib.hid hb
    have hgs : g < wr.heap.size := (Array.getElem?_eq_some_iff.1 r2).1
    clear r0 r1 r2 hb I0 I1 I2 IB
    by_cases hlt : k < 6
    · have ck : wr.cell? ⟨g, k, none⟩ = some (.int .u32 (f k : Int)) := (cell_of_row wr _ k _ _ _ J2.out).trans (HRG.out k hlt)
      have hfk : f k < 4294967296 := by rw [HF.out]; exact hc.num k hlt
      have e1 : IntKind.u64.wrap (f k : Int) = (f k : Int) := by rw [IntKind.wrap_u64]; omega
      have hcat := US1.out k hlt
      have hsz : ¬ 9223372036854775807 < (US k).size + (lowsS (f k) 4).size := by
        rw [UL.out k hk]
        show ¬ _ < 8 + 4 * k + (lows (f k) 4).toArray.size
        simp [length_lows]; omega
      have HN4 := Lib.hid (refnum_any 4 (by omega) (f k) (by omega) wr)
      go_wp2_with fail
      refine HN4.out.mono ?_
      rintro e w4 ⟨rfl, hb4⟩
      have t0 := Lib.hid ((hb4.block _ (by omega)).trans J0.out)
      have t1 := Lib.hid ((hb4.block _ (by omega)).trans J1.out)
      have t2 := Lib.hid ((hb4.block _ hgs).trans J2.out)
      have tB := Lib.hid (JB.out.trans (hb4.mono (by omega)))
      clear hb4 HN4
      go_wp2_with fail
      go_roundw
      case rel => exact ⟨k + 1, by omega, by go_num, rfl, t0.out, t1.out, t2.out, tB.out⟩
      case measure => simp [intOf]; omega
    · obtain rfl : k = 6 := by omega
      have c7 : wr.cell? ⟨w.heap.size, 7, none⟩ = some (.int .u8 (c.vols : Int)) := (cell_of_row wr _ 7 _ _ _ J0.out).trans C7.out
      have hv := hc.vols
      have e1 : IntKind.u64.wrap (c.vols : Int) = (c.vols : Int) := by rw [IntKind.wrap_u64]; omega
      have hcat := UE.out
      have hsz : ¬ 9223372036854775807 < (US 6).size + (lowsS c.vols 1).size := by
        rw [UL.out 6 hk]
        show ¬ _ < 8 + 4 * 6 + (lows c.vols 1).toArray.size
        simp [length_lows]
      have HN1 := Lib.hid (refnum_any 1 (by omega) c.vols (by omega) wr)
      have HD : Hid (∀ w : World, Calls Tryd.prog 46 #[.int .u8 82, .string ⟨c.bytes.toArray⟩] w fun e w' => e = .returned (.tuple #[.agg (blk (doneB 82 c.bytes)), .int .i64 0]) ∧ Below w.heap.size w w') :=
        Lib.hid (fun w => refdone_any 82 c.bytes (by rw [c.length_bytes]; omega) w)
      have hD : (doneB 82 c.bytes).length = 256 := length_doneB 82 c.bytes (by rw [c.length_bytes]; omega)
      rw [← HDE.out] at HD hD
      have HLD := Lib.hid hD
      clear hD hv
      go_wp2_with fail
      refine HN1.out.mono ?_
      rintro e w4 ⟨rfl, hb4⟩
      have t1 := Lib.hid ((hb4.block _ (by omega)).trans J1.out)
      have tB := Lib.hid (JB.out.trans (hb4.mono (by omega)))
      have h4s := hb4.size
      clear hb4 HN1 c7
      go_wp2_with fail
      refine (HD.out _).mono ?_
      rintro e w5 ⟨rfl, hb5⟩
      have x1 := Lib.hid ((hb5.block _ (by omega)).trans t1.out)
      have xB := Lib.hid (tB.out.trans (hb5.mono (by omega)))
      have h5s := hb5.size
      clear hb5
      have y1 := Lib.hid (heap_alloc_new w5 (.cells (blk D) 45))
      have y2 : Hid ((w5.alloc (.cells (blk D) 45)).heap[w.heap.size + 1]? = some (.cells (zeros 256 (.int .u8 0)) 45 (0, 0))) := Lib.hid ((Go.heap_alloc_old _ _ (by omega)).trans x1.out)
      have yB : Hid (Below w.heap.size w (w5.alloc (.cells (blk D) 45))) := Lib.hid (xB.out.alloc xB.out.size _)
      have HLB : Hid ((blk D).size = 256) := Lib.hid (by rw [size_blk, HLD.out])
      go_wp2_with (first
       | refine wpList_alloc_row rfl 45 rfl _ zeroB ?_
       | refine wpList_store_new rfl 45 _ _ rfl _ _ _ rfl rfl (by rw [HLB.out]; exact sizeB) (by rw [HLB.out, size_zeros]) (blk_one _) ?_
       | refine wpList_load_row rfl 45 _ rfl w5.heap.size rfl 45 (blk D) (0, 0) _ y1.out Tryd.underlying45 rfl (by rw [HLB.out]; exact sizeB) ?_
       | refine wpList_store_row rfl 45 _ _ rfl (w.heap.size + 1) (blk D) rfl rfl 45 _ y2.out (by rw [HLB.out]; exact sizeB) (by rw [HLB.out, size_zeros]) (blk_one _) ?_)
      refine bodyPost_ret (v := .tuple #[.agg (blk D), .int .i64 0]) (results_cell_slot rfl _ _ (w.heap.size + 1) 45 _ (0, 0) _ _ rfl rfl (setRow_heap _ _ _ _ _ _ y2.out) Tryd.underlying45 rfl (by rw [HLB.out]; exact sizeB)) rfl ⟨rfl, ?_⟩
      exact below_setRow yB.out (by omega) _
theorem refput_all (r : Root) (hr : r.Ok) (w : World) : Calls Tryd.prog 21 #[.agg r.cells] w fun e w' => e = .returned (.tuple #[.agg (blk r.putB), .int .i64 r.putE]) ∧ Below w.heap.size w w' := by
  unfold Root.putB Root.putE
  cases hm : r.may with
  | true => simp only [if_true]; exact refput_any r hr hm w
  | false => simp only [Bool.false_eq_true, if_false, ← zeros_blk]; exact refput_no r hm w
end Go.Proofs.YtnphgaiiiiknpaaDoor
