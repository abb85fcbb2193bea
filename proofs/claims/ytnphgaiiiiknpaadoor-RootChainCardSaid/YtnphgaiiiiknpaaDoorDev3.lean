/- The device layer: put has a block be for good. The device layer: far, up. The device layer: up asks whether there is a device, some things more, and whether it is down. The device layer: up. The device layer: Write. The device layer: Write. -/
import Derived.Test.YtnphgaiiiiknpaaDoorDevMath
import Derived.Test.YtnphgaiiiiknpaaDoorStructEq
import Derived.Test.YtnphgaiiiiknpaaDoorKeep
import Derived.Test.YtnphgaiiiiknpaaDoorPair
import Derived.Test.YtnphgaiiiiknpaaDoorFlow
import Derived.Great.BuildSlice
import Derived.Maps.AppendAt
namespace Go.Proofs.YtnphgaiiiiknpaaDoor
open Go.RowKit
set_option linter.unusedSimpArgs false
set_option linter.unusedVariables false
set_option maxRecDepth 100000
def putV (a : Nat) (b : List UInt8) : Array Value := (Value.int .u32 (a : Int) :: b.map vu8).toArray
theorem size_putV (a : Nat) (b : List UInt8) (hb : b.length = 256) : (putV a b).size = 257 := by simp [putV, hb]
theorem sizePut : (Tryd.prog.info? 47).map (·.size) = some 257 := by kernel_rfl
theorem zeroPut : (Tryd.prog.info? 47).bind (·.zero) = some (.agg (putV 0 zeroBlk)) := by kernel_rfl
theorem putV_one (a : Nat) (b : List UInt8) : (putV a b).all (·.oneCell') = true := by
  rw [Array.all_eq_true_iff_forall_mem]
  intro v hv
  simp only [putV, List.mem_toArray, List.mem_cons, List.mem_map] at hv
  rcases hv with rfl | ⟨i, _, rfl⟩ <;> rfl
theorem putV_range {w : World} {g : Nat} {a : Nat} {b : List UInt8} {T : TypeId} (h : w.heap[g]? = some (.cells (putV a b) T (0, 0))) : w.rangeAt g 1 (blk b).toList := by
  intro j v hv
  rw [cell_of_row w g _ _ _ _ h]
  simp only [putV, blk, List.getElem?_toArray] at hv ⊢
  rw [Nat.add_comm, List.getElem?_cons_succ]
  exact hv
section
variable {w : World} {g : Nat} {s : Dv}
theorem eqlBlk (w : World) (x y : List UInt8) (hx : x.length = 256) (hy : y.length = 256) : (binOp .eql 45 (.agg (blk x)) (.agg (blk y))).run Tryd.prog w = .ok (.bool (decide (x = y))) w :=
  run_eql_blk w 45 5 256 Tryd.underlying45 Tryd.underlying5 sizeU8 x y hx hy
/-- A map's block is written. -/
theorem dv_map {F : List Nat} {gm : Nat} {pv fv : Value} {w w' : World} (h : DvV w g gm pv fv s) (hF : F = dvFoot g gm pv fv) (hn : F.Nodup) (f : Nat → List UInt8) (hm : MapAt w' gm f) (hf : ∀ a, (f a).length = 256) (hg : w.grownBy w' (some gm)) :
    DvV w' g gm pv fv { s with good := f } := by
  subst hF
  have hap := dv_apart hn
  have hb : ∀ b, b < w.heap.size → b ≠ gm → w'.heap[b]? = w.heap[b]? := fun b hb hne => hg.block b hb (fun e => hne (Option.some.inj e))
  have hl := h.lt
  refine ⟨(hb g (hl g (by simp [dvFoot])) hap.map.symm).trans h.row, hm, ownsRow_same h.pend (fun b hb' => hb b (hl b (by simp [dvFoot, hb'])) (hap.pend b hb').2), ?_, ⟨h.ok.size, hf, h.ok.pend, h.ok.fuse, h.ok.writes⟩⟩
  have hfu := h.fuse
  show fuseAt w' fv s.fuse
  unfold fuseAt at hfu ⊢
  split at hfu
  · exact hfu
  · obtain ⟨gf, rfl, hgf⟩ := hfu
    exact ⟨gf, rfl, (hb gf (hl gf (by simp [dvFoot, ptrBlock])) (hap.fuse gf (by simp [ptrBlock])).2.1).trans hgf⟩
theorem wpList_store_map {ops : Array Oper} {o : Oper} {act : Act} {rest : List Oper} {w : World} {Q : Exit → Act → World → Prop} (hgd : o.guard = none) (m x v : Operand) (ho : o.op = Op.mapUpdate 62 m x v)
    (gm : Nat) (f : Nat → List UInt8) (hm : act.eval m = .map (some gm)) (hown : MapAt w gm f) (a : Nat) (ha : a < 4294967296) (b : List UInt8) (hb : b.length = 256) (hx : act.eval x = .int .u32 (a : Int)) (hv : act.eval v = .agg (blk b))
    (hK : ∀ w', MapAt w' gm (updB f a b) → w.grownBy w' (some gm) → wpList Tryd.prog ops Q rest (act.put o.dst undef) w') : wpList Tryd.prog ops Q (o :: rest) act w := by
  refine wpList_plain hgd fun K hK' => ?_
  obtain ⟨w', hrun, r1, r2⟩ := hown.store a ha b hb
  unfold Oper.wp
  simp [execOp, ho, hm, hx, hv, hrun, Result.andThen]
  exact hK' _ _ (hK w' r1 r2)
theorem wpList_drop_map {ops : Array Oper} {o : Oper} {act : Act} {rest : List Oper} {w : World} {Q : Exit → Act → World → Prop} (hgd : o.guard = none) (m x : Operand) (ho : o.op = Op.call { callee := Callee.builtin Builtin.delete, args := #[m, x], argTypes := #[62, 22] })
    (gm : Nat) (f : Nat → List UInt8) (hm : act.eval m = .map (some gm)) (hown : MapAt w gm f) (a : Nat) (ha : a < 4294967296) (hx : act.eval x = .int .u32 (a : Int))
    (hK : ∀ w', MapAt w' gm (updB f a zeroBlk) → w.grownBy w' (some gm) → wpList Tryd.prog ops Q rest (act.put o.dst (.tuple #[])) w') : wpList Tryd.prog ops Q (o :: rest) act w := by
  refine wpList_plain hgd fun K hK' => ?_
  obtain ⟨w', hrun, r1, r2⟩ := hown.drop a ha o.type
  unfold Oper.wp
  simp [execOp, ho, resolve, invoke, builtin, hm, hx, hrun, Result.andThen]
  exact hK' _ _ (hK w' r1 r2)
set_option maxHeartbeats 1000000 in
theorem put_devV {gm : Nat} {pv fv : Value} (h : DvV w g gm pv fv s) (hn : (dvFoot g gm pv fv).Nodup) (a : Nat) (b : List UInt8) (ha : a < 4294967296) (hb : b.length = 256) :
    Calls Tryd.prog 34 #[.pointer (some ⟨g, 0, none⟩), .agg (putV a b)] w fun e w' => e = .returned (.tuple #[]) ∧ DvV w' g gm pv fv { s with good := updB s.good a b } ∧ Only [gm] w w' := by
  obtain ⟨F, hF⟩ : ∃ F, F = dvFoot g gm pv fv := ⟨_, rfl⟩
  rw [← hF] at hn
  have H := Lib.hid h
  have HF := Lib.hid hF
  have HN := Lib.hid hn
  have HB := Lib.hid hb
  have HA := Lib.hid ha
  have HPS := Lib.hid (size_putV a b hb)
  clear h hF hn hb ha
  obtain ⟨W0, hW0⟩ : ∃ W, W = w.alloc (.cells (putV a b) 47) := ⟨_, rfl⟩
  have hb0 : Below w.heap.size w W0 := by rw [hW0]; exact (Below.refl _ _).alloc (Nat.le_refl _) _
  have HV0 := Lib.hid (H.out.below hb0)
  obtain ⟨gp, hgp⟩ : ∃ gp, gp = w.heap.size := ⟨_, rfl⟩
  have HGP : Hid (W0.heap[gp]? = some (.cells (putV a b) 47 (0, 0))) := Lib.hid (by rw [hW0, hgp]; exact heap_alloc_new _ _)
  have HGE := Lib.hid hgp
  have HB0 := Lib.hid hb0
  have h1 : W0.cell? ⟨g, 1, none⟩ = some (.map (some gm)) := cell_of_row W0 g 1 _ _ _ HV0.out.row
  have c0 : W0.cell? ⟨gp, 0, none⟩ = some (.int .u32 (a : Int)) := cell_of_row W0 gp 0 _ _ _ HGP.out
  go_enter Tryd.func34, Tryd.ntmps34
  go_upto_region 1 with (fail)
  rw [← hW0, ← hgp]
  clear hW0 hb0 hgp
  refine wk_region_tail 8 (by kernel_rfl) (by kernel_rfl) ?_
  simp only [List.take_succ_cons, List.take_zero, List.drop_succ_cons, List.drop_zero]
  repeat (first
    | (refine wk_move _ (by first | exact wanted_none rfl | exact wanted_yes _ _ rfl rfl) rfl ?_; simp only [Act.put, Act.eval, Array.getD_eq_getD_getElem?, List.getElem?_toArray, List.getElem?_cons_succ, List.getElem?_cons_zero, Option.getD_some, List.setIfInBounds_toArray, List.set_cons_zero, List.set_cons_succ])
    | (refine wk_assign _ (by first | exact wanted_none rfl | exact wanted_yes _ _ rfl rfl) rfl ?_; simp only [Act.put, Act.eval, Array.getD_eq_getD_getElem?, List.getElem?_toArray, List.getElem?_cons_succ, List.getElem?_cons_zero, Option.getD_some, List.setIfInBounds_toArray, List.set_cons_zero, List.set_cons_succ])
    | (refine wk_pickt _ _ _ _ (by first | exact wanted_none rfl | exact wanted_yes _ _ rfl rfl) rfl rfl rfl ?_; simp only [Act.put, Act.eval, Array.getD_eq_getD_getElem?, List.getElem?_toArray, List.getElem?_cons_succ, List.getElem?_cons_zero, Option.getD_some, List.setIfInBounds_toArray, List.set_cons_zero, List.set_cons_succ])
    | (refine wk_pickf _ _ _ _ (by first | exact wanted_none rfl | exact wanted_yes _ _ rfl rfl) rfl rfl rfl ?_; simp only [Act.put, Act.eval, Array.getD_eq_getD_getElem?, List.getElem?_toArray, List.getElem?_cons_succ, List.getElem?_cons_zero, Option.getD_some, List.setIfInBounds_toArray, List.set_cons_zero, List.set_cons_succ])
    | (refine wk_skip (wanted_not _ true false rfl rfl rfl) ?_; simp only [Act.put, List.setIfInBounds_toArray, List.set_cons_zero, List.set_cons_succ])
    | (refine wk_skip (wanted_not _ false true rfl rfl rfl) ?_; simp only [Act.put, List.setIfInBounds_toArray, List.set_cons_zero, List.set_cons_succ])
    | (refine wk_skip (wanted_undef _ _ rfl rfl) ?_; simp only [Act.put, List.setIfInBounds_toArray, List.set_cons_zero, List.set_cons_succ])
    | (refine wk_not true _ _ (by first | exact wanted_none rfl | exact wanted_yes _ _ rfl rfl) rfl rfl ?_; simp only [Act.put, List.setIfInBounds_toArray, List.set_cons_zero, List.set_cons_succ])
    | (refine wk_not false _ _ (by first | exact wanted_none rfl | exact wanted_yes _ _ rfl rfl) rfl rfl ?_; simp only [Act.put, List.setIfInBounds_toArray, List.set_cons_zero, List.set_cons_succ]))
  refine wk_nilcheck _ _ (by first | exact wanted_none rfl | exact wanted_yes _ _ rfl rfl) rfl rfl ?_
  simp only [Act.put, List.setIfInBounds_toArray, List.set_cons_zero, List.set_cons_succ]
  refine wk_field 65 _ 62 1 0 _ _ _ (by first | exact wanted_none rfl | exact wanted_yes _ _ rfl rfl) rfl (by kernel_rfl) (by kernel_rfl) (by kernel_rfl) rfl ?_
  simp only [Act.put, List.setIfInBounds_toArray, List.set_cons_zero, List.set_cons_succ, Nat.zero_add]
  refine wk_load1 _ _ _ _ _ rfl (by kernel_rfl) rfl rfl (fun w' hC => hC.cell h1) Tryd.underlying62 ?_
  simp only [Act.put, List.setIfInBounds_toArray, List.set_cons_zero, List.set_cons_succ]
  refine wk_field 47 _ 22 0 0 _ _ _ (by first | exact wanted_none rfl | exact wanted_yes _ _ rfl rfl) rfl (by kernel_rfl) (by kernel_rfl) (by kernel_rfl) rfl ?_
  simp only [Act.put, List.setIfInBounds_toArray, List.set_cons_zero, List.set_cons_succ, Nat.zero_add]
  refine wk_load1 _ _ _ _ _ rfl (by kernel_rfl) rfl rfl (fun w' hC => hC.cell c0) Tryd.underlying22 ?_
  simp only [Act.put, List.setIfInBounds_toArray, List.set_cons_zero, List.set_cons_succ]
  refine wk_field 47 _ 45 1 255 _ _ _ (by first | exact wanted_none rfl | exact wanted_yes _ _ rfl rfl) rfl (by kernel_rfl) (by kernel_rfl) (by kernel_rfl) rfl ?_
  simp only [Act.put, List.setIfInBounds_toArray, List.set_cons_zero, List.set_cons_succ, Nat.zero_add]
  refine wk_load_mid 45 _ gp 1 (blk b) _ (by first | exact wanted_none rfl | exact wanted_yes _ _ rfl rfl) rfl rfl (fun w' hC => putV_range (hC.row HGP.out)) Tryd.underlying45 rfl (by rw [size_blk, HB.out]; exact sizeB) ?_
  simp only [Act.put, List.setIfInBounds_toArray, List.set_cons_zero, List.set_cons_succ]
  refine wk_nil ?_
  intro w' hC
  have HC1 := Lib.hid hC
  clear hC h1 c0
  refine wpList_store_map rfl _ _ _ rfl gm s.good rfl (HV0.out.below HC1.out).good a HA.out b HB.out rfl rfl ?_
  intro w1 hm1 hg1
  simp only [Act.put, List.setIfInBounds_toArray, List.set_cons_zero, List.set_cons_succ]
  have hV1 : DvV w1 g gm pv fv { s with good := updB s.good a b } := dv_map (HV0.out.below HC1.out) HF.out HN.out _ hm1 (updB_length H.out.ok.good HB.out) hg1
  have hP1 : w1.heap[gp]? = some (.cells (putV a b) 47 (0, 0)) := by
    have hlt : gp < w'.heap.size := Nat.lt_of_lt_of_le (Array.getElem?_eq_some_iff.1 HGP.out).1 HC1.out.size
    have hgm : gm < w.heap.size := H.out.good.lt
    rw [hg1.block gp hlt (by have := HGE.out; simp; omega)]
    exact HC1.out.row HGP.out
  have hO1 : Only [gm] w w1 := ((Only.of_below HB0.out).trans (Only.of_below HC1.out)).trans ((Only.of_grown hg1 (fun k hk => by cases hk; simp)))
  have HV1 := Lib.hid hV1
  have HP1 := Lib.hid hP1
  have HO1 := Lib.hid hO1
  clear hV1 hP1 hO1 hm1 hg1 HC1 HGP HV0 HB0 HGE
  go_upto_region 2 with (fail)
  refine wk_plain_since ?_
  refine wk_field 47 _ 45 1 255 _ _ _ (by first | exact wanted_none rfl | exact wanted_yes _ _ rfl rfl) rfl (by kernel_rfl) (by kernel_rfl) (by kernel_rfl) rfl ?_
  simp only [Act.put, List.setIfInBounds_toArray, List.set_cons_zero, List.set_cons_succ, Nat.zero_add]
  refine wk_load_mid 45 _ gp 1 (blk b) _ (by first | exact wanted_none rfl | exact wanted_yes _ _ rfl rfl) rfl rfl (fun w' hC => putV_range (hC.row HP1.out)) Tryd.underlying45 rfl (by rw [size_blk, HB.out]; exact sizeB) ?_
  simp only [Act.put, List.setIfInBounds_toArray, List.set_cons_zero, List.set_cons_succ]
  refine wk_build_none 45 _ (by first | exact wanted_none rfl | exact wanted_yes _ _ rfl rfl) rfl zeroB Tryd.underlying45 (by rfl) ?_
  simp only [Act.put, List.setIfInBounds_toArray, List.set_cons_zero, List.set_cons_succ]
  rw [zero_cells]
  refine wk_eql .eql (decide (b = zeroBlk)) 45 45 _ _ (by first | exact wanted_none rfl | exact wanted_yes _ _ rfl rfl) rfl _ _ rfl rfl (by kernel_rfl) (fun w => eqlBlk w b zeroBlk HB.out length_zeroBlk) ?_
  simp only [Act.put, List.setIfInBounds_toArray, List.set_cons_zero, List.set_cons_succ]
  refine wk_nil ?_
  intro w' hC
  have HC2 := Lib.hid hC
  clear hC
  have HV2 := Lib.hid (HV1.out.below HC2.out)
  have HP2 := Lib.hid (HC2.out.row HP1.out)
  have HO2 := Lib.hid (HO1.out.trans (Only.of_below HC2.out))
  clear HV1 HP1 HO1 HC2
  by_cases hz : b = zeroBlk
  · have h1 : w'.cell? ⟨g, 1, none⟩ = some (.map (some gm)) := cell_of_row w' g 1 _ _ _ HV2.out.row
    have c0 : w'.cell? ⟨gp, 0, none⟩ = some (.int .u32 (a : Int)) := cell_of_row w' gp 0 _ _ _ HP2.out
    have HZ := Lib.hid hz
    have hd : decide (b = zeroBlk) = true := by simp [hz]
    clear hz
    rw [hd]
    go_upto_region 3 with (fail)
    refine wk_region_tail 6 (by kernel_rfl) (by kernel_rfl) ?_
    simp only [List.take_succ_cons, List.take_zero, List.drop_succ_cons, List.drop_zero]
    repeat (first
      | (refine wk_move _ (by first | exact wanted_none rfl | exact wanted_yes _ _ rfl rfl) rfl ?_; simp only [Act.put, Act.eval, Array.getD_eq_getD_getElem?, List.getElem?_toArray, List.getElem?_cons_succ, List.getElem?_cons_zero, Option.getD_some, List.setIfInBounds_toArray, List.set_cons_zero, List.set_cons_succ])
      | (refine wk_assign _ (by first | exact wanted_none rfl | exact wanted_yes _ _ rfl rfl) rfl ?_; simp only [Act.put, Act.eval, Array.getD_eq_getD_getElem?, List.getElem?_toArray, List.getElem?_cons_succ, List.getElem?_cons_zero, Option.getD_some, List.setIfInBounds_toArray, List.set_cons_zero, List.set_cons_succ])
      | (refine wk_pickt _ _ _ _ (by first | exact wanted_none rfl | exact wanted_yes _ _ rfl rfl) rfl rfl rfl ?_; simp only [Act.put, Act.eval, Array.getD_eq_getD_getElem?, List.getElem?_toArray, List.getElem?_cons_succ, List.getElem?_cons_zero, Option.getD_some, List.setIfInBounds_toArray, List.set_cons_zero, List.set_cons_succ])
      | (refine wk_pickf _ _ _ _ (by first | exact wanted_none rfl | exact wanted_yes _ _ rfl rfl) rfl rfl rfl ?_; simp only [Act.put, Act.eval, Array.getD_eq_getD_getElem?, List.getElem?_toArray, List.getElem?_cons_succ, List.getElem?_cons_zero, Option.getD_some, List.setIfInBounds_toArray, List.set_cons_zero, List.set_cons_succ])
      | (refine wk_skip (wanted_not _ true false rfl rfl rfl) ?_; simp only [Act.put, List.setIfInBounds_toArray, List.set_cons_zero, List.set_cons_succ])
      | (refine wk_skip (wanted_not _ false true rfl rfl rfl) ?_; simp only [Act.put, List.setIfInBounds_toArray, List.set_cons_zero, List.set_cons_succ])
      | (refine wk_skip (wanted_undef _ _ rfl rfl) ?_; simp only [Act.put, List.setIfInBounds_toArray, List.set_cons_zero, List.set_cons_succ])
      | (refine wk_not true _ _ (by first | exact wanted_none rfl | exact wanted_yes _ _ rfl rfl) rfl rfl ?_; simp only [Act.put, List.setIfInBounds_toArray, List.set_cons_zero, List.set_cons_succ])
      | (refine wk_not false _ _ (by first | exact wanted_none rfl | exact wanted_yes _ _ rfl rfl) rfl rfl ?_; simp only [Act.put, List.setIfInBounds_toArray, List.set_cons_zero, List.set_cons_succ]))
    refine wk_nilcheck _ _ (by first | exact wanted_none rfl | exact wanted_yes _ _ rfl rfl) rfl rfl ?_
    simp only [Act.put, List.setIfInBounds_toArray, List.set_cons_zero, List.set_cons_succ]
    refine wk_field 65 _ 62 1 0 _ _ _ (by first | exact wanted_none rfl | exact wanted_yes _ _ rfl rfl) rfl (by kernel_rfl) (by kernel_rfl) (by kernel_rfl) rfl ?_
    simp only [Act.put, List.setIfInBounds_toArray, List.set_cons_zero, List.set_cons_succ, Nat.zero_add]
    refine wk_load1 _ _ _ _ _ rfl (by kernel_rfl) rfl rfl (fun w' hC => hC.cell h1) Tryd.underlying62 ?_
    simp only [Act.put, List.setIfInBounds_toArray, List.set_cons_zero, List.set_cons_succ]
    refine wk_field 47 _ 22 0 0 _ _ _ (by first | exact wanted_none rfl | exact wanted_yes _ _ rfl rfl) rfl (by kernel_rfl) (by kernel_rfl) (by kernel_rfl) rfl ?_
    simp only [Act.put, List.setIfInBounds_toArray, List.set_cons_zero, List.set_cons_succ, Nat.zero_add]
    refine wk_load1 _ _ _ _ _ rfl (by kernel_rfl) rfl rfl (fun w' hC => hC.cell c0) Tryd.underlying22 ?_
    simp only [Act.put, List.setIfInBounds_toArray, List.set_cons_zero, List.set_cons_succ]
    refine wk_nil ?_
    intro w' hC
    have HC3 := Lib.hid hC
    clear hC h1 c0
    refine wpList_drop_map rfl _ _ rfl gm _ rfl (HV2.out.below HC3.out).good a HA.out rfl ?_
    intro w3 hm3 hg3
    simp only [Act.put, List.setIfInBounds_toArray, List.set_cons_zero, List.set_cons_succ]
    have e : updB (updB s.good a b) a zeroBlk = updB s.good a b := by
      funext x
      unfold updB
      split
      · exact HZ.out.symm
      · rfl
    have hV3 : DvV w3 g gm pv fv { s with good := updB s.good a b } := by
      have := dv_map (HV2.out.below HC3.out) HF.out HN.out _ hm3 (updB_length (updB_length H.out.ok.good HB.out) length_zeroBlk) hg3
      simp only at this
      rwa [e] at this
    have hO3 : Only [gm] w w3 := (HO2.out.trans (Only.of_below HC3.out)).trans (Only.of_grown hg3 (fun k hk => by cases hk; simp))
    have HV3 := Lib.hid hV3
    have HO3 := Lib.hid hO3
    clear hV3 hO3 hm3 hg3 HC3
    go_wp2
    go_end0
    exact ⟨rfl, HV3.out, HO3.out⟩
  · have hd : decide (b = zeroBlk) = false := by simp [hz]
    rw [hd]
    clear hz hd
    go_wp2
    go_end0
    exact ⟨rfl, HV2.out, HO2.out⟩
end
end Go.Proofs.YtnphgaiiiiknpaaDoor
namespace Go.Proofs.YtnphgaiiiiknpaaDoor
open Go.RowKit
set_option linter.unusedSimpArgs false
set_option linter.unusedVariables false
set_option maxRecDepth 100000
def askV (x : Ask) : Array Value := #[.int .i64 x.e, .func (.func x.f) x.first x.cap]
section
variable {w : World} {g : Nat} {s : Dv}
theorem far_dev (h : (dvT g s).at w) (a : Nat) : Calls Tryd.prog 40 #[.pointer (some ⟨g, 0, none⟩), .int .u32 (a : Int)] w fun e w' => ∃ x : Ask, e = .returned (.agg (askV x)) ∧ x.Ok w' ∧ x.e = 2 ∧ x.r = decide (s.size ≤ a) ∧ Below w.heap.size w w' := by
  have H := Lib.hid h
  clear h
  have hmf : ∀ (fn : Fn) (first cap : Array Value) (w : World), (Instr.makeFunc fn first cap).run Tryd.prog w = .ok (.func fn first cap) w := fun _ _ _ _ => rfl
  have q := (((Rows.start w).alloc #[.pointer (some ⟨g, 0, none⟩)] 39).alloc #[.int .u32 (a : Int)] 22).alloc #[.int .i64 0, .nilFunc] 71
  rw [show ((w.alloc (.cells #[.pointer (some ⟨g, 0, none⟩)] 39)).alloc (.cells #[.int .u32 (a : Int)] 22)).heap.size = w.heap.size + 1 + 1 by simp, show (w.alloc (.cells #[.pointer (some ⟨g, 0, none⟩)] 39)).heap.size = w.heap.size + 1 by simp] at q
  have HQ := Lib.hid q
  clear q
  go_enter Tryd.func40, Tryd.ntmps40
  go_upto_region 1 with (refine wpList_alloc_row rfl 71 rfl _ zeroAsk ?_)
  obtain ⟨W, hW⟩ : ∃ W, W = ((w.alloc (.cells #[.pointer (some ⟨g, 0, none⟩)] 39)).alloc (.cells #[.int .u32 (a : Int)] 22)).alloc (.cells #[.int .i64 0, .nilFunc] 71) := ⟨_, rfl⟩
  rw [← hW]
  rw [show ((w.alloc (.cells #[.pointer (some ⟨g, 0, none⟩)] 39)).alloc (.cells #[.int .u32 (a : Int)] 22)).heap.size = w.heap.size + 1 + 1 by simp]
  have R := HQ.out
  rw [← hW] at R
  have HR := Lib.hid R
  clear R HQ hW
  obtain ⟨bd, hbd⟩ : ∃ b, b = w.heap.size := ⟨_, rfl⟩
  rw [← hbd] at HR ⊢
  have HBD := Lib.hid hbd
  clear hbd
  go_wp2_with (refine wpList_store_row rfl 71 _ _ rfl (bd + 1 + 1) #[.int .i64 2, .func (.func 56) #[] #[.pointer (some ⟨bd + 1, 0, none⟩), .pointer (some ⟨bd, 0, none⟩)]] rfl rfl 71 _ (HR.out.get 0 rfl) sizeAsk rfl (askOne _ _ _ _) ?_)
  have R1 := HR.out.setRow 0 #[.int .i64 2, .func (.func 56) #[] #[.pointer (some ⟨bd + 1, 0, none⟩), .pointer (some ⟨bd, 0, none⟩)]] rfl
  refine bodyPost_ret (v := .agg (askV (farQ s a (bd + 1) bd))) (results_cell_row rfl _ _ (bd + 1 + 1) 71 _ (0, 0) _ rfl (R1.get 0 rfl) Tryd.underlying71 rfl sizeAsk) rfl ⟨farQ s a (bd + 1) bd, rfl, ?_, rfl, rfl, R1.below⟩
  exact farQ_ok (H.out.since R1.below) a _ _ (R1.cell 1 0 rfl rfl) (R1.cell 2 0 rfl rfl) (R1.lt 1 rfl) (R1.lt 2 rfl)
end
end Go.Proofs.YtnphgaiiiiknpaaDoor
namespace Go.Proofs.YtnphgaiiiiknpaaDoor
open Go.RowKit
set_option linter.unusedSimpArgs false
set_option linter.unusedVariables false
set_option maxRecDepth 100000
theorem Tryd.infoAsk : (Tryd.prog.info? 71).map (fun i => (i.zero, i.size, i.bytes)) = some (some (.agg #[.int .i64 0, .nilFunc]), 2, 16) := by kernel_rfl
/-- A slice literal of one element. -/
theorem wp_build_one {P : Program} {o : Oper} {a : Act} {w : World} {K : Act → World → Prop} {Q : Exit → Act → World → Prop} (t e : TypeId) (p : Operand) (ho : o.op = .buildSlice t 1 #[(0, p)]) (cells : Array Value) (hx : a.eval p = .agg cells)
    (ie : TypeInfo) (z : Value) (hu : P.underlying t = some (.slice e)) (hie : P.info? e = some ie) (hz : ie.zero = some z) (hs : cells.size = ie.size) (h0 : 0 < ie.size) (h1 : ie.size ≤ 1000)
    (h : K (a.put o.dst (.slice (some ⟨w.heap.size, 0, none⟩) 1 1)) (w.alloc (.cells cells e))) : o.wp P a w K Q := by
  refine wp_buildSlice t e 1 _ ho cells ie z hu hie hz (by omega) (by omega) ?_ h
  have := Great.fill_whole (s := ie.size) h0 [Value.agg cells] ((Array.range (1 * ie.size)).map (z.cells[· % z.cells.size]!)) (by intro v hv; simp at hv; subst hv; simpa [Value.cells] using hs) (by simp)
  have e1 : ((#[(0, p)] : Array (Nat × Operand)).map fun (i, x) => (i, a.eval x)).toList = (([Value.agg cells].zipIdx 0).map fun x => (x.2, x.1)) := by simp [hx]
  rw [e1, this]
  simp [Value.cells]
/-- A slice of no question or of one. -/
inductive AskSrc (w : World) : Value → List Ask → Prop
  | none : AskSrc w (.slice none 0 0) []
  | one (b c : Nat) (x : Ask) : w.heap[b]? = some (.cells (askV x) 71 (0, 0)) → AskSrc w (.slice (some ⟨b, 0, none⟩) 1 c) [x]
theorem AskSrc.since {w w' : World} {v : Value} {l : List Ask} (h : AskSrc w v l) (hb : Below w.heap.size w w') : AskSrc w' v l := by
  cases h with
  | none => exact .none
  | one b c x h => exact .one b c x ((hb.block b (Array.getElem?_eq_some_iff.1 h).1).trans h)
theorem ask_cells {w : World} {b : Nat} {x : Ask} {T : TypeId} (h : w.heap[b]? = some (.cells (askV x) T (0, 0))) : ∀ j v, (askCells [x])[j]? = some v → w.cell? ((⟨b, 0, none⟩ : Addr).add j) = some v := by
  intro j v hv
  rw [Addr.add_lit, Nat.zero_add, cell_of_row w b j _ _ _ h]
  simpa [askCells, askV] using hv
theorem len_askCells (l : List Ask) : (askCells l).length = l.length * 2 := by
  induction l with
  | nil => rfl
  | cons x l ih => simp [askCells] at ih ⊢; omega
theorem askCells_one (l : List Ask) : ∀ u ∈ askCells l, u.oneCell' = true := by
  intro u hu
  simp only [askCells, List.mem_flatMap, List.mem_cons, List.not_mem_nil, or_false] at hu
  obtain ⟨x, _, rfl | rfl⟩ := hu <;> rfl
/-- append of the questions onto one. -/
theorem ask_append (w : World) (ty : TypeId) (b : Nat) (x : Ask) (hb : w.heap[b]? = some (.cells (askV x) 71 (0, 0))) (sv : Value) (l : List Ask) (hs : AskSrc w sv l) (base : Nat) (hbase : base ≤ b) :
    ∃ v w', (Builtin.append_ #[97, 97] ty #[.slice (some ⟨b, 0, none⟩) 1 1, sv]).run Tryd.prog w = .ok v w' ∧ Below w.heap.size w w' ∧ w'.ownsRow base 71 2 v (1 + l.length) (askCells (x :: l)) := by
  obtain ⟨i, hi, hz, hs2, hby⟩ := info_parts Tryd.infoAsk
  have hbl : b < w.heap.size := (Array.getElem?_eq_some_iff.1 hb).1
  cases hs with
  | none =>
    refine ⟨.slice (some ⟨b, 0, none⟩) 1 1, w, ?_, Below.refl _ _, ⟨by simp [len_askCells], .inr ⟨b, 1, _, rfl, hbase, hb, Nat.le_refl _, by unfold maxLen; omega, by simp [askV], by simp [askV, askCells]⟩⟩⟩
    simp [Builtin.append_, run_underlying Tryd.underlying97, sizeOf, typeInfo, hi, Builtin.lenOf, Builtin.firstCells, loadCells, loadCellsFrom, storeCells]
  | one b' c y hy =>
    have hr := run_append_grow (P := Tryd.prog) w 97 ty 71 i _ Tryd.underlying97 hi hz ⟨b, 0, none⟩ 1 1 (askCells [x]) (by rw [len_askCells, hs2]; rfl) (ask_cells hb) ⟨b', 0, none⟩ 1 c (askCells [y]) (by rw [len_askCells, hs2]; rfl) (ask_cells hy) (by omega) (by omega) (growslice_fits (by omega) (by rw [hby]; omega))
    refine ⟨_, _, hr, ((Below.refl _ _).drew).alloc (Nat.le_refl _) _, ?_⟩
    have hge := grownCap_ge w 2 1 71
    refine ⟨by simp [len_askCells], .inr ⟨w.heap.size, _, _, rfl, by omega, heap_alloc_new w.drew _, hge, grownCap_le_maxLen w 2 1 _ (by unfold maxLen; omega), ?_, ?_⟩⟩
    · simp only [Array.size_append, List.size_toArray, size_zeroCells, len_askCells, List.length_cons, List.length_nil, Value.cells]
      show 1 * 2 + 1 * 2 + (grownCap w 2 1 71 - 2) * 2 = grownCap w 2 1 71 * 2
      omega
    · simp only [Array.toList_append, List.append_assoc]
      rw [show askCells [x, y] = askCells [x] ++ askCells [y] by simp [askCells], ← List.append_assoc]
      refine List.take_left' ?_
      simp [len_askCells]
end Go.Proofs.YtnphgaiiiiknpaaDoor
namespace Go.Proofs.YtnphgaiiiiknpaaDoor
open Go.RowKit
set_option linter.unusedSimpArgs false
set_option linter.unusedVariables false
set_option maxRecDepth 100000
/-- What up answers. -/
def upE (s : Dv) (l : List Ask) : Int := match l.find? (·.r) with | some x => x.e | none => if s.down then 30 else 0
theorem checkE_up (s : Dv) (g b : Nat) (l : List Ask) : checkE (noneQ g :: l ++ [downQ s b]) = upE s l := by
  unfold checkE upE
  rw [List.find?_append, List.find?_cons_of_neg (by simp [noneQ])]
  cases h : l.find? (·.r) with
  | some x => rfl
  | none => cases hd : s.down <;> simp [downQ, hd]
/-- The slots of up's last region. -/
def upV (base : Nat) (x y : Ask) (sv : Value) (l : List Ask) (t : Tmp) (v : Value) (w : World) : Prop :=
  match t with
  | 12 => v = .agg (askV x)
  | 13 => ∃ b, v = .slice (some ⟨b, 0, none⟩) 1 1 ∧ w.heap[b]? = some (.cells (askV x) 71 (0, 0)) ∧ base ≤ b
  | 14 => v = sv
  | 15 => w.ownsRow base 71 2 v (1 + l.length) (askCells (x :: l))
  | 16 => v = .agg (askV y)
  | 17 => ∃ b, v = .slice (some ⟨b, 0, none⟩) 1 1 ∧ w.heap[b]? = some (.cells (askV y) 71 (0, 0)) ∧ base ≤ b
  | _ => True
theorem ownsRow_below {w w' : World} {base : Nat} {e : TypeId} {size : Nat} {v : Value} {n : Nat} {xs : List Value} (h : w.ownsRow base e size v n xs) (hb : Below w.heap.size w w') : w'.ownsRow base e size v n xs :=
  ownsRow_same h (fun b hb' => hb.block b (World.ownsRow.lt h b hb').2)
theorem upV_stab (base : Nat) (x y : Ask) (sv : Value) (l : List Ask) : ∀ t v w w', upV base x y sv l t v w → Below w.heap.size w w' → upV base x y sv l t v w' := by
  intro t v w w' h hb
  unfold upV at h ⊢
  split at h
  · exact h
  · obtain ⟨b, h1, h2, h3⟩ := h
    exact ⟨b, h1, (hb.block b (Array.getElem?_eq_some_iff.1 h2).1).trans h2, h3⟩
  · exact h
  · exact ownsRow_below h hb
  · exact h
  · obtain ⟨b, h1, h2, h3⟩ := h
    exact ⟨b, h1, (hb.block b (Array.getElem?_eq_some_iff.1 h2).1).trans h2, h3⟩
  · trivial
theorem wp_append_run {P : Program} {o : Oper} {a : Act} {w w' : World} {K : Act → World → Prop} {Q : Exit → Act → World → Prop} (s x : Operand) (t : TypeId) (ho : o.op = .call { callee := .builtin .append, args := #[s, x], argTypes := #[t, t] })
    (sv xv v' : Value) (hs : a.eval s = sv) (hx : a.eval x = xv) (hr : (Builtin.append_ #[t, t] o.type #[sv, xv]).run P w = .ok v' w') (h : K (a.put o.dst v') w') : o.wp P a w K Q := by
  unfold Oper.wp execOp
  simp only [ho, resolve, invoke, builtin, Sem.run_bind, Sem.run_pure, Result.andThen_ok, List.map_toArray, List.map_cons, List.map_nil, hs, hx, hr]
  exact h
set_option maxHeartbeats 2000000 in
theorem up_dev {w : World} {g : Nat} {s : Dv} (h : (dvT g s).at w) (sv : Value) (l : List Ask) (hl : l.length < 50) (hs : AskSrc w sv l) (hok : ∀ x ∈ l, x.Ok w) :
    Calls Tryd.prog 28 #[.pointer (some ⟨g, 0, none⟩), sv] w fun e w' => e = .returned (.int .i64 (upE s l)) ∧ Below w.heap.size w w' := by
  have H := Lib.hid h
  have HS := Lib.hid hs
  have HOK := Lib.hid hok
  have hmf : ∀ (fn : Fn) (first cap : Array Value) (w : World), (Instr.makeFunc fn first cap).run Tryd.prog w = .ok (.func fn first cap) w := fun _ _ _ _ => rfl
  have q := ((((Rows.start w).alloc #[.pointer (some ⟨g, 0, none⟩)] 39).alloc (askV (noneQ g)) 71)).alloc (askV (downQ s w.heap.size)) 71
  rw [show ((w.alloc (.cells #[.pointer (some ⟨g, 0, none⟩)] 39)).alloc (.cells (askV (noneQ g)) 71)).heap.size = w.heap.size + 1 + 1 by simp, show (w.alloc (.cells #[.pointer (some ⟨g, 0, none⟩)] 39)).heap.size = w.heap.size + 1 by simp] at q
  have HQ := Lib.hid q
  have c0 : (w.alloc (.cells #[.pointer (some ⟨g, 0, none⟩)] 39)).cell? ⟨w.heap.size, 0, none⟩ = some (.pointer (some ⟨g, 0, none⟩)) := cell_of_row _ _ 0 _ _ _ (heap_alloc_new _ _)
  clear h hs hok q
  go_enter Tryd.func28, Tryd.ntmps28
  go_upto_region 3 with (first
    | refine wpList_alloc_row rfl 71 rfl _ zeroAsk ?_
    | refine wpList_store_new rfl 71 _ _ rfl _ (askV (noneQ g)) _ rfl rfl sizeAsk rfl (askOne _ _ _ _) ?_
    | refine wpList_store_new rfl 71 _ _ rfl _ (askV (downQ s w.heap.size)) _ rfl rfl sizeAsk rfl (askOne _ _ _ _) ?_)
  simp only [Act.put, List.setIfInBounds_toArray, List.set_cons_zero, List.set_cons_succ]
  rw [show ((w.alloc (.cells #[.pointer (some ⟨g, 0, none⟩)] 39)).alloc (.cells (askV (noneQ g)) 71)).heap.size = w.heap.size + 1 + 1 by simp]
  obtain ⟨W, hW⟩ : ∃ W, W = ((w.alloc (.cells #[.pointer (some ⟨g, 0, none⟩)] 39)).alloc (.cells (askV (noneQ g)) 71)).alloc (.cells (askV (downQ s w.heap.size)) 71) := ⟨_, rfl⟩
  rw [← hW]
  have R := HQ.out
  rw [← hW] at R
  clear HQ hW c0
  obtain ⟨b0, hb0⟩ : ∃ b, b = w.heap.size := ⟨_, rfl⟩
  rw [← hb0] at R ⊢
  have HB0 := Lib.hid hb0
  have HR := Lib.hid R
  clear hb0 R
  have HWH := Lib.hid (H.out.since HR.out.below)
  obtain ⟨x, hx⟩ : ∃ x, x = noneQ g := ⟨_, rfl⟩
  obtain ⟨y, hy⟩ : ∃ y, y = downQ s b0 := ⟨_, rfl⟩
  have hxo : x.Ok W := by rw [hx]; exact noneQ_ok HWH.out
  have hyo : y.Ok W := by rw [hy]; exact downQ_ok HWH.out _ (HR.out.cell 2 0 rfl rfl) (HR.out.lt 2 rfl)
  have hlo : ∀ z ∈ l, z.Ok W := fun z hz => (HOK.out z hz).below HR.out.below
  have hE : checkE (x :: l ++ [y]) = upE s l := by rw [hx, hy]; exact checkE_up s g b0 l
  rw [← hx, ← hy] at HR
  have hsW := HS.out.since HR.out.below
  obtain ⟨i, hi, hz, hs2, hby⟩ := info_parts Tryd.infoAsk
  refine wp_region_flow (by kernel_rfl) 6 (upV W.heap.size x y sv l) (upV_stab W.heap.size x y sv l) (by kernel_rfl) (by kernel_rfl) (by kernel_rfl) (by kernel_rfl) ?heads ?tail
  case heads =>
    refine ⟨.inr ⟨rfl, 12, rfl, fun a v hB hO hD K hK => ?_⟩, .inr ⟨rfl, 13, rfl, fun a v hB hO hD K hK => ?_⟩, .inr ⟨rfl, 14, rfl, fun a v hB hO hD K hK => ?_⟩, .inr ⟨rfl, 15, rfl, fun a v hB hO hD K hK => ?_⟩, .inr ⟨rfl, 16, rfl, fun a v hB hO hD K hK => ?_⟩, .inr ⟨rfl, 17, rfl, fun a v hB hO hD K hK => ?_⟩, .inl (by decide), .inl (by decide), .inl (by decide), trivial⟩
    · refine wp_load_all 71 _ (b0 + 1) 71 (askV x) (0, 0) _ rfl (eval_of (t := 5) ?_) ?_ Tryd.underlying71 rfl sizeAsk (hK _ _ rfl (Below.refl _ _))
      · rw [hO 5 (not_dst 5 (by kernel_rfl))]; rfl
      · exact (hB.block _ (HR.out.lt 1 rfl)).trans (HR.out.get 1 rfl)
    · obtain ⟨u, hu, hV⟩ := flow_of hD 0 (by kernel_rfl) 12 (by kernel_rfl)
      refine wp_build_one 97 71 _ rfl (askV x) (hu.trans hV) i _ Tryd.underlying97 hi hz (by rw [hs2]; rfl) (by omega) (by omega) (hK _ _ ⟨_, rfl, heap_alloc_new _ _, ?_⟩ ((Below.refl _ _).alloc (Nat.le_refl _) _))
      exact hB.size
    · have e : a.eval (.tmp 1) = sv := eval_of (by rw [hO 1 (not_dst 1 (by kernel_rfl))]; rfl)
      refine wp_value sv ?_ (hK _ _ rfl (Below.refl _ _))
      rw [← e]; rfl
    · obtain ⟨u, hu, b, rfl, hb, hbb⟩ := flow_of hD 1 (by kernel_rfl) 13 (by kernel_rfl)
      obtain ⟨u2, hu2, hu3⟩ := flow_of hD 2 (by kernel_rfl) 14 (by kernel_rfl)
      obtain ⟨v', w', hr, hbe, hown⟩ := ask_append v 97 b x hb sv l (hsW.since hB) W.heap.size hbb
      exact wp_append_run _ _ 97 rfl _ sv v' hu (hu2.trans hu3) hr (hK _ _ hown hbe)
    · refine wp_load_all 71 _ (b0 + 1 + 1) 71 (askV y) (0, 0) _ rfl (eval_of (t := 6) ?_) ?_ Tryd.underlying71 rfl sizeAsk (hK _ _ rfl (Below.refl _ _))
      · rw [hO 6 (not_dst 6 (by kernel_rfl))]; rfl
      · exact (hB.block _ (HR.out.lt 0 rfl)).trans (HR.out.get 0 rfl)
    · obtain ⟨u, hu, hV⟩ := flow_of hD 4 (by kernel_rfl) 16 (by kernel_rfl)
      refine wp_build_one 97 71 _ rfl (askV y) (hu.trans hV) i _ Tryd.underlying97 hi hz (by rw [hs2]; rfl) (by omega) (by omega) (hK _ _ ⟨_, rfl, heap_alloc_new _ _, ?_⟩ ((Below.refl _ _).alloc (Nat.le_refl _) _))
      exact hB.size
  case tail =>
    intro F v hV hB
    have v15 : v.ownsRow W.heap.size 71 2 (F 15) (1 + l.length) (askCells (x :: l)) := hV _ (List.mem_of_getElem? (i := 3) rfl) 15 rfl
    obtain ⟨b17, e17, hb17, hbb17⟩ : ∃ b, F 17 = .slice (some ⟨b, 0, none⟩) 1 1 ∧ v.heap[b]? = some (.cells (askV y) 71 (0, 0)) ∧ W.heap.size ≤ b := hV _ (List.mem_of_getElem? (i := 5) rfl) 17 rfl
    simp only [List.take_succ_cons, List.take_zero, List.drop_succ_cons, List.drop_zero, putAll, List.setIfInBounds_toArray, List.set_cons_zero, List.set_cons_succ]
    rw [e17]
    generalize F 15 = s15 at v15 ⊢
    refine wpList_append_own_at _ rfl _ _ 97 rfl W.heap.size 71 i _ 2 16 Tryd.underlying97 hi hz hs2 hby rfl (by decide) s15 (1 + l.length) (askCells (x :: l)) rfl v15 ⟨b17, 0, none⟩ 1 1 (askCells [y]) rfl (by rw [len_askCells]; rfl) (ask_cells hb17) (askCells_one _) (by unfold maxLen; omega) (by omega) hB.size ?_
    intro v' w1 hown' hgrow _ _
    have hb1 : Below W.heap.size W w1 := hB.grown hgrow hB.size (fun k hk => (World.ownsRow.lt v15 k hk).1)
    have hb2 : Below w.heap.size w w1 := HR.out.below.trans (hb1.mono HR.out.below.size)
    rcases hown'.2 with ⟨_, h0⟩ | ⟨g', cap, cur, rfl, _, hg', _, _, _, hcur⟩
    · omega
    have hlen : (x :: l ++ [y]).length = 1 + l.length + 1 := by simp; omega
    have CK := check_any w1 g' cap (x :: l ++ [y]) cur 71 (by simp; omega) hg' (by rw [hlen, Nat.mul_comm, hcur]; simp [askCells]) (by
      intro z hz
      simp only [List.cons_append, List.mem_cons, List.mem_append, List.not_mem_nil, or_false] at hz
      rcases hz with rfl | hz | rfl
      · exact hxo.below hb1
      · exact (hlo z hz).below hb1
      · exact hyo.below hb1)
    rw [hlen, hE] at CK
    have HCK := Lib.hid CK
    have HB2 := Lib.hid hb2
    clear CK hb2 hb1 hgrow hown' hg' hcur v15 hV hB hb17 hE hxo hyo hlo hsW
    simp only [Act.put, List.setIfInBounds_toArray, List.set_cons_zero, List.set_cons_succ]
    go_wp2_with (go_at_call 39; refine (HCK.out).mono ?_; rintro e w2 ⟨rfl, hb⟩)
    go_ret
    exact ⟨rfl, HB2.out.trans (hb.mono HB2.out.size)⟩
end Go.Proofs.YtnphgaiiiiknpaaDoor
namespace Go.Proofs.YtnphgaiiiiknpaaDoor
open Go.RowKit
set_option linter.unusedSimpArgs false
set_option linter.unusedVariables false
set_option maxRecDepth 100000
theorem infoPutZ : (Tryd.prog.info? 47).map (fun i => i.zero) = some (some (.agg (putV 0 zeroBlk))) := by kernel_rfl
theorem placesPut : ((Tryd.prog.fieldsOf 47).toList.mapM (fun f => (Tryd.prog.info? f.type).map fun i => (f.offset, i.size))) = some [(0, 1), (1, 256)] := by kernel_rfl
theorem structPut : Tryd.prog.underlying 47 = some (.struct (Tryd.prog.fieldsOf 47)) := by kernel_rfl
theorem fill_step (place : Nat → Option (Nat × Nat)) (cells : Array Value) (i : Nat) (v : Value) (rest : List (Nat × Value)) (off : Nat) (hp : place i = some (off, v.cells.size)) (hle : off + v.cells.size ≤ cells.size) :
    Instr.fill place cells ((i, v) :: rest) = Instr.fill place ((v.cells.toList.zipIdx 0).foldl (fun cs (x : Value × Nat) => cs.setIfInBounds (off + x.2) x.1) cells) rest := by
  rw [Instr.fill]
  simp only [hp]
  rw [if_neg (by simp; omega)]
  congr 1
  rw [← Array.foldl_toList, Array.toList_zipIdx]
theorem fill_two (z : Array Value) (hz : z.size = 257) (v : Value) (b : Array Value) (hv : v.cells = #[v]) (hb : b.size = 256) :
    Instr.fill ([(0, 1), (1, 256)].toArray[·]?) z [(0, v), (1, .agg b)] = some (v :: b.toList).toArray := by
  have f1 := Great.foldl_set 0 v.cells.toList 0 z
  have f2 := Great.foldl_set 1 b.toList 0 ((v.cells.toList.zipIdx 0).foldl (fun cs (x : Value × Nat) => cs.setIfInBounds (0 + x.2) x.1) z)
  rw [fill_step _ z 0 v _ 0 (by rw [hv]; rfl) (by rw [hv]; simp; omega)]
  rw [fill_step _ _ 1 (.agg b) _ 1 (by simp [Value.cells, hb]) (by rw [f1.1]; simp [Value.cells, hb, hz])]
  rw [Instr.fill]
  congr 1
  apply Array.ext_getElem?
  intro k
  show ((b.toList.zipIdx 0).foldl (fun cs (x : Value × Nat) => cs.setIfInBounds (1 + x.2) x.1) ((v.cells.toList.zipIdx 0).foldl (fun cs (x : Value × Nat) => cs.setIfInBounds (0 + x.2) x.1) z))[k]? = _
  rw [f2.2 k, f1.2 k, f1.1, hz]
  have hbl : b.toList.length = 256 := by simp [hb]
  rw [hbl, hv]
  cases k with
  | zero => simp
  | succ k =>
    by_cases hk : k < 256
    · rw [if_pos (by omega)]
      simp
    · rw [if_neg (by omega), if_neg (by simp)]
      rw [Array.getElem?_eq_none (by omega)]
      simp; omega
theorem builtPut (a : Nat) (b : List UInt8) (hb : b.length = 256) : Tryd.prog.built 47 [(0, .int .u32 (a : Int)), (1, .agg (blk b))] = some (putV a b) := by
  unfold Program.built
  obtain ⟨i, hi, hz⟩ := Option.map_eq_some_iff.1 infoPutZ
  rw [hi, structPut]
  simp only [hz, placesPut]
  show Instr.fill ([(0, 1), (1, 256)].toArray[·]?) (putV 0 zeroBlk) [(0, .int .u32 (a : Int)), (1, .agg (blk b))] = _
  rw [fill_two _ (size_putV 0 zeroBlk length_zeroBlk) _ _ rfl (by rw [size_blk, hb])]
  simp [putV, blk]
theorem Tryd.infoPut : (Tryd.prog.info? 47).map (fun i => (i.zero, i.size, i.bytes)) = some (some (.agg (putV 0 zeroBlk)), 257, 260) := by kernel_rfl
section
variable {P : Program} {Q : Exit → Act → World → Prop} {K : Act → World → Prop} {o : Oper} {a : Act} {w : World}
theorem wp_move (x : Operand) (v : Value) (ho : o.op = .move x) (hx : a.eval x = v) (h : K (a.put o.dst v) w) : o.wp P a w K Q :=
  wp_value v (by unfold execOp; rw [ho, ← hx]; rfl) h
theorem wp_nilcheck (x : Operand) (ad : Addr) (ho : o.op = .nilCheck x) (hx : a.eval x = .pointer (some ad)) (h : K (a.put o.dst (.pointer (some ad))) w) : o.wp P a w K Q :=
  wp_value _ (by unfold execOp; simp [ho, hx]) h
theorem wp_field (T : TypeId) (i : Nat) (ft : TypeId) (off sz : Nat) (x : Operand) (g k : Nat) (ho : o.op = .fieldAddr T x i) (hT : P.underlying T = some (.struct (P.fieldsOf T)))
    (hF : ((P.fieldsOf T)[i]?).map (fun f => (f.type, f.offset)) = some (ft, off)) (hs : (P.info? ft).map (·.size) = some (sz + 1)) (hx : a.eval x = .pointer (some ⟨g, k, none⟩)) (h : K (a.put o.dst (.pointer (some ⟨g, k + off, none⟩))) w) : o.wp P a w K Q :=
  wp_value _ (by
    obtain ⟨f, hf, hf1⟩ := Option.map_eq_some_iff.1 hF
    simp only [Prod.mk.injEq] at hf1
    obtain ⟨q, hq, hq1⟩ := Option.map_eq_some_iff.1 hs
    unfold execOp
    simp [ho, hx, Instr.fieldAt, run_underlying hT, hf, Instr.sureAddr, fieldPlace, sizeOf, typeInfo, hf1.1, hq, hq1, hf1.2, Addr.add_lit]) h
end
theorem Only.trans' {F G : List Nat} {a b c : World} (h : Only F a b) (h' : Only G b c) (hG : ∀ x ∈ G, x < a.heap.size → x ∈ F) : Only F a c :=
  ⟨h'.os.trans h.os, h'.tape.trans h.tape, h'.output.trans h.output, Nat.le_trans h.size h'.size, fun k hk hF => (h'.block k (Nat.lt_of_lt_of_le hk h.size) (fun hg => hF (hG k hg hk))).trans (h.block k hk hF)⟩
theorem Only.turns {F G : List Nat} {w w1 w2 : World} {y : Thing} (h1 : Only F w w1) (hG : ∀ b ∈ G, b ∈ F ∨ w.heap.size ≤ b) (h2 : Turns G w1 w2 y) : Turns F w w2 y := by
  obtain ⟨H, e1, e2, e3, e4⟩ := h2
  refine ⟨H, e1, ?_, ?_, e4⟩
  · refine h1.trans' e2 ?_
    intro b hb hlt
    rcases hG b hb with h | h
    · exact h
    · omega
  · intro b hb
    rcases e3 b hb with h | h
    · exact hG b h
    · exact .inr (Nat.le_trans h1.size h)
theorem dv_same {F : List Nat} {w w' : World} {g : Nat} {s : Dv} (h : (dvT g s).says F w) (hn : F.Nodup) (hb : Below w.heap.size w w') : Turns F w w' (dvT g s) :=
  ⟨F, (dvT g s).loc F w w' (fun b hb' => hb.block b ((dvT g s).lt F w h b hb')) h, Only.of_below hb, fun b hb => .inl hb, hn⟩
end Go.Proofs.YtnphgaiiiiknpaaDoor
namespace Go.Proofs.YtnphgaiiiiknpaaDoor
open Go.RowKit
set_option linter.unusedSimpArgs false
set_option linter.unusedVariables false
set_option maxRecDepth 100000
theorem upE_far (s : Dv) (x : Ask) (a : Nat) (h2 : x.e = 2) (hr : x.r = decide (s.size ≤ a)) : upE s [x] = if s.size ≤ a then 2 else if s.down then 30 else 0 := by
  unfold upE
  by_cases h : s.size ≤ a
  · simp [hr, h, h2]
  · simp [hr, h]
/-- The slots of Write's region. -/
def wrV (g a : Nat) (b : List UInt8) (pv : Value) (xs : List Value) (n base : Nat) (t : Tmp) (v : Value) (w : World) : Prop :=
  match t with
  | 17 => v = .pointer (some ⟨g, 0, none⟩)
  | 18 => v = .pointer (some ⟨g, 0, none⟩)
  | 19 => v = .pointer (some ⟨g, 0, none⟩)
  | 20 => v = .pointer (some ⟨g, 2, none⟩)
  | 21 => v = pv
  | 22 => v = .int .u32 (a : Int)
  | 23 => v = .agg (blk b)
  | 24 => v = .agg (putV a b)
  | 25 => ∃ b', v = .slice (some ⟨b', 0, none⟩) 1 1 ∧ w.heap[b']? = some (.cells (putV a b) 47 (0, 0)) ∧ base ≤ b'
  | 26 => w.ownsRow 0 47 257 v (n + 1) (xs ++ (putV a b).toList) ∧ (v.ownBlock = pv.ownBlock ∨ ∃ k, base ≤ k ∧ v.ownBlock = some k)
  | _ => True
def wrSt (pv : Value) (i : Nat) (w w' : World) : Prop := if i = 9 then Only pv.ownBlock.toList w w' else Below w.heap.size w w'
theorem wrV_stab (g a : Nat) (b : List UInt8) (pv : Value) (xs : List Value) (n base : Nat) (hpv : ∀ k, pv.ownBlock = some k → k < base) (i : Nat) (t : Tmp) (v : Value) (w w' : World) (h26 : i = 9 → t ≠ 26) (h : wrV g a b pv xs n base t v w) (hs : wrSt pv i w w') : wrV g a b pv xs n base t v w' := by
  have ho : Only pv.ownBlock.toList w w' := by
    unfold wrSt at hs
    split at hs
    · exact hs
    · exact Only.of_below hs
  unfold wrV at h ⊢
  split at h
  all_goals first | exact h | skip
  · obtain ⟨b', h1, h2, h3⟩ := h
    refine ⟨b', h1, (ho.block b' (Array.getElem?_eq_some_iff.1 h2).1 (fun hm => ?_)).trans h2, h3⟩
    have := hpv b' (by simpa using hm)
    omega
  · have hi : ¬ i = 9 := fun e => h26 e rfl
    unfold wrSt at hs
    rw [if_neg hi] at hs
    exact ⟨ownsRow_below h.1 hs, h.2⟩
set_option maxHeartbeats 4000000 in
theorem write_dev {F : List Nat} {w : World} {g : Nat} {s : Dv} (h : (dvT g s).says F w) (hn : F.Nodup) (hlen : s.pend.length < 100000) (a : Nat) (b : List UInt8) (ha : a < 4294967296) (hb : b.length = 256) :
    Calls Tryd.prog 18 #[.pointer (some ⟨g, 0, none⟩), .int .u32 (a : Int), .agg (blk b)] w fun e w' => e = .returned (.int .i64 (s.write a b).2) ∧ Turns F w w' (dvT g (s.write a b).1) := by
  have H := Lib.hid h
  have HN := Lib.hid hn
  have HB := Lib.hid hb
  have HA := Lib.hid ha
  have HLN := Lib.hid hlen
  clear h hn hb ha hlen
  obtain ⟨i, hi, hz, hs2, hby⟩ := info_parts Tryd.infoAsk
  have hI := Lib.hid hi
  have hZ := Lib.hid hz
  clear hi hz
  obtain ⟨W0, hW0⟩ : ∃ W, W = w.alloc (.cells (blk b) 45) := ⟨_, rfl⟩
  have hb0 : Below w.heap.size w W0 := by rw [hW0]; exact (Below.refl _ _).alloc (Nat.le_refl _) _
  obtain ⟨bb, hbb⟩ : ∃ b, b = w.heap.size := ⟨_, rfl⟩
  have HBB : Hid (W0.heap[bb]? = some (.cells (blk b) 45 (0, 0))) := Lib.hid (by rw [hW0, hbb]; exact heap_alloc_new _ _)
  have HB0 := Lib.hid hb0
  have HAT : Hid ((dvT g s).at w) := Lib.hid ⟨F, H.out⟩
  have hcase : (∃ E : Int, E ≠ 0 ∧ (∀ x : Ask, x.e = 2 → x.r = decide (s.size ≤ a) → upE s [x] = E) ∧ s.write a b = (s, E)) ∨ ((∀ x : Ask, x.e = 2 → x.r = decide (s.size ≤ a) → upE s [x] = 0) ∧ s.write a b = Dv.burn { s with pend := s.pend ++ [(a, b)] }) := by
    by_cases h1 : s.size ≤ a
    · exact .inl ⟨2, by decide, fun x e1 e2 => by rw [upE_far s x a e1 e2, if_pos h1], by unfold Dv.write; rw [if_pos h1]⟩
    · cases h2 : s.down with
      | true => exact .inl ⟨30, by decide, fun x e1 e2 => by rw [upE_far s x a e1 e2, if_neg h1, h2, if_pos rfl], by unfold Dv.write; rw [if_neg h1, h2, if_pos rfl]⟩
      | false => exact .inr ⟨fun x e1 e2 => by rw [upE_far s x a e1 e2, if_neg h1, h2, if_neg (by decide)], by unfold Dv.write; rw [if_neg h1, h2, if_neg (by decide)]⟩
  rcases hcase with ⟨E, hE0, hE, hwr⟩ | ⟨hE, hwr⟩
  · have HE := Lib.hid hE
    have hne : (E != 0) = true := by simpa using hE0
    have HWR := Lib.hid hwr
    clear hE hE0 hwr
    go_enter Tryd.func18, Tryd.ntmps18
    go_upto_region 1 with (fail)
    rw [← hW0, ← hbb]
    clear hW0 hb0 hbb
    go_wp2_with (first
      | (go_at_call 40; refine (far_dev (HAT.out.since HB0.out) a).mono ?_; rintro e w1 ⟨x, rfl, hxo, hxe, hxr, hb1⟩; have HXO := Lib.hid hxo; have HXE := Lib.hid hxe; have HXR := Lib.hid hxr; have HB1 := Lib.hid hb1; clear hxo hxe hxr hb1)
      | refine wpList_plain rfl fun K hK' => wp_build_one 97 71 _ rfl (askV x) rfl i _ Tryd.underlying97 hI.out hZ.out (by rw [hs2]; rfl) (by omega) (by omega) (hK' _ _ ?_)
      | (go_at_call 28; refine (up_dev (HAT.out.since (HB0.out.trans ((HB1.out.trans ((Below.refl _ _).alloc HB1.out.size _)).mono HB0.out.size))) _ [x] (by simp) (.one _ 1 x (heap_alloc_new _ _)) (by intro z hz; simp at hz; subst hz; exact HXO.out.below ((Below.refl _ _).alloc (Nat.le_refl _) _))).mono ?_; rintro e w2 ⟨rfl, hb2⟩; have HB2 := Lib.hid hb2; clear hb2; rw [HE.out x HXE.out HXR.out]))
    go_ret
    rw [HWR.out]
    exact ⟨rfl, dv_same H.out HN.out (HB0.out.trans ((HB1.out.trans (((Below.refl _ _).alloc HB1.out.size _).trans (HB2.out.mono (by have := HB1.out.size; simp; omega)))).mono HB0.out.size))⟩
  · have HE := Lib.hid hE
    have HWR := Lib.hid hwr
    clear hE hwr
    go_enter Tryd.func18, Tryd.ntmps18
    go_upto_region 1 with (fail)
    rw [← hW0, ← hbb]
    have HBE := Lib.hid hbb
    clear hW0 hb0 hbb
    go_upto_region 4 with (first
      | (go_at_call 40; refine (far_dev (HAT.out.since HB0.out) a).mono ?_; rintro e w1 ⟨x, rfl, hxo, hxe, hxr, hb1⟩; have HXO := Lib.hid hxo; have HXE := Lib.hid hxe; have HXR := Lib.hid hxr; have HB1 := Lib.hid hb1; clear hxo hxe hxr hb1)
      | refine wpList_plain rfl fun K hK' => wp_build_one 97 71 _ rfl (askV x) rfl i _ Tryd.underlying97 hI.out hZ.out (by rw [hs2]; rfl) (by omega) (by omega) (hK' _ _ ?_)
      | (go_at_call 28; refine (up_dev (HAT.out.since (HB0.out.trans ((HB1.out.trans ((Below.refl _ _).alloc HB1.out.size _)).mono HB0.out.size))) _ [x] (by simp) (.one _ 1 x (heap_alloc_new _ _)) (by intro z hz; simp at hz; subst hz; exact HXO.out.below ((Below.refl _ _).alloc (Nat.le_refl _) _))).mono ?_; rintro e w2 ⟨rfl, hb2⟩; have HB2 := Lib.hid hb2; clear hb2; rw [HE.out x HXE.out HXR.out]))
    have HBW : Hid (Below W0.heap.size W0 w2) := Lib.hid (HB1.out.trans (((Below.refl _ _).alloc HB1.out.size _).trans (HB2.out.mono (by have := HB1.out.size; simp; omega))))
    have hbw2 : Below w.heap.size w w2 := HB0.out.trans (HBW.out.mono HB0.out.size)
    obtain ⟨gm, pv, fv, hF, hV⟩ := H.out
    have HV2 := Lib.hid (hV.below hbw2)
    have HBB2 := Lib.hid ((HBW.out.block bb (Array.getElem?_eq_some_iff.1 HBB.out).1).trans HBB.out)
    have HBW2 := Lib.hid hbw2
    have hap := dv_apart (hF ▸ HN.out)
    have HAP := Lib.hid hap
    have HF := Lib.hid hF
    have hpw : ∀ k, pv.ownBlock = some k → k < w.heap.size := fun k hk => (World.ownsRow.lt hV.pend k hk).2
    clear HB1 HB2 HXO HXE HXR HE hap hF hV hbw2 hI hZ hs2 hby
    obtain ⟨i, hi, hz, hs2, hby⟩ := info_parts Tryd.infoPut
    have hpb : ∀ k, pv.ownBlock = some k → k < w2.heap.size := fun k hk => (World.ownsRow.lt HV2.out.pend k hk).2
    have h2 : w2.cell? ⟨g, 2, none⟩ = some pv := cell_of_row w2 g 2 _ _ _ HV2.out.row
    refine wp_region_flowG (by kernel_rfl) 10 (wrV g a b pv (putCells s.pend) s.pend.length w2.heap.size) (fun lst x => if lst 9 = true then Only pv.ownBlock.toList w2 x else Below w2.heap.size w2 x) (wrSt pv) (fun j o t v lst x y ho hd _ _ hv hst => wrV_stab _ _ _ _ _ _ _ hpb j t v x y ?_ hv hst) (fun j lst x y hj hx hst => ?_) ((Below.refl _ _).drew) (by kernel_rfl) (by kernel_rfl) (by kernel_rfl) (by kernel_rfl) ?heads ?tail
    · rintro rfl rfl
      simp at ho
      subst ho
      exact hd rfl
    · unfold wrSt at hst
      by_cases h9 : j = 9
      · subst h9
        rw [if_pos rfl] at hst
        rw [if_pos (by simp)]
        rw [if_neg (by rw [hj]; simp)] at hx
        exact (Only.of_below hx).trans hst
      · rw [if_neg h9] at hst
        have e9 : (fun k => if k = j then true else lst k) 9 = lst 9 := if_neg (fun e => h9 e.symm)
        show (if (fun k => if k = j then true else lst k) 9 = true then _ else _)
        rw [e9]
        split at hx
        · rename_i h; rw [if_pos h]; exact hx.trans (Only.of_below hst)
        · rename_i h; rw [if_neg h]; exact hx.trans (hst.mono hx.size)
    case heads =>
      have hBO : ∀ (lst : Nat → Bool) (v : World), (if lst 9 = true then Only pv.ownBlock.toList w2 v else Below w2.heap.size w2 v) → Only pv.ownBlock.toList w2 v := fun lst v h => by split at h; exact h; exact Only.of_below h
      have hn9 : ∀ j x y, j ≠ 9 → Below x.heap.size x y → wrSt pv j x y := fun j x y hj hb => by unfold wrSt; rw [if_neg hj]; exact hb
      refine ⟨.inr ⟨rfl, 17, rfl, fun lst a1 v hls hB' hO hD K hK => ?_⟩, .inr ⟨rfl, 18, rfl, fun lst a1 v hls hB' hO hD K hK => ?_⟩, .inr ⟨rfl, 19, rfl, fun lst a1 v hls hB' hO hD K hK => ?_⟩, .inr ⟨rfl, 20, rfl, fun lst a1 v hls hB' hO hD K hK => ?_⟩, .inr ⟨rfl, 21, rfl, fun lst a1 v hls hB' hO hD K hK => ?_⟩, .inr ⟨rfl, 22, rfl, fun lst a1 v hls hB' hO hD K hK => ?_⟩, .inr ⟨rfl, 23, rfl, fun lst a1 v hls hB' hO hD K hK => ?_⟩, .inr ⟨rfl, 24, rfl, fun lst a1 v hls hB' hO hD K hK => ?_⟩, .inr ⟨rfl, 25, rfl, fun lst a1 v hls hB' hO hD K hK => ?_⟩, .inr ⟨rfl, 26, rfl, fun lst a1 v hls hB' hO hD K hK => ?_⟩, .inl (by decide), .inl (by decide), .inl (by decide), trivial⟩
      · have hB := hBO _ _ hB'
        exact wp_move _ _ rfl (eval_of (t := 0) (by rw [hO 0 (not_dst 0 (by kernel_rfl))]; rfl)) (hK _ _ rfl (hn9 _ _ _ (by decide) (Below.refl _ _)))
      · have hB := hBO _ _ hB'
        exact wp_move _ _ rfl (eval_of (t := 0) (by rw [hO 0 (not_dst 0 (by kernel_rfl))]; rfl)) (hK _ _ rfl (hn9 _ _ _ (by decide) (Below.refl _ _)))
      · have hB := hBO _ _ hB'
        obtain ⟨u, hu, hv⟩ := flow_of hD 1 (by kernel_rfl) 18 (by kernel_rfl)
        exact wp_nilcheck _ _ rfl (hu.trans hv) (hK _ _ rfl (hn9 _ _ _ (by decide) (Below.refl _ _)))
      · have hB := hBO _ _ hB'
        obtain ⟨u, hu, hv⟩ := flow_of hD 2 (by kernel_rfl) 19 (by kernel_rfl)
        exact wp_field 65 2 35 2 0 _ g 0 rfl (by kernel_rfl) (by kernel_rfl) (by kernel_rfl) (hu.trans hv) (hK _ _ rfl (hn9 _ _ _ (by decide) (Below.refl _ _)))
      · have hB := hBO _ _ hB'
        obtain ⟨u, hu, hv⟩ := flow_of hD 3 (by kernel_rfl) 20 (by kernel_rfl)
        have hr : v.heap[g]? = w2.heap[g]? := hB.block g (Array.getElem?_eq_some_iff.1 HV2.out.row).1 (fun hm => (HAP.out.pend g (by simpa using hm)).1 rfl)
        exact wp_load_cell 35 _ ⟨g, 2, none⟩ pv _ rfl rfl (hu.trans hv) ((World.cell?_of_block (w := w2) hr).trans h2) Tryd.underlying35 (hK _ _ rfl (hn9 _ _ _ (by decide) (Below.refl _ _)))
      · have hB := hBO _ _ hB'
        exact wp_move _ _ rfl (eval_of (t := 1) (by rw [hO 1 (not_dst 1 (by kernel_rfl))]; rfl)) (hK _ _ rfl (hn9 _ _ _ (by decide) (Below.refl _ _)))
      · have hB := hBO _ _ hB'
        have hne : bb ∉ pv.ownBlock.toList := by
          intro hm
          have h1 := hpw bb (by simpa using hm)
          have h2 := HBE.out
          omega
        refine wp_load_all 45 _ bb 45 (blk b) (0, 0) _ rfl (eval_of (t := 5) (by rw [hO 5 (not_dst 5 (by kernel_rfl))]; rfl)) ((hB.block bb (Array.getElem?_eq_some_iff.1 HBB2.out).1 hne).trans HBB2.out) Tryd.underlying45 rfl (by rw [size_blk, HB.out]; exact sizeB) (hK _ _ rfl (hn9 _ _ _ (by decide) (Below.refl _ _)))
      · have hB := hBO _ _ hB'
        obtain ⟨u, hu, hv⟩ := flow_of hD 5 (by kernel_rfl) 22 (by kernel_rfl)
        obtain ⟨u', hu', hv'⟩ := flow_of hD 6 (by kernel_rfl) 23 (by kernel_rfl)
        refine wp_built 47 _ [(0, .int .u32 (a : Int)), (1, .agg (blk b))] (putV a b) rfl ?_ (builtPut a b HB.out) (hK _ _ rfl (hn9 _ _ _ (by decide) (Below.refl _ _)))
        simp only [List.map_toArray, List.map_cons, List.map_nil, hu.trans hv, hu'.trans hv']
      · have hB := hBO _ _ hB'
        obtain ⟨u, hu, hv⟩ := flow_of hD 7 (by kernel_rfl) 24 (by kernel_rfl)
        refine wp_build_one 35 47 _ rfl (putV a b) (hu.trans hv) i _ Tryd.underlying35 hi hz (by rw [hs2, size_putV a b HB.out]) (by omega) (by omega) (hK _ _ ⟨_, rfl, heap_alloc_new _ _, hB.size⟩ (hn9 _ _ _ (by decide) ((Below.refl _ _).alloc (Nat.le_refl _) _)))
      · have hB := hBO _ _ hB'
        obtain ⟨u, hu, hv⟩ := flow_of hD 4 (by kernel_rfl) 21 (by kernel_rfl)
        obtain ⟨u', hu', b', rfl, hb', hbb'⟩ := flow_of hD 8 (by kernel_rfl) 25 (by kernel_rfl)
        rw [if_neg (by rw [hls]; simp)] at hB'
        have hown := ownsRow_below HV2.out.pend hB'
        have hcell : ∀ (j : Nat) u, (putV a b).toList[j]? = some u → v.cell? ((⟨b', 0, none⟩ : Addr).add j) = some u := by
          intro j u hj
          rw [Addr.add_lit, Nat.zero_add, cell_of_row v b' j _ _ _ hb']
          simpa using hj
        have hln := HLN.out
        obtain ⟨v', w', hr, h2', h3', h4', h5'⟩ := run_append_own_at (P := Tryd.prog) v 0 35 35 47 i _ 257 260 Tryd.underlying35 hi hz hs2 hby (size_putV 0 zeroBlk length_zeroBlk) (by decide) pv s.pend.length (putCells s.pend) hown ⟨b', 0, none⟩ 1 1 (putV a b).toList (by simp [size_putV a b HB.out]) hcell (fun u hu => by
          have := putV_one a b
          rw [Array.all_eq_true_iff_forall_mem] at this
          exact this u (by simpa using hu)) (by unfold maxLen; omega) (by omega) (Nat.zero_le _)
        refine wp_append_run _ _ 35 rfl _ _ v' (hu.trans hv) hu' hr (hK _ _ ⟨h2', ?_⟩ (by unfold wrSt; rw [if_pos rfl]; exact Only.of_grown h3' (fun k hk => by simp [hk])))
        rcases h5' with h | h
        · exact .inl h
        · exact .inr ⟨_, hB.size, h⟩
    case tail =>
      intro Fv v hV hB
      rw [if_pos (by simp)] at hB
      have v26 : v.ownsRow 0 47 257 (Fv 26) (s.pend.length + 1) (putCells s.pend ++ (putV a b).toList) ∧ ((Fv 26).ownBlock = pv.ownBlock ∨ ∃ k, w2.heap.size ≤ k ∧ (Fv 26).ownBlock = some k) := hV _ (List.mem_of_getElem? (i := 9) rfl) 26 rfl
      have v17 : Fv 17 = .pointer (some ⟨g, 0, none⟩) := hV _ (List.mem_of_getElem? (i := 0) rfl) 17 rfl
      simp only [List.take_succ_cons, List.take_zero, List.drop_succ_cons, List.drop_zero, putAll, List.setIfInBounds_toArray, List.set_cons_zero, List.set_cons_succ]
      rw [v17]
      generalize Fv 26 = s26 at v26 ⊢
      clear hV v17
      have hlt := HV2.out.lt
      have hne : ∀ k ∈ dvFoot g gm pv fv, pv.ownBlock ≠ some k → v.heap[k]? = w2.heap[k]? := fun k hk hnk => hB.block k (hlt k hk) (fun hm => hnk (by simpa using hm))
      have hrow := (hne g (by simp [dvFoot]) (fun e => (HAP.out.pend g e).1 rfl)).trans HV2.out.row
      have c2 : v.cell? ⟨g, 2, none⟩ = some pv := cell_of_row v g 2 _ _ _ hrow
      have f2 : v.frozen? ⟨g, 2, none⟩ = false := frozen_of_row v g 2 _ _ hrow
      have hs26 : ∀ k, s26.ownBlock = some k → k ≠ g ∧ k ≠ gm ∧ k ∉ ptrBlock fv := by
        intro k hk
        rcases v26.2 with h | ⟨k', hk', h⟩
        · rw [hk] at h
          refine ⟨(HAP.out.pend k h.symm).1, (HAP.out.pend k h.symm).2, fun hm => (HAP.out.fuse k hm).2.2 h.symm⟩
        · rw [hk] at h
          cases h
          refine ⟨fun e => ?_, fun e => ?_, fun hm => ?_⟩
          · have := hlt g (by simp [dvFoot]); omega
          · have := hlt gm (by simp [dvFoot]); omega
          · have := hlt k (by simp [dvFoot, hm]); omega
      have hap3 : DvApart g gm s26 fv := ⟨HAP.out.map, fun k hk => ⟨(hs26 k hk).1, (hs26 k hk).2.1⟩, fun k hk => ⟨(HAP.out.fuse k hk).1, (HAP.out.fuse k hk).2.1, fun e => (hs26 k e).2.2 hk⟩⟩
      have hV3 : DvV (v.setCell ⟨g, 2, none⟩ s26) g gm s26 fv { s with pend := s.pend ++ [(a, b)] } := by
        have ho : ∀ k, k ≠ g → (v.setCell ⟨g, 2, none⟩ s26).heap[k]? = v.heap[k]? := fun k hk => heap_setCell_other _ _ _ _ hk
        refine ⟨?_, ?_, ?_, ?_, HV2.out.ok.more a b HA.out HB.out⟩
        · have := heap_setCell_same v g 2 _ _ s26 hrow
          rw [this]
          simp [dvCells]
        · refine HV2.out.good.kept ((ho gm HAP.out.map).trans (hne gm (by simp [dvFoot]) (fun e => (HAP.out.pend gm e).2 rfl)))
        · have h1 := ownsRow_same v26.1 (fun k hk => ho k (hs26 k hk).1)
          rw [putCells_snoc, List.length_append]
          simpa [putV] using h1
        · have hfu := HV2.out.fuse
          show fuseAt _ fv s.fuse
          unfold fuseAt at hfu ⊢
          split at hfu
          · exact hfu
          · obtain ⟨gf, rfl, hgf⟩ := hfu
            have hh := HAP.out.fuse gf (by simp [ptrBlock])
            exact ⟨gf, rfl, ((ho gf hh.1).trans (hne gf (by simp [dvFoot, ptrBlock]) hh.2.2)).trans hgf⟩
      have hO3 : Only F w (v.setCell ⟨g, 2, none⟩ s26) := by
        refine (((Only.of_below HBW2.out).trans' hB ?_).setCell (.inl (by rw [HF.out]; simp [dvFoot])) _)
        intro k hk _
        rw [HF.out]
        simp only [dvFoot, List.mem_cons, List.mem_append]
        exact .inr (.inr (.inl hk))
      have hG3 : ∀ k ∈ dvFoot g gm s26 fv, k ∈ F ∨ w.heap.size ≤ k := by
        intro k hk
        rw [HF.out]
        simp only [dvFoot, List.mem_cons, List.mem_append] at hk ⊢
        rcases hk with h | h | h | h
        · exact .inl (.inl h)
        · exact .inl (.inr (.inl h))
        · rcases v26.2 with h' | ⟨k', hk', h'⟩
          · exact .inl (.inr (.inr (.inl (by rw [← h']; exact h))))
          · have : s26.ownBlock = some k := by simpa using h
            rw [h'] at this
            cases this
            exact .inr (Nat.le_trans HBW2.out.size hk')
        · exact .inl (.inr (.inr (.inr h)))
      obtain ⟨A', c', hs26e⟩ := own_len v26.1
      have HBURN := Lib.hid (burn_dev (F := dvFoot g gm s26 fv) (w := v.setCell ⟨g, 2, none⟩ s26) (g := g) (s := { s with pend := s.pend ++ [(a, b)] }) ⟨gm, s26, fv, rfl, hV3⟩ (dv_foot hap3))
      have HO3 := Lib.hid hO3
      have HG3 := Lib.hid hG3
      clear hV3 hO3 hG3 hap3 hs26 hne hlt hrow v26 hB h2
      subst hs26e
      go_wp2_with (go_at_call 43; refine (HBURN.out).mono ?_; rintro e w4 ⟨rfl, ht⟩)
      go_ret
      rw [HWR.out]
      exact ⟨rfl, HO3.out.turns HG3.out ht⟩
end Go.Proofs.YtnphgaiiiiknpaaDoor
