/- The device layer: put has a block be for good. -/
import Derived.Test.YtnbdnnlomgjlmaaDev2
import Derived.Test.YtnbdnnlomgjlmaaStructEq
import Derived.Test.YtnbdnnlomgjlmaaKeep
import Derived.Test.YtnbdnnlomgjlmaaPair
namespace Go.Proofs.Ytnbdnnlomgjlmaa
open Go.RowKit
set_option linter.unusedSimpArgs false
set_option linter.unusedVariables false
set_option maxRecDepth 100000
def putV (a : Nat) (b : List UInt8) : Array Value := (Value.int .u32 (a : Int) :: b.map vu8).toArray
theorem size_putV (a : Nat) (b : List UInt8) (hb : b.length = 256) : (putV a b).size = 257 := by simp [putV, hb]
theorem sizePut : (Try.prog.info? 114).map (·.size) = some 257 := by kernel_rfl
theorem zeroPut : (Try.prog.info? 114).bind (·.zero) = some (.agg (putV 0 zeroBlk)) := by kernel_rfl
theorem putV_one (a : Nat) (b : List UInt8) : (putV a b).all (·.oneCell') = true := by
  rw [Array.all_eq_true_iff_forall_mem]
  intro v hv
  simp only [putV, List.mem_toArray, List.mem_cons, List.mem_map] at hv
  rcases hv with rfl | ⟨i, _, rfl⟩ <;> rfl
theorem putV_range {w : World} {g : Nat} {a : Nat} {b : List UInt8} {T : TypeId} (h : w.heap[g]? = some (.cells (putV a b) T (0, 0))) : w.rangeAt g 1 (blk b).toList := by
  intro j v hv
  rw [cell_of_row w g _ _ _ _ h]
  simp only [putV, blk, List.getElem?_toArray] at hv ⊢
  rw [Nat.add_comm, List.getElem?_cons_succ]
  exact hv
section
variable {w : World} {g : Nat} {s : Dv}
theorem eqlBlk (w : World) (x y : List UInt8) (hx : x.length = 256) (hy : y.length = 256) : (binOp .eql 23 (.agg (blk x)) (.agg (blk y))).run Try.prog w = .ok (.bool (decide (x = y))) w :=
  run_eql_blk w 23 5 256 Try.underlying23 Try.underlying5 sizeU8 x y hx hy
/-- A map's block is written. -/
theorem dv_map {F : List Nat} {gm : Nat} {pv fv : Value} {w w' : World} (h : DvV w g gm pv fv s) (hF : F = dvFoot g gm pv fv) (hn : F.Nodup) (f : Nat → List UInt8) (hm : MapAt w' gm f) (hf : ∀ a, (f a).length = 256) (hg : w.grownBy w' (some gm)) :
    DvV w' g gm pv fv { s with good := f } := by
  subst hF
  have hap := dv_apart hn
  have hb : ∀ b, b < w.heap.size → b ≠ gm → w'.heap[b]? = w.heap[b]? := fun b hb hne => hg.block b hb (fun e => hne (Option.some.inj e))
  have hl := h.lt
  refine ⟨(hb g (hl g (by simp [dvFoot])) hap.map.symm).trans h.row, hm, ownsRow_same h.pend (fun b hb' => hb b (hl b (by simp [dvFoot, hb'])) (hap.pend b hb').2), ?_, ⟨h.ok.size, hf, h.ok.pend, h.ok.fuse, h.ok.writes⟩⟩
  have hfu := h.fuse
  show fuseAt w' fv s.fuse
  unfold fuseAt at hfu ⊢
  split at hfu
  · exact hfu
  · obtain ⟨gf, rfl, hgf⟩ := hfu
    exact ⟨gf, rfl, (hb gf (hl gf (by simp [dvFoot, ptrBlock])) (hap.fuse gf (by simp [ptrBlock])).2.1).trans hgf⟩
theorem wpList_store_map {ops : Array Oper} {o : Oper} {act : Act} {rest : List Oper} {w : World} {Q : Exit → Act → World → Prop} (hgd : o.guard = none) (m x v : Operand) (ho : o.op = Op.mapUpdate 105 m x v)
    (gm : Nat) (f : Nat → List UInt8) (hm : act.eval m = .map (some gm)) (hown : MapAt w gm f) (a : Nat) (ha : a < 4294967296) (b : List UInt8) (hb : b.length = 256) (hx : act.eval x = .int .u32 (a : Int)) (hv : act.eval v = .agg (blk b))
    (hK : ∀ w', MapAt w' gm (updB f a b) → w.grownBy w' (some gm) → wpList Try.prog ops Q rest (act.put o.dst undef) w') : wpList Try.prog ops Q (o :: rest) act w := by
  refine wpList_plain hgd fun K hK' => ?_
  obtain ⟨w', hrun, r1, r2⟩ := hown.store a ha b hb
  unfold Oper.wp
  simp [execOp, ho, hm, hx, hv, hrun, Result.andThen]
  exact hK' _ _ (hK w' r1 r2)
theorem wpList_drop_map {ops : Array Oper} {o : Oper} {act : Act} {rest : List Oper} {w : World} {Q : Exit → Act → World → Prop} (hgd : o.guard = none) (m x : Operand) (ho : o.op = Op.call { callee := Callee.builtin Builtin.delete, args := #[m, x], argTypes := #[105, 25] })
    (gm : Nat) (f : Nat → List UInt8) (hm : act.eval m = .map (some gm)) (hown : MapAt w gm f) (a : Nat) (ha : a < 4294967296) (hx : act.eval x = .int .u32 (a : Int))
    (hK : ∀ w', MapAt w' gm (updB f a zeroBlk) → w.grownBy w' (some gm) → wpList Try.prog ops Q rest (act.put o.dst (.tuple #[])) w') : wpList Try.prog ops Q (o :: rest) act w := by
  refine wpList_plain hgd fun K hK' => ?_
  obtain ⟨w', hrun, r1, r2⟩ := hown.drop a ha o.type
  unfold Oper.wp
  simp [execOp, ho, resolve, invoke, builtin, hm, hx, hrun, Result.andThen]
  exact hK' _ _ (hK w' r1 r2)
set_option maxHeartbeats 1000000 in
theorem put_devV {gm : Nat} {pv fv : Value} (h : DvV w g gm pv fv s) (hn : (dvFoot g gm pv fv).Nodup) (a : Nat) (b : List UInt8) (ha : a < 4294967296) (hb : b.length = 256) :
    Calls Try.prog 71 #[.pointer (some ⟨g, 0, none⟩), .agg (putV a b)] w fun e w' => e = .returned (.tuple #[]) ∧ DvV w' g gm pv fv { s with good := updB s.good a b } ∧ Only [gm] w w' := by
  obtain ⟨F, hF⟩ : ∃ F, F = dvFoot g gm pv fv := ⟨_, rfl⟩
  rw [← hF] at hn
  have H := Lib.hid h
  have HF := Lib.hid hF
  have HN := Lib.hid hn
  have HB := Lib.hid hb
  have HA := Lib.hid ha
  have HPS := Lib.hid (size_putV a b hb)
  clear h hF hn hb ha
  obtain ⟨W0, hW0⟩ : ∃ W, W = w.alloc (.cells (putV a b) 114) := ⟨_, rfl⟩
  have hb0 : Below w.heap.size w W0 := by rw [hW0]; exact (Below.refl _ _).alloc (Nat.le_refl _) _
  have HV0 := Lib.hid (H.out.below hb0)
  obtain ⟨gp, hgp⟩ : ∃ gp, gp = w.heap.size := ⟨_, rfl⟩
  have HGP : Hid (W0.heap[gp]? = some (.cells (putV a b) 114 (0, 0))) := Lib.hid (by rw [hW0, hgp]; exact heap_alloc_new _ _)
  have HGE := Lib.hid hgp
  have HB0 := Lib.hid hb0
  have h1 : W0.cell? ⟨g, 1, none⟩ = some (.map (some gm)) := cell_of_row W0 g 1 _ _ _ HV0.out.row
  have c0 : W0.cell? ⟨gp, 0, none⟩ = some (.int .u32 (a : Int)) := cell_of_row W0 gp 0 _ _ _ HGP.out
  go_enter Try.func71, Try.ntmps71
  go_upto_region 1 with (fail)
  rw [← hW0, ← hgp]
  clear hW0 hb0 hgp
  refine wk_region_tail 8 (by kernel_rfl) (by kernel_rfl) ?_
  simp only [List.take_succ_cons, List.take_zero, List.drop_succ_cons, List.drop_zero]
  repeat (first
    | (refine wk_move _ (by first | exact wanted_none rfl | exact wanted_yes _ _ rfl rfl) rfl ?_; simp only [Act.put, Act.eval, Array.getD_eq_getD_getElem?, List.getElem?_toArray, List.getElem?_cons_succ, List.getElem?_cons_zero, Option.getD_some, List.setIfInBounds_toArray, List.set_cons_zero, List.set_cons_succ])
    | (refine wk_assign _ (by first | exact wanted_none rfl | exact wanted_yes _ _ rfl rfl) rfl ?_; simp only [Act.put, Act.eval, Array.getD_eq_getD_getElem?, List.getElem?_toArray, List.getElem?_cons_succ, List.getElem?_cons_zero, Option.getD_some, List.setIfInBounds_toArray, List.set_cons_zero, List.set_cons_succ])
    | (refine wk_pickt _ _ _ _ (by first | exact wanted_none rfl | exact wanted_yes _ _ rfl rfl) rfl rfl rfl ?_; simp only [Act.put, Act.eval, Array.getD_eq_getD_getElem?, List.getElem?_toArray, List.getElem?_cons_succ, List.getElem?_cons_zero, Option.getD_some, List.setIfInBounds_toArray, List.set_cons_zero, List.set_cons_succ])
    | (refine wk_pickf _ _ _ _ (by first | exact wanted_none rfl | exact wanted_yes _ _ rfl rfl) rfl rfl rfl ?_; simp only [Act.put, Act.eval, Array.getD_eq_getD_getElem?, List.getElem?_toArray, List.getElem?_cons_succ, List.getElem?_cons_zero, Option.getD_some, List.setIfInBounds_toArray, List.set_cons_zero, List.set_cons_succ])
    | (refine wk_skip (wanted_not _ true false rfl rfl rfl) ?_; simp only [Act.put, List.setIfInBounds_toArray, List.set_cons_zero, List.set_cons_succ])
    | (refine wk_skip (wanted_not _ false true rfl rfl rfl) ?_; simp only [Act.put, List.setIfInBounds_toArray, List.set_cons_zero, List.set_cons_succ])
    | (refine wk_skip (wanted_undef _ _ rfl rfl) ?_; simp only [Act.put, List.setIfInBounds_toArray, List.set_cons_zero, List.set_cons_succ])
    | (refine wk_not true _ _ (by first | exact wanted_none rfl | exact wanted_yes _ _ rfl rfl) rfl rfl ?_; simp only [Act.put, List.setIfInBounds_toArray, List.set_cons_zero, List.set_cons_succ])
    | (refine wk_not false _ _ (by first | exact wanted_none rfl | exact wanted_yes _ _ rfl rfl) rfl rfl ?_; simp only [Act.put, List.setIfInBounds_toArray, List.set_cons_zero, List.set_cons_succ]))
  refine wk_nilcheck _ _ (by first | exact wanted_none rfl | exact wanted_yes _ _ rfl rfl) rfl rfl ?_
  simp only [Act.put, List.setIfInBounds_toArray, List.set_cons_zero, List.set_cons_succ]
  refine wk_field 108 _ 105 1 0 _ _ _ (by first | exact wanted_none rfl | exact wanted_yes _ _ rfl rfl) rfl (by kernel_rfl) (by kernel_rfl) (by kernel_rfl) rfl ?_
  simp only [Act.put, List.setIfInBounds_toArray, List.set_cons_zero, List.set_cons_succ, Nat.zero_add]
  refine wk_load1 _ _ _ _ _ rfl (by kernel_rfl) rfl rfl (fun w' hC => hC.cell h1) Try.underlying105 ?_
  simp only [Act.put, List.setIfInBounds_toArray, List.set_cons_zero, List.set_cons_succ]
  refine wk_field 114 _ 25 0 0 _ _ _ (by first | exact wanted_none rfl | exact wanted_yes _ _ rfl rfl) rfl (by kernel_rfl) (by kernel_rfl) (by kernel_rfl) rfl ?_
  simp only [Act.put, List.setIfInBounds_toArray, List.set_cons_zero, List.set_cons_succ, Nat.zero_add]
  refine wk_load1 _ _ _ _ _ rfl (by kernel_rfl) rfl rfl (fun w' hC => hC.cell c0) Try.underlying25 ?_
  simp only [Act.put, List.setIfInBounds_toArray, List.set_cons_zero, List.set_cons_succ]
  refine wk_field 114 _ 23 1 255 _ _ _ (by first | exact wanted_none rfl | exact wanted_yes _ _ rfl rfl) rfl (by kernel_rfl) (by kernel_rfl) (by kernel_rfl) rfl ?_
  simp only [Act.put, List.setIfInBounds_toArray, List.set_cons_zero, List.set_cons_succ, Nat.zero_add]
  refine wk_load_mid 23 _ gp 1 (blk b) _ (by first | exact wanted_none rfl | exact wanted_yes _ _ rfl rfl) rfl rfl (fun w' hC => putV_range (hC.row HGP.out)) Try.underlying23 rfl (by rw [size_blk, HB.out]; exact sizeB) ?_
  simp only [Act.put, List.setIfInBounds_toArray, List.set_cons_zero, List.set_cons_succ]
  refine wk_nil ?_
  intro w' hC
  have HC1 := Lib.hid hC
  clear hC h1 c0
  refine wpList_store_map rfl _ _ _ rfl gm s.good rfl (HV0.out.below HC1.out).good a HA.out b HB.out rfl rfl ?_
  intro w1 hm1 hg1
  simp only [Act.put, List.setIfInBounds_toArray, List.set_cons_zero, List.set_cons_succ]
  have hV1 : DvV w1 g gm pv fv { s with good := updB s.good a b } := dv_map (HV0.out.below HC1.out) HF.out HN.out _ hm1 (updB_length H.out.ok.good HB.out) hg1
  have hP1 : w1.heap[gp]? = some (.cells (putV a b) 114 (0, 0)) := by
    have hlt : gp < w'.heap.size := Nat.lt_of_lt_of_le (Array.getElem?_eq_some_iff.1 HGP.out).1 HC1.out.size
    have hgm : gm < w.heap.size := H.out.good.lt
    rw [hg1.block gp hlt (by have := HGE.out; simp; omega)]
    exact HC1.out.row HGP.out
  have hO1 : Only [gm] w w1 := ((Only.of_below HB0.out).trans (Only.of_below HC1.out)).trans ((Only.of_grown hg1 (fun k hk => by cases hk; simp)))
  have HV1 := Lib.hid hV1
  have HP1 := Lib.hid hP1
  have HO1 := Lib.hid hO1
  clear hV1 hP1 hO1 hm1 hg1 HC1 HGP HV0 HB0 HGE
  go_upto_region 2 with (fail)
  refine wk_plain_since ?_
  refine wk_field 114 _ 23 1 255 _ _ _ (by first | exact wanted_none rfl | exact wanted_yes _ _ rfl rfl) rfl (by kernel_rfl) (by kernel_rfl) (by kernel_rfl) rfl ?_
  simp only [Act.put, List.setIfInBounds_toArray, List.set_cons_zero, List.set_cons_succ, Nat.zero_add]
  refine wk_load_mid 23 _ gp 1 (blk b) _ (by first | exact wanted_none rfl | exact wanted_yes _ _ rfl rfl) rfl rfl (fun w' hC => putV_range (hC.row HP1.out)) Try.underlying23 rfl (by rw [size_blk, HB.out]; exact sizeB) ?_
  simp only [Act.put, List.setIfInBounds_toArray, List.set_cons_zero, List.set_cons_succ]
  refine wk_build_none 23 _ (by first | exact wanted_none rfl | exact wanted_yes _ _ rfl rfl) rfl zeroB Try.underlying23 (by rfl) ?_
  simp only [Act.put, List.setIfInBounds_toArray, List.set_cons_zero, List.set_cons_succ]
  rw [zero_cells]
  refine wk_eql .eql (decide (b = zeroBlk)) 23 23 _ _ (by first | exact wanted_none rfl | exact wanted_yes _ _ rfl rfl) rfl _ _ rfl rfl (by kernel_rfl) (fun w => eqlBlk w b zeroBlk HB.out length_zeroBlk) ?_
  simp only [Act.put, List.setIfInBounds_toArray, List.set_cons_zero, List.set_cons_succ]
  refine wk_nil ?_
  intro w' hC
  have HC2 := Lib.hid hC
  clear hC
  have HV2 := Lib.hid (HV1.out.below HC2.out)
  have HP2 := Lib.hid (HC2.out.row HP1.out)
  have HO2 := Lib.hid (HO1.out.trans (Only.of_below HC2.out))
  clear HV1 HP1 HO1 HC2
  by_cases hz : b = zeroBlk
  · have h1 : w'.cell? ⟨g, 1, none⟩ = some (.map (some gm)) := cell_of_row w' g 1 _ _ _ HV2.out.row
    have c0 : w'.cell? ⟨gp, 0, none⟩ = some (.int .u32 (a : Int)) := cell_of_row w' gp 0 _ _ _ HP2.out
    have HZ := Lib.hid hz
    have hd : decide (b = zeroBlk) = true := by simp [hz]
    clear hz
    rw [hd]
    go_upto_region 3 with (fail)
    refine wk_region_tail 6 (by kernel_rfl) (by kernel_rfl) ?_
    simp only [List.take_succ_cons, List.take_zero, List.drop_succ_cons, List.drop_zero]
    repeat (first
      | (refine wk_move _ (by first | exact wanted_none rfl | exact wanted_yes _ _ rfl rfl) rfl ?_; simp only [Act.put, Act.eval, Array.getD_eq_getD_getElem?, List.getElem?_toArray, List.getElem?_cons_succ, List.getElem?_cons_zero, Option.getD_some, List.setIfInBounds_toArray, List.set_cons_zero, List.set_cons_succ])
      | (refine wk_assign _ (by first | exact wanted_none rfl | exact wanted_yes _ _ rfl rfl) rfl ?_; simp only [Act.put, Act.eval, Array.getD_eq_getD_getElem?, List.getElem?_toArray, List.getElem?_cons_succ, List.getElem?_cons_zero, Option.getD_some, List.setIfInBounds_toArray, List.set_cons_zero, List.set_cons_succ])
      | (refine wk_pickt _ _ _ _ (by first | exact wanted_none rfl | exact wanted_yes _ _ rfl rfl) rfl rfl rfl ?_; simp only [Act.put, Act.eval, Array.getD_eq_getD_getElem?, List.getElem?_toArray, List.getElem?_cons_succ, List.getElem?_cons_zero, Option.getD_some, List.setIfInBounds_toArray, List.set_cons_zero, List.set_cons_succ])
      | (refine wk_pickf _ _ _ _ (by first | exact wanted_none rfl | exact wanted_yes _ _ rfl rfl) rfl rfl rfl ?_; simp only [Act.put, Act.eval, Array.getD_eq_getD_getElem?, List.getElem?_toArray, List.getElem?_cons_succ, List.getElem?_cons_zero, Option.getD_some, List.setIfInBounds_toArray, List.set_cons_zero, List.set_cons_succ])
      | (refine wk_skip (wanted_not _ true false rfl rfl rfl) ?_; simp only [Act.put, List.setIfInBounds_toArray, List.set_cons_zero, List.set_cons_succ])
      | (refine wk_skip (wanted_not _ false true rfl rfl rfl) ?_; simp only [Act.put, List.setIfInBounds_toArray, List.set_cons_zero, List.set_cons_succ])
      | (refine wk_skip (wanted_undef _ _ rfl rfl) ?_; simp only [Act.put, List.setIfInBounds_toArray, List.set_cons_zero, List.set_cons_succ])
      | (refine wk_not true _ _ (by first | exact wanted_none rfl | exact wanted_yes _ _ rfl rfl) rfl rfl ?_; simp only [Act.put, List.setIfInBounds_toArray, List.set_cons_zero, List.set_cons_succ])
      | (refine wk_not false _ _ (by first | exact wanted_none rfl | exact wanted_yes _ _ rfl rfl) rfl rfl ?_; simp only [Act.put, List.setIfInBounds_toArray, List.set_cons_zero, List.set_cons_succ]))
    refine wk_nilcheck _ _ (by first | exact wanted_none rfl | exact wanted_yes _ _ rfl rfl) rfl rfl ?_
    simp only [Act.put, List.setIfInBounds_toArray, List.set_cons_zero, List.set_cons_succ]
    refine wk_field 108 _ 105 1 0 _ _ _ (by first | exact wanted_none rfl | exact wanted_yes _ _ rfl rfl) rfl (by kernel_rfl) (by kernel_rfl) (by kernel_rfl) rfl ?_
    simp only [Act.put, List.setIfInBounds_toArray, List.set_cons_zero, List.set_cons_succ, Nat.zero_add]
    refine wk_load1 _ _ _ _ _ rfl (by kernel_rfl) rfl rfl (fun w' hC => hC.cell h1) Try.underlying105 ?_
    simp only [Act.put, List.setIfInBounds_toArray, List.set_cons_zero, List.set_cons_succ]
    refine wk_field 114 _ 25 0 0 _ _ _ (by first | exact wanted_none rfl | exact wanted_yes _ _ rfl rfl) rfl (by kernel_rfl) (by kernel_rfl) (by kernel_rfl) rfl ?_
    simp only [Act.put, List.setIfInBounds_toArray, List.set_cons_zero, List.set_cons_succ, Nat.zero_add]
    refine wk_load1 _ _ _ _ _ rfl (by kernel_rfl) rfl rfl (fun w' hC => hC.cell c0) Try.underlying25 ?_
    simp only [Act.put, List.setIfInBounds_toArray, List.set_cons_zero, List.set_cons_succ]
    refine wk_nil ?_
    intro w' hC
    have HC3 := Lib.hid hC
    clear hC h1 c0
    refine wpList_drop_map rfl _ _ rfl gm _ rfl (HV2.out.below HC3.out).good a HA.out rfl ?_
    intro w3 hm3 hg3
    simp only [Act.put, List.setIfInBounds_toArray, List.set_cons_zero, List.set_cons_succ]
    have e : updB (updB s.good a b) a zeroBlk = updB s.good a b := by
      funext x
      unfold updB
      split
      · exact HZ.out.symm
      · rfl
    have hV3 : DvV w3 g gm pv fv { s with good := updB s.good a b } := by
      have := dv_map (HV2.out.below HC3.out) HF.out HN.out _ hm3 (updB_length (updB_length H.out.ok.good HB.out) length_zeroBlk) hg3
      simp only at this
      rwa [e] at this
    have hO3 : Only [gm] w w3 := (HO2.out.trans (Only.of_below HC3.out)).trans (Only.of_grown hg3 (fun k hk => by cases hk; simp))
    have HV3 := Lib.hid hV3
    have HO3 := Lib.hid hO3
    clear hV3 hO3 hm3 hg3 HC3
    go_wp2
    go_end0
    exact ⟨rfl, HV3.out, HO3.out⟩
  · have hd : decide (b = zeroBlk) = false := by simp [hz]
    rw [hd]
    clear hz hd
    go_wp2
    go_end0
    exact ⟨rfl, HV2.out, HO2.out⟩
end
end Go.Proofs.Ytnbdnnlomgjlmaa
