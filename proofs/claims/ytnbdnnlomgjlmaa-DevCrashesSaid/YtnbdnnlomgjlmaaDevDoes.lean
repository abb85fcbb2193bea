/- The device layer: does, where the document's device has nought blocks. -/
import Derived.Test.YtnbdnnlomgjlmaaDevRef
import Derived.Test.YtnbdnnlomgjlmaaFlowS
namespace Go.Proofs.Ytnbdnnlomgjlmaa
open Go.RowKit
set_option linter.unusedSimpArgs false
set_option linter.unusedVariables false
set_option maxRecDepth 100000
def Dv.does (s : Dv) (x : ActL) : Dv :=
  match x.what % 5 with
  | 0 => (s.write x.a (actB x.c)).1
  | 1 => (s.write x.a (actB x.c)).1
  | 2 => s.flush.1
  | 3 => s.crash x.keeps
  | _ => s
def DoesPost (w0 : World) (g : Nat) (s : Dv) (l : List Thing) (e : Ending) (w' : World) : Prop := ∃ q r, e = .returned (.tuple #[.agg q, .bool r]) ∧ ∃ l', Held w0 w' (dvT g s :: l' ++ l)
theorem doesPost {w0 W : World} {g : Nat} {s : Dv} {l ls : List Thing} {v : Value} (q : Array Value) (r : Bool) (hv : v = .tuple #[.agg q, .bool r]) (R : Held w0 W (dvT g s :: ls ++ l)) : DoesPost w0 g s l (.returned v) W := by
  subst hv
  exact ⟨q, r, rfl, ls, R⟩
theorem flow_held {w0 w : World} {L : List Thing} (R : Held w0 w L) : Held w0 { w with drawn := w.drawn + 1 } L := R.drew
theorem wp_extract {P : Program} {o : Oper} {a : Act} {w : World} {K : Act → World → Prop} {Q : Exit → Act → World → Prop} (x : Operand) (vs : Array Value) (i : Nat) (v : Value) (ho : o.op = .extract x i) (hx : a.eval x = .tuple vs) (hv : vs[i]? = some v) (h : K (a.put o.dst v) w) : o.wp P a w K Q :=
  wp_value v (by unfold execOp; simp [ho, hx, Instr.extract, hv]) h
/-- The slots of does' region that asks the document. -/
def dwV (gq : Nat) (x : ActL) (t : Tmp) (v : Value) (_ : World) : Prop :=
  match t with
  | 34 => v = .agg (rfV false 0 0)
  | 35 => v = .pointer (some ⟨gq + 1, 1, none⟩)
  | 36 => v = .int .u32 (x.a : Int)
  | 37 => v = .agg (actV x)
  | 38 => v = .agg (blk (actB x.c))
  | 39 => v = .tuple #[.agg (rfV false 0 0), .int .i64 2]
  | 33 => v = .tuple #[.agg (rfV false 0 0), .int .i64 2]
  | 40 => v = .agg (rfV false 0 0)
  | 41 => v = .int .i64 2
  | _ => True
theorem keeps_old {w0 W : World} {A : Option Addr} {n : Nat} {ks : List (Nat × Nat)} (h : KeepsIn w0 A n ks []) (hb : Below w0.heap.size w0 W) : KeepsIn W A n ks [] := h.only (Only.of_below hb)
set_option maxHeartbeats 4000000 in
theorem does_any {w0 W : World} {g : Nat} {s t : Dv} {l : List Thing} (x : ActL) (R : Held w0 W (dvT g s :: l)) (hlen : s.pend.length < 100000) (hx : x.a < 4294967296 ∧ x.ln ≤ 9223372036854775807 ∧ KeepsIn w0 x.lA x.ln x.keeps []) (h4 : x.what % 5 < 4) (ht : s.does x = t) :
    Calls Try.prog 50 #[.pointer (some ⟨g, 0, none⟩), .agg (rfV false 0 0), .agg (actV x)] W fun e w' => DoesPost w0 g t l e w' := by
  have HT := Lib.hid ht
  clear ht
  have HX := Lib.hid hx
  have HLEN := Lib.hid hlen
  have q1 := ((R.alloc2 (rfV false 0 0) 75).alloc2 (actV x) 63).alloc2 (rfV false 0 0) 75
  clear hx hlen R
  have h0 : W.heap.size + 1 = (W.alloc (.cells (rfV false 0 0) 75)).heap.size := by simp
  have h1 : W.heap.size + 1 + 1 = ((W.alloc (.cells (rfV false 0 0) 75)).alloc (.cells (actV x) 63)).heap.size := by simp
  rw [← h1, ← h0] at q1
  clear h0 h1
  go_enter Try.func50, Try.ntmps50
  go_upto_region 1 with (refine wpList_alloc_row rfl 75 rfl _ zeroRf ?_)
  obtain ⟨WA, hWA⟩ : ∃ V, V = ((W.alloc (.cells (rfV false 0 0) 75)).alloc (.cells (actV x) 63)).alloc (.cells (rfV false 0 0) 75) := ⟨_, rfl⟩
  rw [← hWA] at q1 ⊢
  clear hWA
  obtain ⟨gq, hgq⟩ : ∃ b, b = W.heap.size := ⟨_, rfl⟩
  rw [← hgq] at q1 ⊢
  clear hgq
  have R1 := Lib.hid q1
  clear q1
  have cA : WA.cell? ⟨gq + 1, 0, none⟩ = some (.int .u8 (x.what : Int)) := R1.out.cell 2 0 rfl rfl
  rcases (by omega : x.what % 5 = 0 ∨ x.what % 5 = 1 ∨ x.what % 5 = 2 ∨ x.what % 5 = 3) with hc | hc | hc | hc
  · have hm : (x.what : Int) % 5 = 0 := by omega
    obtain ⟨E, hE⟩ : ∃ E, s.write x.a (actB x.c) = (t, E) := ⟨(s.write x.a (actB x.c)).2, by have := HT.out; unfold Dv.does at this; rw [hc] at this; rw [← this]; rfl⟩
    have HE := Lib.hid hE
    clear hE hc h4
    go_upto_region 7 with (fail)
    refine wk_region_tail 5 (by kernel_rfl) (by kernel_rfl) ?_
    simp only [List.take_succ_cons, List.take_zero, List.drop_succ_cons, List.drop_zero]
    repeat (first
      | (refine wk_move _ (by first | exact wanted_none rfl | exact wanted_yes _ _ rfl rfl) rfl ?_; simp only [Act.put, Act.eval, Array.getD_eq_getD_getElem?, List.getElem?_toArray, List.getElem?_cons_succ, List.getElem?_cons_zero, Option.getD_some, List.setIfInBounds_toArray, List.set_cons_zero, List.set_cons_succ])
      | (refine wk_assign _ (by first | exact wanted_none rfl | exact wanted_yes _ _ rfl rfl) rfl ?_; simp only [Act.put, Act.eval, Array.getD_eq_getD_getElem?, List.getElem?_toArray, List.getElem?_cons_succ, List.getElem?_cons_zero, Option.getD_some, List.setIfInBounds_toArray, List.set_cons_zero, List.set_cons_succ])
      | (refine wk_pickt _ _ _ _ (by first | exact wanted_none rfl | exact wanted_yes _ _ rfl rfl) rfl rfl rfl ?_; simp only [Act.put, Act.eval, Array.getD_eq_getD_getElem?, List.getElem?_toArray, List.getElem?_cons_succ, List.getElem?_cons_zero, Option.getD_some, List.setIfInBounds_toArray, List.set_cons_zero, List.set_cons_succ])
      | (refine wk_pickf _ _ _ _ (by first | exact wanted_none rfl | exact wanted_yes _ _ rfl rfl) rfl rfl rfl ?_; simp only [Act.put, Act.eval, Array.getD_eq_getD_getElem?, List.getElem?_toArray, List.getElem?_cons_succ, List.getElem?_cons_zero, Option.getD_some, List.setIfInBounds_toArray, List.set_cons_zero, List.set_cons_succ])
      | (refine wk_skip (wanted_not _ true false rfl rfl rfl) ?_; simp only [Act.put, List.setIfInBounds_toArray, List.set_cons_zero, List.set_cons_succ])
      | (refine wk_skip (wanted_not _ false true rfl rfl rfl) ?_; simp only [Act.put, List.setIfInBounds_toArray, List.set_cons_zero, List.set_cons_succ])
      | (refine wk_skip (wanted_undef _ _ rfl rfl) ?_; simp only [Act.put, List.setIfInBounds_toArray, List.set_cons_zero, List.set_cons_succ])
      | (refine wk_not true _ _ (by first | exact wanted_none rfl | exact wanted_yes _ _ rfl rfl) rfl rfl ?_; simp only [Act.put, List.setIfInBounds_toArray, List.set_cons_zero, List.set_cons_succ])
      | (refine wk_not false _ _ (by first | exact wanted_none rfl | exact wanted_yes _ _ rfl rfl) rfl rfl ?_; simp only [Act.put, List.setIfInBounds_toArray, List.set_cons_zero, List.set_cons_succ]))
    refine wk_field 63 _ 25 1 0 _ _ _ (by first | exact wanted_none rfl | exact wanted_yes _ _ rfl rfl) rfl (by kernel_rfl) (by kernel_rfl) (by kernel_rfl) rfl ?_
    simp only [Act.put, List.setIfInBounds_toArray, List.set_cons_zero, List.set_cons_succ, Nat.zero_add]
    refine wk_load1 _ _ _ _ _ rfl (by kernel_rfl) rfl rfl (fun w' hC => hC.cell (R1.out.cell 2 1 rfl rfl)) Try.underlying25 ?_
    simp only [Act.put, List.setIfInBounds_toArray, List.set_cons_zero, List.set_cons_succ]
    refine wk_load_row 63 _ (gq + 1) 63 (actV x) (0, 0) _ (by kernel_rfl) rfl rfl (fun w' hC => hC.row (R1.out.get 2 rfl)) Try.underlying63 rfl sizeAct ?_
    simp only [Act.put, List.setIfInBounds_toArray, List.set_cons_zero, List.set_cons_succ]
    refine wk_call 44 _ _ _ _ _ (by kernel_rfl) rfl Try.func44 rfl (by kernel_rfl) (fun w' hC => hC.call (block_any x w')) ?_
    simp only [Act.put, List.setIfInBounds_toArray, List.set_cons_zero, List.set_cons_succ]
    refine wk_nil ?_
    intro w' hC
    have R1b := Lib.hid (R1.out.since hC)
    clear hC
    go_upto_region 8 with (go_at_call 43; refine (write_is R1b.out HLEN.out x.a (actB x.c) HX.out.1 (length_actB _) HE.out).mono ?_; rintro e W2 ⟨rfl, hR⟩; have R2 := Lib.hid hR; clear hR)
    have R3 := Lib.hid (flow_held (L := (dvT g t :: rowT (gq + 1 + 1) (rfV false 0 0) 75 :: rowT (gq + 1) (actV x) 63 :: rowT gq (rfV false 0 0) 75 :: l)) R2.out)
    refine wp_region_flowS (by kernel_rfl) 10 (dwV gq x) (fun _ w => Held w0 w (dvT g t :: rowT (gq + 1 + 1) (rfV false 0 0) 75 :: rowT (gq + 1) (actV x) 63 :: rowT gq (rfV false 0 0) 75 :: l)) (fun _ _ w => Held w0 w (dvT g t :: rowT (gq + 1 + 1) (rfV false 0 0) 75 :: rowT (gq + 1) (actV x) 63 :: rowT gq (rfV false 0 0) 75 :: l)) (fun _ _ _ _ _ _ _ _ _ _ _ h _ => h) (fun _ _ _ _ _ _ h => h) R3.out (by kernel_rfl) (by kernel_rfl) (by kernel_rfl) (by kernel_rfl) ?_ ?_
    · skip
      refine ⟨.inr ⟨rfl, fun lst a v hls hI hO hD K hK => ?_⟩, .inr ⟨rfl, fun lst a v hls hI hO hD K hK => ?_⟩, .inr ⟨rfl, fun lst a v hls hI hO hD K hK => ?_⟩, .inr ⟨rfl, fun lst a v hls hI hO hD K hK => ?_⟩, .inr ⟨rfl, fun lst a v hls hI hO hD K hK => ?_⟩, .inr ⟨rfl, fun lst a v hls hI hO hD K hK => ?_⟩, .inr ⟨rfl, fun lst a v hls hI hO hD K hK => ?_⟩, .inr ⟨rfl, fun lst a v hls hI hO hD K hK => ?_⟩, .inr ⟨rfl, fun lst a v hls hI hO hD K hK => ?_⟩, .inr ⟨rfl, fun lst a v hls hI hO hD K hK => ?_⟩, .inl (by decide), trivial⟩
      · exact wp_load_all 75 _ gq 75 (rfV false 0 0) (0, 0) _ rfl (eval_of (t := 4) (by rw [hO 4 (not_dst 4 (by kernel_rfl))]; rfl)) (hI.get 3 rfl) Try.underlying75 rfl sizeRf (hK _ _ (fun t h => by cases h; rfl) hI)
      · exact wp_field 63 1 25 1 0 _ (gq + 1) 0 rfl (by kernel_rfl) (by kernel_rfl) (by kernel_rfl) (eval_of (t := 5) (by rw [hO 5 (not_dst 5 (by kernel_rfl))]; rfl)) (hK _ _ (fun t h => by cases h; rfl) hI)
      · obtain ⟨u, hu, hv⟩ := flow_of hD 1 (by kernel_rfl) 35 (by kernel_rfl)
        exact wp_load_cell 25 _ ⟨gq + 1, 1, none⟩ (.int .u32 (x.a : Int)) _ rfl rfl (hu.trans hv) (hI.cell 2 1 rfl rfl) Try.underlying25 (hK _ _ (fun t h => by cases h; rfl) hI)
      · exact wp_load_all 63 _ (gq + 1) 63 (actV x) (0, 0) _ rfl (eval_of (t := 5) (by rw [hO 5 (not_dst 5 (by kernel_rfl))]; rfl)) (hI.get 2 rfl) Try.underlying63 rfl sizeAct (hK _ _ (fun t h => by cases h; rfl) hI)
      · obtain ⟨u, hu, hv⟩ := flow_of hD 3 (by kernel_rfl) 37 (by kernel_rfl)
        exact wp_call_any 44 [.tmp 37] _ _ _ _ _ rfl Try.func44 rfl (by kernel_rfl) (by simp only [List.map_cons, List.map_nil, hu.trans hv]) (block_any x v) (fun w' hb => hK _ _ (fun t h => by cases h; rfl) (hI.call hb))
      · obtain ⟨u, hu, hv⟩ := flow_of hD 0 (by kernel_rfl) 34 (by kernel_rfl)
        obtain ⟨u2, hu2, hv2⟩ := flow_of hD 2 (by kernel_rfl) 36 (by kernel_rfl)
        obtain ⟨u3, hu3, hv3⟩ := flow_of hD 4 (by kernel_rfl) 38 (by kernel_rfl)
        exact wp_call_any 76 [.tmp 34, .tmp 36, .tmp 38] _ _ _ _ _ rfl Try.func76 rfl (by kernel_rfl) (by simp only [List.map_cons, List.map_nil, hu.trans hv, hu2.trans hv2, hu3.trans hv3]) (refwrite_zero x.a (actB x.c) v) (fun w' hb => hK _ _ (fun t h => by cases h; rfl) (hI.call hb))
      · obtain ⟨u, hu, hv⟩ := flow_of hD 5 (by kernel_rfl) 39 (by kernel_rfl)
        exact wp_move _ _ rfl (hu.trans hv) (hK _ _ (fun t h => by cases h; rfl) hI)
      · obtain ⟨u, hu, hv⟩ := flow_of hD 6 (by kernel_rfl) 33 (by kernel_rfl)
        exact wp_extract _ _ _ _ rfl (hu.trans hv) rfl (hK _ _ (fun t h => by cases h; rfl) hI)
      · obtain ⟨u, hu, hv⟩ := flow_of hD 6 (by kernel_rfl) 33 (by kernel_rfl)
        exact wp_extract _ _ _ _ rfl (hu.trans hv) rfl (hK _ _ (fun t h => by cases h; rfl) hI)
      · obtain ⟨u, hu, hv⟩ := flow_of hD 7 (by kernel_rfl) 40 (by kernel_rfl)
        exact wp_store_row 75 _ _ rfl gq (rfV false 0 0) (eval_of (t := 4) (by rw [hO 4 (not_dst 4 (by kernel_rfl))]; rfl)) (hu.trans hv) 75 _ (hI.get 3 rfl) sizeRf rfl (rfOne _ _ _) (hK _ _ (fun t h => by cases h) (hI.setRow 3 (rfV false 0 0) rfl))
    intro F W3 hV hI
    have v41 : F 41 = .int .i64 2 := hV _ (List.mem_of_getElem? (i := 8) rfl) 41 rfl
    have R4 := Lib.hid hI
    clear hI R3
    simp only [List.take_succ_cons, List.take_zero, List.drop_succ_cons, List.drop_zero, putAll, List.setIfInBounds_toArray, List.set_cons_zero, List.set_cons_succ]
    rw [v41]
    clear hV v41
    go_upto_region 15 with (fail)
    go_wp2_with (first
      | refine wpList_load_row rfl 75 _ rfl gq rfl 75 (rfV false 0 0) (0, 0) _ (R4.out.get 3 rfl) Try.underlying75 rfl sizeRf ?_
      | refine wpList_store_row rfl 75 _ _ rfl (gq + 1 + 1) (rfV false 0 0) rfl rfl 75 _ (R4.out.get 1 rfl) sizeRf rfl (rfOne _ _ _) ?_)
    have R5 := R4.out.setRow 1 (rfV false 0 0) rfl
    refine bodyPost_ret (v := _) (results_cell_slot rfl _ _ (gq + 1 + 1) 75 _ (0, 0) _ _ rfl rfl (R5.get 1 rfl) Try.underlying75 rfl sizeRf) rfl (doesPost _ _ rfl (ls := [rowT (gq + 1 + 1) (rfV false 0 0) 75, rowT (gq + 1) (actV x) 63, rowT gq (rfV false 0 0) 75]) R5)
  · have hm : (x.what : Int) % 5 = 1 := by omega
    obtain ⟨E, hE⟩ : ∃ E, s.write x.a (actB x.c) = (t, E) := ⟨(s.write x.a (actB x.c)).2, by have := HT.out; unfold Dv.does at this; rw [hc] at this; rw [← this]; rfl⟩
    have HE := Lib.hid hE
    clear hE hc h4
    go_upto_region 7 with (fail)
    refine wk_region_tail 5 (by kernel_rfl) (by kernel_rfl) ?_
    simp only [List.take_succ_cons, List.take_zero, List.drop_succ_cons, List.drop_zero]
    repeat (first
      | (refine wk_move _ (by first | exact wanted_none rfl | exact wanted_yes _ _ rfl rfl) rfl ?_; simp only [Act.put, Act.eval, Array.getD_eq_getD_getElem?, List.getElem?_toArray, List.getElem?_cons_succ, List.getElem?_cons_zero, Option.getD_some, List.setIfInBounds_toArray, List.set_cons_zero, List.set_cons_succ])
      | (refine wk_assign _ (by first | exact wanted_none rfl | exact wanted_yes _ _ rfl rfl) rfl ?_; simp only [Act.put, Act.eval, Array.getD_eq_getD_getElem?, List.getElem?_toArray, List.getElem?_cons_succ, List.getElem?_cons_zero, Option.getD_some, List.setIfInBounds_toArray, List.set_cons_zero, List.set_cons_succ])
      | (refine wk_pickt _ _ _ _ (by first | exact wanted_none rfl | exact wanted_yes _ _ rfl rfl) rfl rfl rfl ?_; simp only [Act.put, Act.eval, Array.getD_eq_getD_getElem?, List.getElem?_toArray, List.getElem?_cons_succ, List.getElem?_cons_zero, Option.getD_some, List.setIfInBounds_toArray, List.set_cons_zero, List.set_cons_succ])
      | (refine wk_pickf _ _ _ _ (by first | exact wanted_none rfl | exact wanted_yes _ _ rfl rfl) rfl rfl rfl ?_; simp only [Act.put, Act.eval, Array.getD_eq_getD_getElem?, List.getElem?_toArray, List.getElem?_cons_succ, List.getElem?_cons_zero, Option.getD_some, List.setIfInBounds_toArray, List.set_cons_zero, List.set_cons_succ])
      | (refine wk_skip (wanted_not _ true false rfl rfl rfl) ?_; simp only [Act.put, List.setIfInBounds_toArray, List.set_cons_zero, List.set_cons_succ])
      | (refine wk_skip (wanted_not _ false true rfl rfl rfl) ?_; simp only [Act.put, List.setIfInBounds_toArray, List.set_cons_zero, List.set_cons_succ])
      | (refine wk_skip (wanted_undef _ _ rfl rfl) ?_; simp only [Act.put, List.setIfInBounds_toArray, List.set_cons_zero, List.set_cons_succ])
      | (refine wk_not true _ _ (by first | exact wanted_none rfl | exact wanted_yes _ _ rfl rfl) rfl rfl ?_; simp only [Act.put, List.setIfInBounds_toArray, List.set_cons_zero, List.set_cons_succ])
      | (refine wk_not false _ _ (by first | exact wanted_none rfl | exact wanted_yes _ _ rfl rfl) rfl rfl ?_; simp only [Act.put, List.setIfInBounds_toArray, List.set_cons_zero, List.set_cons_succ]))
    refine wk_field 63 _ 25 1 0 _ _ _ (by first | exact wanted_none rfl | exact wanted_yes _ _ rfl rfl) rfl (by kernel_rfl) (by kernel_rfl) (by kernel_rfl) rfl ?_
    simp only [Act.put, List.setIfInBounds_toArray, List.set_cons_zero, List.set_cons_succ, Nat.zero_add]
    refine wk_load1 _ _ _ _ _ rfl (by kernel_rfl) rfl rfl (fun w' hC => hC.cell (R1.out.cell 2 1 rfl rfl)) Try.underlying25 ?_
    simp only [Act.put, List.setIfInBounds_toArray, List.set_cons_zero, List.set_cons_succ]
    refine wk_load_row 63 _ (gq + 1) 63 (actV x) (0, 0) _ (by kernel_rfl) rfl rfl (fun w' hC => hC.row (R1.out.get 2 rfl)) Try.underlying63 rfl sizeAct ?_
    simp only [Act.put, List.setIfInBounds_toArray, List.set_cons_zero, List.set_cons_succ]
    refine wk_call 44 _ _ _ _ _ (by kernel_rfl) rfl Try.func44 rfl (by kernel_rfl) (fun w' hC => hC.call (block_any x w')) ?_
    simp only [Act.put, List.setIfInBounds_toArray, List.set_cons_zero, List.set_cons_succ]
    refine wk_nil ?_
    intro w' hC
    have R1b := Lib.hid (R1.out.since hC)
    clear hC
    go_upto_region 8 with (go_at_call 43; refine (write_is R1b.out HLEN.out x.a (actB x.c) HX.out.1 (length_actB _) HE.out).mono ?_; rintro e W2 ⟨rfl, hR⟩; have R2 := Lib.hid hR; clear hR)
    have R3 := Lib.hid (flow_held (L := (dvT g t :: rowT (gq + 1 + 1) (rfV false 0 0) 75 :: rowT (gq + 1) (actV x) 63 :: rowT gq (rfV false 0 0) 75 :: l)) R2.out)
    refine wp_region_flowS (by kernel_rfl) 10 (dwV gq x) (fun _ w => Held w0 w (dvT g t :: rowT (gq + 1 + 1) (rfV false 0 0) 75 :: rowT (gq + 1) (actV x) 63 :: rowT gq (rfV false 0 0) 75 :: l)) (fun _ _ w => Held w0 w (dvT g t :: rowT (gq + 1 + 1) (rfV false 0 0) 75 :: rowT (gq + 1) (actV x) 63 :: rowT gq (rfV false 0 0) 75 :: l)) (fun _ _ _ _ _ _ _ _ _ _ _ h _ => h) (fun _ _ _ _ _ _ h => h) R3.out (by kernel_rfl) (by kernel_rfl) (by kernel_rfl) (by kernel_rfl) ?_ ?_
    · skip
      refine ⟨.inr ⟨rfl, fun lst a v hls hI hO hD K hK => ?_⟩, .inr ⟨rfl, fun lst a v hls hI hO hD K hK => ?_⟩, .inr ⟨rfl, fun lst a v hls hI hO hD K hK => ?_⟩, .inr ⟨rfl, fun lst a v hls hI hO hD K hK => ?_⟩, .inr ⟨rfl, fun lst a v hls hI hO hD K hK => ?_⟩, .inr ⟨rfl, fun lst a v hls hI hO hD K hK => ?_⟩, .inr ⟨rfl, fun lst a v hls hI hO hD K hK => ?_⟩, .inr ⟨rfl, fun lst a v hls hI hO hD K hK => ?_⟩, .inr ⟨rfl, fun lst a v hls hI hO hD K hK => ?_⟩, .inr ⟨rfl, fun lst a v hls hI hO hD K hK => ?_⟩, .inl (by decide), trivial⟩
      · exact wp_load_all 75 _ gq 75 (rfV false 0 0) (0, 0) _ rfl (eval_of (t := 4) (by rw [hO 4 (not_dst 4 (by kernel_rfl))]; rfl)) (hI.get 3 rfl) Try.underlying75 rfl sizeRf (hK _ _ (fun t h => by cases h; rfl) hI)
      · exact wp_field 63 1 25 1 0 _ (gq + 1) 0 rfl (by kernel_rfl) (by kernel_rfl) (by kernel_rfl) (eval_of (t := 5) (by rw [hO 5 (not_dst 5 (by kernel_rfl))]; rfl)) (hK _ _ (fun t h => by cases h; rfl) hI)
      · obtain ⟨u, hu, hv⟩ := flow_of hD 1 (by kernel_rfl) 35 (by kernel_rfl)
        exact wp_load_cell 25 _ ⟨gq + 1, 1, none⟩ (.int .u32 (x.a : Int)) _ rfl rfl (hu.trans hv) (hI.cell 2 1 rfl rfl) Try.underlying25 (hK _ _ (fun t h => by cases h; rfl) hI)
      · exact wp_load_all 63 _ (gq + 1) 63 (actV x) (0, 0) _ rfl (eval_of (t := 5) (by rw [hO 5 (not_dst 5 (by kernel_rfl))]; rfl)) (hI.get 2 rfl) Try.underlying63 rfl sizeAct (hK _ _ (fun t h => by cases h; rfl) hI)
      · obtain ⟨u, hu, hv⟩ := flow_of hD 3 (by kernel_rfl) 37 (by kernel_rfl)
        exact wp_call_any 44 [.tmp 37] _ _ _ _ _ rfl Try.func44 rfl (by kernel_rfl) (by simp only [List.map_cons, List.map_nil, hu.trans hv]) (block_any x v) (fun w' hb => hK _ _ (fun t h => by cases h; rfl) (hI.call hb))
      · obtain ⟨u, hu, hv⟩ := flow_of hD 0 (by kernel_rfl) 34 (by kernel_rfl)
        obtain ⟨u2, hu2, hv2⟩ := flow_of hD 2 (by kernel_rfl) 36 (by kernel_rfl)
        obtain ⟨u3, hu3, hv3⟩ := flow_of hD 4 (by kernel_rfl) 38 (by kernel_rfl)
        exact wp_call_any 76 [.tmp 34, .tmp 36, .tmp 38] _ _ _ _ _ rfl Try.func76 rfl (by kernel_rfl) (by simp only [List.map_cons, List.map_nil, hu.trans hv, hu2.trans hv2, hu3.trans hv3]) (refwrite_zero x.a (actB x.c) v) (fun w' hb => hK _ _ (fun t h => by cases h; rfl) (hI.call hb))
      · obtain ⟨u, hu, hv⟩ := flow_of hD 5 (by kernel_rfl) 39 (by kernel_rfl)
        exact wp_move _ _ rfl (hu.trans hv) (hK _ _ (fun t h => by cases h; rfl) hI)
      · obtain ⟨u, hu, hv⟩ := flow_of hD 6 (by kernel_rfl) 33 (by kernel_rfl)
        exact wp_extract _ _ _ _ rfl (hu.trans hv) rfl (hK _ _ (fun t h => by cases h; rfl) hI)
      · obtain ⟨u, hu, hv⟩ := flow_of hD 6 (by kernel_rfl) 33 (by kernel_rfl)
        exact wp_extract _ _ _ _ rfl (hu.trans hv) rfl (hK _ _ (fun t h => by cases h; rfl) hI)
      · obtain ⟨u, hu, hv⟩ := flow_of hD 7 (by kernel_rfl) 40 (by kernel_rfl)
        exact wp_store_row 75 _ _ rfl gq (rfV false 0 0) (eval_of (t := 4) (by rw [hO 4 (not_dst 4 (by kernel_rfl))]; rfl)) (hu.trans hv) 75 _ (hI.get 3 rfl) sizeRf rfl (rfOne _ _ _) (hK _ _ (fun t h => by cases h) (hI.setRow 3 (rfV false 0 0) rfl))
    intro F W3 hV hI
    have v41 : F 41 = .int .i64 2 := hV _ (List.mem_of_getElem? (i := 8) rfl) 41 rfl
    have R4 := Lib.hid hI
    clear hI R3
    simp only [List.take_succ_cons, List.take_zero, List.drop_succ_cons, List.drop_zero, putAll, List.setIfInBounds_toArray, List.set_cons_zero, List.set_cons_succ]
    rw [v41]
    clear hV v41
    go_upto_region 15 with (fail)
    go_wp2_with (first
      | refine wpList_load_row rfl 75 _ rfl gq rfl 75 (rfV false 0 0) (0, 0) _ (R4.out.get 3 rfl) Try.underlying75 rfl sizeRf ?_
      | refine wpList_store_row rfl 75 _ _ rfl (gq + 1 + 1) (rfV false 0 0) rfl rfl 75 _ (R4.out.get 1 rfl) sizeRf rfl (rfOne _ _ _) ?_)
    have R5 := R4.out.setRow 1 (rfV false 0 0) rfl
    refine bodyPost_ret (v := _) (results_cell_slot rfl _ _ (gq + 1 + 1) 75 _ (0, 0) _ _ rfl rfl (R5.get 1 rfl) Try.underlying75 rfl sizeRf) rfl (doesPost _ _ rfl (ls := [rowT (gq + 1 + 1) (rfV false 0 0) 75, rowT (gq + 1) (actV x) 63, rowT gq (rfV false 0 0) 75]) R5)
  · have hm : (x.what : Int) % 5 = 2 := by omega
    obtain ⟨E, hE⟩ : ∃ E, s.flush = (t, E) := ⟨s.flush.2, by have := HT.out; unfold Dv.does at this; rw [hc] at this; rw [← this]; rfl⟩
    have HE := Lib.hid hE
    clear hE hc h4
    go_upto_region 11 with (go_at_call 42; refine (flush_is R1.out HE.out).mono ?_; rintro e W2 ⟨rfl, hR⟩; have R2 := Lib.hid hR; clear hR)
    go_upto_region 15 with (first
      | refine wpList_load_row rfl 75 _ rfl gq rfl 75 (rfV false 0 0) (0, 0) _ (R2.out.get 3 rfl) Try.underlying75 rfl sizeRf ?_
      | (go_at_call 77; refine (refflush_zero _).mono ?_; rintro e W3 ⟨rfl, hb⟩; have R3 := Lib.hid (R2.out.call hb); clear hb R2)
      | refine wpList_store_row rfl 75 _ _ rfl gq (rfV false 0 1) rfl rfl 75 _ (R3.out.get 3 rfl) sizeRf rfl (rfOne _ _ _) ?_)
    have R4 := Lib.hid (R3.out.setRow 3 (rfV false 0 1) rfl)
    obtain ⟨W4, hW4⟩ : ∃ V, V = W3.setRow gq (rfV false 0 1) := ⟨_, rfl⟩
    rw [← hW4] at R4 ⊢
    clear hW4
    go_wp2_with (first
      | refine wpList_load_row rfl 75 _ rfl gq rfl 75 (rfV false 0 1) (0, 0) _ (R4.out.get 3 rfl) Try.underlying75 rfl sizeRf ?_
      | refine wpList_store_row rfl 75 _ _ rfl (gq + 1 + 1) (rfV false 0 1) rfl rfl 75 _ (R4.out.get 1 rfl) sizeRf rfl (rfOne _ _ _) ?_)
    have R5 := R4.out.setRow 1 (rfV false 0 1) rfl
    refine bodyPost_ret (v := _) (results_cell_slot rfl _ _ (gq + 1 + 1) 75 _ (0, 0) _ _ rfl rfl (R5.get 1 rfl) Try.underlying75 rfl sizeRf) rfl (doesPost _ _ rfl (ls := [rowT (gq + 1 + 1) (rfV false 0 1) 75, rowT (gq + 1) (actV x) 63, rowT gq (rfV false 0 1) 75]) R5)
  · have hm : (x.what : Int) % 5 = 3 := by omega
    have hE : s.crash x.keeps = t := by have := HT.out; unfold Dv.does at this; rw [hc] at this; exact this
    have HE := Lib.hid hE
    clear hE hc h4
    have cL : WA.cell? ⟨gq + 1, 3, none⟩ = some (.slice x.lA x.ln x.lc) := R1.out.cell 2 3 rfl rfl
    go_upto_region 14 with (go_at_call 48; refine (crash_old R1.out x.lA x.ln x.lc HX.out.2.1 x.keeps HX.out.2.2 HE.out).mono ?_; rintro e W2 ⟨rfl, hR⟩; have R2 := Lib.hid hR; clear hR)
    have cL2 : W2.cell? ⟨gq + 1, 3, none⟩ = some (.slice x.lA x.ln x.lc) := R2.out.cell 2 3 rfl rfl
    go_upto_region 15 with (first
      | refine wpList_load_row rfl 75 _ rfl gq rfl 75 (rfV false 0 0) (0, 0) _ (R2.out.get 3 rfl) Try.underlying75 rfl sizeRf ?_
      | (go_at_call 78; refine (refcrash_zero x.lA x.ln x.lc HX.out.2.1 x.keeps _ ?_).mono ?_; · exact keeps_old HX.out.2.2 R2.out.below
         rintro e W3 ⟨rfl, hb⟩; have R3 := Lib.hid (R2.out.call hb); clear hb R2)
      | refine wpList_store_row rfl 75 _ _ rfl gq (rfV false 0 0) rfl rfl 75 _ (R3.out.get 3 rfl) sizeRf rfl (rfOne _ _ _) ?_)
    have R4 := Lib.hid (R3.out.setRow 3 (rfV false 0 0) rfl)
    obtain ⟨W4, hW4⟩ : ∃ V, V = W3.setRow gq (rfV false 0 0) := ⟨_, rfl⟩
    rw [← hW4] at R4 ⊢
    clear hW4
    go_wp2_with (first
      | refine wpList_load_row rfl 75 _ rfl gq rfl 75 (rfV false 0 0) (0, 0) _ (R4.out.get 3 rfl) Try.underlying75 rfl sizeRf ?_
      | refine wpList_store_row rfl 75 _ _ rfl (gq + 1 + 1) (rfV false 0 0) rfl rfl 75 _ (R4.out.get 1 rfl) sizeRf rfl (rfOne _ _ _) ?_)
    have R5 := R4.out.setRow 1 (rfV false 0 0) rfl
    refine bodyPost_ret (v := _) (results_cell_slot rfl _ _ (gq + 1 + 1) 75 _ (0, 0) _ _ rfl rfl (R5.get 1 rfl) Try.underlying75 rfl sizeRf) rfl (doesPost _ _ rfl (ls := [rowT (gq + 1 + 1) (rfV false 0 0) 75, rowT (gq + 1) (actV x) 63, rowT gq (rfV false 0 0) 75]) R5)
end Go.Proofs.Ytnbdnnlomgjlmaa
