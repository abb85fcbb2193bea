/- The node layer: the law NodePuts holds of every node. -/
import Derived.Test.YtnhfkmfmmgaecaaDoorNodeHead
namespace Go.Proofs.YtnhfkmfmmgaecaaDoor
open Go.RowKit
set_option linter.unusedSimpArgs false
set_option maxRecDepth 100000
/-- What the slots of the drawn region hold. -/
def nodePutsR (D : List UInt8) (C : Array Value) (L : List Nat) (E : Int) (t : Tmp) (v : Value) (w : World) : Prop :=
  match t with
  | 19 => v = .agg (blk D)
  | 20 => v = .agg (blk D)
  | 21 => v = .bool false
  | 22 => v = .bool false
  | 23 => v = .int .i64 E
  | 24 => v = .int .i64 E
  | 25 => v = .bool false
  | 26 => v = .bool false
  | 27 => v = .bool false
  | 28 => v = .agg C
  | 29 => NumsAt w v L
  | 30 => v = .agg C
  | 31 => NumsAt w v L
  | 32 => v = .bool true
  | 33 => v = .bool false
  | 34 => v = .bool false
  | _ => True
theorem nodePutsR_stab (D : List UInt8) (C : Array Value) (L : List Nat) (E : Int) : ∀ t v w w', nodePutsR D C L E t v w → Below w.heap.size w w' → nodePutsR D C L E t v w' := by
  intro t v w1 w2 h hb
  revert h
  unfold nodePutsR
  split <;> first | exact id | exact fun h => h.below hb
set_option maxHeartbeats 4000000 in
theorem nodeputs_any (r : Nat × List Nat) (hr : NOk r.1 r.2) (w : World) : Calls Tryd.prog 8 #[.agg (ncells r.1 r.2)] w fun e w' => e = .returned (.bool true) ∧ Below w.heap.size w w' := by
  obtain ⟨h, l⟩ := r
  simp only at hr ⊢
  obtain ⟨C, hC⟩ : ∃ C, C = ncells h l := ⟨_, rfl⟩
  obtain ⟨D, hD⟩ : ∃ D, D = nputB h l := ⟨_, rfl⟩
  obtain ⟨E, hE⟩ : ∃ E, E = nputE h l := ⟨_, rfl⟩
  obtain ⟨m, hm⟩ : ∃ m, m = nmay h l := ⟨_, rfl⟩
  obtain ⟨L, hL⟩ : ∃ L, L = notZero l := ⟨_, rfl⟩
  have HDL : Hid (D.length = 256) := Lib.hid (by rw [hD]; exact length_nputB hr)
  have HDS : Hid ((blk D).size = 256) := Lib.hid (by rw [size_blk, HDL.out])
  have HC1 : Hid (C.all (·.oneCell') = true) := Lib.hid (by rw [hC]; exact pcells_one _ _ _ _)
  have HCS : Hid (C.size = 33) := Lib.hid (by rw [hC]; exact size_ncells hr)
  have HP : Hid (∀ w, Calls Tryd.prog 36 #[.agg C] w fun e w' => e = .returned (.tuple #[.agg (blk D), .int .i64 E]) ∧ Below w.heap.size w w') := Lib.hid (fun w => by rw [hC, hD, hE]; exact nput_all h l hr w)
  have HQ : Hid (∀ w, Calls Tryd.prog 37 #[.agg C] w fun e w' => e = .returned (.tuple #[.agg (blk D), .int .i64 E]) ∧ Below w.heap.size w w') := Lib.hid (fun w => by rw [hC, hD, hE]; exact refnput_all h l hr w)
  have HKIDS : Hid (∀ w, Calls Tryd.prog 39 #[.agg C] w fun e w' => ∃ v, e = .returned v ∧ NumsAt w' v L ∧ Below w.heap.size w w') := Lib.hid (fun w => by rw [hC, hL]; exact nkids_any h l hr w)
  have HRKIDS : Hid (∀ w, Calls Tryd.prog 40 #[.agg C] w fun e w' => ∃ v, e = .returned v ∧ NumsAt w' v L ∧ Below w.heap.size w w') := Lib.hid (fun w => by rw [hC, hL]; exact refnkids_any h l hr w)
  have HLL : L.length ≤ 1000 := by rw [hL]; exact Nat.le_trans (notZero_len l) (by rw [hr.len]; decide)
  have HSAME : Hid (∀ w u v, NumsAt w u L → NumsAt w v L → Calls Tryd.prog 38 #[u, v] w fun e w'' => ∃ x, e = .returned x ∧ x = .bool true ∧ Below w.heap.size w w'') := Lib.hid (fun w u v hu hv => by
    have := same_any w u v L L hu hv HLL HLL
    rw [decide_eq_true rfl] at this
    exact call_is this)
  have HG : Hid (m = true → ∀ w, Calls Tryd.prog 42 #[.agg (blk D)] w fun e w' => e = .returned (.tuple #[.agg C, .int .i64 0]) ∧ Below w.heap.size w w') := Lib.hid (fun hm1 w => by
    have hmm : nmay h l = true := by rw [← hm]; exact hm1
    have hDD : D = doneB 78 (pbytes 1 4 h l) := by rw [hD]; unfold nputB; rw [hmm]; rfl
    obtain ⟨p1, p2⟩ := page_back hr 78 (by decide)
    have e1 : num (seg D 1 1) = h := by rw [hDD]; exact p1
    have e2 : rest D 2 4 32 = l := by rw [hDD]; exact p2
    have hi : isNode D = true := by rw [isNode_iff D HDL.out, e1, e2]; exact ⟨hmm, hDD.symm⟩
    refine nget_is D HDL.out C 0 ?_ ?_ w
    · unfold ngetC; rw [hi, if_pos rfl, e1, e2, hC]
    · unfold ngetE; rw [hi, if_pos rfl])
  have HEQ : Hid (∀ w : World, (binOp .eql 70 (.agg C) (.agg C)).run Tryd.prog w = .ok (.bool true) w) := Lib.hid (fun w => by rw [hC, run_eql_node w h h l l hr.len hr.len]; simp)
  have HBQ : Hid (∀ w : World, (binOp .neq 33 (.agg (blk D)) (.agg (blk D))).run Tryd.prog w = .ok (.bool false) w) := Lib.hid (fun w => by
    rw [run_neq_blk w 33 5 256 Tryd.underlying33 Tryd.underlying5 sizeU8 D D HDL.out HDL.out]; simp)
  have HE2 : Hid (E = if m then 0 else 2) := Lib.hid (by rw [hE, hm]; rfl)
  rw [← hC]
  clear hC hD hE hm hL HLL hr
  have q1 := (Rows.start w).alloc C 70
  go_enter Tryd.func8, Tryd.ntmps8
  go_upto_region 1 with (fail)
  obtain ⟨W1, hW⟩ : ∃ W, W = w.alloc (.cells C 70) := ⟨_, rfl⟩
  rw [← hW] at q1 ⊢
  clear hW
  obtain ⟨g1, hg⟩ : ∃ g, g = w.heap.size := ⟨_, rfl⟩
  rw [← hg] at q1 ⊢
  clear hg
  have R1 := Lib.hid q1
  clear q1
  go_wp2_with (refine wpList_load_row rfl 70 _ rfl g1 rfl 70 C (0, 0) _ (R1.out.get 0 rfl) Tryd.underlying70 rfl (by rw [HCS.out]; exact sizeN) ?_)
  refine (HP.out _).mono ?_
  rintro e w2 ⟨rfl, hb⟩
  have q1 := (R1.out.call hb).alloc (blk D) 33
  clear hb
  go_upto_region 2 with (first | refine wpList_alloc_row rfl 33 rfl _ zeroB ?_ | refine wpList_store_new rfl 33 _ _ rfl _ (blk D) _ rfl rfl (by rw [HDS.out]; exact sizeB) (by rw [HDS.out, size_zeros]) (blk_one _) ?_)
  obtain ⟨W2, hW⟩ : ∃ W, W = w2.alloc (.cells (blk D) 33) := ⟨_, rfl⟩
  rw [← hW] at q1 ⊢
  clear hW
  obtain ⟨g2, hg⟩ : ∃ g, g = w2.heap.size := ⟨_, rfl⟩
  rw [← hg] at q1 ⊢
  clear hg
  have R2 := Lib.hid q1
  clear q1
  go_wp2_with (refine wpList_load_row rfl 70 _ rfl g1 rfl 70 C (0, 0) _ (R2.out.get 1 rfl) Tryd.underlying70 rfl (by rw [HCS.out]; exact sizeN) ?_)
  refine (HQ.out _).mono ?_
  rintro e w3 ⟨rfl, hb⟩
  have q1 := (R2.out.call hb).alloc (blk D) 33
  clear hb
  go_upto_region 3 with (first | refine wpList_alloc_row rfl 33 rfl _ zeroB ?_ | refine wpList_store_new rfl 33 _ _ rfl _ (blk D) _ rfl rfl (by rw [HDS.out]; exact sizeB) (by rw [HDS.out, size_zeros]) (blk_one _) ?_)
  obtain ⟨W3, hW⟩ : ∃ W, W = w3.alloc (.cells (blk D) 33) := ⟨_, rfl⟩
  rw [← hW] at q1 ⊢
  clear hW
  obtain ⟨g3, hg⟩ : ∃ g, g = w3.heap.size := ⟨_, rfl⟩
  rw [← hg] at q1 ⊢
  clear hg
  have R3 := Lib.hid q1
  clear q1
  refine wp_region_pred (by kernel_rfl) (nodePutsR D C L E) (nodePutsR_stab D C L E) (by kernel_rfl) (by kernel_rfl) (by kernel_rfl) ?pops ?pfin
  case pops =>
    refine ⟨⟨19, rfl, fun a w hB hO hD K hK => ?_⟩, ?_⟩
    · rw [if_pos (wanted_none rfl)]
      exact wp_load_all 33 (.tmp 3) g2 33 (blk D) (0, 0) _ rfl (eval_of (v := .pointer (some ⟨g2, 0, none⟩)) (hO 3 (not_dst 3 (by kernel_rfl)))) ((R3.out.since hB).get 1 rfl) Tryd.underlying33 rfl (by rw [HDS.out]; exact sizeB) (hK _ w (Below.refl _ _) rfl)
    refine ⟨⟨20, rfl, fun a w hB hO hD K hK => ?_⟩, ?_⟩
    · rw [if_pos (wanted_none rfl)]
      exact wp_load_all 33 (.tmp 5) g3 33 (blk D) (0, 0) _ rfl (eval_of (v := .pointer (some ⟨g3, 0, none⟩)) (hO 5 (not_dst 5 (by kernel_rfl)))) ((R3.out.since hB).get 0 rfl) Tryd.underlying33 rfl (by rw [HDS.out]; exact sizeB) (hK _ w (Below.refl _ _) rfl)
    refine ⟨⟨21, rfl, fun a w hB hO hD K hK => ?_⟩, ?_⟩
    · rw [if_pos (wanted_none rfl)]
      exact wpo_agg .neq _ 33 33 (.tmp 19) (.tmp 20) _ _ rfl (pred_val (R := nodePutsR D C L E) hD 0 (by kernel_rfl) 19 rfl (.agg (blk D)) (fun v h => h)) (pred_val (R := nodePutsR D C L E) hD 1 (by kernel_rfl) 20 rfl (.agg (blk D)) (fun v h => h)) (by kernel_rfl) (HBQ.out w) (hK _ w (Below.refl _ _) rfl)
    refine ⟨⟨22, rfl, fun a w hB hO hD K hK => ?_⟩, ?_⟩
    · rw [if_pos (wanted_none rfl)]
      exact wpo_move (.tmp 21) (.bool false) rfl (pred_val (R := nodePutsR D C L E) hD 2 (by kernel_rfl) 21 rfl (.bool false) (fun v h => h)) (hK _ w (Below.refl _ _) rfl)
    refine ⟨⟨23, rfl, fun a w hB hO hD K hK => ?_⟩, ?_⟩
    · rw [if_pos (pred_yes (R := nodePutsR D C L E) hD 3 false rfl (by kernel_rfl) 22 rfl (fun v h => h))]
      exact wpo_move (.tmp 4) (.int .i64 E) rfl (eval_of (v := .int .i64 E) (hO 4 (not_dst 4 (by kernel_rfl)))) (hK _ w (Below.refl _ _) rfl)
    refine ⟨⟨24, rfl, fun a w hB hO hD K hK => ?_⟩, ?_⟩
    · rw [if_pos (pred_yes (R := nodePutsR D C L E) hD 3 false rfl (by kernel_rfl) 22 rfl (fun v h => h))]
      exact wpo_move (.tmp 6) (.int .i64 E) rfl (eval_of (v := .int .i64 E) (hO 6 (not_dst 6 (by kernel_rfl)))) (hK _ w (Below.refl _ _) rfl)
    refine ⟨⟨25, rfl, fun a w hB hO hD K hK => ?_⟩, ?_⟩
    · rw [if_pos (pred_yes (R := nodePutsR D C L E) hD 3 false rfl (by kernel_rfl) 22 rfl (fun v h => h))]
      exact wpo_cmp .neq _ 3 3 (.tmp 23) (.tmp 24) _ _ _ rfl (pred_val (R := nodePutsR D C L E) hD 4 (by kernel_rfl) 23 rfl (.int .i64 E) (fun v h => h)) (pred_val (R := nodePutsR D C L E) hD 5 (by kernel_rfl) 24 rfl (.int .i64 E) (fun v h => h)) (by simp [cmpInt]) (hK _ w (Below.refl _ _) rfl)
    refine ⟨⟨26, rfl, fun a w hB hO hD K hK => ?_⟩, ?_⟩
    · rw [if_pos (wanted_none rfl)]
      exact wpo_pick false (.tmp 22) (.const (.bool true)) (.tmp 25) (.bool false) rfl (pred_val (R := nodePutsR D C L E) hD 3 (by kernel_rfl) 22 rfl (.bool false) (fun v h => h)) (pred_val (R := nodePutsR D C L E) hD 6 (by kernel_rfl) 25 rfl (.bool false) (fun v h => h)) (hK _ w (Below.refl _ _) rfl)
    refine ⟨⟨27, rfl, fun a w hB hO hD K hK => ?_⟩, ?_⟩
    · rw [if_pos (wanted_none rfl)]
      exact wpo_move (.tmp 26) (.bool false) rfl (pred_val (R := nodePutsR D C L E) hD 7 (by kernel_rfl) 26 rfl (.bool false) (fun v h => h)) (hK _ w (Below.refl _ _) rfl)
    refine ⟨⟨28, rfl, fun a w hB hO hD K hK => ?_⟩, ?_⟩
    · rw [if_pos (pred_yes (R := nodePutsR D C L E) hD 8 false rfl (by kernel_rfl) 27 rfl (fun v h => h))]
      exact wp_load_all 70 (.tmp 1) g1 70 C (0, 0) _ rfl (eval_of (v := .pointer (some ⟨g1, 0, none⟩)) (hO 1 (not_dst 1 (by kernel_rfl)))) ((R3.out.since hB).get 2 rfl) Tryd.underlying70 rfl (by rw [HCS.out]; exact sizeN) (hK _ w (Below.refl _ _) rfl)
    refine ⟨⟨29, rfl, fun a w hB hO hD K hK => ?_⟩, ?_⟩
    · rw [if_pos (pred_yes (R := nodePutsR D C L E) hD 8 false rfl (by kernel_rfl) 27 rfl (fun v h => h))]
      refine wpo_call 39 [.tmp 28] _ #[.agg C] _ _ _ rfl Tryd.func39 rfl (by kernel_rfl) ?_ (HKIDS.out w) (fun v w' hb h => hK v w' hb h)
      show #[a.eval (.tmp 28)] = _
      rw [show a.eval (.tmp 28) = .agg C from (pred_val (R := nodePutsR D C L E) hD 9 (by kernel_rfl) 28 rfl (.agg C) (fun v h => h))]
    refine ⟨⟨30, rfl, fun a w hB hO hD K hK => ?_⟩, ?_⟩
    · rw [if_pos (pred_yes (R := nodePutsR D C L E) hD 8 false rfl (by kernel_rfl) 27 rfl (fun v h => h))]
      exact wp_load_all 70 (.tmp 1) g1 70 C (0, 0) _ rfl (eval_of (v := .pointer (some ⟨g1, 0, none⟩)) (hO 1 (not_dst 1 (by kernel_rfl)))) ((R3.out.since hB).get 2 rfl) Tryd.underlying70 rfl (by rw [HCS.out]; exact sizeN) (hK _ w (Below.refl _ _) rfl)
    refine ⟨⟨31, rfl, fun a w hB hO hD K hK => ?_⟩, ?_⟩
    · rw [if_pos (pred_yes (R := nodePutsR D C L E) hD 8 false rfl (by kernel_rfl) 27 rfl (fun v h => h))]
      refine wpo_call 40 [.tmp 30] _ #[.agg C] _ _ _ rfl Tryd.func40 rfl (by kernel_rfl) ?_ (HRKIDS.out w) (fun v w' hb h => hK v w' hb h)
      show #[a.eval (.tmp 30)] = _
      rw [show a.eval (.tmp 30) = .agg C from (pred_val (R := nodePutsR D C L E) hD 11 (by kernel_rfl) 30 rfl (.agg C) (fun v h => h))]
    refine ⟨⟨32, rfl, fun a w hB hO hD K hK => ?_⟩, ?_⟩
    · rw [if_pos (pred_yes (R := nodePutsR D C L E) hD 8 false rfl (by kernel_rfl) 27 rfl (fun v h => h))]
      obtain ⟨u0, e0, h0⟩ := pred_dep (R := nodePutsR D C L E) hD 10 (by kernel_rfl) 29 rfl
      obtain ⟨u1, e1, h1⟩ := pred_dep (R := nodePutsR D C L E) hD 12 (by kernel_rfl) 31 rfl
      refine wpo_call 38 [.tmp 29, .tmp 31] _ #[u0, u1] _ _ _ rfl Tryd.func38 rfl (by kernel_rfl) ?_ (HSAME.out w _ _ h0 h1) (fun v w' hb h => hK v w' hb h)
      show #[a.eval (.tmp 29), a.eval (.tmp 31)] = _
      rw [eval_of e0, eval_of e1]
    refine ⟨⟨33, rfl, fun a w hB hO hD K hK => ?_⟩, ?_⟩
    · rw [if_pos (pred_yes (R := nodePutsR D C L E) hD 8 false rfl (by kernel_rfl) 27 rfl (fun v h => h))]
      exact wpo_not _ 4 (.tmp 32) rfl (pred_val (R := nodePutsR D C L E) hD 13 (by kernel_rfl) 32 rfl (.bool true) (fun v h => h)) (hK _ w (Below.refl _ _) rfl)
    refine ⟨⟨34, rfl, fun a w hB hO hD K hK => ?_⟩, ?_⟩
    · rw [if_pos (wanted_none rfl)]
      exact wpo_pick false (.tmp 27) (.const (.bool true)) (.tmp 33) (.bool false) rfl (pred_val (R := nodePutsR D C L E) hD 8 (by kernel_rfl) 27 rfl (.bool false) (fun v h => h)) (pred_val (R := nodePutsR D C L E) hD 14 (by kernel_rfl) 33 rfl (.bool false) (fun v h => h)) (hK _ w (Below.refl _ _) rfl)
    exact trivial
  case pfin =>
    intro V w4 hB hV
    simp only [putAll, List.setIfInBounds_toArray, List.set_cons_zero, List.set_cons_succ]
    have e34 : V 34 = .bool false := hV 15 _ 34 rfl rfl
    rw [e34]
    have R4 := Lib.hid (R3.out.since hB)
    clear hB hV e34
    cases m
    · obtain rfl : E = 2 := HE2.out
      go_wp2_with fail
      refine (nodehead_any _).mono ?_
      rintro e w5 ⟨rfl, hb⟩
      have hfin := (R4.out.call hb).below
      clear hb
      go_wp2_with fail
      go_ret
      exact ⟨rfl, hfin⟩
    · obtain rfl : E = 0 := HE2.out
      have HGG := Lib.hid (HG.out rfl)
      go_wp2_with (refine wpList_load_row rfl 33 _ rfl g2 rfl 33 (blk D) (0, 0) _ (R4.out.get 1 rfl) Tryd.underlying33 rfl (by rw [HDS.out]; exact sizeB) ?_)
      refine (HGG.out _).mono ?_
      rintro e w5 ⟨rfl, hb⟩
      have q1 := (R4.out.call hb).alloc C 70
      clear hb
      go_upto_region 8 with (first | refine wpList_alloc_row rfl 70 rfl _ zeroN ?_ | refine wpList_store_new rfl 70 _ _ rfl _ C _ rfl rfl (by rw [HCS.out]; exact sizeN) (by rw [HCS.out]; rfl) HC1.out ?_)
      obtain ⟨W5, hW⟩ : ∃ W, W = w5.alloc (.cells C 70) := ⟨_, rfl⟩
      rw [← hW] at q1 ⊢
      clear hW
      obtain ⟨g4, hg⟩ : ∃ g, g = w5.heap.size := ⟨_, rfl⟩
      rw [← hg] at q1 ⊢
      clear hg
      have R5 := Lib.hid q1
      clear q1
      refine wk_plain_since ?_
      refine wk_load_row 70 _ g4 70 C (0, 0) _ (by kernel_rfl) rfl rfl (fun w' hC => hC.row (R5.out.get 0 rfl)) Tryd.underlying70 rfl (by rw [HCS.out]; exact sizeN) ?_
      simp only [Act.put, List.setIfInBounds_toArray, List.set_cons_zero, List.set_cons_succ]
      refine wk_load_row 70 _ g1 70 C (0, 0) _ (by kernel_rfl) rfl rfl (fun w' hC => hC.row (R5.out.get 3 rfl)) Tryd.underlying70 rfl (by rw [HCS.out]; exact sizeN) ?_
      simp only [Act.put, List.setIfInBounds_toArray, List.set_cons_zero, List.set_cons_succ]
      refine wk_eql .eql (true) 70 70 _ _ (by first | exact wanted_none rfl | exact wanted_yes _ _ rfl rfl) rfl _ _ rfl rfl (by kernel_rfl) (fun w => HEQ.out w) ?_
      simp only [Act.put, List.setIfInBounds_toArray, List.set_cons_zero, List.set_cons_succ]
      repeat (first
        | (refine wk_move _ (by first | exact wanted_none rfl | exact wanted_yes _ _ rfl rfl) rfl ?_; simp only [Act.put, Act.eval, Array.getD_eq_getD_getElem?, List.getElem?_toArray, List.getElem?_cons_succ, List.getElem?_cons_zero, Option.getD_some, List.setIfInBounds_toArray, List.set_cons_zero, List.set_cons_succ])
        | (refine wk_assign _ (by first | exact wanted_none rfl | exact wanted_yes _ _ rfl rfl) rfl ?_; simp only [Act.put, Act.eval, Array.getD_eq_getD_getElem?, List.getElem?_toArray, List.getElem?_cons_succ, List.getElem?_cons_zero, Option.getD_some, List.setIfInBounds_toArray, List.set_cons_zero, List.set_cons_succ])
        | (refine wk_pickt _ _ _ _ (by first | exact wanted_none rfl | exact wanted_yes _ _ rfl rfl) rfl rfl rfl ?_; simp only [Act.put, Act.eval, Array.getD_eq_getD_getElem?, List.getElem?_toArray, List.getElem?_cons_succ, List.getElem?_cons_zero, Option.getD_some, List.setIfInBounds_toArray, List.set_cons_zero, List.set_cons_succ])
        | (refine wk_pickf _ _ _ _ (by first | exact wanted_none rfl | exact wanted_yes _ _ rfl rfl) rfl rfl rfl ?_; simp only [Act.put, Act.eval, Array.getD_eq_getD_getElem?, List.getElem?_toArray, List.getElem?_cons_succ, List.getElem?_cons_zero, Option.getD_some, List.setIfInBounds_toArray, List.set_cons_zero, List.set_cons_succ])
        | (refine wk_skip (wanted_not _ true false rfl rfl rfl) ?_; simp only [Act.put, List.setIfInBounds_toArray, List.set_cons_zero, List.set_cons_succ])
        | (refine wk_skip (wanted_not _ false true rfl rfl rfl) ?_; simp only [Act.put, List.setIfInBounds_toArray, List.set_cons_zero, List.set_cons_succ])
        | (refine wk_skip (wanted_undef _ _ rfl rfl) ?_; simp only [Act.put, List.setIfInBounds_toArray, List.set_cons_zero, List.set_cons_succ])
        | (refine wk_not true _ _ (by first | exact wanted_none rfl | exact wanted_yes _ _ rfl rfl) rfl rfl ?_; simp only [Act.put, List.setIfInBounds_toArray, List.set_cons_zero, List.set_cons_succ])
        | (refine wk_not false _ _ (by first | exact wanted_none rfl | exact wanted_yes _ _ rfl rfl) rfl rfl ?_; simp only [Act.put, List.setIfInBounds_toArray, List.set_cons_zero, List.set_cons_succ]))
      refine wk_eql_int true _ _ _ _ _ _ _ (by kernel_rfl) rfl rfl rfl (by decide) ?_
      simp only [Act.put, List.setIfInBounds_toArray, List.set_cons_zero, List.set_cons_succ]
      repeat (first
        | (refine wk_move _ (by first | exact wanted_none rfl | exact wanted_yes _ _ rfl rfl) rfl ?_; simp only [Act.put, Act.eval, Array.getD_eq_getD_getElem?, List.getElem?_toArray, List.getElem?_cons_succ, List.getElem?_cons_zero, Option.getD_some, List.setIfInBounds_toArray, List.set_cons_zero, List.set_cons_succ])
        | (refine wk_assign _ (by first | exact wanted_none rfl | exact wanted_yes _ _ rfl rfl) rfl ?_; simp only [Act.put, Act.eval, Array.getD_eq_getD_getElem?, List.getElem?_toArray, List.getElem?_cons_succ, List.getElem?_cons_zero, Option.getD_some, List.setIfInBounds_toArray, List.set_cons_zero, List.set_cons_succ])
        | (refine wk_pickt _ _ _ _ (by first | exact wanted_none rfl | exact wanted_yes _ _ rfl rfl) rfl rfl rfl ?_; simp only [Act.put, Act.eval, Array.getD_eq_getD_getElem?, List.getElem?_toArray, List.getElem?_cons_succ, List.getElem?_cons_zero, Option.getD_some, List.setIfInBounds_toArray, List.set_cons_zero, List.set_cons_succ])
        | (refine wk_pickf _ _ _ _ (by first | exact wanted_none rfl | exact wanted_yes _ _ rfl rfl) rfl rfl rfl ?_; simp only [Act.put, Act.eval, Array.getD_eq_getD_getElem?, List.getElem?_toArray, List.getElem?_cons_succ, List.getElem?_cons_zero, Option.getD_some, List.setIfInBounds_toArray, List.set_cons_zero, List.set_cons_succ])
        | (refine wk_skip (wanted_not _ true false rfl rfl rfl) ?_; simp only [Act.put, List.setIfInBounds_toArray, List.set_cons_zero, List.set_cons_succ])
        | (refine wk_skip (wanted_not _ false true rfl rfl rfl) ?_; simp only [Act.put, List.setIfInBounds_toArray, List.set_cons_zero, List.set_cons_succ])
        | (refine wk_skip (wanted_undef _ _ rfl rfl) ?_; simp only [Act.put, List.setIfInBounds_toArray, List.set_cons_zero, List.set_cons_succ])
        | (refine wk_not true _ _ (by first | exact wanted_none rfl | exact wanted_yes _ _ rfl rfl) rfl rfl ?_; simp only [Act.put, List.setIfInBounds_toArray, List.set_cons_zero, List.set_cons_succ])
        | (refine wk_not false _ _ (by first | exact wanted_none rfl | exact wanted_yes _ _ rfl rfl) rfl rfl ?_; simp only [Act.put, List.setIfInBounds_toArray, List.set_cons_zero, List.set_cons_succ]))
      refine wk_call 41 _ _ _ _ _ (by kernel_rfl) rfl Tryd.func41 rfl (by kernel_rfl) (fun w' hC => hC.call (nodehead_any w')) ?_
      simp only [Act.put, List.setIfInBounds_toArray, List.set_cons_zero, List.set_cons_succ]
      repeat (first
        | (refine wk_move _ (by first | exact wanted_none rfl | exact wanted_yes _ _ rfl rfl) rfl ?_; simp only [Act.put, Act.eval, Array.getD_eq_getD_getElem?, List.getElem?_toArray, List.getElem?_cons_succ, List.getElem?_cons_zero, Option.getD_some, List.setIfInBounds_toArray, List.set_cons_zero, List.set_cons_succ])
        | (refine wk_assign _ (by first | exact wanted_none rfl | exact wanted_yes _ _ rfl rfl) rfl ?_; simp only [Act.put, Act.eval, Array.getD_eq_getD_getElem?, List.getElem?_toArray, List.getElem?_cons_succ, List.getElem?_cons_zero, Option.getD_some, List.setIfInBounds_toArray, List.set_cons_zero, List.set_cons_succ])
        | (refine wk_pickt _ _ _ _ (by first | exact wanted_none rfl | exact wanted_yes _ _ rfl rfl) rfl rfl rfl ?_; simp only [Act.put, Act.eval, Array.getD_eq_getD_getElem?, List.getElem?_toArray, List.getElem?_cons_succ, List.getElem?_cons_zero, Option.getD_some, List.setIfInBounds_toArray, List.set_cons_zero, List.set_cons_succ])
        | (refine wk_pickf _ _ _ _ (by first | exact wanted_none rfl | exact wanted_yes _ _ rfl rfl) rfl rfl rfl ?_; simp only [Act.put, Act.eval, Array.getD_eq_getD_getElem?, List.getElem?_toArray, List.getElem?_cons_succ, List.getElem?_cons_zero, Option.getD_some, List.setIfInBounds_toArray, List.set_cons_zero, List.set_cons_succ])
        | (refine wk_skip (wanted_not _ true false rfl rfl rfl) ?_; simp only [Act.put, List.setIfInBounds_toArray, List.set_cons_zero, List.set_cons_succ])
        | (refine wk_skip (wanted_not _ false true rfl rfl rfl) ?_; simp only [Act.put, List.setIfInBounds_toArray, List.set_cons_zero, List.set_cons_succ])
        | (refine wk_skip (wanted_undef _ _ rfl rfl) ?_; simp only [Act.put, List.setIfInBounds_toArray, List.set_cons_zero, List.set_cons_succ])
        | (refine wk_not true _ _ (by first | exact wanted_none rfl | exact wanted_yes _ _ rfl rfl) rfl rfl ?_; simp only [Act.put, List.setIfInBounds_toArray, List.set_cons_zero, List.set_cons_succ])
        | (refine wk_not false _ _ (by first | exact wanted_none rfl | exact wanted_yes _ _ rfl rfl) rfl rfl ?_; simp only [Act.put, List.setIfInBounds_toArray, List.set_cons_zero, List.set_cons_succ]))
      refine wk_nil ?_
      intro w' hC
      have hfin : Below w.heap.size w w' := (R5.out.since hC).below
      go_wp2_with fail
      go_ret
      exact ⟨rfl, hfin⟩
end Go.Proofs.YtnhfkmfmmgaecaaDoor
