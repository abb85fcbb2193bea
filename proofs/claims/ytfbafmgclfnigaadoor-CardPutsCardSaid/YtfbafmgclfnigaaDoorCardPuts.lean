/- The card layer: the law CardPuts holds of every card. -/
import Derived.Test.YtfbafmgclfnigaaDoorCardSame
import Derived.Test.YtfbafmgclfnigaaDoorRef06M
import Derived.Test.YtfbafmgclfnigaaDoorPred
namespace Go.Proofs.YtfbafmgclfnigaaDoor
open Go.RowKit
set_option linter.unusedSimpArgs false
set_option linter.unusedVariables false
set_option maxRecDepth 100000
theorem wpo_neqb {P : Program} {Q : Exit → Act → World → Prop} {K : Act → World → Prop} {o : Oper} {a : Act} {w : World} (r : Bool) (t ty : TypeId) (x y : Operand) (m n : Bool) (ho : o.op = .binOp .neq t x y ty) (ht : P.underlying t = some .bool)
    (hx : a.eval x = .bool m) (hy : a.eval y = .bool n) (hr : (m != n) = r) (h : K (a.put o.dst (.bool r)) w) : o.wp P a w K Q :=
  wpo_bin _ .neq t ty x y ho (by
    have : (binOp .neq t (.bool m) (.bool n)).run P w = .ok (.bool (m != n)) w := by simp [binOp, Op.equal, Op.maxDepth, run_equalIn_bool' w 9999 t m n ht]; cases m <;> cases n <;> rfl
    simp [hx, hy, eqGuard, this, hr]) h
/-- What the slots of the drawn region hold. -/
def cardPutsR (D : List UInt8) (C : Array Value) (L : List Nat) (E : Int) (m : Bool) (t : Tmp) (v : Value) (w : World) : Prop :=
  match t with
  | 24 => v = .agg (blk D)
  | 25 => v = .agg (blk D)
  | 26 => v = .bool false
  | 27 => v = .bool false
  | 28 => v = .int .i64 E
  | 29 => v = .int .i64 E
  | 30 => v = .bool false
  | 31 => v = .bool false
  | 32 => v = .bool false
  | 33 => v = .agg C
  | 34 => v = .bool m
  | 35 => v = .agg C
  | 36 => v = .bool m
  | 37 => v = .bool false
  | 38 => v = .bool false
  | 39 => v = .bool false
  | 40 => v = .agg C
  | 41 => NumsAt w v L
  | 42 => v = .agg C
  | 43 => NumsAt w v L
  | 44 => v = .bool true
  | 45 => v = .bool false
  | 46 => v = .bool false
  | _ => True
theorem cardPutsR_stab (D : List UInt8) (C : Array Value) (L : List Nat) (E : Int) (m : Bool) : ∀ t v w w', cardPutsR D C L E m t v w → Below w.heap.size w w' → cardPutsR D C L E m t v w' := by
  intro t v w1 w2 h hb
  revert h
  unfold cardPutsR
  split <;> first | exact id | exact fun h => h.below hb
set_option maxHeartbeats 4000000 in
theorem cardputs_any (c : Card) (hc : c.Ok) (w : World) : Calls Tryd.prog 3 #[.agg c.cells] w fun e w' => e = .returned (.bool true) ∧ Below w.heap.size w w' := by
  obtain ⟨C, hC⟩ : ∃ C, C = c.cells := ⟨_, rfl⟩
  obtain ⟨D, hD⟩ : ∃ D, D = c.putB := ⟨_, rfl⟩
  obtain ⟨E, hE⟩ : ∃ E, E = c.putE := ⟨_, rfl⟩
  obtain ⟨m, hm⟩ : ∃ m, m = c.may := ⟨_, rfl⟩
  obtain ⟨L, hL⟩ : ∃ L, L = some3 c.kids := ⟨_, rfl⟩
  have HDL : Hid (D.length = 256) := Lib.hid (by rw [hD]; exact length_putB c)
  have HDS : Hid ((blk D).size = 256) := Lib.hid (by rw [size_blk, HDL.out])
  have HC1 : Hid (C.all (·.oneCell') = true) := Lib.hid (by rw [hC]; exact cells_one c)
  have HCS : Hid (C.size = 9) := Lib.hid (by rw [hC]; rfl)
  have HC0 : Hid (C[0]? = some (.string c.name)) := Lib.hid (by rw [hC]; rfl)
  have HP : Hid (∀ w, Calls Tryd.prog 11 #[.agg C] w fun e w' => e = .returned (.tuple #[.agg (blk D), .int .i64 E]) ∧ Below w.heap.size w w') := Lib.hid (fun w => by rw [hC, hD, hE]; exact put_all c hc w)
  have HQ : Hid (∀ w, Calls Tryd.prog 12 #[.agg C] w fun e w' => e = .returned (.tuple #[.agg (blk D), .int .i64 E]) ∧ Below w.heap.size w w') := Lib.hid (fun w => by rw [hC, hD, hE]; exact refcput_all c hc w)
  have HMAY : Hid (∀ w, Calls Tryd.prog 13 #[.agg C] w fun e w' => ∃ v, e = .returned v ∧ v = .bool m ∧ Below w.heap.size w w') := Lib.hid (fun w => by rw [hC, hm]; exact call_is (may_any c hc w))
  have HRMAY : Hid (∀ w, Calls Tryd.prog 14 #[.agg C] w fun e w' => ∃ v, e = .returned v ∧ v = .bool m ∧ Below w.heap.size w w') := Lib.hid (fun w => by rw [hC, hm]; exact call_is (refcmay_any c hc w))
  have HKIDS : Hid (∀ w, Calls Tryd.prog 16 #[.agg C] w fun e w' => ∃ v, e = .returned v ∧ NumsAt w' v L ∧ Below w.heap.size w w') := Lib.hid (fun w => by
    rw [hC, hL]; exact (kids_any c hc w).mono fun e w' ⟨v, h1, h2, h3⟩ => ⟨v, h1, OwnNums.at h2, h3⟩)
  have HRKIDS : Hid (∀ w, Calls Tryd.prog 17 #[.agg C] w fun e w' => ∃ v, e = .returned v ∧ NumsAt w' v L ∧ Below w.heap.size w w') := Lib.hid (fun w => by rw [hC, hL]; exact refckids_any c hc w)
  have HLL : L.length ≤ 1000 := by rw [hL]; exact Nat.le_trans (some3_len _) (by show (3 : Nat) ≤ 1000; decide)
  have HSAME : Hid (∀ w u v, NumsAt w u L → NumsAt w v L → Calls Tryd.prog 15 #[u, v] w fun e w'' => ∃ x, e = .returned x ∧ x = .bool true ∧ Below w.heap.size w w'') := Lib.hid (fun w u v hu hv => by
    have := csame_any w u v L L hu hv HLL HLL
    rw [decide_eq_true rfl] at this
    exact call_is this)
  have HG : Hid (m = true → ∀ w, Calls Tryd.prog 18 #[.agg (blk D)] w fun e w' => e = .returned (.tuple #[.agg C, .int .i64 0]) ∧ Below w.heap.size w w') := Lib.hid (fun hm1 w => by
    have hmm : c.may = true := by rw [← hm]; exact hm1
    have hDD : D = doneB 67 c.bytes := by rw [hD]; unfold Card.putB; rw [hmm]; rfl
    obtain ⟨e1, e2⟩ := cget_put c hc hmm
    have := cget_any D HDL.out w
    rw [hDD, e1, e2, ← hC, ← hDD] at this
    exact this)
  have HDZ : Hid (m = false → blk D = zeros 256 (.int .u8 0)) := Lib.hid (fun hm1 => by
    have hmm : c.may = false := by rw [← hm]; exact hm1
    rw [hD, Card.putB, hmm, zeros_blk]; rfl)
  have HEQ : Hid (∀ w : World, (binOp .eql 26 (.agg C) (.agg C)).run Tryd.prog w = .ok (.bool true) w) := Lib.hid (fun w => by rw [hC, run_eql_card w c c, (same_iff c c).2 rfl])
  have HBQ : Hid (∀ w : World, (binOp .neq 29 (.agg (blk D)) (.agg (blk D))).run Tryd.prog w = .ok (.bool false) w) := Lib.hid (fun w => by
    rw [run_neq_blk w 29 5 256 Tryd.underlying29 Tryd.underlying5 sizeU8 D D HDL.out HDL.out]; simp)
  have HBE : Hid (∀ w : World, (binOp .eql 29 (.agg (blk D)) (.agg (blk D))).run Tryd.prog w = .ok (.bool true) w) := Lib.hid (fun w => by
    rw [run_eql_blk w 29 5 256 Tryd.underlying29 Tryd.underlying5 sizeU8 D D HDL.out HDL.out]; simp)
  have HE2 : Hid (E = if m then 0 else 5) := Lib.hid (by rw [hE, hm]; rfl)
  rw [← hC]
  clear hC hD hE hm hL HLL hc
  have q1 := (Rows.start w).alloc C 26
  go_enter Tryd.func3, Tryd.ntmps3
  go_upto_region 1 with (fail)
  obtain ⟨W1, hW⟩ : ∃ W, W = w.alloc (.cells C 26) := ⟨_, rfl⟩
  rw [← hW] at q1 ⊢
  clear hW
  obtain ⟨g1, hg⟩ : ∃ g, g = w.heap.size := ⟨_, rfl⟩
  rw [← hg] at q1 ⊢
  clear hg
  have R1 := Lib.hid q1
  clear q1
  have c0 := R1.out.cell 0 0 rfl HC0.out
  by_cases hsz : 200 < c.name.size
  · go_wp2_with fail
    refine (cardhead_any _).mono ?_
    rintro e w5 ⟨rfl, hb⟩
    have hfin := (R1.out.call hb).below
    clear hb
    go_wp2_with fail
    go_ret
    exact ⟨rfl, hfin⟩
  go_wp2_with (refine wpList_load_row rfl 26 _ rfl g1 rfl 26 C (0, 0) _ (R1.out.get 0 rfl) Tryd.underlying26 rfl (by rw [HCS.out]; exact sizeC) ?_)
  clear c0 hsz
  refine (HP.out _).mono ?_
  rintro e w2 ⟨rfl, hb⟩
  have q1 := (R1.out.call hb).alloc (blk D) 29
  clear hb
  go_upto_region 4 with (first | refine wpList_alloc_row rfl 29 rfl _ zeroB ?_ | refine wpList_store_new rfl 29 _ _ rfl _ (blk D) _ rfl rfl (by rw [HDS.out]; exact sizeB) (by rw [HDS.out, size_zeros]) (blk_one _) ?_)
  obtain ⟨W2, hW⟩ : ∃ W, W = w2.alloc (.cells (blk D) 29) := ⟨_, rfl⟩
  rw [← hW] at q1 ⊢
  clear hW
  obtain ⟨g2, hg⟩ : ∃ g, g = w2.heap.size := ⟨_, rfl⟩
  rw [← hg] at q1 ⊢
  clear hg
  have R2 := Lib.hid q1
  clear q1
  go_wp2_with (refine wpList_load_row rfl 26 _ rfl g1 rfl 26 C (0, 0) _ (R2.out.get 1 rfl) Tryd.underlying26 rfl (by rw [HCS.out]; exact sizeC) ?_)
  refine (HQ.out _).mono ?_
  rintro e w3 ⟨rfl, hb⟩
  have q1 := (R2.out.call hb).alloc (blk D) 29
  clear hb
  go_upto_region 5 with (first | refine wpList_alloc_row rfl 29 rfl _ zeroB ?_ | refine wpList_store_new rfl 29 _ _ rfl _ (blk D) _ rfl rfl (by rw [HDS.out]; exact sizeB) (by rw [HDS.out, size_zeros]) (blk_one _) ?_)
  obtain ⟨W3, hW⟩ : ∃ W, W = w3.alloc (.cells (blk D) 29) := ⟨_, rfl⟩
  rw [← hW] at q1 ⊢
  clear hW
  obtain ⟨g3, hg⟩ : ∃ g, g = w3.heap.size := ⟨_, rfl⟩
  rw [← hg] at q1 ⊢
  clear hg
  have R3 := Lib.hid q1
  clear q1
  refine wp_region_pred (by kernel_rfl) (cardPutsR D C L E m) (cardPutsR_stab D C L E m) (by kernel_rfl) (by kernel_rfl) (by kernel_rfl) ?pops ?pfin
  case pops =>
    refine ⟨⟨24, rfl, fun a w hB hO hD K hK => ?_⟩, ?_⟩
    · rw [if_pos (wanted_none rfl)]
      exact wp_load_all 29 (.tmp 3) g2 29 (blk D) (0, 0) _ rfl (eval_of (v := .pointer (some ⟨g2, 0, none⟩)) (hO 3 (not_dst 3 (by kernel_rfl)))) ((R3.out.since hB).get 1 rfl) Tryd.underlying29 rfl (by rw [HDS.out]; exact sizeB) (hK _ w (Below.refl _ _) rfl)
    refine ⟨⟨25, rfl, fun a w hB hO hD K hK => ?_⟩, ?_⟩
    · rw [if_pos (wanted_none rfl)]
      exact wp_load_all 29 (.tmp 5) g3 29 (blk D) (0, 0) _ rfl (eval_of (v := .pointer (some ⟨g3, 0, none⟩)) (hO 5 (not_dst 5 (by kernel_rfl)))) ((R3.out.since hB).get 0 rfl) Tryd.underlying29 rfl (by rw [HDS.out]; exact sizeB) (hK _ w (Below.refl _ _) rfl)
    refine ⟨⟨26, rfl, fun a w hB hO hD K hK => ?_⟩, ?_⟩
    · rw [if_pos (wanted_none rfl)]
      exact wpo_agg .neq _ 29 29 (.tmp 24) (.tmp 25) _ _ rfl (pred_val (R := cardPutsR D C L E m) hD 0 (by kernel_rfl) 24 rfl (.agg (blk D)) (fun v h => h)) (pred_val (R := cardPutsR D C L E m) hD 1 (by kernel_rfl) 25 rfl (.agg (blk D)) (fun v h => h)) (by kernel_rfl) (HBQ.out w) (hK _ w (Below.refl _ _) rfl)
    refine ⟨⟨27, rfl, fun a w hB hO hD K hK => ?_⟩, ?_⟩
    · rw [if_pos (wanted_none rfl)]
      exact wpo_move (.tmp 26) (.bool false) rfl (pred_val (R := cardPutsR D C L E m) hD 2 (by kernel_rfl) 26 rfl (.bool false) (fun v h => h)) (hK _ w (Below.refl _ _) rfl)
    refine ⟨⟨28, rfl, fun a w hB hO hD K hK => ?_⟩, ?_⟩
    · rw [if_pos (pred_yes (R := cardPutsR D C L E m) hD 3 false rfl (by kernel_rfl) 27 rfl (fun v h => h))]
      exact wpo_move (.tmp 4) (.int .i64 E) rfl (eval_of (v := .int .i64 E) (hO 4 (not_dst 4 (by kernel_rfl)))) (hK _ w (Below.refl _ _) rfl)
    refine ⟨⟨29, rfl, fun a w hB hO hD K hK => ?_⟩, ?_⟩
    · rw [if_pos (pred_yes (R := cardPutsR D C L E m) hD 3 false rfl (by kernel_rfl) 27 rfl (fun v h => h))]
      exact wpo_move (.tmp 6) (.int .i64 E) rfl (eval_of (v := .int .i64 E) (hO 6 (not_dst 6 (by kernel_rfl)))) (hK _ w (Below.refl _ _) rfl)
    refine ⟨⟨30, rfl, fun a w hB hO hD K hK => ?_⟩, ?_⟩
    · rw [if_pos (pred_yes (R := cardPutsR D C L E m) hD 3 false rfl (by kernel_rfl) 27 rfl (fun v h => h))]
      exact wpo_cmp .neq _ 3 3 (.tmp 28) (.tmp 29) _ _ _ rfl (pred_val (R := cardPutsR D C L E m) hD 4 (by kernel_rfl) 28 rfl (.int .i64 E) (fun v h => h)) (pred_val (R := cardPutsR D C L E m) hD 5 (by kernel_rfl) 29 rfl (.int .i64 E) (fun v h => h)) (by simp [cmpInt]) (hK _ w (Below.refl _ _) rfl)
    refine ⟨⟨31, rfl, fun a w hB hO hD K hK => ?_⟩, ?_⟩
    · rw [if_pos (wanted_none rfl)]
      exact wpo_pick false (.tmp 27) (.const (.bool true)) (.tmp 30) (.bool false) rfl (pred_val (R := cardPutsR D C L E m) hD 3 (by kernel_rfl) 27 rfl (.bool false) (fun v h => h)) (pred_val (R := cardPutsR D C L E m) hD 6 (by kernel_rfl) 30 rfl (.bool false) (fun v h => h)) (hK _ w (Below.refl _ _) rfl)
    refine ⟨⟨32, rfl, fun a w hB hO hD K hK => ?_⟩, ?_⟩
    · rw [if_pos (wanted_none rfl)]
      exact wpo_move (.tmp 31) (.bool false) rfl (pred_val (R := cardPutsR D C L E m) hD 7 (by kernel_rfl) 31 rfl (.bool false) (fun v h => h)) (hK _ w (Below.refl _ _) rfl)
    refine ⟨⟨33, rfl, fun a w hB hO hD K hK => ?_⟩, ?_⟩
    · rw [if_pos (pred_yes (R := cardPutsR D C L E m) hD 8 false rfl (by kernel_rfl) 32 rfl (fun v h => h))]
      exact wp_load_all 26 (.tmp 1) g1 26 C (0, 0) _ rfl (eval_of (v := .pointer (some ⟨g1, 0, none⟩)) (hO 1 (not_dst 1 (by kernel_rfl)))) ((R3.out.since hB).get 2 rfl) Tryd.underlying26 rfl (by rw [HCS.out]; exact sizeC) (hK _ w (Below.refl _ _) rfl)
    refine ⟨⟨34, rfl, fun a w hB hO hD K hK => ?_⟩, ?_⟩
    · rw [if_pos (pred_yes (R := cardPutsR D C L E m) hD 8 false rfl (by kernel_rfl) 32 rfl (fun v h => h))]
      refine wpo_call 13 [.tmp 33] _ #[.agg C] _ _ _ rfl Tryd.func13 rfl (by kernel_rfl) ?_ (HMAY.out w) (fun v w' hb h => hK v w' hb h)
      show #[a.eval (.tmp 33)] = _
      rw [show a.eval (.tmp 33) = .agg C from (pred_val (R := cardPutsR D C L E m) hD 9 (by kernel_rfl) 33 rfl (.agg C) (fun v h => h))]
    refine ⟨⟨35, rfl, fun a w hB hO hD K hK => ?_⟩, ?_⟩
    · rw [if_pos (pred_yes (R := cardPutsR D C L E m) hD 8 false rfl (by kernel_rfl) 32 rfl (fun v h => h))]
      exact wp_load_all 26 (.tmp 1) g1 26 C (0, 0) _ rfl (eval_of (v := .pointer (some ⟨g1, 0, none⟩)) (hO 1 (not_dst 1 (by kernel_rfl)))) ((R3.out.since hB).get 2 rfl) Tryd.underlying26 rfl (by rw [HCS.out]; exact sizeC) (hK _ w (Below.refl _ _) rfl)
    refine ⟨⟨36, rfl, fun a w hB hO hD K hK => ?_⟩, ?_⟩
    · rw [if_pos (pred_yes (R := cardPutsR D C L E m) hD 8 false rfl (by kernel_rfl) 32 rfl (fun v h => h))]
      refine wpo_call 14 [.tmp 35] _ #[.agg C] _ _ _ rfl Tryd.func14 rfl (by kernel_rfl) ?_ (HRMAY.out w) (fun v w' hb h => hK v w' hb h)
      show #[a.eval (.tmp 35)] = _
      rw [show a.eval (.tmp 35) = .agg C from (pred_val (R := cardPutsR D C L E m) hD 11 (by kernel_rfl) 35 rfl (.agg C) (fun v h => h))]
    refine ⟨⟨37, rfl, fun a w hB hO hD K hK => ?_⟩, ?_⟩
    · rw [if_pos (pred_yes (R := cardPutsR D C L E m) hD 8 false rfl (by kernel_rfl) 32 rfl (fun v h => h))]
      exact wpo_neqb false _ 4 (.tmp 34) (.tmp 36) _ _ rfl Tryd.underlying4 (pred_val (R := cardPutsR D C L E m) hD 10 (by kernel_rfl) 34 rfl (.bool m) (fun v h => h)) (pred_val (R := cardPutsR D C L E m) hD 12 (by kernel_rfl) 36 rfl (.bool m) (fun v h => h)) (by cases m <;> rfl) (hK _ w (Below.refl _ _) rfl)
    refine ⟨⟨38, rfl, fun a w hB hO hD K hK => ?_⟩, ?_⟩
    · rw [if_pos (wanted_none rfl)]
      exact wpo_pick false (.tmp 32) (.const (.bool true)) (.tmp 37) (.bool false) rfl (pred_val (R := cardPutsR D C L E m) hD 8 (by kernel_rfl) 32 rfl (.bool false) (fun v h => h)) (pred_val (R := cardPutsR D C L E m) hD 13 (by kernel_rfl) 37 rfl (.bool false) (fun v h => h)) (hK _ w (Below.refl _ _) rfl)
    refine ⟨⟨39, rfl, fun a w hB hO hD K hK => ?_⟩, ?_⟩
    · rw [if_pos (wanted_none rfl)]
      exact wpo_move (.tmp 38) (.bool false) rfl (pred_val (R := cardPutsR D C L E m) hD 14 (by kernel_rfl) 38 rfl (.bool false) (fun v h => h)) (hK _ w (Below.refl _ _) rfl)
    refine ⟨⟨40, rfl, fun a w hB hO hD K hK => ?_⟩, ?_⟩
    · rw [if_pos (pred_yes (R := cardPutsR D C L E m) hD 15 false rfl (by kernel_rfl) 39 rfl (fun v h => h))]
      exact wp_load_all 26 (.tmp 1) g1 26 C (0, 0) _ rfl (eval_of (v := .pointer (some ⟨g1, 0, none⟩)) (hO 1 (not_dst 1 (by kernel_rfl)))) ((R3.out.since hB).get 2 rfl) Tryd.underlying26 rfl (by rw [HCS.out]; exact sizeC) (hK _ w (Below.refl _ _) rfl)
    refine ⟨⟨41, rfl, fun a w hB hO hD K hK => ?_⟩, ?_⟩
    · rw [if_pos (pred_yes (R := cardPutsR D C L E m) hD 15 false rfl (by kernel_rfl) 39 rfl (fun v h => h))]
      refine wpo_call 16 [.tmp 40] _ #[.agg C] _ _ _ rfl Tryd.func16 rfl (by kernel_rfl) ?_ (HKIDS.out w) (fun v w' hb h => hK v w' hb h)
      show #[a.eval (.tmp 40)] = _
      rw [show a.eval (.tmp 40) = .agg C from (pred_val (R := cardPutsR D C L E m) hD 16 (by kernel_rfl) 40 rfl (.agg C) (fun v h => h))]
    refine ⟨⟨42, rfl, fun a w hB hO hD K hK => ?_⟩, ?_⟩
    · rw [if_pos (pred_yes (R := cardPutsR D C L E m) hD 15 false rfl (by kernel_rfl) 39 rfl (fun v h => h))]
      exact wp_load_all 26 (.tmp 1) g1 26 C (0, 0) _ rfl (eval_of (v := .pointer (some ⟨g1, 0, none⟩)) (hO 1 (not_dst 1 (by kernel_rfl)))) ((R3.out.since hB).get 2 rfl) Tryd.underlying26 rfl (by rw [HCS.out]; exact sizeC) (hK _ w (Below.refl _ _) rfl)
    refine ⟨⟨43, rfl, fun a w hB hO hD K hK => ?_⟩, ?_⟩
    · rw [if_pos (pred_yes (R := cardPutsR D C L E m) hD 15 false rfl (by kernel_rfl) 39 rfl (fun v h => h))]
      refine wpo_call 17 [.tmp 42] _ #[.agg C] _ _ _ rfl Tryd.func17 rfl (by kernel_rfl) ?_ (HRKIDS.out w) (fun v w' hb h => hK v w' hb h)
      show #[a.eval (.tmp 42)] = _
      rw [show a.eval (.tmp 42) = .agg C from (pred_val (R := cardPutsR D C L E m) hD 18 (by kernel_rfl) 42 rfl (.agg C) (fun v h => h))]
    refine ⟨⟨44, rfl, fun a w hB hO hD K hK => ?_⟩, ?_⟩
    · rw [if_pos (pred_yes (R := cardPutsR D C L E m) hD 15 false rfl (by kernel_rfl) 39 rfl (fun v h => h))]
      obtain ⟨u0, e0, h0⟩ := pred_dep (R := cardPutsR D C L E m) hD 17 (by kernel_rfl) 41 rfl
      obtain ⟨u1, e1, h1⟩ := pred_dep (R := cardPutsR D C L E m) hD 19 (by kernel_rfl) 43 rfl
      refine wpo_call 15 [.tmp 41, .tmp 43] _ #[u0, u1] _ _ _ rfl Tryd.func15 rfl (by kernel_rfl) ?_ (HSAME.out w _ _ h0 h1) (fun v w' hb h => hK v w' hb h)
      show #[a.eval (.tmp 41), a.eval (.tmp 43)] = _
      rw [eval_of e0, eval_of e1]
    refine ⟨⟨45, rfl, fun a w hB hO hD K hK => ?_⟩, ?_⟩
    · rw [if_pos (pred_yes (R := cardPutsR D C L E m) hD 15 false rfl (by kernel_rfl) 39 rfl (fun v h => h))]
      exact wpo_not _ 4 (.tmp 44) rfl (pred_val (R := cardPutsR D C L E m) hD 20 (by kernel_rfl) 44 rfl (.bool true) (fun v h => h)) (hK _ w (Below.refl _ _) rfl)
    refine ⟨⟨46, rfl, fun a w hB hO hD K hK => ?_⟩, ?_⟩
    · rw [if_pos (wanted_none rfl)]
      exact wpo_pick false (.tmp 39) (.const (.bool true)) (.tmp 45) (.bool false) rfl (pred_val (R := cardPutsR D C L E m) hD 15 (by kernel_rfl) 39 rfl (.bool false) (fun v h => h)) (pred_val (R := cardPutsR D C L E m) hD 21 (by kernel_rfl) 45 rfl (.bool false) (fun v h => h)) (hK _ w (Below.refl _ _) rfl)
    exact trivial
  case pfin =>
    intro V w4 hB hV
    simp only [putAll, List.setIfInBounds_toArray, List.set_cons_zero, List.set_cons_succ]
    have e46 : V 46 = .bool false := hV 22 _ 46 rfl rfl
    rw [e46]
    have R4 := Lib.hid (R3.out.since hB)
    clear hB hV e46
    cases m
    · obtain rfl : E = 5 := HE2.out
      have HZ := Lib.hid (HDZ.out rfl)
      go_upto_region 8 with (fail)
      refine wk_plain_since ?_
      repeat (first
        | (refine wk_move _ (by first | exact wanted_none rfl | exact wanted_yes _ _ rfl rfl) rfl ?_; simp only [Act.put, Act.eval, Array.getD_eq_getD_getElem?, List.getElem?_toArray, List.getElem?_cons_succ, List.getElem?_cons_zero, Option.getD_some, List.setIfInBounds_toArray, List.set_cons_zero, List.set_cons_succ])
        | (refine wk_assign _ (by first | exact wanted_none rfl | exact wanted_yes _ _ rfl rfl) rfl ?_; simp only [Act.put, Act.eval, Array.getD_eq_getD_getElem?, List.getElem?_toArray, List.getElem?_cons_succ, List.getElem?_cons_zero, Option.getD_some, List.setIfInBounds_toArray, List.set_cons_zero, List.set_cons_succ])
        | (refine wk_pickt _ _ _ _ (by first | exact wanted_none rfl | exact wanted_yes _ _ rfl rfl) rfl rfl rfl ?_; simp only [Act.put, Act.eval, Array.getD_eq_getD_getElem?, List.getElem?_toArray, List.getElem?_cons_succ, List.getElem?_cons_zero, Option.getD_some, List.setIfInBounds_toArray, List.set_cons_zero, List.set_cons_succ])
        | (refine wk_pickf _ _ _ _ (by first | exact wanted_none rfl | exact wanted_yes _ _ rfl rfl) rfl rfl rfl ?_; simp only [Act.put, Act.eval, Array.getD_eq_getD_getElem?, List.getElem?_toArray, List.getElem?_cons_succ, List.getElem?_cons_zero, Option.getD_some, List.setIfInBounds_toArray, List.set_cons_zero, List.set_cons_succ])
        | (refine wk_skip (wanted_not _ true false rfl rfl rfl) ?_; simp only [Act.put, List.setIfInBounds_toArray, List.set_cons_zero, List.set_cons_succ])
        | (refine wk_skip (wanted_not _ false true rfl rfl rfl) ?_; simp only [Act.put, List.setIfInBounds_toArray, List.set_cons_zero, List.set_cons_succ])
        | (refine wk_skip (wanted_undef _ _ rfl rfl) ?_; simp only [Act.put, List.setIfInBounds_toArray, List.set_cons_zero, List.set_cons_succ])
        | (refine wk_not true _ _ (by first | exact wanted_none rfl | exact wanted_yes _ _ rfl rfl) rfl rfl ?_; simp only [Act.put, List.setIfInBounds_toArray, List.set_cons_zero, List.set_cons_succ])
        | (refine wk_not false _ _ (by first | exact wanted_none rfl | exact wanted_yes _ _ rfl rfl) rfl rfl ?_; simp only [Act.put, List.setIfInBounds_toArray, List.set_cons_zero, List.set_cons_succ]))
      refine wk_eql_int true _ _ _ _ _ _ _ (by kernel_rfl) rfl rfl rfl (by decide) ?_
      simp only [Act.put, List.setIfInBounds_toArray, List.set_cons_zero, List.set_cons_succ]
      repeat (first
        | (refine wk_move _ (by first | exact wanted_none rfl | exact wanted_yes _ _ rfl rfl) rfl ?_; simp only [Act.put, Act.eval, Array.getD_eq_getD_getElem?, List.getElem?_toArray, List.getElem?_cons_succ, List.getElem?_cons_zero, Option.getD_some, List.setIfInBounds_toArray, List.set_cons_zero, List.set_cons_succ])
        | (refine wk_assign _ (by first | exact wanted_none rfl | exact wanted_yes _ _ rfl rfl) rfl ?_; simp only [Act.put, Act.eval, Array.getD_eq_getD_getElem?, List.getElem?_toArray, List.getElem?_cons_succ, List.getElem?_cons_zero, Option.getD_some, List.setIfInBounds_toArray, List.set_cons_zero, List.set_cons_succ])
        | (refine wk_pickt _ _ _ _ (by first | exact wanted_none rfl | exact wanted_yes _ _ rfl rfl) rfl rfl rfl ?_; simp only [Act.put, Act.eval, Array.getD_eq_getD_getElem?, List.getElem?_toArray, List.getElem?_cons_succ, List.getElem?_cons_zero, Option.getD_some, List.setIfInBounds_toArray, List.set_cons_zero, List.set_cons_succ])
        | (refine wk_pickf _ _ _ _ (by first | exact wanted_none rfl | exact wanted_yes _ _ rfl rfl) rfl rfl rfl ?_; simp only [Act.put, Act.eval, Array.getD_eq_getD_getElem?, List.getElem?_toArray, List.getElem?_cons_succ, List.getElem?_cons_zero, Option.getD_some, List.setIfInBounds_toArray, List.set_cons_zero, List.set_cons_succ])
        | (refine wk_skip (wanted_not _ true false rfl rfl rfl) ?_; simp only [Act.put, List.setIfInBounds_toArray, List.set_cons_zero, List.set_cons_succ])
        | (refine wk_skip (wanted_not _ false true rfl rfl rfl) ?_; simp only [Act.put, List.setIfInBounds_toArray, List.set_cons_zero, List.set_cons_succ])
        | (refine wk_skip (wanted_undef _ _ rfl rfl) ?_; simp only [Act.put, List.setIfInBounds_toArray, List.set_cons_zero, List.set_cons_succ])
        | (refine wk_not true _ _ (by first | exact wanted_none rfl | exact wanted_yes _ _ rfl rfl) rfl rfl ?_; simp only [Act.put, List.setIfInBounds_toArray, List.set_cons_zero, List.set_cons_succ])
        | (refine wk_not false _ _ (by first | exact wanted_none rfl | exact wanted_yes _ _ rfl rfl) rfl rfl ?_; simp only [Act.put, List.setIfInBounds_toArray, List.set_cons_zero, List.set_cons_succ]))
      refine wk_load_row 29 _ g2 29 (blk D) (0, 0) _ (by kernel_rfl) rfl rfl (fun w' hC => hC.row (R4.out.get 1 rfl)) Tryd.underlying29 rfl (by rw [HDS.out]; exact sizeB) ?_
      simp only [Act.put, List.setIfInBounds_toArray, List.set_cons_zero, List.set_cons_succ]
      refine wk_build_none 29 _ (by first | exact wanted_none rfl | exact wanted_yes _ _ rfl rfl) rfl zeroB Tryd.underlying29 rfl ?_
      simp only [Act.put, List.setIfInBounds_toArray, List.set_cons_zero, List.set_cons_succ]
      rw [← HZ.out]
      refine wk_eql .eql (true) 29 29 _ _ (by first | exact wanted_none rfl | exact wanted_yes _ _ rfl rfl) rfl _ _ rfl rfl (by kernel_rfl) (fun w => HBE.out w) ?_
      simp only [Act.put, List.setIfInBounds_toArray, List.set_cons_zero, List.set_cons_succ]
      repeat (first
        | (refine wk_move _ (by first | exact wanted_none rfl | exact wanted_yes _ _ rfl rfl) rfl ?_; simp only [Act.put, Act.eval, Array.getD_eq_getD_getElem?, List.getElem?_toArray, List.getElem?_cons_succ, List.getElem?_cons_zero, Option.getD_some, List.setIfInBounds_toArray, List.set_cons_zero, List.set_cons_succ])
        | (refine wk_assign _ (by first | exact wanted_none rfl | exact wanted_yes _ _ rfl rfl) rfl ?_; simp only [Act.put, Act.eval, Array.getD_eq_getD_getElem?, List.getElem?_toArray, List.getElem?_cons_succ, List.getElem?_cons_zero, Option.getD_some, List.setIfInBounds_toArray, List.set_cons_zero, List.set_cons_succ])
        | (refine wk_pickt _ _ _ _ (by first | exact wanted_none rfl | exact wanted_yes _ _ rfl rfl) rfl rfl rfl ?_; simp only [Act.put, Act.eval, Array.getD_eq_getD_getElem?, List.getElem?_toArray, List.getElem?_cons_succ, List.getElem?_cons_zero, Option.getD_some, List.setIfInBounds_toArray, List.set_cons_zero, List.set_cons_succ])
        | (refine wk_pickf _ _ _ _ (by first | exact wanted_none rfl | exact wanted_yes _ _ rfl rfl) rfl rfl rfl ?_; simp only [Act.put, Act.eval, Array.getD_eq_getD_getElem?, List.getElem?_toArray, List.getElem?_cons_succ, List.getElem?_cons_zero, Option.getD_some, List.setIfInBounds_toArray, List.set_cons_zero, List.set_cons_succ])
        | (refine wk_skip (wanted_not _ true false rfl rfl rfl) ?_; simp only [Act.put, List.setIfInBounds_toArray, List.set_cons_zero, List.set_cons_succ])
        | (refine wk_skip (wanted_not _ false true rfl rfl rfl) ?_; simp only [Act.put, List.setIfInBounds_toArray, List.set_cons_zero, List.set_cons_succ])
        | (refine wk_skip (wanted_undef _ _ rfl rfl) ?_; simp only [Act.put, List.setIfInBounds_toArray, List.set_cons_zero, List.set_cons_succ])
        | (refine wk_not true _ _ (by first | exact wanted_none rfl | exact wanted_yes _ _ rfl rfl) rfl rfl ?_; simp only [Act.put, List.setIfInBounds_toArray, List.set_cons_zero, List.set_cons_succ])
        | (refine wk_not false _ _ (by first | exact wanted_none rfl | exact wanted_yes _ _ rfl rfl) rfl rfl ?_; simp only [Act.put, List.setIfInBounds_toArray, List.set_cons_zero, List.set_cons_succ]))
      refine wk_call 10 _ _ _ _ _ (by kernel_rfl) rfl Tryd.func10 rfl (by kernel_rfl) (fun w' hC => hC.call (cardhead_any w')) ?_
      simp only [Act.put, List.setIfInBounds_toArray, List.set_cons_zero, List.set_cons_succ]
      repeat (first
        | (refine wk_move _ (by first | exact wanted_none rfl | exact wanted_yes _ _ rfl rfl) rfl ?_; simp only [Act.put, Act.eval, Array.getD_eq_getD_getElem?, List.getElem?_toArray, List.getElem?_cons_succ, List.getElem?_cons_zero, Option.getD_some, List.setIfInBounds_toArray, List.set_cons_zero, List.set_cons_succ])
        | (refine wk_assign _ (by first | exact wanted_none rfl | exact wanted_yes _ _ rfl rfl) rfl ?_; simp only [Act.put, Act.eval, Array.getD_eq_getD_getElem?, List.getElem?_toArray, List.getElem?_cons_succ, List.getElem?_cons_zero, Option.getD_some, List.setIfInBounds_toArray, List.set_cons_zero, List.set_cons_succ])
        | (refine wk_pickt _ _ _ _ (by first | exact wanted_none rfl | exact wanted_yes _ _ rfl rfl) rfl rfl rfl ?_; simp only [Act.put, Act.eval, Array.getD_eq_getD_getElem?, List.getElem?_toArray, List.getElem?_cons_succ, List.getElem?_cons_zero, Option.getD_some, List.setIfInBounds_toArray, List.set_cons_zero, List.set_cons_succ])
        | (refine wk_pickf _ _ _ _ (by first | exact wanted_none rfl | exact wanted_yes _ _ rfl rfl) rfl rfl rfl ?_; simp only [Act.put, Act.eval, Array.getD_eq_getD_getElem?, List.getElem?_toArray, List.getElem?_cons_succ, List.getElem?_cons_zero, Option.getD_some, List.setIfInBounds_toArray, List.set_cons_zero, List.set_cons_succ])
        | (refine wk_skip (wanted_not _ true false rfl rfl rfl) ?_; simp only [Act.put, List.setIfInBounds_toArray, List.set_cons_zero, List.set_cons_succ])
        | (refine wk_skip (wanted_not _ false true rfl rfl rfl) ?_; simp only [Act.put, List.setIfInBounds_toArray, List.set_cons_zero, List.set_cons_succ])
        | (refine wk_skip (wanted_undef _ _ rfl rfl) ?_; simp only [Act.put, List.setIfInBounds_toArray, List.set_cons_zero, List.set_cons_succ])
        | (refine wk_not true _ _ (by first | exact wanted_none rfl | exact wanted_yes _ _ rfl rfl) rfl rfl ?_; simp only [Act.put, List.setIfInBounds_toArray, List.set_cons_zero, List.set_cons_succ])
        | (refine wk_not false _ _ (by first | exact wanted_none rfl | exact wanted_yes _ _ rfl rfl) rfl rfl ?_; simp only [Act.put, List.setIfInBounds_toArray, List.set_cons_zero, List.set_cons_succ]))
      refine wk_nil ?_
      intro w' hC
      have hfin : Below w.heap.size w w' := (R4.out.since hC).below
      go_wp2_with fail
      go_ret
      exact ⟨rfl, hfin⟩
    · obtain rfl : E = 0 := HE2.out
      have HGG := Lib.hid (HG.out rfl)
      go_wp2_with (refine wpList_load_row rfl 29 _ rfl g2 rfl 29 (blk D) (0, 0) _ (R4.out.get 1 rfl) Tryd.underlying29 rfl (by rw [HDS.out]; exact sizeB) ?_)
      refine (HGG.out _).mono ?_
      rintro e w5 ⟨rfl, hb⟩
      have q1 := (R4.out.call hb).alloc C 26
      clear hb
      go_upto_region 10 with (first | refine wpList_alloc_row rfl 26 rfl _ zeroC ?_ | refine wpList_store_new rfl 26 _ _ rfl _ C _ rfl rfl (by rw [HCS.out]; exact sizeC) (by rw [HCS.out]; rfl) HC1.out ?_)
      obtain ⟨W5, hW⟩ : ∃ W, W = w5.alloc (.cells C 26) := ⟨_, rfl⟩
      rw [← hW] at q1 ⊢
      clear hW
      obtain ⟨g4, hg⟩ : ∃ g, g = w5.heap.size := ⟨_, rfl⟩
      rw [← hg] at q1 ⊢
      clear hg
      have R5 := Lib.hid q1
      clear q1
      refine wk_plain_since ?_
      refine wk_load_row 26 _ g4 26 C (0, 0) _ (by kernel_rfl) rfl rfl (fun w' hC => hC.row (R5.out.get 0 rfl)) Tryd.underlying26 rfl (by rw [HCS.out]; exact sizeC) ?_
      simp only [Act.put, List.setIfInBounds_toArray, List.set_cons_zero, List.set_cons_succ]
      refine wk_load_row 26 _ g1 26 C (0, 0) _ (by kernel_rfl) rfl rfl (fun w' hC => hC.row (R5.out.get 3 rfl)) Tryd.underlying26 rfl (by rw [HCS.out]; exact sizeC) ?_
      simp only [Act.put, List.setIfInBounds_toArray, List.set_cons_zero, List.set_cons_succ]
      refine wk_eql .eql (true) 26 26 _ _ (by first | exact wanted_none rfl | exact wanted_yes _ _ rfl rfl) rfl _ _ rfl rfl (by kernel_rfl) (fun w => HEQ.out w) ?_
      simp only [Act.put, List.setIfInBounds_toArray, List.set_cons_zero, List.set_cons_succ]
      repeat (first
        | (refine wk_move _ (by first | exact wanted_none rfl | exact wanted_yes _ _ rfl rfl) rfl ?_; simp only [Act.put, Act.eval, Array.getD_eq_getD_getElem?, List.getElem?_toArray, List.getElem?_cons_succ, List.getElem?_cons_zero, Option.getD_some, List.setIfInBounds_toArray, List.set_cons_zero, List.set_cons_succ])
        | (refine wk_assign _ (by first | exact wanted_none rfl | exact wanted_yes _ _ rfl rfl) rfl ?_; simp only [Act.put, Act.eval, Array.getD_eq_getD_getElem?, List.getElem?_toArray, List.getElem?_cons_succ, List.getElem?_cons_zero, Option.getD_some, List.setIfInBounds_toArray, List.set_cons_zero, List.set_cons_succ])
        | (refine wk_pickt _ _ _ _ (by first | exact wanted_none rfl | exact wanted_yes _ _ rfl rfl) rfl rfl rfl ?_; simp only [Act.put, Act.eval, Array.getD_eq_getD_getElem?, List.getElem?_toArray, List.getElem?_cons_succ, List.getElem?_cons_zero, Option.getD_some, List.setIfInBounds_toArray, List.set_cons_zero, List.set_cons_succ])
        | (refine wk_pickf _ _ _ _ (by first | exact wanted_none rfl | exact wanted_yes _ _ rfl rfl) rfl rfl rfl ?_; simp only [Act.put, Act.eval, Array.getD_eq_getD_getElem?, List.getElem?_toArray, List.getElem?_cons_succ, List.getElem?_cons_zero, Option.getD_some, List.setIfInBounds_toArray, List.set_cons_zero, List.set_cons_succ])
        | (refine wk_skip (wanted_not _ true false rfl rfl rfl) ?_; simp only [Act.put, List.setIfInBounds_toArray, List.set_cons_zero, List.set_cons_succ])
        | (refine wk_skip (wanted_not _ false true rfl rfl rfl) ?_; simp only [Act.put, List.setIfInBounds_toArray, List.set_cons_zero, List.set_cons_succ])
        | (refine wk_skip (wanted_undef _ _ rfl rfl) ?_; simp only [Act.put, List.setIfInBounds_toArray, List.set_cons_zero, List.set_cons_succ])
        | (refine wk_not true _ _ (by first | exact wanted_none rfl | exact wanted_yes _ _ rfl rfl) rfl rfl ?_; simp only [Act.put, List.setIfInBounds_toArray, List.set_cons_zero, List.set_cons_succ])
        | (refine wk_not false _ _ (by first | exact wanted_none rfl | exact wanted_yes _ _ rfl rfl) rfl rfl ?_; simp only [Act.put, List.setIfInBounds_toArray, List.set_cons_zero, List.set_cons_succ]))
      refine wk_eql_int true _ _ _ _ _ _ _ (by kernel_rfl) rfl rfl rfl (by decide) ?_
      simp only [Act.put, List.setIfInBounds_toArray, List.set_cons_zero, List.set_cons_succ]
      repeat (first
        | (refine wk_move _ (by first | exact wanted_none rfl | exact wanted_yes _ _ rfl rfl) rfl ?_; simp only [Act.put, Act.eval, Array.getD_eq_getD_getElem?, List.getElem?_toArray, List.getElem?_cons_succ, List.getElem?_cons_zero, Option.getD_some, List.setIfInBounds_toArray, List.set_cons_zero, List.set_cons_succ])
        | (refine wk_assign _ (by first | exact wanted_none rfl | exact wanted_yes _ _ rfl rfl) rfl ?_; simp only [Act.put, Act.eval, Array.getD_eq_getD_getElem?, List.getElem?_toArray, List.getElem?_cons_succ, List.getElem?_cons_zero, Option.getD_some, List.setIfInBounds_toArray, List.set_cons_zero, List.set_cons_succ])
        | (refine wk_pickt _ _ _ _ (by first | exact wanted_none rfl | exact wanted_yes _ _ rfl rfl) rfl rfl rfl ?_; simp only [Act.put, Act.eval, Array.getD_eq_getD_getElem?, List.getElem?_toArray, List.getElem?_cons_succ, List.getElem?_cons_zero, Option.getD_some, List.setIfInBounds_toArray, List.set_cons_zero, List.set_cons_succ])
        | (refine wk_pickf _ _ _ _ (by first | exact wanted_none rfl | exact wanted_yes _ _ rfl rfl) rfl rfl rfl ?_; simp only [Act.put, Act.eval, Array.getD_eq_getD_getElem?, List.getElem?_toArray, List.getElem?_cons_succ, List.getElem?_cons_zero, Option.getD_some, List.setIfInBounds_toArray, List.set_cons_zero, List.set_cons_succ])
        | (refine wk_skip (wanted_not _ true false rfl rfl rfl) ?_; simp only [Act.put, List.setIfInBounds_toArray, List.set_cons_zero, List.set_cons_succ])
        | (refine wk_skip (wanted_not _ false true rfl rfl rfl) ?_; simp only [Act.put, List.setIfInBounds_toArray, List.set_cons_zero, List.set_cons_succ])
        | (refine wk_skip (wanted_undef _ _ rfl rfl) ?_; simp only [Act.put, List.setIfInBounds_toArray, List.set_cons_zero, List.set_cons_succ])
        | (refine wk_not true _ _ (by first | exact wanted_none rfl | exact wanted_yes _ _ rfl rfl) rfl rfl ?_; simp only [Act.put, List.setIfInBounds_toArray, List.set_cons_zero, List.set_cons_succ])
        | (refine wk_not false _ _ (by first | exact wanted_none rfl | exact wanted_yes _ _ rfl rfl) rfl rfl ?_; simp only [Act.put, List.setIfInBounds_toArray, List.set_cons_zero, List.set_cons_succ]))
      refine wk_call 10 _ _ _ _ _ (by kernel_rfl) rfl Tryd.func10 rfl (by kernel_rfl) (fun w' hC => hC.call (cardhead_any w')) ?_
      simp only [Act.put, List.setIfInBounds_toArray, List.set_cons_zero, List.set_cons_succ]
      repeat (first
        | (refine wk_move _ (by first | exact wanted_none rfl | exact wanted_yes _ _ rfl rfl) rfl ?_; simp only [Act.put, Act.eval, Array.getD_eq_getD_getElem?, List.getElem?_toArray, List.getElem?_cons_succ, List.getElem?_cons_zero, Option.getD_some, List.setIfInBounds_toArray, List.set_cons_zero, List.set_cons_succ])
        | (refine wk_assign _ (by first | exact wanted_none rfl | exact wanted_yes _ _ rfl rfl) rfl ?_; simp only [Act.put, Act.eval, Array.getD_eq_getD_getElem?, List.getElem?_toArray, List.getElem?_cons_succ, List.getElem?_cons_zero, Option.getD_some, List.setIfInBounds_toArray, List.set_cons_zero, List.set_cons_succ])
        | (refine wk_pickt _ _ _ _ (by first | exact wanted_none rfl | exact wanted_yes _ _ rfl rfl) rfl rfl rfl ?_; simp only [Act.put, Act.eval, Array.getD_eq_getD_getElem?, List.getElem?_toArray, List.getElem?_cons_succ, List.getElem?_cons_zero, Option.getD_some, List.setIfInBounds_toArray, List.set_cons_zero, List.set_cons_succ])
        | (refine wk_pickf _ _ _ _ (by first | exact wanted_none rfl | exact wanted_yes _ _ rfl rfl) rfl rfl rfl ?_; simp only [Act.put, Act.eval, Array.getD_eq_getD_getElem?, List.getElem?_toArray, List.getElem?_cons_succ, List.getElem?_cons_zero, Option.getD_some, List.setIfInBounds_toArray, List.set_cons_zero, List.set_cons_succ])
        | (refine wk_skip (wanted_not _ true false rfl rfl rfl) ?_; simp only [Act.put, List.setIfInBounds_toArray, List.set_cons_zero, List.set_cons_succ])
        | (refine wk_skip (wanted_not _ false true rfl rfl rfl) ?_; simp only [Act.put, List.setIfInBounds_toArray, List.set_cons_zero, List.set_cons_succ])
        | (refine wk_skip (wanted_undef _ _ rfl rfl) ?_; simp only [Act.put, List.setIfInBounds_toArray, List.set_cons_zero, List.set_cons_succ])
        | (refine wk_not true _ _ (by first | exact wanted_none rfl | exact wanted_yes _ _ rfl rfl) rfl rfl ?_; simp only [Act.put, List.setIfInBounds_toArray, List.set_cons_zero, List.set_cons_succ])
        | (refine wk_not false _ _ (by first | exact wanted_none rfl | exact wanted_yes _ _ rfl rfl) rfl rfl ?_; simp only [Act.put, List.setIfInBounds_toArray, List.set_cons_zero, List.set_cons_succ]))
      refine wk_nil ?_
      intro w' hC
      have hfin : Below w.heap.size w w' := (R5.out.since hC).below
      go_wp2_with fail
      go_ret
      exact ⟨rfl, hfin⟩
end Go.Proofs.YtfbafmgclfnigaaDoor
