/- The tally layer: == on tallies and picks; the law's head holds. -/
import Derived.Test.YtnhfkmfmmgaecaaDoorTallyZeros
namespace Go.Proofs.YtnhfkmfmmgaecaaDoor
open Go.RowKit
set_option linter.unusedSimpArgs false
set_option maxRecDepth 100000
theorem fieldsTa : ((Tryd.prog.fieldsOf 90).toList.map fun f => (f.name == "_", f.type, f.offset)) = [(false, 52, 0), (false, 88, 1)] := by kernel_rfl
theorem structTa : Tryd.prog.underlying 90 = some (.struct (Tryd.prog.fieldsOf 90)) := by kernel_rfl
theorem sizeA64 : (Tryd.prog.info? 88).map (·.size) = some 64 := by kernel_rfl
theorem run_equalIn_tally (w : World) (a b : Nat) (x y : List Nat) (hx : x.length = 64) (hy : y.length = 64) : (Op.equalIn 10000 90 (.agg (pcells .u32 .u16 a x)) (.agg (pcells .u32 .u16 b y))).run Tryd.prog w = .ok (decide (a = b) && decide (x = y)) w :=
  run_equalIn_page w _ 52 88 87 .u32 .u16 64 structTa (by kernel_rfl) fieldsTa Tryd.underlying52 Tryd.underlying88 Tryd.underlying87 taelem sizeA64 a b x y hx hy
theorem run_eql_tally (w : World) (a b : Nat) (x y : List Nat) (hx : x.length = 64) (hy : y.length = 64) : (binOp .eql 90 (.agg (pcells .u32 .u16 a x)) (.agg (pcells .u32 .u16 b y))).run Tryd.prog w = .ok (.bool (decide (a = b) && decide (x = y))) w := by
  rw [run_eql_struct, run_equalIn_tally w a b x y hx hy]; rfl
theorem run_neq_tally (w : World) (a b : Nat) (x y : List Nat) (hx : x.length = 64) (hy : y.length = 64) : (binOp .neq 90 (.agg (pcells .u32 .u16 a x)) (.agg (pcells .u32 .u16 b y))).run Tryd.prog w = .ok (.bool (!(decide (a = b) && decide (x = y)))) w := by
  rw [run_neq_struct, run_equalIn_tally w a b x y hx hy]; rfl
theorem fieldsTi : ((Tryd.prog.fieldsOf 93).toList.map fun f => (f.name == "_", f.type, f.offset)) = [(false, 52, 0), (false, 91, 1)] := by kernel_rfl
theorem structTi : Tryd.prog.underlying 93 = some (.struct (Tryd.prog.fieldsOf 93)) := by kernel_rfl
theorem sizeA16 : (Tryd.prog.info? 91).map (·.size) = some 16 := by kernel_rfl
theorem run_equalIn_pick (w : World) (a b : Nat) (x y : List Nat) (hx : x.length = 16) (hy : y.length = 16) : (Op.equalIn 10000 93 (.agg (pcells .u32 .u64 a x)) (.agg (pcells .u32 .u64 b y))).run Tryd.prog w = .ok (decide (a = b) && decide (x = y)) w :=
  run_equalIn_page w _ 52 91 29 .u32 .u64 16 structTi (by kernel_rfl) fieldsTi Tryd.underlying52 Tryd.underlying91 Tryd.underlying29 tielem sizeA16 a b x y hx hy
theorem run_eql_pick (w : World) (a b : Nat) (x y : List Nat) (hx : x.length = 16) (hy : y.length = 16) : (binOp .eql 93 (.agg (pcells .u32 .u64 a x)) (.agg (pcells .u32 .u64 b y))).run Tryd.prog w = .ok (.bool (decide (a = b) && decide (x = y))) w := by
  rw [run_eql_struct, run_equalIn_pick w a b x y hx hy]; rfl
theorem run_neq_pick (w : World) (a b : Nat) (x y : List Nat) (hx : x.length = 16) (hy : y.length = 16) : (binOp .neq 93 (.agg (pcells .u32 .u64 a x)) (.agg (pcells .u32 .u64 b y))).run Tryd.prog w = .ok (.bool (!(decide (a = b) && decide (x = y)))) w := by
  rw [run_neq_struct, run_equalIn_pick w a b x y hx hy]; rfl
def t300 : List Nat := ta0.set 0 300
theorem t300_ok : POk 4 2 64 1 t300 := ⟨rfl, by decide, by decide⟩
def d300 : List UInt8 := doneB 84 (pbytes 4 2 1 t300)
theorem len_d300 : d300.length = 256 := length_doneB _ _ (tabytes_le t300_ok)
theorem d300_8 : d300.take 8 = [84, 1, 0, 0, 0, 44, 1, 0] := by
  have h := congrArg (List.take 8) (take_doneB 84 (pbytes 4 2 1 t300) (tabytes_le t300_ok))
  rw [List.take_take, List.take_take] at h
  unfold d300
  rw [show (8 : Nat) = min 8 252 from rfl, h]
  decide +kernel
theorem d300_str : decide ((⟨(d300.take 8).toArray⟩ : ByteArray) = ⟨#[84, 1, 0, 0, 0, 44, 1, 0]⟩) = true := by
  rw [d300_8]; decide
theorem d300_ne : ¬ d300 = zeroBlk := by
  intro h
  have := congrArg (List.take 8) h
  rw [d300_8] at this
  exact absurd this (by decide)
theorem d300_get : taGetN d300 2 = (0, ta0) ∧ taGetE d300 2 = 250 := by
  have h1 := (page_back t300_ok 84 (by decide)).1
  have e1 : num (seg d300 1 4) = 1 := h1
  have hi : ¬ isTa d300 2 = true := by
    intro h
    unfold isTa at h
    simp only [Bool.and_eq_true, decide_eq_true_eq] at h
    rw [e1] at h
    exact absurd h.2.2 (by decide)
  have h2 : (2 : Nat) < 16384 := by decide
  constructor
  · unfold taGetN
    rw [if_pos h2, if_neg d300_ne, if_neg hi]
  · unfold taGetE tagetE
    rw [if_pos h2, if_neg d300_ne, if_neg hi]
theorem zero_get5 : taGetN zeroBlk 5 = (5, ta0) ∧ taGetE zeroBlk 5 = 0 := by
  have h2 : (5 : Nat) < 16384 := by decide
  constructor
  · unfold taGetN
    rw [if_pos h2, if_pos rfl]
  · unfold taGetE tagetE
    rw [if_pos h2, if_pos rfl]
theorem zero_getfar : taGetN zeroBlk 16384 = (0, ta0) ∧ taGetE zeroBlk 16384 = 2 := by
  unfold taGetN taGetE
  rw [if_neg (by decide), if_neg (by decide)]
  exact ⟨rfl, rfl⟩
theorem taGet_is (b : List UInt8) (hb : b.length = 256) (x : Nat) (hx : x < 4294967296) (r : Nat × List Nat) (E : Int) (h : taGetN b x = r ∧ taGetE b x = E) (w : World) :
    Calls Tryd.prog 52 #[.agg (blk b), .int .u32 (x : Int)] w fun e w' => e = .returned (.tuple #[.agg (pcells .u32 .u16 r.1 r.2), .int .i64 E]) ∧ Below w.heap.size w w' := by
  rw [← h.1, ← h.2]; exact taGet_any b hb x hx w
theorem n300 : noughts t300 = 63 := by decide +kernel
set_option maxHeartbeats 4000000 in
theorem tallyhead_any (w : World) : Calls Tryd.prog 54 #[] w fun e w' => e = .returned (.bool true) ∧ Below w.heap.size w w' := by
  obtain ⟨D, hD⟩ : ∃ D, D = d300 := ⟨_, rfl⟩
  have HDL : Hid (D.length = 256) := Lib.hid (by rw [hD]; exact len_d300)
  have HDS : Hid ((blk D).size = 256) := Lib.hid (by rw [size_blk, HDL.out])
  have HSTR : Hid (decide ((⟨(D.take 8).toArray⟩ : ByteArray) = ⟨#[84, 1, 0, 0, 0, 44, 1, 0]⟩) = true) := Lib.hid (by rw [hD]; exact d300_str)
  have HZS : Hid ((pcells .u32 .u16 1 ta0).all (·.oneCell') = true) := Lib.hid (pcells_one _ _ _ _)
  obtain ⟨CT, hCT⟩ : ∃ C, C = pcells .u32 .u16 1 t300 := ⟨_, rfl⟩
  have HTS : Hid (CT.size = 65) := Lib.hid (by rw [hCT]; exact size_tacells t300_ok)
  have HSET1 : Hid ((pcells .u32 .u16 1 ta0).setIfInBounds 1 (.int .u16 300) = CT) := Lib.hid (by rw [hCT]; exact pcells_set .u32 .u16 1 ta0 0 300)
  have HPUT : Hid (∀ w, Calls Tryd.prog 46 #[.agg CT] w fun e w' => e = .returned (.tuple #[.agg (blk D), .int .i64 0]) ∧ Below w.heap.size w w') := Lib.hid (fun w => by
    rw [hCT, hD]
    have := taPut_any 1 t300 t300_ok w
    unfold taputB taputE at this
    rw [if_pos (by decide), if_pos (by decide)] at this
    exact this)
  have HZER : Hid (∀ w, Calls Tryd.prog 50 #[.agg CT] w fun e w' => e = .returned (.int .i64 63) ∧ Below w.heap.size w w') := Lib.hid (fun w => by
    have := zeros_any 1 t300 t300_ok w
    rw [n300] at this
    rw [hCT]; exact this)
  obtain ⟨C5, hC5⟩ : ∃ C, C = pcells .u32 .u16 5 ta0 := ⟨_, rfl⟩
  have H5S : Hid (C5.size = 65) := Lib.hid (by rw [hC5]; rfl)
  have H51 : Hid (C5.all (·.oneCell') = true) := Lib.hid (by rw [hC5]; exact pcells_one _ _ _ _)
  have HG5 : Hid (∀ w, Calls Tryd.prog 52 #[.agg (zeros 256 (.int .u8 0)), .int .u32 5] w fun e w' => e = .returned (.tuple #[.agg C5, .int .i64 0]) ∧ Below w.heap.size w w') := Lib.hid (fun w => by
    rw [zero_cells, hC5]; exact taGet_is zeroBlk length_zeroBlk 5 (by decide) (5, ta0) 0 zero_get5 w)
  have HGF : Hid (∀ w, Calls Tryd.prog 52 #[.agg (zeros 256 (.int .u8 0)), .int .u32 16384] w fun e w' => e = .returned (.tuple #[.agg tazero, .int .i64 2]) ∧ Below w.heap.size w w') := Lib.hid (fun w => by
    rw [zero_cells]; exact taGet_is zeroBlk length_zeroBlk 16384 (by decide) (0, ta0) 2 zero_getfar w)
  have HG2 : Hid (∀ w, Calls Tryd.prog 52 #[.agg (blk D), .int .u32 2] w fun e w' => e = .returned (.tuple #[.agg tazero, .int .i64 250]) ∧ Below w.heap.size w w') := Lib.hid (fun w => by
    rw [hD]; exact taGet_is d300 len_d300 2 (by decide) (0, ta0) 250 d300_get w)
  have HEQ5 : Hid (∀ w : World, (binOp .eql 90 (.agg C5) (.agg C5)).run Tryd.prog w = .ok (.bool true) w) := Lib.hid (fun w => by rw [hC5, run_eql_tally w 5 5 ta0 ta0 rfl rfl]; simp)
  obtain ⟨P7, hP7⟩ : ∃ C, C = tiC70 := ⟨_, rfl⟩
  have H7S : Hid (P7.size = 17) := Lib.hid (by rw [hP7]; exact sizeti70)
  have H71 : Hid (P7.all (·.oneCell') = true) := Lib.hid (by rw [hP7]; exact pcells_one _ _ _ _)
  have HT7 : Hid (∀ w, Calls Tryd.prog 83 #[.agg tizero, .int .i64 70] w fun e w' => e = .returned (.tuple #[.agg P7, .int .i64 0]) ∧ Below w.heap.size w w') := Lib.hid (fun w => by rw [hP7]; exact turn_70 w)
  have HB7 : Hid (∀ w, Calls Tryd.prog 84 #[.agg P7, .int .i64 70] w fun e w' => e = .returned (.tuple #[.int .i64 1, .int .i64 0]) ∧ Below w.heap.size w w') := Lib.hid (fun w => by rw [hP7]; exact bit_one w)
  have HTF : Hid (∀ w, Calls Tryd.prog 83 #[.agg P7, .int .i64 1024] w fun e w' => e = .returned (.tuple #[.agg tizero, .int .i64 2]) ∧ Below w.heap.size w w') := Lib.hid (fun w => turn_far w P7 H7S.out)
  have HC5B : Hid (C5 = pcells .u32 .u16 5 ta0) := Lib.hid hC5
  clear hD hCT hC5 hP7
  have q1 := (Rows.start w).alloc (pcells .u32 .u16 1 ta0) 90
  go_enter Tryd.func54, Tryd.ntmps54
  go_upto_region 2 with (first
    | refine wpList_alloc_row rfl 90 rfl _ zero_ta ?_
    | refine wpList_store_new rfl 90 _ _ rfl _ (pcells .u32 .u16 1 ta0) _ rfl rfl sizeTally rfl HZS.out ?_)
  obtain ⟨W1, hW⟩ : ∃ W, W = w.alloc (.cells (pcells .u32 .u16 1 ta0) 90) := ⟨_, rfl⟩
  rw [← hW] at q1 ⊢
  clear hW
  obtain ⟨g1, hg⟩ : ∃ g, g = w.heap.size := ⟨_, rfl⟩
  rw [← hg] at q1 ⊢
  clear hg
  have R1 := Lib.hid q1
  clear q1
  have hc := R1.out.cell 0 1 rfl (show (pcells .u32 .u16 1 ta0)[1]? = some (.int .u16 0) from rfl)
  have hf := R1.out.free 0 1 rfl
  have q0 := Lib.hid (R1.out.setCell 0 1 (.int .u16 300) rfl)
  go_upto_region 3 with (fail)
  have q1 := q0.out
  clear q0 hc hf
  obtain ⟨W2, hW⟩ : ∃ W, W = W1.setCell ⟨g1, 1, none⟩ (.int .u16 300) := ⟨_, rfl⟩
  rw [← hW] at q1 ⊢
  clear hW
  simp only [List.set_cons_zero, List.set_cons_succ] at q1
  have R2 := Lib.hid q1
  clear q1
  rw [HSET1.out] at R2
  go_wp2_with (refine wpList_load_row rfl 90 _ rfl g1 rfl 90 CT (0, 0) _ (R2.out.get 0 rfl) Tryd.underlying90 rfl (by rw [HTS.out]; exact sizeTally) ?_)
  refine (HPUT.out _).mono ?_
  rintro e w3 ⟨rfl, hb⟩
  have q1 := (R2.out.call hb).alloc (blk D) 33
  clear hb
  go_upto_region 4 with (first | refine wpList_alloc_row rfl 33 rfl _ zeroB ?_ | refine wpList_store_new rfl 33 _ _ rfl _ (blk D) _ rfl rfl (by rw [HDS.out]; exact sizeB) (by rw [HDS.out, size_zeros]) (blk_one _) ?_)
  obtain ⟨W3, hW⟩ : ∃ W, W = w3.alloc (.cells (blk D) 33) := ⟨_, rfl⟩
  rw [← hW] at q1 ⊢
  clear hW
  obtain ⟨g2, hg⟩ : ∃ g, g = w3.heap.size := ⟨_, rfl⟩
  rw [← hg] at q1 ⊢
  clear hg
  have R3 := Lib.hid q1
  clear q1
  go_wp2_with (refine wpList_build_none rfl 33 rfl _ zeroB Tryd.underlying33 rfl ?_)
  refine (HG5.out _).mono ?_
  rintro e w4 ⟨rfl, hb⟩
  have q1 := (R3.out.call hb).alloc C5 90
  clear hb
  go_upto_region 5 with (first | refine wpList_alloc_row rfl 90 rfl _ zero_ta ?_ | refine wpList_store_new rfl 90 _ _ rfl _ C5 _ rfl rfl (by rw [H5S.out]; exact sizeTally) (by rw [H5S.out]; rfl) H51.out ?_)
  obtain ⟨W4, hW⟩ : ∃ W, W = w4.alloc (.cells C5 90) := ⟨_, rfl⟩
  rw [← hW] at q1 ⊢
  clear hW
  obtain ⟨g3, hg⟩ : ∃ g, g = w4.heap.size := ⟨_, rfl⟩
  rw [← hg] at q1 ⊢
  clear hg
  have R4 := Lib.hid q1
  clear q1
  go_wp2_with (refine wpList_build_none rfl 33 rfl _ zeroB Tryd.underlying33 rfl ?_)
  refine (HGF.out _).mono ?_
  rintro e w5 ⟨rfl, hb⟩
  have q1 := (R4.out.call hb).alloc tazero 90
  clear hb
  go_upto_region 6 with (first | refine wpList_alloc_row rfl 90 rfl _ zero_ta ?_ | refine wpList_store_new rfl 90 _ _ rfl _ tazero _ rfl rfl sizeTally rfl tazero_one ?_)
  obtain ⟨W5, hW⟩ : ∃ W, W = w5.alloc (.cells tazero 90) := ⟨_, rfl⟩
  rw [← hW] at q1 ⊢
  clear hW
  obtain ⟨g4, hg⟩ : ∃ g, g = w5.heap.size := ⟨_, rfl⟩
  rw [← hg] at q1 ⊢
  clear hg
  have R5 := Lib.hid q1
  clear q1
  go_wp2_with (refine wpList_load_row rfl 33 _ rfl g2 rfl 33 (blk D) (0, 0) _ (R5.out.get 2 rfl) Tryd.underlying33 rfl (by rw [HDS.out]; exact sizeB) ?_)
  refine (HG2.out _).mono ?_
  rintro e w6 ⟨rfl, hb⟩
  have q1 := (R5.out.call hb).alloc tazero 90
  clear hb
  go_upto_region 7 with (first | refine wpList_alloc_row rfl 90 rfl _ zero_ta ?_ | refine wpList_store_new rfl 90 _ _ rfl _ tazero _ rfl rfl sizeTally rfl tazero_one ?_)
  obtain ⟨W6, hW⟩ : ∃ W, W = w6.alloc (.cells tazero 90) := ⟨_, rfl⟩
  rw [← hW] at q1 ⊢
  clear hW
  obtain ⟨g5, hg⟩ : ∃ g, g = w6.heap.size := ⟨_, rfl⟩
  rw [← hg] at q1 ⊢
  clear hg
  have R6 := Lib.hid q1
  clear q1
  go_wp2_with fail
  refine (HT7.out _).mono ?_
  rintro e w7 ⟨rfl, hb⟩
  have q1 := (R6.out.call hb).alloc P7 93
  clear hb
  go_upto_region 8 with (first | refine wpList_alloc_row rfl 93 rfl _ zero_ti ?_ | refine wpList_store_new rfl 93 _ _ rfl _ P7 _ rfl rfl (by rw [H7S.out]; exact sizePick) (by rw [H7S.out]; rfl) H71.out ?_)
  obtain ⟨W7, hW⟩ : ∃ W, W = w7.alloc (.cells P7 93) := ⟨_, rfl⟩
  rw [← hW] at q1 ⊢
  clear hW
  obtain ⟨g6, hg⟩ : ∃ g, g = w7.heap.size := ⟨_, rfl⟩
  rw [← hg] at q1 ⊢
  clear hg
  have R7 := Lib.hid q1
  clear q1
  go_wp2_with (refine wpList_load_row rfl 93 _ rfl g6 rfl 93 P7 (0, 0) _ (R7.out.get 0 rfl) Tryd.underlying93 rfl (by rw [H7S.out]; exact sizePick) ?_)
  refine (HB7.out _).mono ?_
  rintro e w8 ⟨rfl, hb⟩
  have R8 := Lib.hid (R7.out.call hb)
  clear hb
  go_wp2_with (refine wpList_load_row rfl 93 _ rfl g6 rfl 93 P7 (0, 0) _ (R8.out.get 0 rfl) Tryd.underlying93 rfl (by rw [H7S.out]; exact sizePick) ?_)
  refine (HTF.out _).mono ?_
  rintro e w9 ⟨rfl, hb⟩
  have q1 := (R8.out.call hb).alloc tizero 93
  clear hb
  go_upto_region 10 with (first | refine wpList_alloc_row rfl 93 rfl _ zero_ti ?_ | refine wpList_store_new rfl 93 _ _ rfl _ tizero _ rfl rfl sizePick rfl tizero_one ?_)
  obtain ⟨W9, hW⟩ : ∃ W, W = w9.alloc (.cells tizero 93) := ⟨_, rfl⟩
  rw [← hW] at q1 ⊢
  clear hW
  obtain ⟨g7, hg⟩ : ∃ g, g = w9.heap.size := ⟨_, rfl⟩
  rw [← hg] at q1 ⊢
  clear hg
  have R9 := Lib.hid q1
  clear q1
  refine wk_plain_since ?_
  repeat (first
    | (refine wk_move _ (by first | exact wanted_none rfl | exact wanted_yes _ _ rfl rfl) rfl ?_; simp only [Act.put, Act.eval, Array.getD_eq_getD_getElem?, List.getElem?_toArray, List.getElem?_cons_succ, List.getElem?_cons_zero, Option.getD_some, List.setIfInBounds_toArray, List.set_cons_zero, List.set_cons_succ])
    | (refine wk_assign _ (by first | exact wanted_none rfl | exact wanted_yes _ _ rfl rfl) rfl ?_; simp only [Act.put, Act.eval, Array.getD_eq_getD_getElem?, List.getElem?_toArray, List.getElem?_cons_succ, List.getElem?_cons_zero, Option.getD_some, List.setIfInBounds_toArray, List.set_cons_zero, List.set_cons_succ])
    | (refine wk_pickt _ _ _ _ (by first | exact wanted_none rfl | exact wanted_yes _ _ rfl rfl) rfl rfl rfl ?_; simp only [Act.put, Act.eval, Array.getD_eq_getD_getElem?, List.getElem?_toArray, List.getElem?_cons_succ, List.getElem?_cons_zero, Option.getD_some, List.setIfInBounds_toArray, List.set_cons_zero, List.set_cons_succ])
    | (refine wk_pickf _ _ _ _ (by first | exact wanted_none rfl | exact wanted_yes _ _ rfl rfl) rfl rfl rfl ?_; simp only [Act.put, Act.eval, Array.getD_eq_getD_getElem?, List.getElem?_toArray, List.getElem?_cons_succ, List.getElem?_cons_zero, Option.getD_some, List.setIfInBounds_toArray, List.set_cons_zero, List.set_cons_succ])
    | (refine wk_skip (wanted_not _ true false rfl rfl rfl) ?_; simp only [Act.put, List.setIfInBounds_toArray, List.set_cons_zero, List.set_cons_succ])
    | (refine wk_skip (wanted_not _ false true rfl rfl rfl) ?_; simp only [Act.put, List.setIfInBounds_toArray, List.set_cons_zero, List.set_cons_succ])
    | (refine wk_skip (wanted_undef _ _ rfl rfl) ?_; simp only [Act.put, List.setIfInBounds_toArray, List.set_cons_zero, List.set_cons_succ])
    | (refine wk_not true _ _ (by first | exact wanted_none rfl | exact wanted_yes _ _ rfl rfl) rfl rfl ?_; simp only [Act.put, List.setIfInBounds_toArray, List.set_cons_zero, List.set_cons_succ])
    | (refine wk_not false _ _ (by first | exact wanted_none rfl | exact wanted_yes _ _ rfl rfl) rfl rfl ?_; simp only [Act.put, List.setIfInBounds_toArray, List.set_cons_zero, List.set_cons_succ]))
  refine wk_eql_int true _ _ _ _ _ _ _ (by kernel_rfl) rfl rfl rfl (by decide) ?_
  simp only [Act.put, List.setIfInBounds_toArray, List.set_cons_zero, List.set_cons_succ]
  repeat (first
    | (refine wk_move _ (by first | exact wanted_none rfl | exact wanted_yes _ _ rfl rfl) rfl ?_; simp only [Act.put, Act.eval, Array.getD_eq_getD_getElem?, List.getElem?_toArray, List.getElem?_cons_succ, List.getElem?_cons_zero, Option.getD_some, List.setIfInBounds_toArray, List.set_cons_zero, List.set_cons_succ])
    | (refine wk_assign _ (by first | exact wanted_none rfl | exact wanted_yes _ _ rfl rfl) rfl ?_; simp only [Act.put, Act.eval, Array.getD_eq_getD_getElem?, List.getElem?_toArray, List.getElem?_cons_succ, List.getElem?_cons_zero, Option.getD_some, List.setIfInBounds_toArray, List.set_cons_zero, List.set_cons_succ])
    | (refine wk_pickt _ _ _ _ (by first | exact wanted_none rfl | exact wanted_yes _ _ rfl rfl) rfl rfl rfl ?_; simp only [Act.put, Act.eval, Array.getD_eq_getD_getElem?, List.getElem?_toArray, List.getElem?_cons_succ, List.getElem?_cons_zero, Option.getD_some, List.setIfInBounds_toArray, List.set_cons_zero, List.set_cons_succ])
    | (refine wk_pickf _ _ _ _ (by first | exact wanted_none rfl | exact wanted_yes _ _ rfl rfl) rfl rfl rfl ?_; simp only [Act.put, Act.eval, Array.getD_eq_getD_getElem?, List.getElem?_toArray, List.getElem?_cons_succ, List.getElem?_cons_zero, Option.getD_some, List.setIfInBounds_toArray, List.set_cons_zero, List.set_cons_succ])
    | (refine wk_skip (wanted_not _ true false rfl rfl rfl) ?_; simp only [Act.put, List.setIfInBounds_toArray, List.set_cons_zero, List.set_cons_succ])
    | (refine wk_skip (wanted_not _ false true rfl rfl rfl) ?_; simp only [Act.put, List.setIfInBounds_toArray, List.set_cons_zero, List.set_cons_succ])
    | (refine wk_skip (wanted_undef _ _ rfl rfl) ?_; simp only [Act.put, List.setIfInBounds_toArray, List.set_cons_zero, List.set_cons_succ])
    | (refine wk_not true _ _ (by first | exact wanted_none rfl | exact wanted_yes _ _ rfl rfl) rfl rfl ?_; simp only [Act.put, List.setIfInBounds_toArray, List.set_cons_zero, List.set_cons_succ])
    | (refine wk_not false _ _ (by first | exact wanted_none rfl | exact wanted_yes _ _ rfl rfl) rfl rfl ?_; simp only [Act.put, List.setIfInBounds_toArray, List.set_cons_zero, List.set_cons_succ]))
  refine wk_slice_arr 8 256 .i64 _ _ _ _ _ (by kernel_rfl) rfl Tryd.underlying33 sizeU8 rfl rfl (by omega) (by omega) ?_
  simp only [Act.put, List.setIfInBounds_toArray, List.set_cons_zero, List.set_cons_succ]
  refine wk_bytes_pre _ _ _ _ _ _ _ 33 D (by kernel_rfl) rfl rfl Tryd.underlying37 Tryd.underlying5 Tryd.underlying9 (by rw [HDL.out]; omega) (fun w' hC => hC.row (R9.out.get 5 rfl)) ?_
  simp only [Act.put, List.setIfInBounds_toArray, List.set_cons_zero, List.set_cons_succ]
  refine wk_eql_str (true) _ _ _ _ _ _ (by kernel_rfl) rfl rfl rfl (HSTR.out) ?_
  simp only [Act.put, List.setIfInBounds_toArray, List.set_cons_zero, List.set_cons_succ]
  repeat (first
    | (refine wk_move _ (by first | exact wanted_none rfl | exact wanted_yes _ _ rfl rfl) rfl ?_; simp only [Act.put, Act.eval, Array.getD_eq_getD_getElem?, List.getElem?_toArray, List.getElem?_cons_succ, List.getElem?_cons_zero, Option.getD_some, List.setIfInBounds_toArray, List.set_cons_zero, List.set_cons_succ])
    | (refine wk_assign _ (by first | exact wanted_none rfl | exact wanted_yes _ _ rfl rfl) rfl ?_; simp only [Act.put, Act.eval, Array.getD_eq_getD_getElem?, List.getElem?_toArray, List.getElem?_cons_succ, List.getElem?_cons_zero, Option.getD_some, List.setIfInBounds_toArray, List.set_cons_zero, List.set_cons_succ])
    | (refine wk_pickt _ _ _ _ (by first | exact wanted_none rfl | exact wanted_yes _ _ rfl rfl) rfl rfl rfl ?_; simp only [Act.put, Act.eval, Array.getD_eq_getD_getElem?, List.getElem?_toArray, List.getElem?_cons_succ, List.getElem?_cons_zero, Option.getD_some, List.setIfInBounds_toArray, List.set_cons_zero, List.set_cons_succ])
    | (refine wk_pickf _ _ _ _ (by first | exact wanted_none rfl | exact wanted_yes _ _ rfl rfl) rfl rfl rfl ?_; simp only [Act.put, Act.eval, Array.getD_eq_getD_getElem?, List.getElem?_toArray, List.getElem?_cons_succ, List.getElem?_cons_zero, Option.getD_some, List.setIfInBounds_toArray, List.set_cons_zero, List.set_cons_succ])
    | (refine wk_skip (wanted_not _ true false rfl rfl rfl) ?_; simp only [Act.put, List.setIfInBounds_toArray, List.set_cons_zero, List.set_cons_succ])
    | (refine wk_skip (wanted_not _ false true rfl rfl rfl) ?_; simp only [Act.put, List.setIfInBounds_toArray, List.set_cons_zero, List.set_cons_succ])
    | (refine wk_skip (wanted_undef _ _ rfl rfl) ?_; simp only [Act.put, List.setIfInBounds_toArray, List.set_cons_zero, List.set_cons_succ])
    | (refine wk_not true _ _ (by first | exact wanted_none rfl | exact wanted_yes _ _ rfl rfl) rfl rfl ?_; simp only [Act.put, List.setIfInBounds_toArray, List.set_cons_zero, List.set_cons_succ])
    | (refine wk_not false _ _ (by first | exact wanted_none rfl | exact wanted_yes _ _ rfl rfl) rfl rfl ?_; simp only [Act.put, List.setIfInBounds_toArray, List.set_cons_zero, List.set_cons_succ]))
  refine wk_load_row 90 _ g3 90 C5 (0, 0) _ (by kernel_rfl) rfl rfl (fun w' hC => hC.row (R9.out.get 4 rfl)) Tryd.underlying90 rfl (by rw [H5S.out]; exact sizeTally) ?_
  simp only [Act.put, List.setIfInBounds_toArray, List.set_cons_zero, List.set_cons_succ]
  refine wk_build 90 _ [(0, .int .u32 5)] C5 (by first | exact wanted_none rfl | exact wanted_yes _ _ rfl rfl) rfl (by simp [Act.eval]) (by rw [HC5B.out]; kernel_rfl) ?_
  simp only [Act.put, List.setIfInBounds_toArray, List.set_cons_zero, List.set_cons_succ]
  refine wk_eql .eql (true) 90 90 _ _ (by first | exact wanted_none rfl | exact wanted_yes _ _ rfl rfl) rfl _ _ rfl rfl (by kernel_rfl) (fun w => HEQ5.out w) ?_
  simp only [Act.put, List.setIfInBounds_toArray, List.set_cons_zero, List.set_cons_succ]
  repeat (first
    | (refine wk_move _ (by first | exact wanted_none rfl | exact wanted_yes _ _ rfl rfl) rfl ?_; simp only [Act.put, Act.eval, Array.getD_eq_getD_getElem?, List.getElem?_toArray, List.getElem?_cons_succ, List.getElem?_cons_zero, Option.getD_some, List.setIfInBounds_toArray, List.set_cons_zero, List.set_cons_succ])
    | (refine wk_assign _ (by first | exact wanted_none rfl | exact wanted_yes _ _ rfl rfl) rfl ?_; simp only [Act.put, Act.eval, Array.getD_eq_getD_getElem?, List.getElem?_toArray, List.getElem?_cons_succ, List.getElem?_cons_zero, Option.getD_some, List.setIfInBounds_toArray, List.set_cons_zero, List.set_cons_succ])
    | (refine wk_pickt _ _ _ _ (by first | exact wanted_none rfl | exact wanted_yes _ _ rfl rfl) rfl rfl rfl ?_; simp only [Act.put, Act.eval, Array.getD_eq_getD_getElem?, List.getElem?_toArray, List.getElem?_cons_succ, List.getElem?_cons_zero, Option.getD_some, List.setIfInBounds_toArray, List.set_cons_zero, List.set_cons_succ])
    | (refine wk_pickf _ _ _ _ (by first | exact wanted_none rfl | exact wanted_yes _ _ rfl rfl) rfl rfl rfl ?_; simp only [Act.put, Act.eval, Array.getD_eq_getD_getElem?, List.getElem?_toArray, List.getElem?_cons_succ, List.getElem?_cons_zero, Option.getD_some, List.setIfInBounds_toArray, List.set_cons_zero, List.set_cons_succ])
    | (refine wk_skip (wanted_not _ true false rfl rfl rfl) ?_; simp only [Act.put, List.setIfInBounds_toArray, List.set_cons_zero, List.set_cons_succ])
    | (refine wk_skip (wanted_not _ false true rfl rfl rfl) ?_; simp only [Act.put, List.setIfInBounds_toArray, List.set_cons_zero, List.set_cons_succ])
    | (refine wk_skip (wanted_undef _ _ rfl rfl) ?_; simp only [Act.put, List.setIfInBounds_toArray, List.set_cons_zero, List.set_cons_succ])
    | (refine wk_not true _ _ (by first | exact wanted_none rfl | exact wanted_yes _ _ rfl rfl) rfl rfl ?_; simp only [Act.put, List.setIfInBounds_toArray, List.set_cons_zero, List.set_cons_succ])
    | (refine wk_not false _ _ (by first | exact wanted_none rfl | exact wanted_yes _ _ rfl rfl) rfl rfl ?_; simp only [Act.put, List.setIfInBounds_toArray, List.set_cons_zero, List.set_cons_succ]))
  refine wk_eql_int true _ _ _ _ _ _ _ (by kernel_rfl) rfl rfl rfl (by decide) ?_
  simp only [Act.put, List.setIfInBounds_toArray, List.set_cons_zero, List.set_cons_succ]
  repeat (first
    | (refine wk_move _ (by first | exact wanted_none rfl | exact wanted_yes _ _ rfl rfl) rfl ?_; simp only [Act.put, Act.eval, Array.getD_eq_getD_getElem?, List.getElem?_toArray, List.getElem?_cons_succ, List.getElem?_cons_zero, Option.getD_some, List.setIfInBounds_toArray, List.set_cons_zero, List.set_cons_succ])
    | (refine wk_assign _ (by first | exact wanted_none rfl | exact wanted_yes _ _ rfl rfl) rfl ?_; simp only [Act.put, Act.eval, Array.getD_eq_getD_getElem?, List.getElem?_toArray, List.getElem?_cons_succ, List.getElem?_cons_zero, Option.getD_some, List.setIfInBounds_toArray, List.set_cons_zero, List.set_cons_succ])
    | (refine wk_pickt _ _ _ _ (by first | exact wanted_none rfl | exact wanted_yes _ _ rfl rfl) rfl rfl rfl ?_; simp only [Act.put, Act.eval, Array.getD_eq_getD_getElem?, List.getElem?_toArray, List.getElem?_cons_succ, List.getElem?_cons_zero, Option.getD_some, List.setIfInBounds_toArray, List.set_cons_zero, List.set_cons_succ])
    | (refine wk_pickf _ _ _ _ (by first | exact wanted_none rfl | exact wanted_yes _ _ rfl rfl) rfl rfl rfl ?_; simp only [Act.put, Act.eval, Array.getD_eq_getD_getElem?, List.getElem?_toArray, List.getElem?_cons_succ, List.getElem?_cons_zero, Option.getD_some, List.setIfInBounds_toArray, List.set_cons_zero, List.set_cons_succ])
    | (refine wk_skip (wanted_not _ true false rfl rfl rfl) ?_; simp only [Act.put, List.setIfInBounds_toArray, List.set_cons_zero, List.set_cons_succ])
    | (refine wk_skip (wanted_not _ false true rfl rfl rfl) ?_; simp only [Act.put, List.setIfInBounds_toArray, List.set_cons_zero, List.set_cons_succ])
    | (refine wk_skip (wanted_undef _ _ rfl rfl) ?_; simp only [Act.put, List.setIfInBounds_toArray, List.set_cons_zero, List.set_cons_succ])
    | (refine wk_not true _ _ (by first | exact wanted_none rfl | exact wanted_yes _ _ rfl rfl) rfl rfl ?_; simp only [Act.put, List.setIfInBounds_toArray, List.set_cons_zero, List.set_cons_succ])
    | (refine wk_not false _ _ (by first | exact wanted_none rfl | exact wanted_yes _ _ rfl rfl) rfl rfl ?_; simp only [Act.put, List.setIfInBounds_toArray, List.set_cons_zero, List.set_cons_succ]))
  refine wk_eql_int true _ _ _ _ _ _ _ (by kernel_rfl) rfl rfl rfl (by decide) ?_
  simp only [Act.put, List.setIfInBounds_toArray, List.set_cons_zero, List.set_cons_succ]
  repeat (first
    | (refine wk_move _ (by first | exact wanted_none rfl | exact wanted_yes _ _ rfl rfl) rfl ?_; simp only [Act.put, Act.eval, Array.getD_eq_getD_getElem?, List.getElem?_toArray, List.getElem?_cons_succ, List.getElem?_cons_zero, Option.getD_some, List.setIfInBounds_toArray, List.set_cons_zero, List.set_cons_succ])
    | (refine wk_assign _ (by first | exact wanted_none rfl | exact wanted_yes _ _ rfl rfl) rfl ?_; simp only [Act.put, Act.eval, Array.getD_eq_getD_getElem?, List.getElem?_toArray, List.getElem?_cons_succ, List.getElem?_cons_zero, Option.getD_some, List.setIfInBounds_toArray, List.set_cons_zero, List.set_cons_succ])
    | (refine wk_pickt _ _ _ _ (by first | exact wanted_none rfl | exact wanted_yes _ _ rfl rfl) rfl rfl rfl ?_; simp only [Act.put, Act.eval, Array.getD_eq_getD_getElem?, List.getElem?_toArray, List.getElem?_cons_succ, List.getElem?_cons_zero, Option.getD_some, List.setIfInBounds_toArray, List.set_cons_zero, List.set_cons_succ])
    | (refine wk_pickf _ _ _ _ (by first | exact wanted_none rfl | exact wanted_yes _ _ rfl rfl) rfl rfl rfl ?_; simp only [Act.put, Act.eval, Array.getD_eq_getD_getElem?, List.getElem?_toArray, List.getElem?_cons_succ, List.getElem?_cons_zero, Option.getD_some, List.setIfInBounds_toArray, List.set_cons_zero, List.set_cons_succ])
    | (refine wk_skip (wanted_not _ true false rfl rfl rfl) ?_; simp only [Act.put, List.setIfInBounds_toArray, List.set_cons_zero, List.set_cons_succ])
    | (refine wk_skip (wanted_not _ false true rfl rfl rfl) ?_; simp only [Act.put, List.setIfInBounds_toArray, List.set_cons_zero, List.set_cons_succ])
    | (refine wk_skip (wanted_undef _ _ rfl rfl) ?_; simp only [Act.put, List.setIfInBounds_toArray, List.set_cons_zero, List.set_cons_succ])
    | (refine wk_not true _ _ (by first | exact wanted_none rfl | exact wanted_yes _ _ rfl rfl) rfl rfl ?_; simp only [Act.put, List.setIfInBounds_toArray, List.set_cons_zero, List.set_cons_succ])
    | (refine wk_not false _ _ (by first | exact wanted_none rfl | exact wanted_yes _ _ rfl rfl) rfl rfl ?_; simp only [Act.put, List.setIfInBounds_toArray, List.set_cons_zero, List.set_cons_succ]))
  refine wk_eql_int true _ _ _ _ _ _ _ (by kernel_rfl) rfl rfl rfl (by decide) ?_
  simp only [Act.put, List.setIfInBounds_toArray, List.set_cons_zero, List.set_cons_succ]
  repeat (first
    | (refine wk_move _ (by first | exact wanted_none rfl | exact wanted_yes _ _ rfl rfl) rfl ?_; simp only [Act.put, Act.eval, Array.getD_eq_getD_getElem?, List.getElem?_toArray, List.getElem?_cons_succ, List.getElem?_cons_zero, Option.getD_some, List.setIfInBounds_toArray, List.set_cons_zero, List.set_cons_succ])
    | (refine wk_assign _ (by first | exact wanted_none rfl | exact wanted_yes _ _ rfl rfl) rfl ?_; simp only [Act.put, Act.eval, Array.getD_eq_getD_getElem?, List.getElem?_toArray, List.getElem?_cons_succ, List.getElem?_cons_zero, Option.getD_some, List.setIfInBounds_toArray, List.set_cons_zero, List.set_cons_succ])
    | (refine wk_pickt _ _ _ _ (by first | exact wanted_none rfl | exact wanted_yes _ _ rfl rfl) rfl rfl rfl ?_; simp only [Act.put, Act.eval, Array.getD_eq_getD_getElem?, List.getElem?_toArray, List.getElem?_cons_succ, List.getElem?_cons_zero, Option.getD_some, List.setIfInBounds_toArray, List.set_cons_zero, List.set_cons_succ])
    | (refine wk_pickf _ _ _ _ (by first | exact wanted_none rfl | exact wanted_yes _ _ rfl rfl) rfl rfl rfl ?_; simp only [Act.put, Act.eval, Array.getD_eq_getD_getElem?, List.getElem?_toArray, List.getElem?_cons_succ, List.getElem?_cons_zero, Option.getD_some, List.setIfInBounds_toArray, List.set_cons_zero, List.set_cons_succ])
    | (refine wk_skip (wanted_not _ true false rfl rfl rfl) ?_; simp only [Act.put, List.setIfInBounds_toArray, List.set_cons_zero, List.set_cons_succ])
    | (refine wk_skip (wanted_not _ false true rfl rfl rfl) ?_; simp only [Act.put, List.setIfInBounds_toArray, List.set_cons_zero, List.set_cons_succ])
    | (refine wk_skip (wanted_undef _ _ rfl rfl) ?_; simp only [Act.put, List.setIfInBounds_toArray, List.set_cons_zero, List.set_cons_succ])
    | (refine wk_not true _ _ (by first | exact wanted_none rfl | exact wanted_yes _ _ rfl rfl) rfl rfl ?_; simp only [Act.put, List.setIfInBounds_toArray, List.set_cons_zero, List.set_cons_succ])
    | (refine wk_not false _ _ (by first | exact wanted_none rfl | exact wanted_yes _ _ rfl rfl) rfl rfl ?_; simp only [Act.put, List.setIfInBounds_toArray, List.set_cons_zero, List.set_cons_succ]))
  refine wk_eql_int true _ _ _ _ _ _ _ (by kernel_rfl) rfl rfl rfl (by decide) ?_
  simp only [Act.put, List.setIfInBounds_toArray, List.set_cons_zero, List.set_cons_succ]
  repeat (first
    | (refine wk_move _ (by first | exact wanted_none rfl | exact wanted_yes _ _ rfl rfl) rfl ?_; simp only [Act.put, Act.eval, Array.getD_eq_getD_getElem?, List.getElem?_toArray, List.getElem?_cons_succ, List.getElem?_cons_zero, Option.getD_some, List.setIfInBounds_toArray, List.set_cons_zero, List.set_cons_succ])
    | (refine wk_assign _ (by first | exact wanted_none rfl | exact wanted_yes _ _ rfl rfl) rfl ?_; simp only [Act.put, Act.eval, Array.getD_eq_getD_getElem?, List.getElem?_toArray, List.getElem?_cons_succ, List.getElem?_cons_zero, Option.getD_some, List.setIfInBounds_toArray, List.set_cons_zero, List.set_cons_succ])
    | (refine wk_pickt _ _ _ _ (by first | exact wanted_none rfl | exact wanted_yes _ _ rfl rfl) rfl rfl rfl ?_; simp only [Act.put, Act.eval, Array.getD_eq_getD_getElem?, List.getElem?_toArray, List.getElem?_cons_succ, List.getElem?_cons_zero, Option.getD_some, List.setIfInBounds_toArray, List.set_cons_zero, List.set_cons_succ])
    | (refine wk_pickf _ _ _ _ (by first | exact wanted_none rfl | exact wanted_yes _ _ rfl rfl) rfl rfl rfl ?_; simp only [Act.put, Act.eval, Array.getD_eq_getD_getElem?, List.getElem?_toArray, List.getElem?_cons_succ, List.getElem?_cons_zero, Option.getD_some, List.setIfInBounds_toArray, List.set_cons_zero, List.set_cons_succ])
    | (refine wk_skip (wanted_not _ true false rfl rfl rfl) ?_; simp only [Act.put, List.setIfInBounds_toArray, List.set_cons_zero, List.set_cons_succ])
    | (refine wk_skip (wanted_not _ false true rfl rfl rfl) ?_; simp only [Act.put, List.setIfInBounds_toArray, List.set_cons_zero, List.set_cons_succ])
    | (refine wk_skip (wanted_undef _ _ rfl rfl) ?_; simp only [Act.put, List.setIfInBounds_toArray, List.set_cons_zero, List.set_cons_succ])
    | (refine wk_not true _ _ (by first | exact wanted_none rfl | exact wanted_yes _ _ rfl rfl) rfl rfl ?_; simp only [Act.put, List.setIfInBounds_toArray, List.set_cons_zero, List.set_cons_succ])
    | (refine wk_not false _ _ (by first | exact wanted_none rfl | exact wanted_yes _ _ rfl rfl) rfl rfl ?_; simp only [Act.put, List.setIfInBounds_toArray, List.set_cons_zero, List.set_cons_succ]))
  refine wk_eql_int true _ _ _ _ _ _ _ (by kernel_rfl) rfl rfl rfl (by decide) ?_
  simp only [Act.put, List.setIfInBounds_toArray, List.set_cons_zero, List.set_cons_succ]
  repeat (first
    | (refine wk_move _ (by first | exact wanted_none rfl | exact wanted_yes _ _ rfl rfl) rfl ?_; simp only [Act.put, Act.eval, Array.getD_eq_getD_getElem?, List.getElem?_toArray, List.getElem?_cons_succ, List.getElem?_cons_zero, Option.getD_some, List.setIfInBounds_toArray, List.set_cons_zero, List.set_cons_succ])
    | (refine wk_assign _ (by first | exact wanted_none rfl | exact wanted_yes _ _ rfl rfl) rfl ?_; simp only [Act.put, Act.eval, Array.getD_eq_getD_getElem?, List.getElem?_toArray, List.getElem?_cons_succ, List.getElem?_cons_zero, Option.getD_some, List.setIfInBounds_toArray, List.set_cons_zero, List.set_cons_succ])
    | (refine wk_pickt _ _ _ _ (by first | exact wanted_none rfl | exact wanted_yes _ _ rfl rfl) rfl rfl rfl ?_; simp only [Act.put, Act.eval, Array.getD_eq_getD_getElem?, List.getElem?_toArray, List.getElem?_cons_succ, List.getElem?_cons_zero, Option.getD_some, List.setIfInBounds_toArray, List.set_cons_zero, List.set_cons_succ])
    | (refine wk_pickf _ _ _ _ (by first | exact wanted_none rfl | exact wanted_yes _ _ rfl rfl) rfl rfl rfl ?_; simp only [Act.put, Act.eval, Array.getD_eq_getD_getElem?, List.getElem?_toArray, List.getElem?_cons_succ, List.getElem?_cons_zero, Option.getD_some, List.setIfInBounds_toArray, List.set_cons_zero, List.set_cons_succ])
    | (refine wk_skip (wanted_not _ true false rfl rfl rfl) ?_; simp only [Act.put, List.setIfInBounds_toArray, List.set_cons_zero, List.set_cons_succ])
    | (refine wk_skip (wanted_not _ false true rfl rfl rfl) ?_; simp only [Act.put, List.setIfInBounds_toArray, List.set_cons_zero, List.set_cons_succ])
    | (refine wk_skip (wanted_undef _ _ rfl rfl) ?_; simp only [Act.put, List.setIfInBounds_toArray, List.set_cons_zero, List.set_cons_succ])
    | (refine wk_not true _ _ (by first | exact wanted_none rfl | exact wanted_yes _ _ rfl rfl) rfl rfl ?_; simp only [Act.put, List.setIfInBounds_toArray, List.set_cons_zero, List.set_cons_succ])
    | (refine wk_not false _ _ (by first | exact wanted_none rfl | exact wanted_yes _ _ rfl rfl) rfl rfl ?_; simp only [Act.put, List.setIfInBounds_toArray, List.set_cons_zero, List.set_cons_succ]))
  refine wk_eql_int true _ _ _ _ _ _ _ (by kernel_rfl) rfl rfl rfl (by decide) ?_
  simp only [Act.put, List.setIfInBounds_toArray, List.set_cons_zero, List.set_cons_succ]
  repeat (first
    | (refine wk_move _ (by first | exact wanted_none rfl | exact wanted_yes _ _ rfl rfl) rfl ?_; simp only [Act.put, Act.eval, Array.getD_eq_getD_getElem?, List.getElem?_toArray, List.getElem?_cons_succ, List.getElem?_cons_zero, Option.getD_some, List.setIfInBounds_toArray, List.set_cons_zero, List.set_cons_succ])
    | (refine wk_assign _ (by first | exact wanted_none rfl | exact wanted_yes _ _ rfl rfl) rfl ?_; simp only [Act.put, Act.eval, Array.getD_eq_getD_getElem?, List.getElem?_toArray, List.getElem?_cons_succ, List.getElem?_cons_zero, Option.getD_some, List.setIfInBounds_toArray, List.set_cons_zero, List.set_cons_succ])
    | (refine wk_pickt _ _ _ _ (by first | exact wanted_none rfl | exact wanted_yes _ _ rfl rfl) rfl rfl rfl ?_; simp only [Act.put, Act.eval, Array.getD_eq_getD_getElem?, List.getElem?_toArray, List.getElem?_cons_succ, List.getElem?_cons_zero, Option.getD_some, List.setIfInBounds_toArray, List.set_cons_zero, List.set_cons_succ])
    | (refine wk_pickf _ _ _ _ (by first | exact wanted_none rfl | exact wanted_yes _ _ rfl rfl) rfl rfl rfl ?_; simp only [Act.put, Act.eval, Array.getD_eq_getD_getElem?, List.getElem?_toArray, List.getElem?_cons_succ, List.getElem?_cons_zero, Option.getD_some, List.setIfInBounds_toArray, List.set_cons_zero, List.set_cons_succ])
    | (refine wk_skip (wanted_not _ true false rfl rfl rfl) ?_; simp only [Act.put, List.setIfInBounds_toArray, List.set_cons_zero, List.set_cons_succ])
    | (refine wk_skip (wanted_not _ false true rfl rfl rfl) ?_; simp only [Act.put, List.setIfInBounds_toArray, List.set_cons_zero, List.set_cons_succ])
    | (refine wk_skip (wanted_undef _ _ rfl rfl) ?_; simp only [Act.put, List.setIfInBounds_toArray, List.set_cons_zero, List.set_cons_succ])
    | (refine wk_not true _ _ (by first | exact wanted_none rfl | exact wanted_yes _ _ rfl rfl) rfl rfl ?_; simp only [Act.put, List.setIfInBounds_toArray, List.set_cons_zero, List.set_cons_succ])
    | (refine wk_not false _ _ (by first | exact wanted_none rfl | exact wanted_yes _ _ rfl rfl) rfl rfl ?_; simp only [Act.put, List.setIfInBounds_toArray, List.set_cons_zero, List.set_cons_succ]))
  refine wk_eql_int true _ _ _ _ _ _ _ (by kernel_rfl) rfl rfl rfl (by decide) ?_
  simp only [Act.put, List.setIfInBounds_toArray, List.set_cons_zero, List.set_cons_succ]
  repeat (first
    | (refine wk_move _ (by first | exact wanted_none rfl | exact wanted_yes _ _ rfl rfl) rfl ?_; simp only [Act.put, Act.eval, Array.getD_eq_getD_getElem?, List.getElem?_toArray, List.getElem?_cons_succ, List.getElem?_cons_zero, Option.getD_some, List.setIfInBounds_toArray, List.set_cons_zero, List.set_cons_succ])
    | (refine wk_assign _ (by first | exact wanted_none rfl | exact wanted_yes _ _ rfl rfl) rfl ?_; simp only [Act.put, Act.eval, Array.getD_eq_getD_getElem?, List.getElem?_toArray, List.getElem?_cons_succ, List.getElem?_cons_zero, Option.getD_some, List.setIfInBounds_toArray, List.set_cons_zero, List.set_cons_succ])
    | (refine wk_pickt _ _ _ _ (by first | exact wanted_none rfl | exact wanted_yes _ _ rfl rfl) rfl rfl rfl ?_; simp only [Act.put, Act.eval, Array.getD_eq_getD_getElem?, List.getElem?_toArray, List.getElem?_cons_succ, List.getElem?_cons_zero, Option.getD_some, List.setIfInBounds_toArray, List.set_cons_zero, List.set_cons_succ])
    | (refine wk_pickf _ _ _ _ (by first | exact wanted_none rfl | exact wanted_yes _ _ rfl rfl) rfl rfl rfl ?_; simp only [Act.put, Act.eval, Array.getD_eq_getD_getElem?, List.getElem?_toArray, List.getElem?_cons_succ, List.getElem?_cons_zero, Option.getD_some, List.setIfInBounds_toArray, List.set_cons_zero, List.set_cons_succ])
    | (refine wk_skip (wanted_not _ true false rfl rfl rfl) ?_; simp only [Act.put, List.setIfInBounds_toArray, List.set_cons_zero, List.set_cons_succ])
    | (refine wk_skip (wanted_not _ false true rfl rfl rfl) ?_; simp only [Act.put, List.setIfInBounds_toArray, List.set_cons_zero, List.set_cons_succ])
    | (refine wk_skip (wanted_undef _ _ rfl rfl) ?_; simp only [Act.put, List.setIfInBounds_toArray, List.set_cons_zero, List.set_cons_succ])
    | (refine wk_not true _ _ (by first | exact wanted_none rfl | exact wanted_yes _ _ rfl rfl) rfl rfl ?_; simp only [Act.put, List.setIfInBounds_toArray, List.set_cons_zero, List.set_cons_succ])
    | (refine wk_not false _ _ (by first | exact wanted_none rfl | exact wanted_yes _ _ rfl rfl) rfl rfl ?_; simp only [Act.put, List.setIfInBounds_toArray, List.set_cons_zero, List.set_cons_succ]))
  refine wk_load_row 90 _ g1 90 CT (0, 0) _ (by kernel_rfl) rfl rfl (fun w' hC => hC.row (R9.out.get 6 rfl)) Tryd.underlying90 rfl (by rw [HTS.out]; exact sizeTally) ?_
  simp only [Act.put, List.setIfInBounds_toArray, List.set_cons_zero, List.set_cons_succ]
  refine wk_call 50 _ _ _ _ _ (by kernel_rfl) rfl Tryd.func50 rfl (by kernel_rfl) (fun w' hC => hC.call (HZER.out w')) ?_
  simp only [Act.put, List.setIfInBounds_toArray, List.set_cons_zero, List.set_cons_succ]
  refine wk_eql_int true _ _ _ _ _ _ _ (by kernel_rfl) rfl rfl rfl (by decide) ?_
  simp only [Act.put, List.setIfInBounds_toArray, List.set_cons_zero, List.set_cons_succ]
  repeat (first
    | (refine wk_move _ (by first | exact wanted_none rfl | exact wanted_yes _ _ rfl rfl) rfl ?_; simp only [Act.put, Act.eval, Array.getD_eq_getD_getElem?, List.getElem?_toArray, List.getElem?_cons_succ, List.getElem?_cons_zero, Option.getD_some, List.setIfInBounds_toArray, List.set_cons_zero, List.set_cons_succ])
    | (refine wk_assign _ (by first | exact wanted_none rfl | exact wanted_yes _ _ rfl rfl) rfl ?_; simp only [Act.put, Act.eval, Array.getD_eq_getD_getElem?, List.getElem?_toArray, List.getElem?_cons_succ, List.getElem?_cons_zero, Option.getD_some, List.setIfInBounds_toArray, List.set_cons_zero, List.set_cons_succ])
    | (refine wk_pickt _ _ _ _ (by first | exact wanted_none rfl | exact wanted_yes _ _ rfl rfl) rfl rfl rfl ?_; simp only [Act.put, Act.eval, Array.getD_eq_getD_getElem?, List.getElem?_toArray, List.getElem?_cons_succ, List.getElem?_cons_zero, Option.getD_some, List.setIfInBounds_toArray, List.set_cons_zero, List.set_cons_succ])
    | (refine wk_pickf _ _ _ _ (by first | exact wanted_none rfl | exact wanted_yes _ _ rfl rfl) rfl rfl rfl ?_; simp only [Act.put, Act.eval, Array.getD_eq_getD_getElem?, List.getElem?_toArray, List.getElem?_cons_succ, List.getElem?_cons_zero, Option.getD_some, List.setIfInBounds_toArray, List.set_cons_zero, List.set_cons_succ])
    | (refine wk_skip (wanted_not _ true false rfl rfl rfl) ?_; simp only [Act.put, List.setIfInBounds_toArray, List.set_cons_zero, List.set_cons_succ])
    | (refine wk_skip (wanted_not _ false true rfl rfl rfl) ?_; simp only [Act.put, List.setIfInBounds_toArray, List.set_cons_zero, List.set_cons_succ])
    | (refine wk_skip (wanted_undef _ _ rfl rfl) ?_; simp only [Act.put, List.setIfInBounds_toArray, List.set_cons_zero, List.set_cons_succ])
    | (refine wk_not true _ _ (by first | exact wanted_none rfl | exact wanted_yes _ _ rfl rfl) rfl rfl ?_; simp only [Act.put, List.setIfInBounds_toArray, List.set_cons_zero, List.set_cons_succ])
    | (refine wk_not false _ _ (by first | exact wanted_none rfl | exact wanted_yes _ _ rfl rfl) rfl rfl ?_; simp only [Act.put, List.setIfInBounds_toArray, List.set_cons_zero, List.set_cons_succ]))
  refine wk_nil ?_
  intro w' hC
  have hfin : Below w.heap.size w w' := (R9.out.since hC).below
  go_wp2_with fail
  go_ret
  exact ⟨rfl, hfin⟩
end Go.Proofs.YtnhfkmfmmgaecaaDoor
