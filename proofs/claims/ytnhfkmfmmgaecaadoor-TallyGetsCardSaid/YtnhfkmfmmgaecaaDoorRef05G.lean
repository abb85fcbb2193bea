/- The tally layer: the document's Get and GetPick. Written by mkref05g.py. -/
import Derived.Test.YtnhfkmfmmgaecaaDoorTallyGet2
namespace Go.Proofs.YtnhfkmfmmgaecaaDoor
open Go.RowKit
set_option linter.unusedSimpArgs false
set_option maxRecDepth 100000
theorem seg_oneT (b : List UInt8) (i n : Nat) (h : i < b.length) : seg b i (n + 1) = b.getD i 0 :: seg b (i + 1) n := by
  unfold seg
  rw [List.drop_eq_getElem_cons h, List.take_succ_cons]
  simp [h]
theorem blk_atT (b : List UInt8) (i : Nat) (h : i < b.length) : (blk b)[i]? = some (.int .u8 ((b.getD i 0).toNat : Int)) := by
  rw [blk_get b i h]; simp [vu8, h]
theorem num_oneT (b : List UInt8) (i n : Nat) (h : i < b.length) : num (seg b i (n + 1)) = (b.getD i 0).toNat + 256 * num (seg b (i + 1) n) := by
  rw [seg_oneT b i n h]; rfl
theorem num2T (b : List UInt8) (i : Nat) (h : i + 2 ≤ b.length) : num (seg b i 2) = (b.getD i 0).toNat + 256 * (b.getD (i + 1) 0).toNat := by
  rw [num_oneT b i 1 (by omega), num_oneT b (i + 1) 0 (by omega)]
  simp only [num, seg, List.take_zero]
  omega
theorem pOk_a (b : List UInt8) (hb : b.length = 256) (x : Nat) (hx : x < 4294967296) : POk 4 2 64 x (rest b 5 2 64) :=
  ⟨length_rest _ _ _ _, hx, rest_lt b 5 2 64 (by omega)⟩
theorem isTa_iff (b : List UInt8) (hb : b.length = 256) (x : Nat) (hx : x < 4294967296) : doneB 84 (pbytes 4 2 x (rest b 5 2 64)) = b ↔ isTa b x = true := by
  have hp := page_iff b hb 84 4 2 64 (by decide)
  have hz := zerosB b hb 133 (by decide)
  rw [show (252 - 133 : Nat) = 119 from rfl] at hz
  have key : isTa b x = true ↔ (doneB 84 (pbytes 4 2 (num (seg b 1 4)) (rest b (1 + 4) 2 64)) = b ∧ num (seg b 1 4) = x) := by
    rw [hp]
    unfold isTa fineB
    simp only [Bool.and_eq_true, decide_eq_true_eq]
    rw [hz]
    show _ ↔ (sealB b = b ∧ b[0]? = some 84 ∧ zerosFrom b 133) ∧ _
    constructor
    · rintro ⟨⟨h1, h2⟩, h3, h4⟩; exact ⟨⟨h1, h2, h3⟩, h4⟩
    · rintro ⟨⟨h1, h2, h3⟩, h4⟩; exact ⟨⟨h1, h2⟩, h3, h4⟩
  rw [key]
  constructor
  · intro h
    have h1 := (page_back (pOk_a b hb x hx) 84 (by decide)).1
    rw [h] at h1
    exact ⟨by rw [h1]; exact h, h1⟩
  · rintro ⟨h1, h2⟩
    rw [h2] at h1
    exact h1
set_option maxHeartbeats 4000000 in
theorem reftaGet_any (b : List UInt8) (hb : b.length = 256) (x : Nat) (hx : x < 4294967296) (w : World) :
    Calls Tryd.prog 55 #[.agg (blk b), .int .u32 (x : Int)] w fun e w' => e = .returned (.tuple #[.agg (pcells .u32 .u16 (taGetN b x).1 (taGetN b x).2), .int .i64 (taGetE b x)]) ∧ Below w.heap.size w w' := by
  have HLB := Lib.hid hb
  have HBs : Hid ((blk b).size = 256) := Lib.hid (by rw [size_blk, hb])
  have HCELL : Hid (∀ i, i < 256 → (blk b)[i]? = some (.int .u8 ((b.getD i 0).toNat : Int))) := Lib.hid (fun i hi => blk_atT b i (by omega))
  have HGN : Hid (taGetN b x = if x < 16384 then (if b = zeroBlk then (x, ta0) else if isTa b x then (x, rest b 5 2 64) else (0, ta0)) else (0, ta0)) := Lib.hid rfl
  have HGE : Hid (taGetE b x = if x < 16384 then (if b = zeroBlk then 0 else if isTa b x then 0 else 250) else 2) := Lib.hid rfl
  have HZERO : Hid (∀ w : World, Calls Tryd.prog 57 #[.agg (blk b)] w fun e w' => e = .returned (.bool (decide (b = zeroBlk))) ∧ Below w.heap.size w w') := Lib.hid (refzero_any b hb)
  have HOK := Lib.hid (pOk_a b hb x hx)
  have HIFF := Lib.hid (isTa_iff b hb x hx)
  clear hb
  have q1 := ((Rows.start w).alloc (blk b) 33).alloc tazero 90
  obtain ⟨g1, hg1⟩ : ∃ g, g = w.heap.size := ⟨_, rfl⟩
  obtain ⟨g2, hg2⟩ : ∃ g, g = (w.alloc (.cells (blk b) 33)).heap.size := ⟨_, rfl⟩
  rw [← hg2, ← hg1] at q1
  have hg2' : w.heap.size + 1 = g2 := by rw [hg2]; simp
  have G1 := Lib.hid hg1
  have G2 := Lib.hid hg2'
  have Q1 := Lib.hid q1
  clear hg1 hg2 hg2' q1
  go_enter Tryd.func55, Tryd.ntmps55
  go_upto_region 1 with (refine wpList_alloc_row rfl 90 rfl _ zero_ta ?_)
  have q1 := Q1.out
  obtain ⟨W1, hW⟩ : ∃ W, W = (w.alloc (.cells (blk b) 33)).alloc (.cells tazero 90) := ⟨_, rfl⟩
  rw [← hW] at q1 ⊢
  rw [G2.out, ← G1.out]
  have R1 := Lib.hid q1
  clear hW q1 Q1 G1 G2
  by_cases hm : (x : Int) < 16384
  rotate_left
  · have HN : Hid (taGetN b x = (0, ta0)) := Lib.hid (by rw [HGN.out, if_neg (by omega)])
    have HE : Hid (taGetE b x = 2) := Lib.hid (by rw [HGE.out, if_neg (by omega)])
    go_wp2_with (first
      | refine wpList_build_none rfl 90 rfl _ zero_ta Tryd.underlying90 rfl ?_
      | refine wpList_store_row rfl 90 _ _ rfl g2 tazero rfl rfl 90 _ (R1.out.get 0 rfl) sizeTally rfl tazero_one ?_)
    rw [HN.out, HE.out]
    refine bodyPost_ret (results_cell_slot rfl _ _ g2 90 _ (0, 0) _ _ rfl rfl (setRow_heap _ _ _ _ _ _ (R1.out.get 0 rfl)) Tryd.underlying90 rfl sizeTally) rfl ⟨rfl, ?_⟩
    exact (R1.out.setRow 0 _ rfl).below
  have HXL : Hid (x < 16384) := Lib.hid (by omega)
  have HCO : Hid ((pcells .u32 .u16 x ta0).all (·.oneCell') = true) := Lib.hid (pcells_one _ _ _ _)
  have HCS0 : Hid ((pcells .u32 .u16 x ta0).size = 65) := Lib.hid (by unfold ta0; rw [size_pcells, List.length_replicate])
  have q1 := R1.out.alloc (pcells .u32 .u16 x ta0) 90
  go_wp2_with (first
    | refine wpList_alloc_row rfl 90 rfl _ zero_ta ?_
    | refine wpList_store_new rfl 90 _ _ rfl _ (pcells .u32 .u16 x ta0) _ rfl rfl sizeTally rfl HCO.out ?_
    | refine wpList_load_row rfl 33 _ rfl g1 rfl 33 (blk b) (0, 0) _ (q1.get 2 rfl) Tryd.underlying33 rfl (by rw [HBs.out]; exact sizeB) ?_)
  clear hm
  have HU0 : Hid (ta0 = updT 2 64 b true 0) := Lib.hid (by rw [updT_zero]; rfl)
  obtain ⟨C0, hC0⟩ : ∃ C, C = pcells .u32 .u16 x ta0 := ⟨_, rfl⟩
  have HC0 : Hid (C0 = pcells .u32 .u16 x (updT 2 64 b true 0)) := Lib.hid (by rw [hC0, HU0.out])
  have HC0' := Lib.hid hC0
  rw [← hC0] at q1 HCO HCS0 ⊢
  clear hC0 HU0
  obtain ⟨W4, hW⟩ : ∃ W, W = W1.alloc (.cells C0 90) := ⟨_, rfl⟩
  rw [← hW] at q1 ⊢
  clear hW
  obtain ⟨g5, hg⟩ : ∃ g, g = W1.heap.size := ⟨_, rfl⟩
  rw [← hg] at q1 ⊢
  clear hg
  have R4 := Lib.hid q1
  clear q1
  refine (HZERO.out _).mono ?_
  rintro e w4 ⟨rfl, hb4⟩
  have R5 := Lib.hid (R4.out.call hb4)
  clear hb4 R4
  by_cases hz0 : b = zeroBlk
  · have HN : Hid (taGetN b x = (x, ta0)) := Lib.hid (by rw [HGN.out, if_pos HXL.out, if_pos hz0])
    have HE : Hid (taGetE b x = 0) := Lib.hid (by rw [HGE.out, if_pos HXL.out, if_pos hz0])
    rw [decide_eq_true hz0]
    clear hz0
    go_wp2_with (first
      | refine wpList_load_row rfl 90 _ rfl g5 rfl 90 C0 (0, 0) _ (R5.out.get 0 rfl) Tryd.underlying90 rfl (by rw [HCS0.out]; exact sizeTally) ?_
      | refine wpList_store_row rfl 90 _ _ rfl g2 C0 rfl rfl 90 _ (R5.out.get 1 rfl) (by rw [HCS0.out]; exact sizeTally) (by rw [HCS0.out, tazero_size]) HCO.out ?_)
    refine bodyPost_ret (v := .tuple #[.agg C0, .int .i64 0]) (results_cell_slot rfl _ _ g2 90 _ (0, 0) _ _ rfl rfl (setRow_heap _ _ _ _ _ _ (R5.out.get 1 rfl)) Tryd.underlying90 rfl (by rw [HCS0.out]; exact sizeTally)) rfl ⟨by rw [HN.out, HE.out, HC0'.out], ?_⟩
    exact (R5.out.setRow 1 C0 rfl).below
  have HN : Hid (taGetN b x = if isTa b x then (x, rest b 5 2 64) else (0, ta0)) := Lib.hid (by rw [HGN.out, if_pos HXL.out, if_neg hz0])
  have HE : Hid (taGetE b x = if isTa b x then 0 else 250) := Lib.hid (by rw [HGE.out, if_pos HXL.out, if_neg hz0])
  rw [decide_eq_false hz0]
  clear hz0 HGN HGE HC0' HCO HCS0
  rw [HC0.out] at R5
  clear HC0
  go_wp2_with fail
  go_loopw [7] (fun i wr => ∃ k : Nat, k ≤ 64 ∧ i = .int .i64 k ∧ Rows w wr [(g5, pcells .u32 .u16 x (updT 2 64 b true k), 90), (g2, tazero, 90), (g1, blk b, 33)]) (fun i _ => 64 - (intOf i).toNat)
  case atStart => exact ⟨0, by omega, rfl, R5.out⟩
  case round =>
    obtain ⟨k, hk, rfl, hR⟩ := hrel
    have R6 := Lib.hid hR
    clear hR
    by_cases hlt : k < 64
    · have hb0 := HCELL.out (5 + 2 * k) (by omega)
      have hb1 := HCELL.out (5 + 2 * k + 1) (by omega)
      have hn2 := num2T b (5 + 2 * k) (by rw [HLB.out]; omega)
      have hset : (updT 2 64 b true k).set k (num (seg b (5 + 2 * k) 2)) = updT 2 64 b true (k + 1) := updT_set 2 64 b true k hlt
      rw [hn2] at hset
      obtain ⟨y0, h0⟩ : ∃ y, y = (b.getD (5 + 2 * k) 0).toNat := ⟨_, rfl⟩
      obtain ⟨y1, h1⟩ : ∃ y, y = (b.getD (5 + 2 * k + 1) 0).toNat := ⟨_, rfl⟩
      have l0 : y0 < 256 := by rw [h0]; exact UInt8.toNat_lt _
      have l1 : y1 < 256 := by rw [h1]; exact UInt8.toNat_lt _
      rw [← h0] at hb0 hset
      rw [← h1] at hb1 hset
      obtain ⟨v, hv⟩ : ∃ v : Nat, v = y0 + 256 * y1 := ⟨_, rfl⟩
      rw [← hv] at hset
      have HB0 : Hid ((blk b)[5 + 2 * k]? = some (.int .u8 (y0 : Int))) := Lib.hid hb0
      have HB1 : Hid ((blk b)[6 + 2 * k]? = some (.int .u8 (y1 : Int))) := Lib.hid (by rw [show 6 + 2 * k = 5 + 2 * k + 1 by omega]; exact hb1)
      have K0 : Hid (IntKind.u16.wrap (y0 : Int) = (y0 : Int)) := Lib.hid (by rw [IntKind.wrap_u16]; omega)
      have K1 : Hid (IntKind.u16.wrap (y1 : Int) = (y1 : Int)) := Lib.hid (by rw [IntKind.wrap_u16]; omega)
      have M1 : Hid (IntKind.u16.wrap (256 * (y1 : Int)) = 256 * (y1 : Int)) := Lib.hid (by rw [IntKind.wrap_u16]; omega)
      have A1 : Hid (IntKind.u16.wrap ((y0 : Int) + 256 * (y1 : Int)) = (v : Int)) := Lib.hid (by rw [IntKind.wrap_u16]; omega)
      have P0 : Hid (IntKind.i64.wrap (2 * (k : Int)) = ((2 * k : Nat) : Int)) := Lib.hid (by rw [IntKind.wrap_i64]; omega)
      have P1 : Hid (IntKind.i64.wrap (5 + ((2 * k : Nat) : Int)) = ((5 + 2 * k : Nat) : Int)) := Lib.hid (by rw [IntKind.wrap_i64]; omega)
      have P2 : Hid (IntKind.i64.wrap (6 + ((2 * k : Nat) : Int)) = ((6 + 2 * k : Nat) : Int)) := Lib.hid (by rw [IntKind.wrap_i64]; omega)
      have HSET : Hid ((pcells .u32 .u16 x (updT 2 64 b true k)).setIfInBounds (1 + k) (.int .u16 (v : Int)) = pcells .u32 .u16 x (updT 2 64 b true (k + 1))) := Lib.hid (by rw [Nat.add_comm, pcells_set, hset])
      clear hn2 hset h0 h1 l0 l1 hb0 hb1 hv
      go_upto_region 9 with (fail)
      refine wk_region_tail 17 (by kernel_rfl) (by kernel_rfl) ?_
      simp only [List.take_succ_cons, List.take_zero, List.drop_succ_cons, List.drop_zero]
      repeat (first
        | (refine wk_move _ (by first | exact wanted_none rfl | exact wanted_yes _ _ rfl rfl) rfl ?_; simp only [Act.put, Act.eval, Array.getD_eq_getD_getElem?, List.getElem?_toArray, List.getElem?_cons_succ, List.getElem?_cons_zero, Option.getD_some, List.setIfInBounds_toArray, List.set_cons_zero, List.set_cons_succ])
        | (refine wk_assign _ (by first | exact wanted_none rfl | exact wanted_yes _ _ rfl rfl) rfl ?_; simp only [Act.put, Act.eval, Array.getD_eq_getD_getElem?, List.getElem?_toArray, List.getElem?_cons_succ, List.getElem?_cons_zero, Option.getD_some, List.setIfInBounds_toArray, List.set_cons_zero, List.set_cons_succ])
        | (refine wk_pickt _ _ _ _ (by first | exact wanted_none rfl | exact wanted_yes _ _ rfl rfl) rfl rfl rfl ?_; simp only [Act.put, Act.eval, Array.getD_eq_getD_getElem?, List.getElem?_toArray, List.getElem?_cons_succ, List.getElem?_cons_zero, Option.getD_some, List.setIfInBounds_toArray, List.set_cons_zero, List.set_cons_succ])
        | (refine wk_pickf _ _ _ _ (by first | exact wanted_none rfl | exact wanted_yes _ _ rfl rfl) rfl rfl rfl ?_; simp only [Act.put, Act.eval, Array.getD_eq_getD_getElem?, List.getElem?_toArray, List.getElem?_cons_succ, List.getElem?_cons_zero, Option.getD_some, List.setIfInBounds_toArray, List.set_cons_zero, List.set_cons_succ])
        | (refine wk_skip (wanted_not _ true false rfl rfl rfl) ?_; simp only [Act.put, List.setIfInBounds_toArray, List.set_cons_zero, List.set_cons_succ])
        | (refine wk_skip (wanted_not _ false true rfl rfl rfl) ?_; simp only [Act.put, List.setIfInBounds_toArray, List.set_cons_zero, List.set_cons_succ])
        | (refine wk_skip (wanted_undef _ _ rfl rfl) ?_; simp only [Act.put, List.setIfInBounds_toArray, List.set_cons_zero, List.set_cons_succ])
        | (refine wk_not true _ _ (by first | exact wanted_none rfl | exact wanted_yes _ _ rfl rfl) rfl rfl ?_; simp only [Act.put, List.setIfInBounds_toArray, List.set_cons_zero, List.set_cons_succ])
        | (refine wk_not false _ _ (by first | exact wanted_none rfl | exact wanted_yes _ _ rfl rfl) rfl rfl ?_; simp only [Act.put, List.setIfInBounds_toArray, List.set_cons_zero, List.set_cons_succ]))
      refine wk_mulk .i64 _ _ _ _ _ _ _ (by first | exact wanted_none rfl | exact wanted_yes _ _ rfl rfl) rfl rfl rfl (P0.out) ?_
      simp only [Act.put, List.setIfInBounds_toArray, List.set_cons_zero, List.set_cons_succ]
      refine wk_addk .i64 _ _ _ _ _ _ _ (by first | exact wanted_none rfl | exact wanted_yes _ _ rfl rfl) rfl rfl rfl (P1.out) ?_
      simp only [Act.put, List.setIfInBounds_toArray, List.set_cons_zero, List.set_cons_succ]
      refine wk_index_arr 33 5 _ _ g1 (5 + 2 * k) 256 .i64 (by kernel_rfl) rfl Tryd.underlying33 sizeU8 rfl rfl (by omega) ?_
      simp only [Act.put, List.setIfInBounds_toArray, List.set_cons_zero, List.set_cons_succ]
      refine wk_load1 _ _ _ _ _ rfl (by kernel_rfl) rfl rfl (fun w' hC => (R6.out.since hC).cell 2 (5 + 2 * k) rfl HB0.out) Tryd.underlying5 ?_
      simp only [Act.put, List.setIfInBounds_toArray, List.set_cons_zero, List.set_cons_succ]
      refine wk_convert _ _ _ _ (.int .u16 (y0 : Int)) (by kernel_rfl) rfl rfl (fun w => run_conv_int _ _ .u8 .u16 Tryd.underlying5 Tryd.underlying87 _ K0.out w) ?_
      simp only [Act.put, List.setIfInBounds_toArray, List.set_cons_zero, List.set_cons_succ]
      repeat (first
        | (refine wk_move _ (by first | exact wanted_none rfl | exact wanted_yes _ _ rfl rfl) rfl ?_; simp only [Act.put, Act.eval, Array.getD_eq_getD_getElem?, List.getElem?_toArray, List.getElem?_cons_succ, List.getElem?_cons_zero, Option.getD_some, List.setIfInBounds_toArray, List.set_cons_zero, List.set_cons_succ])
        | (refine wk_assign _ (by first | exact wanted_none rfl | exact wanted_yes _ _ rfl rfl) rfl ?_; simp only [Act.put, Act.eval, Array.getD_eq_getD_getElem?, List.getElem?_toArray, List.getElem?_cons_succ, List.getElem?_cons_zero, Option.getD_some, List.setIfInBounds_toArray, List.set_cons_zero, List.set_cons_succ])
        | (refine wk_pickt _ _ _ _ (by first | exact wanted_none rfl | exact wanted_yes _ _ rfl rfl) rfl rfl rfl ?_; simp only [Act.put, Act.eval, Array.getD_eq_getD_getElem?, List.getElem?_toArray, List.getElem?_cons_succ, List.getElem?_cons_zero, Option.getD_some, List.setIfInBounds_toArray, List.set_cons_zero, List.set_cons_succ])
        | (refine wk_pickf _ _ _ _ (by first | exact wanted_none rfl | exact wanted_yes _ _ rfl rfl) rfl rfl rfl ?_; simp only [Act.put, Act.eval, Array.getD_eq_getD_getElem?, List.getElem?_toArray, List.getElem?_cons_succ, List.getElem?_cons_zero, Option.getD_some, List.setIfInBounds_toArray, List.set_cons_zero, List.set_cons_succ])
        | (refine wk_skip (wanted_not _ true false rfl rfl rfl) ?_; simp only [Act.put, List.setIfInBounds_toArray, List.set_cons_zero, List.set_cons_succ])
        | (refine wk_skip (wanted_not _ false true rfl rfl rfl) ?_; simp only [Act.put, List.setIfInBounds_toArray, List.set_cons_zero, List.set_cons_succ])
        | (refine wk_skip (wanted_undef _ _ rfl rfl) ?_; simp only [Act.put, List.setIfInBounds_toArray, List.set_cons_zero, List.set_cons_succ])
        | (refine wk_not true _ _ (by first | exact wanted_none rfl | exact wanted_yes _ _ rfl rfl) rfl rfl ?_; simp only [Act.put, List.setIfInBounds_toArray, List.set_cons_zero, List.set_cons_succ])
        | (refine wk_not false _ _ (by first | exact wanted_none rfl | exact wanted_yes _ _ rfl rfl) rfl rfl ?_; simp only [Act.put, List.setIfInBounds_toArray, List.set_cons_zero, List.set_cons_succ]))
      refine wk_mulk .i64 _ _ _ _ _ _ _ (by first | exact wanted_none rfl | exact wanted_yes _ _ rfl rfl) rfl rfl rfl (P0.out) ?_
      simp only [Act.put, List.setIfInBounds_toArray, List.set_cons_zero, List.set_cons_succ]
      refine wk_addk .i64 _ _ _ _ _ _ _ (by first | exact wanted_none rfl | exact wanted_yes _ _ rfl rfl) rfl rfl rfl (P2.out) ?_
      simp only [Act.put, List.setIfInBounds_toArray, List.set_cons_zero, List.set_cons_succ]
      refine wk_index_arr 33 5 _ _ g1 (6 + 2 * k) 256 .i64 (by kernel_rfl) rfl Tryd.underlying33 sizeU8 rfl rfl (by omega) ?_
      simp only [Act.put, List.setIfInBounds_toArray, List.set_cons_zero, List.set_cons_succ]
      refine wk_load1 _ _ _ _ _ rfl (by kernel_rfl) rfl rfl (fun w' hC => (R6.out.since hC).cell 2 (6 + 2 * k) rfl HB1.out) Tryd.underlying5 ?_
      simp only [Act.put, List.setIfInBounds_toArray, List.set_cons_zero, List.set_cons_succ]
      refine wk_convert _ _ _ _ (.int .u16 (y1 : Int)) (by kernel_rfl) rfl rfl (fun w => run_conv_int _ _ .u8 .u16 Tryd.underlying5 Tryd.underlying87 _ K1.out w) ?_
      simp only [Act.put, List.setIfInBounds_toArray, List.set_cons_zero, List.set_cons_succ]
      refine wk_mulk .u16 _ _ _ _ _ _ _ (by first | exact wanted_none rfl | exact wanted_yes _ _ rfl rfl) rfl rfl rfl (M1.out) ?_
      simp only [Act.put, List.setIfInBounds_toArray, List.set_cons_zero, List.set_cons_succ]
      refine wk_addk .u16 _ _ _ _ _ _ _ (by first | exact wanted_none rfl | exact wanted_yes _ _ rfl rfl) rfl rfl rfl (A1.out) ?_
      simp only [Act.put, List.setIfInBounds_toArray, List.set_cons_zero, List.set_cons_succ]
      refine wk_field 90 _ 88 1 63 _ g5 0 (by kernel_rfl) rfl (by kernel_rfl) (by kernel_rfl) (by kernel_rfl) rfl ?_
      simp only [Act.put, List.setIfInBounds_toArray, List.set_cons_zero, List.set_cons_succ]
      refine wk_index_at 88 87 _ _ g5 1 k 64 .i64 (by kernel_rfl) rfl Tryd.underlying88 taelem rfl rfl hlt ?_
      simp only [Act.put, List.setIfInBounds_toArray, List.set_cons_zero, List.set_cons_succ]
      refine wk_nil ?_
      intro w' hC
      have R7 := Lib.hid (R6.out.since hC)
      clear hC
      have c5 : w'.cell? ⟨g5, 1 + k, none⟩ = some (.int .u16 0) := R7.out.cell 0 (1 + k) rfl (updT_old _ _ x 2 64 b true k hlt)
      have f5 := R7.out.free 0 (1 + k) rfl
      have q1 := Lib.hid (R7.out.setCell 0 (1 + k) (.int .u16 (v : Int)) rfl)
      go_upto_region 8 with (fail)
      obtain ⟨V5, hV5⟩ : ∃ V, V = w'.setCell ⟨g5, 1 + k, none⟩ (.int .u16 (v : Int)) := ⟨_, rfl⟩
      have q2 := q1.out
      rw [← hV5] at q2 ⊢
      simp only [List.set_cons_zero] at q2
      rw [HSET.out] at q2
      have R8 := Lib.hid q2
      clear hV5 q1 q2 c5 f5
      go_wp2_with fail
      exact ⟨⟨k + 1, by omega, by go_num, R8.out⟩, by simp [intOf]; omega⟩
    · obtain rfl : k = 64 := by omega
      have HRES : Hid (updT 2 64 b true 64 = rest b 5 2 64) := Lib.hid (updT_full 2 64 b)
      rw [HRES.out] at R6
      have HCS : Hid ((pcells .u32 .u16 x (rest b 5 2 64)).size = 65) := Lib.hid (size_tacells HOK.out)
      have HCO : Hid ((pcells .u32 .u16 x (rest b 5 2 64)).all (·.oneCell') = true) := Lib.hid (pcells_one _ _ _ _)
      have HPUT : Hid (∀ w : World, Calls Tryd.prog 47 #[.agg (pcells .u32 .u16 x (rest b 5 2 64))] w fun e w' => e = .returned (.tuple #[.agg (blk (doneB 84 (pbytes 4 2 x (rest b 5 2 64)))), .int .i64 0]) ∧ Below w.heap.size w w') := Lib.hid (fun w => reftaput_yes x _ HOK.out HXL.out w)
      have HPL : Hid ((doneB 84 (pbytes 4 2 x (rest b 5 2 64))).length = 256) := Lib.hid (length_doneB _ _ (tabytes_le HOK.out))
      obtain ⟨D, hD⟩ : ∃ D, D = pcells .u32 .u16 x (rest b 5 2 64) := ⟨_, rfl⟩
      obtain ⟨B, hBe⟩ : ∃ B, B = doneB 84 (pbytes 4 2 x (rest b 5 2 64)) := ⟨_, rfl⟩
      rw [← hD] at R6 HCS HCO HPUT
      rw [← hBe] at HPUT HPL HIFF
      have HDE := Lib.hid hD
      clear hD hBe HRES HOK
      have HBL : Hid ((blk B).size = 256) := Lib.hid (by rw [size_blk, HPL.out])
      have HRUN : Hid (∀ w : World, (binOp .neq 33 (.agg (blk B)) (.agg (blk b))).run Tryd.prog w = .ok (.bool (!decide (B = b))) w) := Lib.hid (fun w => run_neq_blk w 33 5 256 Tryd.underlying33 Tryd.underlying5 sizeU8 B b HPL.out HLB.out)
      go_wp2_with (refine wpList_load_row rfl 90 _ rfl g5 rfl 90 D (0, 0) _ (R6.out.get 0 rfl) Tryd.underlying90 rfl (by rw [HCS.out]; exact sizeTally) ?_)
      refine (HPUT.out _).mono ?_
      rintro e w7 ⟨rfl, hb⟩
      have q1 := (R6.out.call hb).alloc (blk B) 33
      clear hb
      go_upto_region 11 with (first | refine wpList_alloc_row rfl 33 rfl _ zeroB ?_ | refine wpList_store_new rfl 33 _ _ rfl _ (blk B) _ rfl rfl (by rw [HBL.out]; exact sizeB) (by rw [HBL.out, size_zeros]) (blk_one _) ?_)
      obtain ⟨W7, hW⟩ : ∃ W, W = w7.alloc (.cells (blk B) 33) := ⟨_, rfl⟩
      rw [← hW] at q1 ⊢
      clear hW
      obtain ⟨g7, hg⟩ : ∃ g, g = w7.heap.size := ⟨_, rfl⟩
      rw [← hg] at q1 ⊢
      clear hg
      have R7 := Lib.hid q1
      clear q1
      by_cases hc : B = b
      · have hi := HIFF.out.1 hc
        have HY1 : Hid (taGetN b x = (x, rest b 5 2 64)) := Lib.hid (by rw [HN.out, if_pos hi])
        have HY2 : Hid (taGetE b x = 0) := Lib.hid (by rw [HE.out, if_pos hi])
        have hd : (!decide (B = b)) = false := by simp [hc]
        rw [hd] at HRUN
        clear hi hc hd
        refine wk_plain_since ?_
        repeat (first
          | (refine wk_move _ (by first | exact wanted_none rfl | exact wanted_yes _ _ rfl rfl) rfl ?_; simp only [Act.put, Act.eval, Array.getD_eq_getD_getElem?, List.getElem?_toArray, List.getElem?_cons_succ, List.getElem?_cons_zero, Option.getD_some, List.setIfInBounds_toArray, List.set_cons_zero, List.set_cons_succ])
          | (refine wk_assign _ (by first | exact wanted_none rfl | exact wanted_yes _ _ rfl rfl) rfl ?_; simp only [Act.put, Act.eval, Array.getD_eq_getD_getElem?, List.getElem?_toArray, List.getElem?_cons_succ, List.getElem?_cons_zero, Option.getD_some, List.setIfInBounds_toArray, List.set_cons_zero, List.set_cons_succ])
          | (refine wk_pickt _ _ _ _ (by first | exact wanted_none rfl | exact wanted_yes _ _ rfl rfl) rfl rfl rfl ?_; simp only [Act.put, Act.eval, Array.getD_eq_getD_getElem?, List.getElem?_toArray, List.getElem?_cons_succ, List.getElem?_cons_zero, Option.getD_some, List.setIfInBounds_toArray, List.set_cons_zero, List.set_cons_succ])
          | (refine wk_pickf _ _ _ _ (by first | exact wanted_none rfl | exact wanted_yes _ _ rfl rfl) rfl rfl rfl ?_; simp only [Act.put, Act.eval, Array.getD_eq_getD_getElem?, List.getElem?_toArray, List.getElem?_cons_succ, List.getElem?_cons_zero, Option.getD_some, List.setIfInBounds_toArray, List.set_cons_zero, List.set_cons_succ])
          | (refine wk_skip (wanted_not _ true false rfl rfl rfl) ?_; simp only [Act.put, List.setIfInBounds_toArray, List.set_cons_zero, List.set_cons_succ])
          | (refine wk_skip (wanted_not _ false true rfl rfl rfl) ?_; simp only [Act.put, List.setIfInBounds_toArray, List.set_cons_zero, List.set_cons_succ])
          | (refine wk_skip (wanted_undef _ _ rfl rfl) ?_; simp only [Act.put, List.setIfInBounds_toArray, List.set_cons_zero, List.set_cons_succ])
          | (refine wk_not true _ _ (by first | exact wanted_none rfl | exact wanted_yes _ _ rfl rfl) rfl rfl ?_; simp only [Act.put, List.setIfInBounds_toArray, List.set_cons_zero, List.set_cons_succ])
          | (refine wk_not false _ _ (by first | exact wanted_none rfl | exact wanted_yes _ _ rfl rfl) rfl rfl ?_; simp only [Act.put, List.setIfInBounds_toArray, List.set_cons_zero, List.set_cons_succ]))
        refine wk_load_row 33 _ g7 33 (blk B) (0, 0) _ (by kernel_rfl) rfl rfl (fun w' hC => hC.row (R7.out.get 0 rfl)) Tryd.underlying33 rfl (by rw [HBL.out]; exact sizeB) ?_
        simp only [Act.put, List.setIfInBounds_toArray, List.set_cons_zero, List.set_cons_succ]
        refine wk_load_row 33 _ g1 33 (blk b) (0, 0) _ (by kernel_rfl) rfl rfl (fun w' hC => hC.row (R7.out.get 3 rfl)) Tryd.underlying33 rfl (by rw [HBs.out]; exact sizeB) ?_
        simp only [Act.put, List.setIfInBounds_toArray, List.set_cons_zero, List.set_cons_succ]
        refine wk_eql .neq (false) 33 33 _ _ (by first | exact wanted_none rfl | exact wanted_yes _ _ rfl rfl) rfl _ _ rfl rfl (by kernel_rfl) (fun w => HRUN.out w) ?_
        simp only [Act.put, List.setIfInBounds_toArray, List.set_cons_zero, List.set_cons_succ]
        repeat (first
          | (refine wk_move _ (by first | exact wanted_none rfl | exact wanted_yes _ _ rfl rfl) rfl ?_; simp only [Act.put, Act.eval, Array.getD_eq_getD_getElem?, List.getElem?_toArray, List.getElem?_cons_succ, List.getElem?_cons_zero, Option.getD_some, List.setIfInBounds_toArray, List.set_cons_zero, List.set_cons_succ])
          | (refine wk_assign _ (by first | exact wanted_none rfl | exact wanted_yes _ _ rfl rfl) rfl ?_; simp only [Act.put, Act.eval, Array.getD_eq_getD_getElem?, List.getElem?_toArray, List.getElem?_cons_succ, List.getElem?_cons_zero, Option.getD_some, List.setIfInBounds_toArray, List.set_cons_zero, List.set_cons_succ])
          | (refine wk_pickt _ _ _ _ (by first | exact wanted_none rfl | exact wanted_yes _ _ rfl rfl) rfl rfl rfl ?_; simp only [Act.put, Act.eval, Array.getD_eq_getD_getElem?, List.getElem?_toArray, List.getElem?_cons_succ, List.getElem?_cons_zero, Option.getD_some, List.setIfInBounds_toArray, List.set_cons_zero, List.set_cons_succ])
          | (refine wk_pickf _ _ _ _ (by first | exact wanted_none rfl | exact wanted_yes _ _ rfl rfl) rfl rfl rfl ?_; simp only [Act.put, Act.eval, Array.getD_eq_getD_getElem?, List.getElem?_toArray, List.getElem?_cons_succ, List.getElem?_cons_zero, Option.getD_some, List.setIfInBounds_toArray, List.set_cons_zero, List.set_cons_succ])
          | (refine wk_skip (wanted_not _ true false rfl rfl rfl) ?_; simp only [Act.put, List.setIfInBounds_toArray, List.set_cons_zero, List.set_cons_succ])
          | (refine wk_skip (wanted_not _ false true rfl rfl rfl) ?_; simp only [Act.put, List.setIfInBounds_toArray, List.set_cons_zero, List.set_cons_succ])
          | (refine wk_skip (wanted_undef _ _ rfl rfl) ?_; simp only [Act.put, List.setIfInBounds_toArray, List.set_cons_zero, List.set_cons_succ])
          | (refine wk_not true _ _ (by first | exact wanted_none rfl | exact wanted_yes _ _ rfl rfl) rfl rfl ?_; simp only [Act.put, List.setIfInBounds_toArray, List.set_cons_zero, List.set_cons_succ])
          | (refine wk_not false _ _ (by first | exact wanted_none rfl | exact wanted_yes _ _ rfl rfl) rfl rfl ?_; simp only [Act.put, List.setIfInBounds_toArray, List.set_cons_zero, List.set_cons_succ]))
        refine wk_nil ?_
        intro w' hC
        have S1 := Lib.hid (R7.out.since hC)
        clear hC
        go_wp2_with (first
          | refine wpList_load_row rfl 90 _ rfl g5 rfl 90 D (0, 0) _ (S1.out.get 1 rfl) Tryd.underlying90 rfl (by rw [HCS.out]; exact sizeTally) ?_
          | refine wpList_store_row rfl 90 _ _ rfl g2 D rfl rfl 90 _ (S1.out.get 2 rfl) (by rw [HCS.out]; exact sizeTally) (by rw [HCS.out, tazero_size]) HCO.out ?_)
        refine bodyPost_ret (v := .tuple #[.agg D, .int .i64 0]) (results_cell_slot rfl _ _ g2 90 _ (0, 0) _ _ rfl rfl (setRow_heap _ _ _ _ _ _ (S1.out.get 2 rfl)) Tryd.underlying90 rfl (by rw [HCS.out]; exact sizeTally)) rfl ⟨by rw [HY1.out, HY2.out, HDE.out], ?_⟩
        exact (S1.out.setRow 2 _ rfl).below
      · have hi : ¬ isTa b x = true := fun h => hc (HIFF.out.2 h)
        have HY1 : Hid (taGetN b x = (0, ta0)) := Lib.hid (by rw [HN.out, if_neg hi])
        have HY2 : Hid (taGetE b x = 250) := Lib.hid (by rw [HE.out, if_neg hi])
        have hd : (!decide (B = b)) = true := by simp [hc]
        rw [hd] at HRUN
        clear hi hc hd
        refine wk_plain_since ?_
        repeat (first
          | (refine wk_move _ (by first | exact wanted_none rfl | exact wanted_yes _ _ rfl rfl) rfl ?_; simp only [Act.put, Act.eval, Array.getD_eq_getD_getElem?, List.getElem?_toArray, List.getElem?_cons_succ, List.getElem?_cons_zero, Option.getD_some, List.setIfInBounds_toArray, List.set_cons_zero, List.set_cons_succ])
          | (refine wk_assign _ (by first | exact wanted_none rfl | exact wanted_yes _ _ rfl rfl) rfl ?_; simp only [Act.put, Act.eval, Array.getD_eq_getD_getElem?, List.getElem?_toArray, List.getElem?_cons_succ, List.getElem?_cons_zero, Option.getD_some, List.setIfInBounds_toArray, List.set_cons_zero, List.set_cons_succ])
          | (refine wk_pickt _ _ _ _ (by first | exact wanted_none rfl | exact wanted_yes _ _ rfl rfl) rfl rfl rfl ?_; simp only [Act.put, Act.eval, Array.getD_eq_getD_getElem?, List.getElem?_toArray, List.getElem?_cons_succ, List.getElem?_cons_zero, Option.getD_some, List.setIfInBounds_toArray, List.set_cons_zero, List.set_cons_succ])
          | (refine wk_pickf _ _ _ _ (by first | exact wanted_none rfl | exact wanted_yes _ _ rfl rfl) rfl rfl rfl ?_; simp only [Act.put, Act.eval, Array.getD_eq_getD_getElem?, List.getElem?_toArray, List.getElem?_cons_succ, List.getElem?_cons_zero, Option.getD_some, List.setIfInBounds_toArray, List.set_cons_zero, List.set_cons_succ])
          | (refine wk_skip (wanted_not _ true false rfl rfl rfl) ?_; simp only [Act.put, List.setIfInBounds_toArray, List.set_cons_zero, List.set_cons_succ])
          | (refine wk_skip (wanted_not _ false true rfl rfl rfl) ?_; simp only [Act.put, List.setIfInBounds_toArray, List.set_cons_zero, List.set_cons_succ])
          | (refine wk_skip (wanted_undef _ _ rfl rfl) ?_; simp only [Act.put, List.setIfInBounds_toArray, List.set_cons_zero, List.set_cons_succ])
          | (refine wk_not true _ _ (by first | exact wanted_none rfl | exact wanted_yes _ _ rfl rfl) rfl rfl ?_; simp only [Act.put, List.setIfInBounds_toArray, List.set_cons_zero, List.set_cons_succ])
          | (refine wk_not false _ _ (by first | exact wanted_none rfl | exact wanted_yes _ _ rfl rfl) rfl rfl ?_; simp only [Act.put, List.setIfInBounds_toArray, List.set_cons_zero, List.set_cons_succ]))
        refine wk_load_row 33 _ g7 33 (blk B) (0, 0) _ (by kernel_rfl) rfl rfl (fun w' hC => hC.row (R7.out.get 0 rfl)) Tryd.underlying33 rfl (by rw [HBL.out]; exact sizeB) ?_
        simp only [Act.put, List.setIfInBounds_toArray, List.set_cons_zero, List.set_cons_succ]
        refine wk_load_row 33 _ g1 33 (blk b) (0, 0) _ (by kernel_rfl) rfl rfl (fun w' hC => hC.row (R7.out.get 3 rfl)) Tryd.underlying33 rfl (by rw [HBs.out]; exact sizeB) ?_
        simp only [Act.put, List.setIfInBounds_toArray, List.set_cons_zero, List.set_cons_succ]
        refine wk_eql .neq (true) 33 33 _ _ (by first | exact wanted_none rfl | exact wanted_yes _ _ rfl rfl) rfl _ _ rfl rfl (by kernel_rfl) (fun w => HRUN.out w) ?_
        simp only [Act.put, List.setIfInBounds_toArray, List.set_cons_zero, List.set_cons_succ]
        repeat (first
          | (refine wk_move _ (by first | exact wanted_none rfl | exact wanted_yes _ _ rfl rfl) rfl ?_; simp only [Act.put, Act.eval, Array.getD_eq_getD_getElem?, List.getElem?_toArray, List.getElem?_cons_succ, List.getElem?_cons_zero, Option.getD_some, List.setIfInBounds_toArray, List.set_cons_zero, List.set_cons_succ])
          | (refine wk_assign _ (by first | exact wanted_none rfl | exact wanted_yes _ _ rfl rfl) rfl ?_; simp only [Act.put, Act.eval, Array.getD_eq_getD_getElem?, List.getElem?_toArray, List.getElem?_cons_succ, List.getElem?_cons_zero, Option.getD_some, List.setIfInBounds_toArray, List.set_cons_zero, List.set_cons_succ])
          | (refine wk_pickt _ _ _ _ (by first | exact wanted_none rfl | exact wanted_yes _ _ rfl rfl) rfl rfl rfl ?_; simp only [Act.put, Act.eval, Array.getD_eq_getD_getElem?, List.getElem?_toArray, List.getElem?_cons_succ, List.getElem?_cons_zero, Option.getD_some, List.setIfInBounds_toArray, List.set_cons_zero, List.set_cons_succ])
          | (refine wk_pickf _ _ _ _ (by first | exact wanted_none rfl | exact wanted_yes _ _ rfl rfl) rfl rfl rfl ?_; simp only [Act.put, Act.eval, Array.getD_eq_getD_getElem?, List.getElem?_toArray, List.getElem?_cons_succ, List.getElem?_cons_zero, Option.getD_some, List.setIfInBounds_toArray, List.set_cons_zero, List.set_cons_succ])
          | (refine wk_skip (wanted_not _ true false rfl rfl rfl) ?_; simp only [Act.put, List.setIfInBounds_toArray, List.set_cons_zero, List.set_cons_succ])
          | (refine wk_skip (wanted_not _ false true rfl rfl rfl) ?_; simp only [Act.put, List.setIfInBounds_toArray, List.set_cons_zero, List.set_cons_succ])
          | (refine wk_skip (wanted_undef _ _ rfl rfl) ?_; simp only [Act.put, List.setIfInBounds_toArray, List.set_cons_zero, List.set_cons_succ])
          | (refine wk_not true _ _ (by first | exact wanted_none rfl | exact wanted_yes _ _ rfl rfl) rfl rfl ?_; simp only [Act.put, List.setIfInBounds_toArray, List.set_cons_zero, List.set_cons_succ])
          | (refine wk_not false _ _ (by first | exact wanted_none rfl | exact wanted_yes _ _ rfl rfl) rfl rfl ?_; simp only [Act.put, List.setIfInBounds_toArray, List.set_cons_zero, List.set_cons_succ]))
        refine wk_nil ?_
        intro w' hC
        have S1 := Lib.hid (R7.out.since hC)
        clear hC
        go_wp2_with (first
          | refine wpList_build_none rfl 90 rfl _ zero_ta Tryd.underlying90 rfl ?_
          | refine wpList_store_row rfl 90 _ _ rfl g2 tazero rfl rfl 90 _ (S1.out.get 2 rfl) sizeTally rfl tazero_one ?_)
        rw [HY1.out, HY2.out]
        refine bodyPost_ret (results_cell_slot rfl _ _ g2 90 _ (0, 0) _ _ rfl rfl (setRow_heap _ _ _ _ _ _ (S1.out.get 2 rfl)) Tryd.underlying90 rfl sizeTally) rfl ⟨rfl, ?_⟩
        exact (S1.out.setRow 2 _ rfl).below
theorem pOk_i (b : List UInt8) (hb : b.length = 256) (x : Nat) (hx : x < 4294967296) : POk 4 8 16 x (rest b 5 8 16) :=
  ⟨length_rest _ _ _ _, hx, rest_lt b 5 8 16 (by omega)⟩
theorem isTi_iff (b : List UInt8) (hb : b.length = 256) (x : Nat) (hx : x < 4294967296) : doneB 80 (pbytes 4 8 x (rest b 5 8 16)) = b ↔ isTi b x = true := by
  have hp := page_iff b hb 80 4 8 16 (by decide)
  have hz := zerosB b hb 133 (by decide)
  rw [show (252 - 133 : Nat) = 119 from rfl] at hz
  have key : isTi b x = true ↔ (doneB 80 (pbytes 4 8 (num (seg b 1 4)) (rest b (1 + 4) 8 16)) = b ∧ num (seg b 1 4) = x) := by
    rw [hp]
    unfold isTi fineB
    simp only [Bool.and_eq_true, decide_eq_true_eq]
    rw [hz]
    show _ ↔ (sealB b = b ∧ b[0]? = some 80 ∧ zerosFrom b 133) ∧ _
    constructor
    · rintro ⟨⟨h1, h2⟩, h3, h4⟩; exact ⟨⟨h1, h2, h3⟩, h4⟩
    · rintro ⟨⟨h1, h2, h3⟩, h4⟩; exact ⟨⟨h1, h2⟩, h3, h4⟩
  rw [key]
  constructor
  · intro h
    have h1 := (page_back (pOk_i b hb x hx) 80 (by decide)).1
    rw [h] at h1
    exact ⟨by rw [h1]; exact h, h1⟩
  · rintro ⟨h1, h2⟩
    rw [h2] at h1
    exact h1
set_option maxHeartbeats 4000000 in
theorem reftiGet_any (b : List UInt8) (hb : b.length = 256) (x : Nat) (hx : x < 4294967296) (w : World) :
    Calls Tryd.prog 56 #[.agg (blk b), .int .u32 (x : Int)] w fun e w' => e = .returned (.tuple #[.agg (pcells .u32 .u64 (tiGetN b x).1 (tiGetN b x).2), .int .i64 (tiGetE b x)]) ∧ Below w.heap.size w w' := by
  have HLB := Lib.hid hb
  have HBs : Hid ((blk b).size = 256) := Lib.hid (by rw [size_blk, hb])
  have HCELL : Hid (∀ i, i < 256 → (blk b)[i]? = some (.int .u8 ((b.getD i 0).toNat : Int))) := Lib.hid (fun i hi => blk_atT b i (by omega))
  have HGN : Hid (tiGetN b x = if x < 16 then (if b = zeroBlk then (x, ti0) else if isTi b x then (x, rest b 5 8 16) else (0, ti0)) else (0, ti0)) := Lib.hid rfl
  have HGE : Hid (tiGetE b x = if x < 16 then (if b = zeroBlk then 0 else if isTi b x then 0 else 250) else 2) := Lib.hid rfl
  have HZERO : Hid (∀ w : World, Calls Tryd.prog 57 #[.agg (blk b)] w fun e w' => e = .returned (.bool (decide (b = zeroBlk))) ∧ Below w.heap.size w w') := Lib.hid (refzero_any b hb)
  have HOK := Lib.hid (pOk_i b hb x hx)
  have HIFF := Lib.hid (isTi_iff b hb x hx)
  clear hb
  have q1 := ((Rows.start w).alloc (blk b) 33).alloc tizero 93
  obtain ⟨g1, hg1⟩ : ∃ g, g = w.heap.size := ⟨_, rfl⟩
  obtain ⟨g2, hg2⟩ : ∃ g, g = (w.alloc (.cells (blk b) 33)).heap.size := ⟨_, rfl⟩
  rw [← hg2, ← hg1] at q1
  have hg2' : w.heap.size + 1 = g2 := by rw [hg2]; simp
  have G1 := Lib.hid hg1
  have G2 := Lib.hid hg2'
  have Q1 := Lib.hid q1
  clear hg1 hg2 hg2' q1
  go_enter Tryd.func56, Tryd.ntmps56
  go_upto_region 1 with (refine wpList_alloc_row rfl 93 rfl _ zero_ti ?_)
  have q1 := Q1.out
  obtain ⟨W1, hW⟩ : ∃ W, W = (w.alloc (.cells (blk b) 33)).alloc (.cells tizero 93) := ⟨_, rfl⟩
  rw [← hW] at q1 ⊢
  rw [G2.out, ← G1.out]
  have R1 := Lib.hid q1
  clear hW q1 Q1 G1 G2
  by_cases hm : (x : Int) < 16
  rotate_left
  · have HN : Hid (tiGetN b x = (0, ti0)) := Lib.hid (by rw [HGN.out, if_neg (by omega)])
    have HE : Hid (tiGetE b x = 2) := Lib.hid (by rw [HGE.out, if_neg (by omega)])
    go_wp2_with (first
      | refine wpList_build_none rfl 93 rfl _ zero_ti Tryd.underlying93 rfl ?_
      | refine wpList_store_row rfl 93 _ _ rfl g2 tizero rfl rfl 93 _ (R1.out.get 0 rfl) sizePick rfl tizero_one ?_)
    rw [HN.out, HE.out]
    refine bodyPost_ret (results_cell_slot rfl _ _ g2 93 _ (0, 0) _ _ rfl rfl (setRow_heap _ _ _ _ _ _ (R1.out.get 0 rfl)) Tryd.underlying93 rfl sizePick) rfl ⟨rfl, ?_⟩
    exact (R1.out.setRow 0 _ rfl).below
  have HXL : Hid (x < 16) := Lib.hid (by omega)
  have HCO : Hid ((pcells .u32 .u64 x ti0).all (·.oneCell') = true) := Lib.hid (pcells_one _ _ _ _)
  have HCS0 : Hid ((pcells .u32 .u64 x ti0).size = 17) := Lib.hid (by unfold ti0; rw [size_pcells, List.length_replicate])
  have q1 := R1.out.alloc (pcells .u32 .u64 x ti0) 93
  go_wp2_with (first
    | refine wpList_alloc_row rfl 93 rfl _ zero_ti ?_
    | refine wpList_store_new rfl 93 _ _ rfl _ (pcells .u32 .u64 x ti0) _ rfl rfl sizePick rfl HCO.out ?_
    | refine wpList_load_row rfl 33 _ rfl g1 rfl 33 (blk b) (0, 0) _ (q1.get 2 rfl) Tryd.underlying33 rfl (by rw [HBs.out]; exact sizeB) ?_)
  clear hm
  have HU0 : Hid (ti0 = updT 8 16 b true 0) := Lib.hid (by rw [updT_zero]; rfl)
  obtain ⟨C0, hC0⟩ : ∃ C, C = pcells .u32 .u64 x ti0 := ⟨_, rfl⟩
  have HC0 : Hid (C0 = pcells .u32 .u64 x (updT 8 16 b true 0)) := Lib.hid (by rw [hC0, HU0.out])
  have HC0' := Lib.hid hC0
  rw [← hC0] at q1 HCO HCS0 ⊢
  clear hC0 HU0
  obtain ⟨W4, hW⟩ : ∃ W, W = W1.alloc (.cells C0 93) := ⟨_, rfl⟩
  rw [← hW] at q1 ⊢
  clear hW
  obtain ⟨g5, hg⟩ : ∃ g, g = W1.heap.size := ⟨_, rfl⟩
  rw [← hg] at q1 ⊢
  clear hg
  have R4 := Lib.hid q1
  clear q1
  refine (HZERO.out _).mono ?_
  rintro e w4 ⟨rfl, hb4⟩
  have R5 := Lib.hid (R4.out.call hb4)
  clear hb4 R4
  by_cases hz0 : b = zeroBlk
  · have HN : Hid (tiGetN b x = (x, ti0)) := Lib.hid (by rw [HGN.out, if_pos HXL.out, if_pos hz0])
    have HE : Hid (tiGetE b x = 0) := Lib.hid (by rw [HGE.out, if_pos HXL.out, if_pos hz0])
    rw [decide_eq_true hz0]
    clear hz0
    go_wp2_with (first
      | refine wpList_load_row rfl 93 _ rfl g5 rfl 93 C0 (0, 0) _ (R5.out.get 0 rfl) Tryd.underlying93 rfl (by rw [HCS0.out]; exact sizePick) ?_
      | refine wpList_store_row rfl 93 _ _ rfl g2 C0 rfl rfl 93 _ (R5.out.get 1 rfl) (by rw [HCS0.out]; exact sizePick) (by rw [HCS0.out, tizero_size]) HCO.out ?_)
    refine bodyPost_ret (v := .tuple #[.agg C0, .int .i64 0]) (results_cell_slot rfl _ _ g2 93 _ (0, 0) _ _ rfl rfl (setRow_heap _ _ _ _ _ _ (R5.out.get 1 rfl)) Tryd.underlying93 rfl (by rw [HCS0.out]; exact sizePick)) rfl ⟨by rw [HN.out, HE.out, HC0'.out], ?_⟩
    exact (R5.out.setRow 1 C0 rfl).below
  have HN : Hid (tiGetN b x = if isTi b x then (x, rest b 5 8 16) else (0, ti0)) := Lib.hid (by rw [HGN.out, if_pos HXL.out, if_neg hz0])
  have HE : Hid (tiGetE b x = if isTi b x then 0 else 250) := Lib.hid (by rw [HGE.out, if_pos HXL.out, if_neg hz0])
  rw [decide_eq_false hz0]
  clear hz0 HGN HGE HC0' HCO HCS0
  rw [HC0.out] at R5
  clear HC0
  have HSTEP : Hid (∀ k m, k < 16 → m < 8 → num (seg b (5 + 8 * k + 7 - m) (m + 1)) = (b.getD (5 + 8 * k + 7 - m) 0).toNat + 256 * num (seg b (5 + 8 * k + 8 - m) m)) := Lib.hid (fun k m hk hm => by
    have := num_oneT b (5 + 8 * k + 7 - m) m (by rw [HLB.out]; omega)
    rwa [show 5 + 8 * k + 7 - m + 1 = 5 + 8 * k + 8 - m by omega] at this)
  have HLT : Hid (∀ k m, k < 16 → m < 8 → num (seg b (5 + 8 * k + 8 - m) m) < 72057594037927936) := Lib.hid (fun k m hk hm => by
    have h1 := num_seg_lt b (5 + 8 * k + 8 - m) m (by rw [HLB.out]; omega)
    have h2 : 256 ^ m ≤ 256 ^ 7 := Nat.pow_le_pow_right (by decide) (by omega)
    have h3 : (256 : Nat) ^ 7 = 72057594037927936 := by decide
    omega)
  have HBEG : Hid (∀ k, k < 16 → (updT 8 16 b true k).set k (num (seg b (5 + 8 * k + 8 - 0) 0)) = updT 8 16 b true k) := Lib.hid (fun k hk => by
    have h0 : num (seg b (5 + 8 * k + 8 - 0) 0) = 0 := by simp [seg, num]
    rw [h0]
    apply List.ext_getElem
    · simp
    · intro i h1 h2
      by_cases e : i = k
      · subst e; simp [updT]
      · rw [List.getElem_set_ne (by omega)])
  have HEND : Hid (∀ k, k < 16 → (updT 8 16 b true k).set k (num (seg b (5 + 8 * k + 8 - 8) 8)) = updT 8 16 b true (k + 1)) := Lib.hid (fun k hk => by
    rw [show 5 + 8 * k + 8 - 8 = 5 + 8 * k by omega]
    exact updT_set 8 16 b true k hk)
  go_wp2_with fail
  go_loopw [7] (fun i wr => ∃ k : Nat, k ≤ 16 ∧ i = .int .i64 k ∧ Rows w wr [(g5, pcells .u32 .u64 x (updT 8 16 b true k), 93), (g2, tizero, 93), (g1, blk b, 33)]) (fun i _ => 16 - (intOf i).toNat)
  case atStart => exact ⟨0, by omega, rfl, R5.out⟩
  case round =>
    obtain ⟨k, hk, rfl, hR⟩ := hrel
    have R6 := Lib.hid hR
    clear hR
    by_cases hlt : k < 16
    · obtain ⟨wo, rfl⟩ : ∃ wo : World, wo = wr := ⟨_, rfl⟩
      have HB0 := Lib.hid (HBEG.out k hlt)
      have HE8 := Lib.hid (HEND.out k hlt)
      go_wp2_with fail
      go_loopw [8] (fun i wr => ∃ (m : Nat) (z : Int), z = 7 - (m : Int) ∧ m ≤ 8 ∧ i = .int .i64 z ∧ Rows w wr [(g5, pcells .u32 .u64 x ((updT 8 16 b true k).set k (num (seg b (5 + 8 * k + 8 - m) m))), 93), (g2, tizero, 93), (g1, blk b, 33)]) (fun i _ => (intOf i + 1).toNat)
      case atStart => exact ⟨0, 7, by omega, by omega, rfl, by rw [HB0.out]; exact R6.out⟩
      case round =>
        obtain ⟨m, z, hz, hm, rfl, hR⟩ := hrel
        have R7 := Lib.hid hR
        clear hR
        by_cases hml : m < 8
        · have z0 : 0 ≤ z := by omega
          have z7 : z ≤ 7 := by omega
          have hb0 := HCELL.out (5 + 8 * k + 7 - m) (by omega)
          have hst := HSTEP.out k m hlt hml
          have hvl := HLT.out k m hlt hml
          obtain ⟨y, hy⟩ : ∃ y, y = (b.getD (5 + 8 * k + 7 - m) 0).toNat := ⟨_, rfl⟩
          have hyl : y < 256 := by rw [hy]; exact UInt8.toNat_lt _
          obtain ⟨v, hv⟩ : ∃ v, v = num (seg b (5 + 8 * k + 8 - m) m) := ⟨_, rfl⟩
          rw [← hy] at hb0 hst
          rw [← hv] at hst hvl R7
          obtain ⟨p, hp⟩ : ∃ p : Nat, p = 5 + 8 * k + 7 - m := ⟨_, rfl⟩
          have HPN : Hid (5 + 8 * k + 8 - (m + 1) = p) := Lib.hid (by omega)
          rw [← hp] at hb0 hst
          have hpl : p < 256 := by omega
          have HYC : Hid ((blk b)[p]? = some (.int .u8 (y : Int))) := Lib.hid hb0
          have HV : Hid (num (seg b p (m + 1)) = y + 256 * v) := Lib.hid hst
          have KY : Hid (IntKind.u64.wrap (y : Int) = (y : Int)) := Lib.hid (by rw [IntKind.wrap_u64]; omega)
          obtain ⟨t, ht⟩ : ∃ t, t = y + 256 * v := ⟨_, rfl⟩
          rw [← ht] at HV
          have M1 : Hid (IntKind.u64.wrap (256 * (v : Int)) = ((256 * v : Nat) : Int)) := Lib.hid (by rw [IntKind.wrap_u64]; omega)
          have A1 : Hid (IntKind.u64.wrap (((256 * v : Nat) : Int) + (y : Int)) = (t : Int)) := Lib.hid (by rw [IntKind.wrap_u64]; omega)
          have P0 : Hid (IntKind.i64.wrap (8 * (k : Int)) = ((8 * k : Nat) : Int)) := Lib.hid (by rw [IntKind.wrap_i64]; omega)
          have P1 : Hid (IntKind.i64.wrap (5 + ((8 * k : Nat) : Int)) = ((5 + 8 * k : Nat) : Int)) := Lib.hid (by rw [IntKind.wrap_i64]; omega)
          have P2 : Hid (IntKind.i64.wrap (((5 + 8 * k : Nat) : Int) + z) = (p : Int)) := Lib.hid (by rw [IntKind.wrap_i64]; omega)
          have HVC : Hid ((pcells .u32 .u64 x ((updT 8 16 b true k).set k v))[1 + k]? = some (.int .u64 (v : Int))) := Lib.hid (by
            rw [Nat.add_comm, pcells_get _ _ _ _ k (by rw [List.length_set, length_updT]; exact hlt)]; simp)
          have HSET : Hid ((pcells .u32 .u64 x ((updT 8 16 b true k).set k v)).setIfInBounds (1 + k) (.int .u64 (t : Int)) = pcells .u32 .u64 x ((updT 8 16 b true k).set k (num (seg b (5 + 8 * k + 8 - (m + 1)) (m + 1))))) := Lib.hid (by rw [Nat.add_comm, pcells_set, List.set_set, HPN.out, HV.out])
          have HZ := Lib.hid hz
          clear hb0 hst hvl hy hyl hv hp hz ht
          go_upto_region 12 with (fail)
          refine wk_region_tail 17 (by kernel_rfl) (by kernel_rfl) ?_
          simp only [List.take_succ_cons, List.take_zero, List.drop_succ_cons, List.drop_zero]
          repeat (first
            | (refine wk_move _ (by first | exact wanted_none rfl | exact wanted_yes _ _ rfl rfl) rfl ?_; simp only [Act.put, Act.eval, Array.getD_eq_getD_getElem?, List.getElem?_toArray, List.getElem?_cons_succ, List.getElem?_cons_zero, Option.getD_some, List.setIfInBounds_toArray, List.set_cons_zero, List.set_cons_succ])
            | (refine wk_assign _ (by first | exact wanted_none rfl | exact wanted_yes _ _ rfl rfl) rfl ?_; simp only [Act.put, Act.eval, Array.getD_eq_getD_getElem?, List.getElem?_toArray, List.getElem?_cons_succ, List.getElem?_cons_zero, Option.getD_some, List.setIfInBounds_toArray, List.set_cons_zero, List.set_cons_succ])
            | (refine wk_pickt _ _ _ _ (by first | exact wanted_none rfl | exact wanted_yes _ _ rfl rfl) rfl rfl rfl ?_; simp only [Act.put, Act.eval, Array.getD_eq_getD_getElem?, List.getElem?_toArray, List.getElem?_cons_succ, List.getElem?_cons_zero, Option.getD_some, List.setIfInBounds_toArray, List.set_cons_zero, List.set_cons_succ])
            | (refine wk_pickf _ _ _ _ (by first | exact wanted_none rfl | exact wanted_yes _ _ rfl rfl) rfl rfl rfl ?_; simp only [Act.put, Act.eval, Array.getD_eq_getD_getElem?, List.getElem?_toArray, List.getElem?_cons_succ, List.getElem?_cons_zero, Option.getD_some, List.setIfInBounds_toArray, List.set_cons_zero, List.set_cons_succ])
            | (refine wk_skip (wanted_not _ true false rfl rfl rfl) ?_; simp only [Act.put, List.setIfInBounds_toArray, List.set_cons_zero, List.set_cons_succ])
            | (refine wk_skip (wanted_not _ false true rfl rfl rfl) ?_; simp only [Act.put, List.setIfInBounds_toArray, List.set_cons_zero, List.set_cons_succ])
            | (refine wk_skip (wanted_undef _ _ rfl rfl) ?_; simp only [Act.put, List.setIfInBounds_toArray, List.set_cons_zero, List.set_cons_succ])
            | (refine wk_not true _ _ (by first | exact wanted_none rfl | exact wanted_yes _ _ rfl rfl) rfl rfl ?_; simp only [Act.put, List.setIfInBounds_toArray, List.set_cons_zero, List.set_cons_succ])
            | (refine wk_not false _ _ (by first | exact wanted_none rfl | exact wanted_yes _ _ rfl rfl) rfl rfl ?_; simp only [Act.put, List.setIfInBounds_toArray, List.set_cons_zero, List.set_cons_succ]))
          refine wk_field 93 _ 91 1 15 _ g5 0 (by kernel_rfl) rfl (by kernel_rfl) (by kernel_rfl) (by kernel_rfl) rfl ?_
          simp only [Act.put, List.setIfInBounds_toArray, List.set_cons_zero, List.set_cons_succ]
          refine wk_index_at 91 29 _ _ g5 1 k 16 .i64 (by kernel_rfl) rfl Tryd.underlying91 tielem rfl rfl hlt ?_
          simp only [Act.put, List.setIfInBounds_toArray, List.set_cons_zero, List.set_cons_succ]
          refine wk_load1 _ _ _ _ _ rfl (by kernel_rfl) rfl rfl (fun w' hC => (R7.out.since hC).cell 0 (1 + k) rfl HVC.out) Tryd.underlying29 ?_
          simp only [Act.put, List.setIfInBounds_toArray, List.set_cons_zero, List.set_cons_succ]
          refine wk_mulk .u64 _ _ _ _ _ _ _ (by first | exact wanted_none rfl | exact wanted_yes _ _ rfl rfl) rfl rfl rfl (M1.out) ?_
          simp only [Act.put, List.setIfInBounds_toArray, List.set_cons_zero, List.set_cons_succ]
          repeat (first
            | (refine wk_move _ (by first | exact wanted_none rfl | exact wanted_yes _ _ rfl rfl) rfl ?_; simp only [Act.put, Act.eval, Array.getD_eq_getD_getElem?, List.getElem?_toArray, List.getElem?_cons_succ, List.getElem?_cons_zero, Option.getD_some, List.setIfInBounds_toArray, List.set_cons_zero, List.set_cons_succ])
            | (refine wk_assign _ (by first | exact wanted_none rfl | exact wanted_yes _ _ rfl rfl) rfl ?_; simp only [Act.put, Act.eval, Array.getD_eq_getD_getElem?, List.getElem?_toArray, List.getElem?_cons_succ, List.getElem?_cons_zero, Option.getD_some, List.setIfInBounds_toArray, List.set_cons_zero, List.set_cons_succ])
            | (refine wk_pickt _ _ _ _ (by first | exact wanted_none rfl | exact wanted_yes _ _ rfl rfl) rfl rfl rfl ?_; simp only [Act.put, Act.eval, Array.getD_eq_getD_getElem?, List.getElem?_toArray, List.getElem?_cons_succ, List.getElem?_cons_zero, Option.getD_some, List.setIfInBounds_toArray, List.set_cons_zero, List.set_cons_succ])
            | (refine wk_pickf _ _ _ _ (by first | exact wanted_none rfl | exact wanted_yes _ _ rfl rfl) rfl rfl rfl ?_; simp only [Act.put, Act.eval, Array.getD_eq_getD_getElem?, List.getElem?_toArray, List.getElem?_cons_succ, List.getElem?_cons_zero, Option.getD_some, List.setIfInBounds_toArray, List.set_cons_zero, List.set_cons_succ])
            | (refine wk_skip (wanted_not _ true false rfl rfl rfl) ?_; simp only [Act.put, List.setIfInBounds_toArray, List.set_cons_zero, List.set_cons_succ])
            | (refine wk_skip (wanted_not _ false true rfl rfl rfl) ?_; simp only [Act.put, List.setIfInBounds_toArray, List.set_cons_zero, List.set_cons_succ])
            | (refine wk_skip (wanted_undef _ _ rfl rfl) ?_; simp only [Act.put, List.setIfInBounds_toArray, List.set_cons_zero, List.set_cons_succ])
            | (refine wk_not true _ _ (by first | exact wanted_none rfl | exact wanted_yes _ _ rfl rfl) rfl rfl ?_; simp only [Act.put, List.setIfInBounds_toArray, List.set_cons_zero, List.set_cons_succ])
            | (refine wk_not false _ _ (by first | exact wanted_none rfl | exact wanted_yes _ _ rfl rfl) rfl rfl ?_; simp only [Act.put, List.setIfInBounds_toArray, List.set_cons_zero, List.set_cons_succ]))
          refine wk_mulk .i64 _ _ _ _ _ _ _ (by first | exact wanted_none rfl | exact wanted_yes _ _ rfl rfl) rfl rfl rfl (P0.out) ?_
          simp only [Act.put, List.setIfInBounds_toArray, List.set_cons_zero, List.set_cons_succ]
          refine wk_addk .i64 _ _ _ _ _ _ _ (by first | exact wanted_none rfl | exact wanted_yes _ _ rfl rfl) rfl rfl rfl (P1.out) ?_
          simp only [Act.put, List.setIfInBounds_toArray, List.set_cons_zero, List.set_cons_succ]
          repeat (first
            | (refine wk_move _ (by first | exact wanted_none rfl | exact wanted_yes _ _ rfl rfl) rfl ?_; simp only [Act.put, Act.eval, Array.getD_eq_getD_getElem?, List.getElem?_toArray, List.getElem?_cons_succ, List.getElem?_cons_zero, Option.getD_some, List.setIfInBounds_toArray, List.set_cons_zero, List.set_cons_succ])
            | (refine wk_assign _ (by first | exact wanted_none rfl | exact wanted_yes _ _ rfl rfl) rfl ?_; simp only [Act.put, Act.eval, Array.getD_eq_getD_getElem?, List.getElem?_toArray, List.getElem?_cons_succ, List.getElem?_cons_zero, Option.getD_some, List.setIfInBounds_toArray, List.set_cons_zero, List.set_cons_succ])
            | (refine wk_pickt _ _ _ _ (by first | exact wanted_none rfl | exact wanted_yes _ _ rfl rfl) rfl rfl rfl ?_; simp only [Act.put, Act.eval, Array.getD_eq_getD_getElem?, List.getElem?_toArray, List.getElem?_cons_succ, List.getElem?_cons_zero, Option.getD_some, List.setIfInBounds_toArray, List.set_cons_zero, List.set_cons_succ])
            | (refine wk_pickf _ _ _ _ (by first | exact wanted_none rfl | exact wanted_yes _ _ rfl rfl) rfl rfl rfl ?_; simp only [Act.put, Act.eval, Array.getD_eq_getD_getElem?, List.getElem?_toArray, List.getElem?_cons_succ, List.getElem?_cons_zero, Option.getD_some, List.setIfInBounds_toArray, List.set_cons_zero, List.set_cons_succ])
            | (refine wk_skip (wanted_not _ true false rfl rfl rfl) ?_; simp only [Act.put, List.setIfInBounds_toArray, List.set_cons_zero, List.set_cons_succ])
            | (refine wk_skip (wanted_not _ false true rfl rfl rfl) ?_; simp only [Act.put, List.setIfInBounds_toArray, List.set_cons_zero, List.set_cons_succ])
            | (refine wk_skip (wanted_undef _ _ rfl rfl) ?_; simp only [Act.put, List.setIfInBounds_toArray, List.set_cons_zero, List.set_cons_succ])
            | (refine wk_not true _ _ (by first | exact wanted_none rfl | exact wanted_yes _ _ rfl rfl) rfl rfl ?_; simp only [Act.put, List.setIfInBounds_toArray, List.set_cons_zero, List.set_cons_succ])
            | (refine wk_not false _ _ (by first | exact wanted_none rfl | exact wanted_yes _ _ rfl rfl) rfl rfl ?_; simp only [Act.put, List.setIfInBounds_toArray, List.set_cons_zero, List.set_cons_succ]))
          refine wk_addk .i64 _ _ _ _ _ _ _ (by first | exact wanted_none rfl | exact wanted_yes _ _ rfl rfl) rfl rfl rfl (P2.out) ?_
          simp only [Act.put, List.setIfInBounds_toArray, List.set_cons_zero, List.set_cons_succ]
          refine wk_index_arr 33 5 _ _ g1 (p) 256 .i64 (by kernel_rfl) rfl Tryd.underlying33 sizeU8 rfl rfl (by omega) ?_
          simp only [Act.put, List.setIfInBounds_toArray, List.set_cons_zero, List.set_cons_succ]
          refine wk_load1 _ _ _ _ _ rfl (by kernel_rfl) rfl rfl (fun w' hC => (R7.out.since hC).cell 2 (p) rfl HYC.out) Tryd.underlying5 ?_
          simp only [Act.put, List.setIfInBounds_toArray, List.set_cons_zero, List.set_cons_succ]
          refine wk_convert _ _ _ _ (.int .u64 (y : Int)) (by kernel_rfl) rfl rfl (fun w => run_conv_int _ _ .u8 .u64 Tryd.underlying5 Tryd.underlying29 _ KY.out w) ?_
          simp only [Act.put, List.setIfInBounds_toArray, List.set_cons_zero, List.set_cons_succ]
          refine wk_addk .u64 _ _ _ _ _ _ _ (by first | exact wanted_none rfl | exact wanted_yes _ _ rfl rfl) rfl rfl rfl (A1.out) ?_
          simp only [Act.put, List.setIfInBounds_toArray, List.set_cons_zero, List.set_cons_succ]
          refine wk_field 93 _ 91 1 15 _ g5 0 (by kernel_rfl) rfl (by kernel_rfl) (by kernel_rfl) (by kernel_rfl) rfl ?_
          simp only [Act.put, List.setIfInBounds_toArray, List.set_cons_zero, List.set_cons_succ]
          refine wk_index_at 91 29 _ _ g5 1 k 16 .i64 (by kernel_rfl) rfl Tryd.underlying91 tielem rfl rfl hlt ?_
          simp only [Act.put, List.setIfInBounds_toArray, List.set_cons_zero, List.set_cons_succ]
          refine wk_nil ?_
          intro w' hC
          have R8 := Lib.hid (R7.out.since hC)
          clear hC
          have c5 : w'.cell? ⟨g5, 1 + k, none⟩ = some (.int .u64 (v : Int)) := R8.out.cell 0 (1 + k) rfl HVC.out
          have f5 := R8.out.free 0 (1 + k) rfl
          have q1 := Lib.hid (R8.out.setCell 0 (1 + k) (.int .u64 (t : Int)) rfl)
          go_upto_region 11 with (fail)
          obtain ⟨V5, hV5⟩ : ∃ V, V = w'.setCell ⟨g5, 1 + k, none⟩ (.int .u64 (t : Int)) := ⟨_, rfl⟩
          have q2 := q1.out
          rw [← hV5] at q2 ⊢
          simp only [List.set_cons_zero] at q2
          rw [HSET.out] at q2
          have R9 := Lib.hid q2
          clear hV5 q1 q2 c5 f5
          go_wp2_with fail
          exact ⟨⟨m + 1, z - 1, by have := HZ.out; omega, by omega, rfl, R9.out⟩, by simp [intOf]; omega⟩
        · obtain rfl : m = 8 := by omega
          obtain rfl : z = -1 := by omega
          have R8 := Lib.hid (HE8.out ▸ R7.out)
          go_wp2_with fail
          exact ⟨⟨k + 1, by omega, by go_num, R8.out⟩, by simp [intOf]; omega⟩
    · obtain rfl : k = 16 := by omega
      have HRES : Hid (updT 8 16 b true 16 = rest b 5 8 16) := Lib.hid (updT_full 8 16 b)
      rw [HRES.out] at R6
      have HCS : Hid ((pcells .u32 .u64 x (rest b 5 8 16)).size = 17) := Lib.hid (size_ticells HOK.out)
      have HCO : Hid ((pcells .u32 .u64 x (rest b 5 8 16)).all (·.oneCell') = true) := Lib.hid (pcells_one _ _ _ _)
      have HPUT : Hid (∀ w : World, Calls Tryd.prog 49 #[.agg (pcells .u32 .u64 x (rest b 5 8 16))] w fun e w' => e = .returned (.tuple #[.agg (blk (doneB 80 (pbytes 4 8 x (rest b 5 8 16)))), .int .i64 0]) ∧ Below w.heap.size w w') := Lib.hid (fun w => reftiput_yes x _ HOK.out HXL.out w)
      have HPL : Hid ((doneB 80 (pbytes 4 8 x (rest b 5 8 16))).length = 256) := Lib.hid (length_doneB _ _ (tibytes_le HOK.out))
      obtain ⟨D, hD⟩ : ∃ D, D = pcells .u32 .u64 x (rest b 5 8 16) := ⟨_, rfl⟩
      obtain ⟨B, hBe⟩ : ∃ B, B = doneB 80 (pbytes 4 8 x (rest b 5 8 16)) := ⟨_, rfl⟩
      rw [← hD] at R6 HCS HCO HPUT
      rw [← hBe] at HPUT HPL HIFF
      have HDE := Lib.hid hD
      clear hD hBe HRES HOK
      have HBL : Hid ((blk B).size = 256) := Lib.hid (by rw [size_blk, HPL.out])
      have HRUN : Hid (∀ w : World, (binOp .neq 33 (.agg (blk B)) (.agg (blk b))).run Tryd.prog w = .ok (.bool (!decide (B = b))) w) := Lib.hid (fun w => run_neq_blk w 33 5 256 Tryd.underlying33 Tryd.underlying5 sizeU8 B b HPL.out HLB.out)
      go_wp2_with (refine wpList_load_row rfl 93 _ rfl g5 rfl 93 D (0, 0) _ (R6.out.get 0 rfl) Tryd.underlying93 rfl (by rw [HCS.out]; exact sizePick) ?_)
      refine (HPUT.out _).mono ?_
      rintro e w7 ⟨rfl, hb⟩
      have q1 := (R6.out.call hb).alloc (blk B) 33
      clear hb
      go_upto_region 14 with (first | refine wpList_alloc_row rfl 33 rfl _ zeroB ?_ | refine wpList_store_new rfl 33 _ _ rfl _ (blk B) _ rfl rfl (by rw [HBL.out]; exact sizeB) (by rw [HBL.out, size_zeros]) (blk_one _) ?_)
      obtain ⟨W7, hW⟩ : ∃ W, W = w7.alloc (.cells (blk B) 33) := ⟨_, rfl⟩
      rw [← hW] at q1 ⊢
      clear hW
      obtain ⟨g7, hg⟩ : ∃ g, g = w7.heap.size := ⟨_, rfl⟩
      rw [← hg] at q1 ⊢
      clear hg
      have R7 := Lib.hid q1
      clear q1
      by_cases hc : B = b
      · have hi := HIFF.out.1 hc
        have HY1 : Hid (tiGetN b x = (x, rest b 5 8 16)) := Lib.hid (by rw [HN.out, if_pos hi])
        have HY2 : Hid (tiGetE b x = 0) := Lib.hid (by rw [HE.out, if_pos hi])
        have hd : (!decide (B = b)) = false := by simp [hc]
        rw [hd] at HRUN
        clear hi hc hd
        refine wk_plain_since ?_
        repeat (first
          | (refine wk_move _ (by first | exact wanted_none rfl | exact wanted_yes _ _ rfl rfl) rfl ?_; simp only [Act.put, Act.eval, Array.getD_eq_getD_getElem?, List.getElem?_toArray, List.getElem?_cons_succ, List.getElem?_cons_zero, Option.getD_some, List.setIfInBounds_toArray, List.set_cons_zero, List.set_cons_succ])
          | (refine wk_assign _ (by first | exact wanted_none rfl | exact wanted_yes _ _ rfl rfl) rfl ?_; simp only [Act.put, Act.eval, Array.getD_eq_getD_getElem?, List.getElem?_toArray, List.getElem?_cons_succ, List.getElem?_cons_zero, Option.getD_some, List.setIfInBounds_toArray, List.set_cons_zero, List.set_cons_succ])
          | (refine wk_pickt _ _ _ _ (by first | exact wanted_none rfl | exact wanted_yes _ _ rfl rfl) rfl rfl rfl ?_; simp only [Act.put, Act.eval, Array.getD_eq_getD_getElem?, List.getElem?_toArray, List.getElem?_cons_succ, List.getElem?_cons_zero, Option.getD_some, List.setIfInBounds_toArray, List.set_cons_zero, List.set_cons_succ])
          | (refine wk_pickf _ _ _ _ (by first | exact wanted_none rfl | exact wanted_yes _ _ rfl rfl) rfl rfl rfl ?_; simp only [Act.put, Act.eval, Array.getD_eq_getD_getElem?, List.getElem?_toArray, List.getElem?_cons_succ, List.getElem?_cons_zero, Option.getD_some, List.setIfInBounds_toArray, List.set_cons_zero, List.set_cons_succ])
          | (refine wk_skip (wanted_not _ true false rfl rfl rfl) ?_; simp only [Act.put, List.setIfInBounds_toArray, List.set_cons_zero, List.set_cons_succ])
          | (refine wk_skip (wanted_not _ false true rfl rfl rfl) ?_; simp only [Act.put, List.setIfInBounds_toArray, List.set_cons_zero, List.set_cons_succ])
          | (refine wk_skip (wanted_undef _ _ rfl rfl) ?_; simp only [Act.put, List.setIfInBounds_toArray, List.set_cons_zero, List.set_cons_succ])
          | (refine wk_not true _ _ (by first | exact wanted_none rfl | exact wanted_yes _ _ rfl rfl) rfl rfl ?_; simp only [Act.put, List.setIfInBounds_toArray, List.set_cons_zero, List.set_cons_succ])
          | (refine wk_not false _ _ (by first | exact wanted_none rfl | exact wanted_yes _ _ rfl rfl) rfl rfl ?_; simp only [Act.put, List.setIfInBounds_toArray, List.set_cons_zero, List.set_cons_succ]))
        refine wk_load_row 33 _ g7 33 (blk B) (0, 0) _ (by kernel_rfl) rfl rfl (fun w' hC => hC.row (R7.out.get 0 rfl)) Tryd.underlying33 rfl (by rw [HBL.out]; exact sizeB) ?_
        simp only [Act.put, List.setIfInBounds_toArray, List.set_cons_zero, List.set_cons_succ]
        refine wk_load_row 33 _ g1 33 (blk b) (0, 0) _ (by kernel_rfl) rfl rfl (fun w' hC => hC.row (R7.out.get 3 rfl)) Tryd.underlying33 rfl (by rw [HBs.out]; exact sizeB) ?_
        simp only [Act.put, List.setIfInBounds_toArray, List.set_cons_zero, List.set_cons_succ]
        refine wk_eql .neq (false) 33 33 _ _ (by first | exact wanted_none rfl | exact wanted_yes _ _ rfl rfl) rfl _ _ rfl rfl (by kernel_rfl) (fun w => HRUN.out w) ?_
        simp only [Act.put, List.setIfInBounds_toArray, List.set_cons_zero, List.set_cons_succ]
        repeat (first
          | (refine wk_move _ (by first | exact wanted_none rfl | exact wanted_yes _ _ rfl rfl) rfl ?_; simp only [Act.put, Act.eval, Array.getD_eq_getD_getElem?, List.getElem?_toArray, List.getElem?_cons_succ, List.getElem?_cons_zero, Option.getD_some, List.setIfInBounds_toArray, List.set_cons_zero, List.set_cons_succ])
          | (refine wk_assign _ (by first | exact wanted_none rfl | exact wanted_yes _ _ rfl rfl) rfl ?_; simp only [Act.put, Act.eval, Array.getD_eq_getD_getElem?, List.getElem?_toArray, List.getElem?_cons_succ, List.getElem?_cons_zero, Option.getD_some, List.setIfInBounds_toArray, List.set_cons_zero, List.set_cons_succ])
          | (refine wk_pickt _ _ _ _ (by first | exact wanted_none rfl | exact wanted_yes _ _ rfl rfl) rfl rfl rfl ?_; simp only [Act.put, Act.eval, Array.getD_eq_getD_getElem?, List.getElem?_toArray, List.getElem?_cons_succ, List.getElem?_cons_zero, Option.getD_some, List.setIfInBounds_toArray, List.set_cons_zero, List.set_cons_succ])
          | (refine wk_pickf _ _ _ _ (by first | exact wanted_none rfl | exact wanted_yes _ _ rfl rfl) rfl rfl rfl ?_; simp only [Act.put, Act.eval, Array.getD_eq_getD_getElem?, List.getElem?_toArray, List.getElem?_cons_succ, List.getElem?_cons_zero, Option.getD_some, List.setIfInBounds_toArray, List.set_cons_zero, List.set_cons_succ])
          | (refine wk_skip (wanted_not _ true false rfl rfl rfl) ?_; simp only [Act.put, List.setIfInBounds_toArray, List.set_cons_zero, List.set_cons_succ])
          | (refine wk_skip (wanted_not _ false true rfl rfl rfl) ?_; simp only [Act.put, List.setIfInBounds_toArray, List.set_cons_zero, List.set_cons_succ])
          | (refine wk_skip (wanted_undef _ _ rfl rfl) ?_; simp only [Act.put, List.setIfInBounds_toArray, List.set_cons_zero, List.set_cons_succ])
          | (refine wk_not true _ _ (by first | exact wanted_none rfl | exact wanted_yes _ _ rfl rfl) rfl rfl ?_; simp only [Act.put, List.setIfInBounds_toArray, List.set_cons_zero, List.set_cons_succ])
          | (refine wk_not false _ _ (by first | exact wanted_none rfl | exact wanted_yes _ _ rfl rfl) rfl rfl ?_; simp only [Act.put, List.setIfInBounds_toArray, List.set_cons_zero, List.set_cons_succ]))
        refine wk_nil ?_
        intro w' hC
        have S1 := Lib.hid (R7.out.since hC)
        clear hC
        go_wp2_with (first
          | refine wpList_load_row rfl 93 _ rfl g5 rfl 93 D (0, 0) _ (S1.out.get 1 rfl) Tryd.underlying93 rfl (by rw [HCS.out]; exact sizePick) ?_
          | refine wpList_store_row rfl 93 _ _ rfl g2 D rfl rfl 93 _ (S1.out.get 2 rfl) (by rw [HCS.out]; exact sizePick) (by rw [HCS.out, tizero_size]) HCO.out ?_)
        refine bodyPost_ret (v := .tuple #[.agg D, .int .i64 0]) (results_cell_slot rfl _ _ g2 93 _ (0, 0) _ _ rfl rfl (setRow_heap _ _ _ _ _ _ (S1.out.get 2 rfl)) Tryd.underlying93 rfl (by rw [HCS.out]; exact sizePick)) rfl ⟨by rw [HY1.out, HY2.out, HDE.out], ?_⟩
        exact (S1.out.setRow 2 _ rfl).below
      · have hi : ¬ isTi b x = true := fun h => hc (HIFF.out.2 h)
        have HY1 : Hid (tiGetN b x = (0, ti0)) := Lib.hid (by rw [HN.out, if_neg hi])
        have HY2 : Hid (tiGetE b x = 250) := Lib.hid (by rw [HE.out, if_neg hi])
        have hd : (!decide (B = b)) = true := by simp [hc]
        rw [hd] at HRUN
        clear hi hc hd
        refine wk_plain_since ?_
        repeat (first
          | (refine wk_move _ (by first | exact wanted_none rfl | exact wanted_yes _ _ rfl rfl) rfl ?_; simp only [Act.put, Act.eval, Array.getD_eq_getD_getElem?, List.getElem?_toArray, List.getElem?_cons_succ, List.getElem?_cons_zero, Option.getD_some, List.setIfInBounds_toArray, List.set_cons_zero, List.set_cons_succ])
          | (refine wk_assign _ (by first | exact wanted_none rfl | exact wanted_yes _ _ rfl rfl) rfl ?_; simp only [Act.put, Act.eval, Array.getD_eq_getD_getElem?, List.getElem?_toArray, List.getElem?_cons_succ, List.getElem?_cons_zero, Option.getD_some, List.setIfInBounds_toArray, List.set_cons_zero, List.set_cons_succ])
          | (refine wk_pickt _ _ _ _ (by first | exact wanted_none rfl | exact wanted_yes _ _ rfl rfl) rfl rfl rfl ?_; simp only [Act.put, Act.eval, Array.getD_eq_getD_getElem?, List.getElem?_toArray, List.getElem?_cons_succ, List.getElem?_cons_zero, Option.getD_some, List.setIfInBounds_toArray, List.set_cons_zero, List.set_cons_succ])
          | (refine wk_pickf _ _ _ _ (by first | exact wanted_none rfl | exact wanted_yes _ _ rfl rfl) rfl rfl rfl ?_; simp only [Act.put, Act.eval, Array.getD_eq_getD_getElem?, List.getElem?_toArray, List.getElem?_cons_succ, List.getElem?_cons_zero, Option.getD_some, List.setIfInBounds_toArray, List.set_cons_zero, List.set_cons_succ])
          | (refine wk_skip (wanted_not _ true false rfl rfl rfl) ?_; simp only [Act.put, List.setIfInBounds_toArray, List.set_cons_zero, List.set_cons_succ])
          | (refine wk_skip (wanted_not _ false true rfl rfl rfl) ?_; simp only [Act.put, List.setIfInBounds_toArray, List.set_cons_zero, List.set_cons_succ])
          | (refine wk_skip (wanted_undef _ _ rfl rfl) ?_; simp only [Act.put, List.setIfInBounds_toArray, List.set_cons_zero, List.set_cons_succ])
          | (refine wk_not true _ _ (by first | exact wanted_none rfl | exact wanted_yes _ _ rfl rfl) rfl rfl ?_; simp only [Act.put, List.setIfInBounds_toArray, List.set_cons_zero, List.set_cons_succ])
          | (refine wk_not false _ _ (by first | exact wanted_none rfl | exact wanted_yes _ _ rfl rfl) rfl rfl ?_; simp only [Act.put, List.setIfInBounds_toArray, List.set_cons_zero, List.set_cons_succ]))
        refine wk_load_row 33 _ g7 33 (blk B) (0, 0) _ (by kernel_rfl) rfl rfl (fun w' hC => hC.row (R7.out.get 0 rfl)) Tryd.underlying33 rfl (by rw [HBL.out]; exact sizeB) ?_
        simp only [Act.put, List.setIfInBounds_toArray, List.set_cons_zero, List.set_cons_succ]
        refine wk_load_row 33 _ g1 33 (blk b) (0, 0) _ (by kernel_rfl) rfl rfl (fun w' hC => hC.row (R7.out.get 3 rfl)) Tryd.underlying33 rfl (by rw [HBs.out]; exact sizeB) ?_
        simp only [Act.put, List.setIfInBounds_toArray, List.set_cons_zero, List.set_cons_succ]
        refine wk_eql .neq (true) 33 33 _ _ (by first | exact wanted_none rfl | exact wanted_yes _ _ rfl rfl) rfl _ _ rfl rfl (by kernel_rfl) (fun w => HRUN.out w) ?_
        simp only [Act.put, List.setIfInBounds_toArray, List.set_cons_zero, List.set_cons_succ]
        repeat (first
          | (refine wk_move _ (by first | exact wanted_none rfl | exact wanted_yes _ _ rfl rfl) rfl ?_; simp only [Act.put, Act.eval, Array.getD_eq_getD_getElem?, List.getElem?_toArray, List.getElem?_cons_succ, List.getElem?_cons_zero, Option.getD_some, List.setIfInBounds_toArray, List.set_cons_zero, List.set_cons_succ])
          | (refine wk_assign _ (by first | exact wanted_none rfl | exact wanted_yes _ _ rfl rfl) rfl ?_; simp only [Act.put, Act.eval, Array.getD_eq_getD_getElem?, List.getElem?_toArray, List.getElem?_cons_succ, List.getElem?_cons_zero, Option.getD_some, List.setIfInBounds_toArray, List.set_cons_zero, List.set_cons_succ])
          | (refine wk_pickt _ _ _ _ (by first | exact wanted_none rfl | exact wanted_yes _ _ rfl rfl) rfl rfl rfl ?_; simp only [Act.put, Act.eval, Array.getD_eq_getD_getElem?, List.getElem?_toArray, List.getElem?_cons_succ, List.getElem?_cons_zero, Option.getD_some, List.setIfInBounds_toArray, List.set_cons_zero, List.set_cons_succ])
          | (refine wk_pickf _ _ _ _ (by first | exact wanted_none rfl | exact wanted_yes _ _ rfl rfl) rfl rfl rfl ?_; simp only [Act.put, Act.eval, Array.getD_eq_getD_getElem?, List.getElem?_toArray, List.getElem?_cons_succ, List.getElem?_cons_zero, Option.getD_some, List.setIfInBounds_toArray, List.set_cons_zero, List.set_cons_succ])
          | (refine wk_skip (wanted_not _ true false rfl rfl rfl) ?_; simp only [Act.put, List.setIfInBounds_toArray, List.set_cons_zero, List.set_cons_succ])
          | (refine wk_skip (wanted_not _ false true rfl rfl rfl) ?_; simp only [Act.put, List.setIfInBounds_toArray, List.set_cons_zero, List.set_cons_succ])
          | (refine wk_skip (wanted_undef _ _ rfl rfl) ?_; simp only [Act.put, List.setIfInBounds_toArray, List.set_cons_zero, List.set_cons_succ])
          | (refine wk_not true _ _ (by first | exact wanted_none rfl | exact wanted_yes _ _ rfl rfl) rfl rfl ?_; simp only [Act.put, List.setIfInBounds_toArray, List.set_cons_zero, List.set_cons_succ])
          | (refine wk_not false _ _ (by first | exact wanted_none rfl | exact wanted_yes _ _ rfl rfl) rfl rfl ?_; simp only [Act.put, List.setIfInBounds_toArray, List.set_cons_zero, List.set_cons_succ]))
        refine wk_nil ?_
        intro w' hC
        have S1 := Lib.hid (R7.out.since hC)
        clear hC
        go_wp2_with (first
          | refine wpList_build_none rfl 93 rfl _ zero_ti Tryd.underlying93 rfl ?_
          | refine wpList_store_row rfl 93 _ _ rfl g2 tizero rfl rfl 93 _ (S1.out.get 2 rfl) sizePick rfl tizero_one ?_)
        rw [HY1.out, HY2.out]
        refine bodyPost_ret (results_cell_slot rfl _ _ g2 93 _ (0, 0) _ _ rfl rfl (setRow_heap _ _ _ _ _ _ (S1.out.get 2 rfl)) Tryd.underlying93 rfl sizePick) rfl ⟨rfl, ?_⟩
        exact (S1.out.setRow 2 _ rfl).below
end Go.Proofs.YtnhfkmfmmgaecaaDoor

