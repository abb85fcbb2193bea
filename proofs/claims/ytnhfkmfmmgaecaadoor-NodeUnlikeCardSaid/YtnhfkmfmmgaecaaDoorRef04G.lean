/- The document's Get of a node: the node that stands in the block, held against it. -/
import Derived.Test.YtnhfkmfmmgaecaaDoorRef04
import Derived.Test.YtnhfkmfmmgaecaaDoorNodeGet
import Derived.Test.YtnhfkmfmmgaecaaDoorSteps
namespace Go.Proofs.YtnhfkmfmmgaecaaDoor
open Go.RowKit
set_option linter.unusedSimpArgs false
set_option maxRecDepth 100000
theorem isNode_iff (b : List UInt8) (hb : b.length = 256) : isNode b = true ↔ nmay (num (seg b 1 1)) (rest b 2 4 32) = true ∧ doneB 78 (pbytes 1 4 (num (seg b 1 1)) (rest b 2 4 32)) = b := by
  have := page_iff b hb 78 1 4 32 (by decide)
  rw [show rest b (1 + 1) 4 32 = rest b 2 4 32 from rfl] at this
  rw [this]
  unfold isNode fineB
  have hz := zerosB b hb 130 (by decide)
  simp only [Bool.and_eq_true, decide_eq_true_eq]
  rw [show (252 - 130 : Nat) = 122 from rfl] at hz
  rw [hz]
  show _ ↔ _ ∧ sealB b = b ∧ b[0]? = some 78 ∧ zerosFrom b 130
  constructor
  · rintro ⟨⟨h1, h2⟩, h3, h4⟩; exact ⟨h4, h1, h2, h3⟩
  · rintro ⟨h4, h1, h2, h3⟩; exact ⟨⟨h1, h2⟩, h3, h4⟩
/-- What Get answers, held against the block. -/
theorem ngetC_no (b : List UInt8) (hb : b.length = 256) (h : (nputE (num (seg b 1 1)) (rest b 2 4 32) != 0 || !decide (nputB (num (seg b 1 1)) (rest b 2 4 32) = b)) = true) : ngetC b = nzero ∧ ngetE b = 250 := by
  have : isNode b = false := by
    apply Bool.eq_false_iff.2
    intro hi
    obtain ⟨h1, h2⟩ := (isNode_iff b hb).1 hi
    unfold nputE nputB at h
    rw [h1, if_pos rfl, if_pos rfl, h2] at h
    simp at h
  unfold ngetC ngetE
  rw [this]
  exact ⟨rfl, rfl⟩
theorem ngetC_yes (b : List UInt8) (hb : b.length = 256) (h : (nputE (num (seg b 1 1)) (rest b 2 4 32) != 0 || !decide (nputB (num (seg b 1 1)) (rest b 2 4 32) = b)) = false) :
    ngetC b = ncells (num (seg b 1 1)) (rest b 2 4 32) ∧ ngetE b = 0 := by
  have : isNode b = true := by
    rw [isNode_iff b hb]
    unfold nputE nputB at h
    cases hm : nmay (num (seg b 1 1)) (rest b 2 4 32) with
    | true => rw [hm] at h; simpa using h
    | false => rw [hm] at h; simp at h
  unfold ngetC ngetE
  rw [this]
  exact ⟨rfl, rfl⟩
/-- The pointers of which k stand. -/
theorem updN_true (b : List UInt8) (k : Nat) (hk : k < 32) : (updN b true k).set k (num (seg b (2 + 4 * k) 4)) = updN b true (k + 1) := updN_set b true k hk
theorem seg_one (b : List UInt8) (i n : Nat) (h : i < b.length) : seg b i (n + 1) = b.getD i 0 :: seg b (i + 1) n := by
  unfold seg
  rw [List.drop_eq_getElem_cons h, List.take_succ_cons]
  simp [h]
theorem sizeU32 : (Tryd.prog.info? 52).map (·.size) = some 1 := by kernel_rfl
/-- Four bytes as the document reckons them. -/
theorem num4 (b : List UInt8) (i : Nat) (h : i + 4 ≤ b.length) : num (seg b i 4) = (b.getD i 0).toNat + 256 * (b.getD (i + 1) 0).toNat + 65536 * (b.getD (i + 2) 0).toNat + 16777216 * (b.getD (i + 3) 0).toNat := by
  rw [seg_one b i 3 (by omega), seg_one b (i + 1) 2 (by omega), seg_one b (i + 2) 1 (by omega), seg_one b (i + 3) 0 (by omega)]
  simp only [num, seg, List.take_zero]
  omega
theorem blk_at (b : List UInt8) (i : Nat) (h : i < b.length) : (blk b)[i]? = some (.int .u8 ((b.getD i 0).toNat : Int)) := by
  rw [blk_get b i h]; simp [vu8, h]
set_option maxHeartbeats 4000000 in
theorem refnget_any (b : List UInt8) (hb : b.length = 256) (w : World) :
    Calls Tryd.prog 43 #[.agg (blk b)] w fun e w' => e = .returned (.tuple #[.agg (ngetC b), .int .i64 (ngetE b)]) ∧ Below w.heap.size w w' := by
  have HLB := Lib.hid hb
  have HBs : Hid ((blk b).size = 256) := Lib.hid (by rw [size_blk, hb])
  have HCELL : Hid (∀ i, i < 256 → (blk b)[i]? = some (.int .u8 ((b.getD i 0).toNat : Int))) := Lib.hid (fun i hi => blk_at b i (by omega))
  obtain ⟨x, hx⟩ : ∃ x, x = num (seg b 1 1) := ⟨_, rfl⟩
  have HC1 : Hid ((blk b)[1]? = some (.int .u8 (x : Int))) := Lib.hid (by
    rw [blk_at b 1 (by omega), hx, seg_one b 1 0 (by omega)]; simp [seg, num])
  have HX := Lib.hid hx
  have HXL : Hid (x < 256) := Lib.hid (by rw [hx]; exact num_seg_lt b 1 1 (by omega))
  have HNO := Lib.hid (ngetC_no b hb)
  have HYES := Lib.hid (ngetC_yes b hb)
  have HPUT := Lib.hid (refnput_all (num (seg b 1 1)) (rest b 2 4 32) (nOf_ok b hb))
  have HPL := Lib.hid (length_nputB (nOf_ok b hb))
  have HU0 : Hid (ncells x z32 = ncells x (updN b true 0)) := Lib.hid (by rw [updN_zero])
  have HU32 : Hid (ncells x (updN b true 32) = ncells (num (seg b 1 1)) (rest b 2 4 32)) := Lib.hid (by rw [updN_full, hx])
  have HOK := Lib.hid (nOf_ok b hb)
  clear hx hb
  have q1 := ((Rows.start w).alloc (blk b) 33).alloc nzero 70
  obtain ⟨g1, hg1⟩ : ∃ g, g = w.heap.size := ⟨_, rfl⟩
  obtain ⟨g2, hg2⟩ : ∃ g, g = (w.alloc (.cells (blk b) 33)).heap.size := ⟨_, rfl⟩
  rw [← hg2, ← hg1] at q1
  have hg2' : w.heap.size + 1 = g2 := by rw [hg2]; simp
  have G1 := Lib.hid hg1
  have G2 := Lib.hid hg2'
  have Q1 := Lib.hid q1
  clear hg1 hg2 hg2' q1
  go_enter Tryd.func43, Tryd.ntmps43
  go_upto_region 1 with (refine wpList_alloc_row rfl 70 rfl _ zeroN ?_)
  have q1 := Q1.out
  obtain ⟨W1, hW⟩ : ∃ W, W = (w.alloc (.cells (blk b) 33)).alloc (.cells nzero 70) := ⟨_, rfl⟩
  rw [← hW] at q1 ⊢
  rw [G2.out, ← G1.out]
  have R1 := Lib.hid q1
  clear hW q1 Q1
  have c1 : W1.cell? ⟨g1, 1, none⟩ = some (.int .u8 (x : Int)) := R1.out.cell 1 1 rfl HC1.out
  have HCO : Hid ((ncells x z32).all (·.oneCell') = true) := Lib.hid (pcells_one _ _ _ _)
  have q1 := R1.out.alloc (ncells x z32) 70
  go_upto_region 2 with (first
    | refine wpList_alloc_row rfl 70 rfl _ zeroN ?_
    | refine wpList_store_new rfl 70 _ _ rfl _ (ncells x z32) _ rfl rfl sizeN rfl HCO.out ?_)
  clear c1
  obtain ⟨C0, hC0⟩ : ∃ C, C = ncells x z32 := ⟨_, rfl⟩
  rw [← hC0] at q1 HU0 ⊢
  clear hC0 HCO
  obtain ⟨W4, hW⟩ : ∃ W, W = W1.alloc (.cells C0 70) := ⟨_, rfl⟩
  rw [← hW] at q1 ⊢
  clear hW
  obtain ⟨g5, hg⟩ : ∃ g, g = W1.heap.size := ⟨_, rfl⟩
  rw [← hg] at q1 ⊢
  clear hg
  rw [HU0.out] at q1
  have R4 := Lib.hid q1
  clear q1 HU0
  go_wp2_with fail
  go_loopw [5] (fun i wr => ∃ k : Nat, k ≤ 32 ∧ i = .int .i64 k ∧ Rows w wr [(g5, ncells x (updN b true k), 70), (g2, nzero, 70), (g1, blk b, 33)]) (fun i _ => 32 - (intOf i).toNat)
  case atStart => exact ⟨0, by omega, rfl, R4.out⟩
  case round =>
    obtain ⟨k, hk, rfl, hR⟩ := hrel
    have R5 := Lib.hid hR
    clear hR
    by_cases hlt : k < 32
    · have hb0 := HCELL.out (2 + 4 * k) (by omega)
      have hb1 := HCELL.out (2 + 4 * k + 1) (by omega)
      have hb2 := HCELL.out (2 + 4 * k + 2) (by omega)
      have hb3 := HCELL.out (2 + 4 * k + 3) (by omega)
      have hn4 := num4 b (2 + 4 * k) (by rw [HLB.out]; omega)
      have hset := updN_true b k hlt
      rw [hn4] at hset
      obtain ⟨y0, h0⟩ : ∃ y, y = (b.getD (2 + 4 * k) 0).toNat := ⟨_, rfl⟩
      obtain ⟨y1, h1⟩ : ∃ y, y = (b.getD (2 + 4 * k + 1) 0).toNat := ⟨_, rfl⟩
      obtain ⟨y2, h2⟩ : ∃ y, y = (b.getD (2 + 4 * k + 2) 0).toNat := ⟨_, rfl⟩
      obtain ⟨y3, h3⟩ : ∃ y, y = (b.getD (2 + 4 * k + 3) 0).toNat := ⟨_, rfl⟩
      have l0 : y0 < 256 := by rw [h0]; exact UInt8.toNat_lt _
      have l1 : y1 < 256 := by rw [h1]; exact UInt8.toNat_lt _
      have l2 : y2 < 256 := by rw [h2]; exact UInt8.toNat_lt _
      have l3 : y3 < 256 := by rw [h3]; exact UInt8.toNat_lt _
      rw [← h0] at hb0 hset
      rw [← h1] at hb1 hset
      rw [← h2] at hb2 hset
      rw [← h3] at hb3 hset
      obtain ⟨p, hp⟩ : ∃ p : Nat, p = 2 + 4 * k := ⟨_, rfl⟩
      rw [← hp] at hb0 hb1 hb2 hb3
      have HPL2 : Hid (p + 3 < 256) := Lib.hid (by omega)
      have HPI : Hid ((p : Int) = 2 + 4 * (k : Int)) := Lib.hid (by omega)
      obtain ⟨z, hz⟩ : ∃ z : Nat, z = y0 + 256 * y1 + 65536 * y2 + 16777216 * y3 := ⟨_, rfl⟩
      rw [← hz] at hset
      have HB0 := Lib.hid hb0
      have HB1 := Lib.hid hb1
      have HB2 := Lib.hid hb2
      have HB3 := Lib.hid hb3
      have K0 : Hid (IntKind.u32.wrap (y0 : Int) = (y0 : Int)) := Lib.hid (by rw [IntKind.wrap_u32]; omega)
      have K1 : Hid (IntKind.u32.wrap (y1 : Int) = (y1 : Int)) := Lib.hid (by rw [IntKind.wrap_u32]; omega)
      have K2 : Hid (IntKind.u32.wrap (y2 : Int) = (y2 : Int)) := Lib.hid (by rw [IntKind.wrap_u32]; omega)
      have K3 : Hid (IntKind.u32.wrap (y3 : Int) = (y3 : Int)) := Lib.hid (by rw [IntKind.wrap_u32]; omega)
      have M1 : Hid (IntKind.u32.wrap (256 * (y1 : Int)) = 256 * (y1 : Int)) := Lib.hid (by rw [IntKind.wrap_u32]; omega)
      have M2 : Hid (IntKind.u32.wrap (65536 * (y2 : Int)) = 65536 * (y2 : Int)) := Lib.hid (by rw [IntKind.wrap_u32]; omega)
      have M3 : Hid (IntKind.u32.wrap (16777216 * (y3 : Int)) = 16777216 * (y3 : Int)) := Lib.hid (by rw [IntKind.wrap_u32]; omega)
      have A1 : Hid (IntKind.u32.wrap ((y0 : Int) + 256 * (y1 : Int)) = (y0 : Int) + 256 * (y1 : Int)) := Lib.hid (by rw [IntKind.wrap_u32]; omega)
      have A2 : Hid (IntKind.u32.wrap ((y0 : Int) + 256 * (y1 : Int) + 65536 * (y2 : Int)) = (y0 : Int) + 256 * (y1 : Int) + 65536 * (y2 : Int)) := Lib.hid (by rw [IntKind.wrap_u32]; omega)
      have A3 : Hid (IntKind.u32.wrap ((y0 : Int) + 256 * (y1 : Int) + 65536 * (y2 : Int) + 16777216 * (y3 : Int)) = (z : Int)) := Lib.hid (by rw [IntKind.wrap_u32]; omega)
      have P1 : Hid (IntKind.i64.wrap ((p : Int) + 1) = ((p + 1 : Nat) : Int)) := Lib.hid (by rw [IntKind.wrap_i64]; omega)
      have P2 : Hid (IntKind.i64.wrap ((p : Int) + 2) = ((p + 2 : Nat) : Int)) := Lib.hid (by rw [IntKind.wrap_i64]; omega)
      have P3 : Hid (IntKind.i64.wrap ((p : Int) + 3) = ((p + 3 : Nat) : Int)) := Lib.hid (by rw [IntKind.wrap_i64]; omega)
      have HSET : Hid ((ncells x (updN b true k)).setIfInBounds (1 + k) (.int .u32 (z : Int)) = ncells x (updN b true (k + 1))) := Lib.hid (by rw [Nat.add_comm, ncells, pcells_set, hset]; rfl)
      clear hn4 hset h0 h1 h2 h3 l0 l1 l2 l3 hb0 hb1 hb2 hb3 hp hz
      go_upto_region 6 with (fail)
      rw [← HPI.out]
      refine wk_region_tail 28 (by kernel_rfl) (by kernel_rfl) ?_
      simp only [List.take_succ_cons, List.take_zero, List.drop_succ_cons, List.drop_zero]
      repeat (first
        | (refine wk_move _ (by first | exact wanted_none rfl | exact wanted_yes _ _ rfl rfl) rfl ?_; simp only [Act.put, Act.eval, Array.getD_eq_getD_getElem?, List.getElem?_toArray, List.getElem?_cons_succ, List.getElem?_cons_zero, Option.getD_some, List.setIfInBounds_toArray, List.set_cons_zero, List.set_cons_succ])
        | (refine wk_assign _ (by first | exact wanted_none rfl | exact wanted_yes _ _ rfl rfl) rfl ?_; simp only [Act.put, Act.eval, Array.getD_eq_getD_getElem?, List.getElem?_toArray, List.getElem?_cons_succ, List.getElem?_cons_zero, Option.getD_some, List.setIfInBounds_toArray, List.set_cons_zero, List.set_cons_succ])
        | (refine wk_pickt _ _ _ _ (by first | exact wanted_none rfl | exact wanted_yes _ _ rfl rfl) rfl rfl rfl ?_; simp only [Act.put, Act.eval, Array.getD_eq_getD_getElem?, List.getElem?_toArray, List.getElem?_cons_succ, List.getElem?_cons_zero, Option.getD_some, List.setIfInBounds_toArray, List.set_cons_zero, List.set_cons_succ])
        | (refine wk_pickf _ _ _ _ (by first | exact wanted_none rfl | exact wanted_yes _ _ rfl rfl) rfl rfl rfl ?_; simp only [Act.put, Act.eval, Array.getD_eq_getD_getElem?, List.getElem?_toArray, List.getElem?_cons_succ, List.getElem?_cons_zero, Option.getD_some, List.setIfInBounds_toArray, List.set_cons_zero, List.set_cons_succ])
        | (refine wk_skip (wanted_not _ true false rfl rfl rfl) ?_; simp only [Act.put, List.setIfInBounds_toArray, List.set_cons_zero, List.set_cons_succ])
        | (refine wk_skip (wanted_not _ false true rfl rfl rfl) ?_; simp only [Act.put, List.setIfInBounds_toArray, List.set_cons_zero, List.set_cons_succ])
        | (refine wk_skip (wanted_undef _ _ rfl rfl) ?_; simp only [Act.put, List.setIfInBounds_toArray, List.set_cons_zero, List.set_cons_succ])
        | (refine wk_not true _ _ (by first | exact wanted_none rfl | exact wanted_yes _ _ rfl rfl) rfl rfl ?_; simp only [Act.put, List.setIfInBounds_toArray, List.set_cons_zero, List.set_cons_succ])
        | (refine wk_not false _ _ (by first | exact wanted_none rfl | exact wanted_yes _ _ rfl rfl) rfl rfl ?_; simp only [Act.put, List.setIfInBounds_toArray, List.set_cons_zero, List.set_cons_succ]))
      refine wk_index_arr 33 5 _ _ g1 (p) 256 .i64 (by kernel_rfl) rfl Tryd.underlying33 sizeU8 rfl rfl (by have := HPL2.out; omega) ?_
      simp only [Act.put, List.setIfInBounds_toArray, List.set_cons_zero, List.set_cons_succ]
      refine wk_load1 _ _ _ _ _ rfl (by kernel_rfl) rfl rfl (fun w' hC => (R5.out.since hC).cell 2 (p) rfl HB0.out) Tryd.underlying5 ?_
      simp only [Act.put, List.setIfInBounds_toArray, List.set_cons_zero, List.set_cons_succ]
      refine wk_convert _ _ _ _ (.int .u32 (y0 : Int)) (by kernel_rfl) rfl rfl (fun w => run_conv_int _ _ .u8 .u32 Tryd.underlying5 Tryd.underlying52 _ K0.out w) ?_
      simp only [Act.put, List.setIfInBounds_toArray, List.set_cons_zero, List.set_cons_succ]
      repeat (first
        | (refine wk_move _ (by first | exact wanted_none rfl | exact wanted_yes _ _ rfl rfl) rfl ?_; simp only [Act.put, Act.eval, Array.getD_eq_getD_getElem?, List.getElem?_toArray, List.getElem?_cons_succ, List.getElem?_cons_zero, Option.getD_some, List.setIfInBounds_toArray, List.set_cons_zero, List.set_cons_succ])
        | (refine wk_assign _ (by first | exact wanted_none rfl | exact wanted_yes _ _ rfl rfl) rfl ?_; simp only [Act.put, Act.eval, Array.getD_eq_getD_getElem?, List.getElem?_toArray, List.getElem?_cons_succ, List.getElem?_cons_zero, Option.getD_some, List.setIfInBounds_toArray, List.set_cons_zero, List.set_cons_succ])
        | (refine wk_pickt _ _ _ _ (by first | exact wanted_none rfl | exact wanted_yes _ _ rfl rfl) rfl rfl rfl ?_; simp only [Act.put, Act.eval, Array.getD_eq_getD_getElem?, List.getElem?_toArray, List.getElem?_cons_succ, List.getElem?_cons_zero, Option.getD_some, List.setIfInBounds_toArray, List.set_cons_zero, List.set_cons_succ])
        | (refine wk_pickf _ _ _ _ (by first | exact wanted_none rfl | exact wanted_yes _ _ rfl rfl) rfl rfl rfl ?_; simp only [Act.put, Act.eval, Array.getD_eq_getD_getElem?, List.getElem?_toArray, List.getElem?_cons_succ, List.getElem?_cons_zero, Option.getD_some, List.setIfInBounds_toArray, List.set_cons_zero, List.set_cons_succ])
        | (refine wk_skip (wanted_not _ true false rfl rfl rfl) ?_; simp only [Act.put, List.setIfInBounds_toArray, List.set_cons_zero, List.set_cons_succ])
        | (refine wk_skip (wanted_not _ false true rfl rfl rfl) ?_; simp only [Act.put, List.setIfInBounds_toArray, List.set_cons_zero, List.set_cons_succ])
        | (refine wk_skip (wanted_undef _ _ rfl rfl) ?_; simp only [Act.put, List.setIfInBounds_toArray, List.set_cons_zero, List.set_cons_succ])
        | (refine wk_not true _ _ (by first | exact wanted_none rfl | exact wanted_yes _ _ rfl rfl) rfl rfl ?_; simp only [Act.put, List.setIfInBounds_toArray, List.set_cons_zero, List.set_cons_succ])
        | (refine wk_not false _ _ (by first | exact wanted_none rfl | exact wanted_yes _ _ rfl rfl) rfl rfl ?_; simp only [Act.put, List.setIfInBounds_toArray, List.set_cons_zero, List.set_cons_succ]))
      refine wk_addk .i64 _ _ _ _ _ _ _ (by first | exact wanted_none rfl | exact wanted_yes _ _ rfl rfl) rfl rfl rfl (P1.out) ?_
      simp only [Act.put, List.setIfInBounds_toArray, List.set_cons_zero, List.set_cons_succ]
      refine wk_index_arr 33 5 _ _ g1 (p + 1) 256 .i64 (by kernel_rfl) rfl Tryd.underlying33 sizeU8 rfl rfl (by have := HPL2.out; omega) ?_
      simp only [Act.put, List.setIfInBounds_toArray, List.set_cons_zero, List.set_cons_succ]
      refine wk_load1 _ _ _ _ _ rfl (by kernel_rfl) rfl rfl (fun w' hC => (R5.out.since hC).cell 2 (p + 1) rfl HB1.out) Tryd.underlying5 ?_
      simp only [Act.put, List.setIfInBounds_toArray, List.set_cons_zero, List.set_cons_succ]
      refine wk_convert _ _ _ _ (.int .u32 (y1 : Int)) (by kernel_rfl) rfl rfl (fun w => run_conv_int _ _ .u8 .u32 Tryd.underlying5 Tryd.underlying52 _ K1.out w) ?_
      simp only [Act.put, List.setIfInBounds_toArray, List.set_cons_zero, List.set_cons_succ]
      refine wk_mulk .u32 _ _ _ _ _ _ _ (by first | exact wanted_none rfl | exact wanted_yes _ _ rfl rfl) rfl rfl rfl (M1.out) ?_
      simp only [Act.put, List.setIfInBounds_toArray, List.set_cons_zero, List.set_cons_succ]
      refine wk_addk .u32 _ _ _ _ _ _ _ (by first | exact wanted_none rfl | exact wanted_yes _ _ rfl rfl) rfl rfl rfl (A1.out) ?_
      simp only [Act.put, List.setIfInBounds_toArray, List.set_cons_zero, List.set_cons_succ]
      repeat (first
        | (refine wk_move _ (by first | exact wanted_none rfl | exact wanted_yes _ _ rfl rfl) rfl ?_; simp only [Act.put, Act.eval, Array.getD_eq_getD_getElem?, List.getElem?_toArray, List.getElem?_cons_succ, List.getElem?_cons_zero, Option.getD_some, List.setIfInBounds_toArray, List.set_cons_zero, List.set_cons_succ])
        | (refine wk_assign _ (by first | exact wanted_none rfl | exact wanted_yes _ _ rfl rfl) rfl ?_; simp only [Act.put, Act.eval, Array.getD_eq_getD_getElem?, List.getElem?_toArray, List.getElem?_cons_succ, List.getElem?_cons_zero, Option.getD_some, List.setIfInBounds_toArray, List.set_cons_zero, List.set_cons_succ])
        | (refine wk_pickt _ _ _ _ (by first | exact wanted_none rfl | exact wanted_yes _ _ rfl rfl) rfl rfl rfl ?_; simp only [Act.put, Act.eval, Array.getD_eq_getD_getElem?, List.getElem?_toArray, List.getElem?_cons_succ, List.getElem?_cons_zero, Option.getD_some, List.setIfInBounds_toArray, List.set_cons_zero, List.set_cons_succ])
        | (refine wk_pickf _ _ _ _ (by first | exact wanted_none rfl | exact wanted_yes _ _ rfl rfl) rfl rfl rfl ?_; simp only [Act.put, Act.eval, Array.getD_eq_getD_getElem?, List.getElem?_toArray, List.getElem?_cons_succ, List.getElem?_cons_zero, Option.getD_some, List.setIfInBounds_toArray, List.set_cons_zero, List.set_cons_succ])
        | (refine wk_skip (wanted_not _ true false rfl rfl rfl) ?_; simp only [Act.put, List.setIfInBounds_toArray, List.set_cons_zero, List.set_cons_succ])
        | (refine wk_skip (wanted_not _ false true rfl rfl rfl) ?_; simp only [Act.put, List.setIfInBounds_toArray, List.set_cons_zero, List.set_cons_succ])
        | (refine wk_skip (wanted_undef _ _ rfl rfl) ?_; simp only [Act.put, List.setIfInBounds_toArray, List.set_cons_zero, List.set_cons_succ])
        | (refine wk_not true _ _ (by first | exact wanted_none rfl | exact wanted_yes _ _ rfl rfl) rfl rfl ?_; simp only [Act.put, List.setIfInBounds_toArray, List.set_cons_zero, List.set_cons_succ])
        | (refine wk_not false _ _ (by first | exact wanted_none rfl | exact wanted_yes _ _ rfl rfl) rfl rfl ?_; simp only [Act.put, List.setIfInBounds_toArray, List.set_cons_zero, List.set_cons_succ]))
      refine wk_addk .i64 _ _ _ _ _ _ _ (by first | exact wanted_none rfl | exact wanted_yes _ _ rfl rfl) rfl rfl rfl (P2.out) ?_
      simp only [Act.put, List.setIfInBounds_toArray, List.set_cons_zero, List.set_cons_succ]
      refine wk_index_arr 33 5 _ _ g1 (p + 2) 256 .i64 (by kernel_rfl) rfl Tryd.underlying33 sizeU8 rfl rfl (by have := HPL2.out; omega) ?_
      simp only [Act.put, List.setIfInBounds_toArray, List.set_cons_zero, List.set_cons_succ]
      refine wk_load1 _ _ _ _ _ rfl (by kernel_rfl) rfl rfl (fun w' hC => (R5.out.since hC).cell 2 (p + 2) rfl HB2.out) Tryd.underlying5 ?_
      simp only [Act.put, List.setIfInBounds_toArray, List.set_cons_zero, List.set_cons_succ]
      refine wk_convert _ _ _ _ (.int .u32 (y2 : Int)) (by kernel_rfl) rfl rfl (fun w => run_conv_int _ _ .u8 .u32 Tryd.underlying5 Tryd.underlying52 _ K2.out w) ?_
      simp only [Act.put, List.setIfInBounds_toArray, List.set_cons_zero, List.set_cons_succ]
      refine wk_mulk .u32 _ _ _ _ _ _ _ (by first | exact wanted_none rfl | exact wanted_yes _ _ rfl rfl) rfl rfl rfl (M2.out) ?_
      simp only [Act.put, List.setIfInBounds_toArray, List.set_cons_zero, List.set_cons_succ]
      refine wk_addk .u32 _ _ _ _ _ _ _ (by first | exact wanted_none rfl | exact wanted_yes _ _ rfl rfl) rfl rfl rfl (A2.out) ?_
      simp only [Act.put, List.setIfInBounds_toArray, List.set_cons_zero, List.set_cons_succ]
      repeat (first
        | (refine wk_move _ (by first | exact wanted_none rfl | exact wanted_yes _ _ rfl rfl) rfl ?_; simp only [Act.put, Act.eval, Array.getD_eq_getD_getElem?, List.getElem?_toArray, List.getElem?_cons_succ, List.getElem?_cons_zero, Option.getD_some, List.setIfInBounds_toArray, List.set_cons_zero, List.set_cons_succ])
        | (refine wk_assign _ (by first | exact wanted_none rfl | exact wanted_yes _ _ rfl rfl) rfl ?_; simp only [Act.put, Act.eval, Array.getD_eq_getD_getElem?, List.getElem?_toArray, List.getElem?_cons_succ, List.getElem?_cons_zero, Option.getD_some, List.setIfInBounds_toArray, List.set_cons_zero, List.set_cons_succ])
        | (refine wk_pickt _ _ _ _ (by first | exact wanted_none rfl | exact wanted_yes _ _ rfl rfl) rfl rfl rfl ?_; simp only [Act.put, Act.eval, Array.getD_eq_getD_getElem?, List.getElem?_toArray, List.getElem?_cons_succ, List.getElem?_cons_zero, Option.getD_some, List.setIfInBounds_toArray, List.set_cons_zero, List.set_cons_succ])
        | (refine wk_pickf _ _ _ _ (by first | exact wanted_none rfl | exact wanted_yes _ _ rfl rfl) rfl rfl rfl ?_; simp only [Act.put, Act.eval, Array.getD_eq_getD_getElem?, List.getElem?_toArray, List.getElem?_cons_succ, List.getElem?_cons_zero, Option.getD_some, List.setIfInBounds_toArray, List.set_cons_zero, List.set_cons_succ])
        | (refine wk_skip (wanted_not _ true false rfl rfl rfl) ?_; simp only [Act.put, List.setIfInBounds_toArray, List.set_cons_zero, List.set_cons_succ])
        | (refine wk_skip (wanted_not _ false true rfl rfl rfl) ?_; simp only [Act.put, List.setIfInBounds_toArray, List.set_cons_zero, List.set_cons_succ])
        | (refine wk_skip (wanted_undef _ _ rfl rfl) ?_; simp only [Act.put, List.setIfInBounds_toArray, List.set_cons_zero, List.set_cons_succ])
        | (refine wk_not true _ _ (by first | exact wanted_none rfl | exact wanted_yes _ _ rfl rfl) rfl rfl ?_; simp only [Act.put, List.setIfInBounds_toArray, List.set_cons_zero, List.set_cons_succ])
        | (refine wk_not false _ _ (by first | exact wanted_none rfl | exact wanted_yes _ _ rfl rfl) rfl rfl ?_; simp only [Act.put, List.setIfInBounds_toArray, List.set_cons_zero, List.set_cons_succ]))
      refine wk_addk .i64 _ _ _ _ _ _ _ (by first | exact wanted_none rfl | exact wanted_yes _ _ rfl rfl) rfl rfl rfl (P3.out) ?_
      simp only [Act.put, List.setIfInBounds_toArray, List.set_cons_zero, List.set_cons_succ]
      refine wk_index_arr 33 5 _ _ g1 (p + 3) 256 .i64 (by kernel_rfl) rfl Tryd.underlying33 sizeU8 rfl rfl (by have := HPL2.out; omega) ?_
      simp only [Act.put, List.setIfInBounds_toArray, List.set_cons_zero, List.set_cons_succ]
      refine wk_load1 _ _ _ _ _ rfl (by kernel_rfl) rfl rfl (fun w' hC => (R5.out.since hC).cell 2 (p + 3) rfl HB3.out) Tryd.underlying5 ?_
      simp only [Act.put, List.setIfInBounds_toArray, List.set_cons_zero, List.set_cons_succ]
      refine wk_convert _ _ _ _ (.int .u32 (y3 : Int)) (by kernel_rfl) rfl rfl (fun w => run_conv_int _ _ .u8 .u32 Tryd.underlying5 Tryd.underlying52 _ K3.out w) ?_
      simp only [Act.put, List.setIfInBounds_toArray, List.set_cons_zero, List.set_cons_succ]
      refine wk_mulk .u32 _ _ _ _ _ _ _ (by first | exact wanted_none rfl | exact wanted_yes _ _ rfl rfl) rfl rfl rfl (M3.out) ?_
      simp only [Act.put, List.setIfInBounds_toArray, List.set_cons_zero, List.set_cons_succ]
      refine wk_addk .u32 _ _ _ _ _ _ _ (by first | exact wanted_none rfl | exact wanted_yes _ _ rfl rfl) rfl rfl rfl (A3.out) ?_
      simp only [Act.put, List.setIfInBounds_toArray, List.set_cons_zero, List.set_cons_succ]
      refine wk_field 70 _ 68 1 31 _ g5 0 (by kernel_rfl) rfl (by kernel_rfl) (by kernel_rfl) (by kernel_rfl) rfl ?_
      simp only [Act.put, List.setIfInBounds_toArray, List.set_cons_zero, List.set_cons_succ]
      refine wk_index_at 68 52 _ _ g5 1 k 32 .i64 (by kernel_rfl) rfl Tryd.underlying68 sizeU32 rfl rfl hlt ?_
      simp only [Act.put, List.setIfInBounds_toArray, List.set_cons_zero, List.set_cons_succ]
      refine wk_nil ?_
      intro w' hC
      have R6 := Lib.hid (R5.out.since hC)
      clear hC
      have c5 : w'.cell? ⟨g5, 1 + k, none⟩ = some (.int .u32 0) := R6.out.cell 0 (1 + k) rfl (by rw [Nat.add_comm]; exact updN_old x b true k hlt)
      have f5 := R6.out.free 0 (1 + k) rfl
      have q1 := Lib.hid (R6.out.setCell 0 (1 + k) (.int .u32 (z : Int)) rfl)
      go_upto_region 4 with (fail)
      obtain ⟨V5, hV5⟩ : ∃ V, V = w'.setCell ⟨g5, 1 + k, none⟩ (.int .u32 (z : Int)) := ⟨_, rfl⟩
      have q2 := q1.out
      rw [← hV5] at q2 ⊢
      simp only [List.set_cons_zero] at q2
      rw [HSET.out] at q2
      have R7 := Lib.hid q2
      clear hV5 q1 q2 c5 f5
      go_wp2_with fail
      exact ⟨⟨k + 1, by omega, by go_num, R7.out⟩, by simp [intOf]; omega⟩
    · obtain rfl : k = 32 := by omega
      have R6 : Hid (Rows w wr [(g5, ncells (num (seg b 1 1)) (rest b 2 4 32), 70), (g2, nzero, 70), (g1, blk b, 33)]) := Lib.hid (by rw [← HU32.out]; exact R5.out)
      have HCS : Hid ((ncells (num (seg b 1 1)) (rest b 2 4 32)).size = 33) := Lib.hid (size_ncells HOK.out)
      have HCO : Hid ((ncells (num (seg b 1 1)) (rest b 2 4 32)).all (·.oneCell') = true) := Lib.hid (pcells_one _ _ _ _)
      obtain ⟨E, hE⟩ : ∃ E, E = nputE (num (seg b 1 1)) (rest b 2 4 32) := ⟨_, rfl⟩
      obtain ⟨B, hBe⟩ : ∃ B, B = nputB (num (seg b 1 1)) (rest b 2 4 32) := ⟨_, rfl⟩
      obtain ⟨D, hD⟩ : ∃ D, D = ncells (num (seg b 1 1)) (rest b 2 4 32) := ⟨_, rfl⟩
      have hEE : E = 0 ∨ E = 2 := by rw [hE]; unfold nputE; split <;> simp
      rw [← hE, ← hBe] at HNO HYES HPUT
      rw [← hBe] at HPL
      rw [← hD] at R6 HCS HCO HPUT HYES
      clear hE hBe hD HU32 HOK R5
      have HBL : Hid ((blk B).size = 256) := Lib.hid (by rw [size_blk, HPL.out])
      go_wp2_with (refine wpList_load_row rfl 70 _ rfl g5 rfl 70 D (0, 0) _ (R6.out.get 0 rfl) Tryd.underlying70 rfl (by rw [HCS.out]; exact sizeN) ?_)
      refine (HPUT.out _).mono ?_
      rintro e w7 ⟨rfl, hb⟩
      have q1 := (R6.out.call hb).alloc (blk B) 33
      clear hb
      go_upto_region 8 with (first | refine wpList_alloc_row rfl 33 rfl _ zeroB ?_ | refine wpList_store_new rfl 33 _ _ rfl _ (blk B) _ rfl rfl (by rw [HBL.out]; exact sizeB) (by rw [HBL.out, size_zeros]) (blk_one _) ?_)
      obtain ⟨W7, hW⟩ : ∃ W, W = w7.alloc (.cells (blk B) 33) := ⟨_, rfl⟩
      rw [← hW] at q1 ⊢
      clear hW
      obtain ⟨g7, hg⟩ : ∃ g, g = w7.heap.size := ⟨_, rfl⟩
      rw [← hg] at q1 ⊢
      clear hg
      have R7 := Lib.hid q1
      clear q1
      rcases hEE with rfl | rfl
      · have HRUN : Hid (∀ w : World, (binOp .neq 33 (.agg (blk B)) (.agg (blk b))).run Tryd.prog w = .ok (.bool (!decide (B = b))) w) := Lib.hid (fun w => run_neq_blk w 33 5 256 Tryd.underlying33 Tryd.underlying5 sizeU8 B b HPL.out HLB.out)
        by_cases hc : B = b
        · have hY := HYES.out (by simp [hc])
          have HY := Lib.hid hY
          have hd : (!decide (B = b)) = false := by simp [hc]
          rw [hd] at HRUN
          clear hY hc hd
          refine wk_plain_since ?_
          repeat (first
            | (refine wk_move _ (by first | exact wanted_none rfl | exact wanted_yes _ _ rfl rfl) rfl ?_; simp only [Act.put, Act.eval, Array.getD_eq_getD_getElem?, List.getElem?_toArray, List.getElem?_cons_succ, List.getElem?_cons_zero, Option.getD_some, List.setIfInBounds_toArray, List.set_cons_zero, List.set_cons_succ])
            | (refine wk_assign _ (by first | exact wanted_none rfl | exact wanted_yes _ _ rfl rfl) rfl ?_; simp only [Act.put, Act.eval, Array.getD_eq_getD_getElem?, List.getElem?_toArray, List.getElem?_cons_succ, List.getElem?_cons_zero, Option.getD_some, List.setIfInBounds_toArray, List.set_cons_zero, List.set_cons_succ])
            | (refine wk_pickt _ _ _ _ (by first | exact wanted_none rfl | exact wanted_yes _ _ rfl rfl) rfl rfl rfl ?_; simp only [Act.put, Act.eval, Array.getD_eq_getD_getElem?, List.getElem?_toArray, List.getElem?_cons_succ, List.getElem?_cons_zero, Option.getD_some, List.setIfInBounds_toArray, List.set_cons_zero, List.set_cons_succ])
            | (refine wk_pickf _ _ _ _ (by first | exact wanted_none rfl | exact wanted_yes _ _ rfl rfl) rfl rfl rfl ?_; simp only [Act.put, Act.eval, Array.getD_eq_getD_getElem?, List.getElem?_toArray, List.getElem?_cons_succ, List.getElem?_cons_zero, Option.getD_some, List.setIfInBounds_toArray, List.set_cons_zero, List.set_cons_succ])
            | (refine wk_skip (wanted_not _ true false rfl rfl rfl) ?_; simp only [Act.put, List.setIfInBounds_toArray, List.set_cons_zero, List.set_cons_succ])
            | (refine wk_skip (wanted_not _ false true rfl rfl rfl) ?_; simp only [Act.put, List.setIfInBounds_toArray, List.set_cons_zero, List.set_cons_succ])
            | (refine wk_skip (wanted_undef _ _ rfl rfl) ?_; simp only [Act.put, List.setIfInBounds_toArray, List.set_cons_zero, List.set_cons_succ])
            | (refine wk_not true _ _ (by first | exact wanted_none rfl | exact wanted_yes _ _ rfl rfl) rfl rfl ?_; simp only [Act.put, List.setIfInBounds_toArray, List.set_cons_zero, List.set_cons_succ])
            | (refine wk_not false _ _ (by first | exact wanted_none rfl | exact wanted_yes _ _ rfl rfl) rfl rfl ?_; simp only [Act.put, List.setIfInBounds_toArray, List.set_cons_zero, List.set_cons_succ]))
          refine wk_cmp_int .neq (false) _ _ _ _ _ _ _ (by kernel_rfl) rfl rfl rfl (rfl) ?_
          simp only [Act.put, List.setIfInBounds_toArray, List.set_cons_zero, List.set_cons_succ]
          repeat (first
            | (refine wk_move _ (by first | exact wanted_none rfl | exact wanted_yes _ _ rfl rfl) rfl ?_; simp only [Act.put, Act.eval, Array.getD_eq_getD_getElem?, List.getElem?_toArray, List.getElem?_cons_succ, List.getElem?_cons_zero, Option.getD_some, List.setIfInBounds_toArray, List.set_cons_zero, List.set_cons_succ])
            | (refine wk_assign _ (by first | exact wanted_none rfl | exact wanted_yes _ _ rfl rfl) rfl ?_; simp only [Act.put, Act.eval, Array.getD_eq_getD_getElem?, List.getElem?_toArray, List.getElem?_cons_succ, List.getElem?_cons_zero, Option.getD_some, List.setIfInBounds_toArray, List.set_cons_zero, List.set_cons_succ])
            | (refine wk_pickt _ _ _ _ (by first | exact wanted_none rfl | exact wanted_yes _ _ rfl rfl) rfl rfl rfl ?_; simp only [Act.put, Act.eval, Array.getD_eq_getD_getElem?, List.getElem?_toArray, List.getElem?_cons_succ, List.getElem?_cons_zero, Option.getD_some, List.setIfInBounds_toArray, List.set_cons_zero, List.set_cons_succ])
            | (refine wk_pickf _ _ _ _ (by first | exact wanted_none rfl | exact wanted_yes _ _ rfl rfl) rfl rfl rfl ?_; simp only [Act.put, Act.eval, Array.getD_eq_getD_getElem?, List.getElem?_toArray, List.getElem?_cons_succ, List.getElem?_cons_zero, Option.getD_some, List.setIfInBounds_toArray, List.set_cons_zero, List.set_cons_succ])
            | (refine wk_skip (wanted_not _ true false rfl rfl rfl) ?_; simp only [Act.put, List.setIfInBounds_toArray, List.set_cons_zero, List.set_cons_succ])
            | (refine wk_skip (wanted_not _ false true rfl rfl rfl) ?_; simp only [Act.put, List.setIfInBounds_toArray, List.set_cons_zero, List.set_cons_succ])
            | (refine wk_skip (wanted_undef _ _ rfl rfl) ?_; simp only [Act.put, List.setIfInBounds_toArray, List.set_cons_zero, List.set_cons_succ])
            | (refine wk_not true _ _ (by first | exact wanted_none rfl | exact wanted_yes _ _ rfl rfl) rfl rfl ?_; simp only [Act.put, List.setIfInBounds_toArray, List.set_cons_zero, List.set_cons_succ])
            | (refine wk_not false _ _ (by first | exact wanted_none rfl | exact wanted_yes _ _ rfl rfl) rfl rfl ?_; simp only [Act.put, List.setIfInBounds_toArray, List.set_cons_zero, List.set_cons_succ]))
          refine wk_load_row 33 _ g7 33 (blk B) (0, 0) _ (by kernel_rfl) rfl rfl (fun w' hC => hC.row (R7.out.get 0 rfl)) Tryd.underlying33 rfl (by rw [HBL.out]; exact sizeB) ?_
          simp only [Act.put, List.setIfInBounds_toArray, List.set_cons_zero, List.set_cons_succ]
          refine wk_load_row 33 _ g1 33 (blk b) (0, 0) _ (by kernel_rfl) rfl rfl (fun w' hC => hC.row (R7.out.get 3 rfl)) Tryd.underlying33 rfl (by rw [HBs.out]; exact sizeB) ?_
          simp only [Act.put, List.setIfInBounds_toArray, List.set_cons_zero, List.set_cons_succ]
          refine wk_eql .neq (false) 33 33 _ _ (by first | exact wanted_none rfl | exact wanted_yes _ _ rfl rfl) rfl _ _ rfl rfl (by kernel_rfl) (fun w => HRUN.out w) ?_
          simp only [Act.put, List.setIfInBounds_toArray, List.set_cons_zero, List.set_cons_succ]
          repeat (first
            | (refine wk_move _ (by first | exact wanted_none rfl | exact wanted_yes _ _ rfl rfl) rfl ?_; simp only [Act.put, Act.eval, Array.getD_eq_getD_getElem?, List.getElem?_toArray, List.getElem?_cons_succ, List.getElem?_cons_zero, Option.getD_some, List.setIfInBounds_toArray, List.set_cons_zero, List.set_cons_succ])
            | (refine wk_assign _ (by first | exact wanted_none rfl | exact wanted_yes _ _ rfl rfl) rfl ?_; simp only [Act.put, Act.eval, Array.getD_eq_getD_getElem?, List.getElem?_toArray, List.getElem?_cons_succ, List.getElem?_cons_zero, Option.getD_some, List.setIfInBounds_toArray, List.set_cons_zero, List.set_cons_succ])
            | (refine wk_pickt _ _ _ _ (by first | exact wanted_none rfl | exact wanted_yes _ _ rfl rfl) rfl rfl rfl ?_; simp only [Act.put, Act.eval, Array.getD_eq_getD_getElem?, List.getElem?_toArray, List.getElem?_cons_succ, List.getElem?_cons_zero, Option.getD_some, List.setIfInBounds_toArray, List.set_cons_zero, List.set_cons_succ])
            | (refine wk_pickf _ _ _ _ (by first | exact wanted_none rfl | exact wanted_yes _ _ rfl rfl) rfl rfl rfl ?_; simp only [Act.put, Act.eval, Array.getD_eq_getD_getElem?, List.getElem?_toArray, List.getElem?_cons_succ, List.getElem?_cons_zero, Option.getD_some, List.setIfInBounds_toArray, List.set_cons_zero, List.set_cons_succ])
            | (refine wk_skip (wanted_not _ true false rfl rfl rfl) ?_; simp only [Act.put, List.setIfInBounds_toArray, List.set_cons_zero, List.set_cons_succ])
            | (refine wk_skip (wanted_not _ false true rfl rfl rfl) ?_; simp only [Act.put, List.setIfInBounds_toArray, List.set_cons_zero, List.set_cons_succ])
            | (refine wk_skip (wanted_undef _ _ rfl rfl) ?_; simp only [Act.put, List.setIfInBounds_toArray, List.set_cons_zero, List.set_cons_succ])
            | (refine wk_not true _ _ (by first | exact wanted_none rfl | exact wanted_yes _ _ rfl rfl) rfl rfl ?_; simp only [Act.put, List.setIfInBounds_toArray, List.set_cons_zero, List.set_cons_succ])
            | (refine wk_not false _ _ (by first | exact wanted_none rfl | exact wanted_yes _ _ rfl rfl) rfl rfl ?_; simp only [Act.put, List.setIfInBounds_toArray, List.set_cons_zero, List.set_cons_succ]))
          refine wk_nil ?_
          intro w' hC
          have S1 := Lib.hid (R7.out.since hC)
          clear hC
          go_wp2_with (first
            | refine wpList_load_row rfl 70 _ rfl g5 rfl 70 D (0, 0) _ (S1.out.get 1 rfl) Tryd.underlying70 rfl (by rw [HCS.out]; exact sizeN) ?_
            | refine wpList_store_row rfl 70 _ _ rfl g2 D rfl rfl 70 _ (S1.out.get 2 rfl) (by rw [HCS.out]; exact sizeN) (by rw [HCS.out]; rfl) HCO.out ?_)
          refine bodyPost_ret (v := .tuple #[.agg D, .int .i64 0]) (results_cell_slot rfl _ _ g2 70 _ (0, 0) _ _ rfl rfl (setRow_heap _ _ _ _ _ _ (S1.out.get 2 rfl)) Tryd.underlying70 rfl (by rw [HCS.out]; exact sizeN)) rfl ⟨by rw [HY.out.1, HY.out.2], ?_⟩
          exact (S1.out.setRow 2 _ rfl).below
        · have hY := HNO.out (by simp [hc])
          have HY := Lib.hid hY
          have hd : (!decide (B = b)) = true := by simp [hc]
          rw [hd] at HRUN
          clear hY hc hd
          refine wk_plain_since ?_
          repeat (first
            | (refine wk_move _ (by first | exact wanted_none rfl | exact wanted_yes _ _ rfl rfl) rfl ?_; simp only [Act.put, Act.eval, Array.getD_eq_getD_getElem?, List.getElem?_toArray, List.getElem?_cons_succ, List.getElem?_cons_zero, Option.getD_some, List.setIfInBounds_toArray, List.set_cons_zero, List.set_cons_succ])
            | (refine wk_assign _ (by first | exact wanted_none rfl | exact wanted_yes _ _ rfl rfl) rfl ?_; simp only [Act.put, Act.eval, Array.getD_eq_getD_getElem?, List.getElem?_toArray, List.getElem?_cons_succ, List.getElem?_cons_zero, Option.getD_some, List.setIfInBounds_toArray, List.set_cons_zero, List.set_cons_succ])
            | (refine wk_pickt _ _ _ _ (by first | exact wanted_none rfl | exact wanted_yes _ _ rfl rfl) rfl rfl rfl ?_; simp only [Act.put, Act.eval, Array.getD_eq_getD_getElem?, List.getElem?_toArray, List.getElem?_cons_succ, List.getElem?_cons_zero, Option.getD_some, List.setIfInBounds_toArray, List.set_cons_zero, List.set_cons_succ])
            | (refine wk_pickf _ _ _ _ (by first | exact wanted_none rfl | exact wanted_yes _ _ rfl rfl) rfl rfl rfl ?_; simp only [Act.put, Act.eval, Array.getD_eq_getD_getElem?, List.getElem?_toArray, List.getElem?_cons_succ, List.getElem?_cons_zero, Option.getD_some, List.setIfInBounds_toArray, List.set_cons_zero, List.set_cons_succ])
            | (refine wk_skip (wanted_not _ true false rfl rfl rfl) ?_; simp only [Act.put, List.setIfInBounds_toArray, List.set_cons_zero, List.set_cons_succ])
            | (refine wk_skip (wanted_not _ false true rfl rfl rfl) ?_; simp only [Act.put, List.setIfInBounds_toArray, List.set_cons_zero, List.set_cons_succ])
            | (refine wk_skip (wanted_undef _ _ rfl rfl) ?_; simp only [Act.put, List.setIfInBounds_toArray, List.set_cons_zero, List.set_cons_succ])
            | (refine wk_not true _ _ (by first | exact wanted_none rfl | exact wanted_yes _ _ rfl rfl) rfl rfl ?_; simp only [Act.put, List.setIfInBounds_toArray, List.set_cons_zero, List.set_cons_succ])
            | (refine wk_not false _ _ (by first | exact wanted_none rfl | exact wanted_yes _ _ rfl rfl) rfl rfl ?_; simp only [Act.put, List.setIfInBounds_toArray, List.set_cons_zero, List.set_cons_succ]))
          refine wk_cmp_int .neq (false) _ _ _ _ _ _ _ (by kernel_rfl) rfl rfl rfl (rfl) ?_
          simp only [Act.put, List.setIfInBounds_toArray, List.set_cons_zero, List.set_cons_succ]
          repeat (first
            | (refine wk_move _ (by first | exact wanted_none rfl | exact wanted_yes _ _ rfl rfl) rfl ?_; simp only [Act.put, Act.eval, Array.getD_eq_getD_getElem?, List.getElem?_toArray, List.getElem?_cons_succ, List.getElem?_cons_zero, Option.getD_some, List.setIfInBounds_toArray, List.set_cons_zero, List.set_cons_succ])
            | (refine wk_assign _ (by first | exact wanted_none rfl | exact wanted_yes _ _ rfl rfl) rfl ?_; simp only [Act.put, Act.eval, Array.getD_eq_getD_getElem?, List.getElem?_toArray, List.getElem?_cons_succ, List.getElem?_cons_zero, Option.getD_some, List.setIfInBounds_toArray, List.set_cons_zero, List.set_cons_succ])
            | (refine wk_pickt _ _ _ _ (by first | exact wanted_none rfl | exact wanted_yes _ _ rfl rfl) rfl rfl rfl ?_; simp only [Act.put, Act.eval, Array.getD_eq_getD_getElem?, List.getElem?_toArray, List.getElem?_cons_succ, List.getElem?_cons_zero, Option.getD_some, List.setIfInBounds_toArray, List.set_cons_zero, List.set_cons_succ])
            | (refine wk_pickf _ _ _ _ (by first | exact wanted_none rfl | exact wanted_yes _ _ rfl rfl) rfl rfl rfl ?_; simp only [Act.put, Act.eval, Array.getD_eq_getD_getElem?, List.getElem?_toArray, List.getElem?_cons_succ, List.getElem?_cons_zero, Option.getD_some, List.setIfInBounds_toArray, List.set_cons_zero, List.set_cons_succ])
            | (refine wk_skip (wanted_not _ true false rfl rfl rfl) ?_; simp only [Act.put, List.setIfInBounds_toArray, List.set_cons_zero, List.set_cons_succ])
            | (refine wk_skip (wanted_not _ false true rfl rfl rfl) ?_; simp only [Act.put, List.setIfInBounds_toArray, List.set_cons_zero, List.set_cons_succ])
            | (refine wk_skip (wanted_undef _ _ rfl rfl) ?_; simp only [Act.put, List.setIfInBounds_toArray, List.set_cons_zero, List.set_cons_succ])
            | (refine wk_not true _ _ (by first | exact wanted_none rfl | exact wanted_yes _ _ rfl rfl) rfl rfl ?_; simp only [Act.put, List.setIfInBounds_toArray, List.set_cons_zero, List.set_cons_succ])
            | (refine wk_not false _ _ (by first | exact wanted_none rfl | exact wanted_yes _ _ rfl rfl) rfl rfl ?_; simp only [Act.put, List.setIfInBounds_toArray, List.set_cons_zero, List.set_cons_succ]))
          refine wk_load_row 33 _ g7 33 (blk B) (0, 0) _ (by kernel_rfl) rfl rfl (fun w' hC => hC.row (R7.out.get 0 rfl)) Tryd.underlying33 rfl (by rw [HBL.out]; exact sizeB) ?_
          simp only [Act.put, List.setIfInBounds_toArray, List.set_cons_zero, List.set_cons_succ]
          refine wk_load_row 33 _ g1 33 (blk b) (0, 0) _ (by kernel_rfl) rfl rfl (fun w' hC => hC.row (R7.out.get 3 rfl)) Tryd.underlying33 rfl (by rw [HBs.out]; exact sizeB) ?_
          simp only [Act.put, List.setIfInBounds_toArray, List.set_cons_zero, List.set_cons_succ]
          refine wk_eql .neq (true) 33 33 _ _ (by first | exact wanted_none rfl | exact wanted_yes _ _ rfl rfl) rfl _ _ rfl rfl (by kernel_rfl) (fun w => HRUN.out w) ?_
          simp only [Act.put, List.setIfInBounds_toArray, List.set_cons_zero, List.set_cons_succ]
          repeat (first
            | (refine wk_move _ (by first | exact wanted_none rfl | exact wanted_yes _ _ rfl rfl) rfl ?_; simp only [Act.put, Act.eval, Array.getD_eq_getD_getElem?, List.getElem?_toArray, List.getElem?_cons_succ, List.getElem?_cons_zero, Option.getD_some, List.setIfInBounds_toArray, List.set_cons_zero, List.set_cons_succ])
            | (refine wk_assign _ (by first | exact wanted_none rfl | exact wanted_yes _ _ rfl rfl) rfl ?_; simp only [Act.put, Act.eval, Array.getD_eq_getD_getElem?, List.getElem?_toArray, List.getElem?_cons_succ, List.getElem?_cons_zero, Option.getD_some, List.setIfInBounds_toArray, List.set_cons_zero, List.set_cons_succ])
            | (refine wk_pickt _ _ _ _ (by first | exact wanted_none rfl | exact wanted_yes _ _ rfl rfl) rfl rfl rfl ?_; simp only [Act.put, Act.eval, Array.getD_eq_getD_getElem?, List.getElem?_toArray, List.getElem?_cons_succ, List.getElem?_cons_zero, Option.getD_some, List.setIfInBounds_toArray, List.set_cons_zero, List.set_cons_succ])
            | (refine wk_pickf _ _ _ _ (by first | exact wanted_none rfl | exact wanted_yes _ _ rfl rfl) rfl rfl rfl ?_; simp only [Act.put, Act.eval, Array.getD_eq_getD_getElem?, List.getElem?_toArray, List.getElem?_cons_succ, List.getElem?_cons_zero, Option.getD_some, List.setIfInBounds_toArray, List.set_cons_zero, List.set_cons_succ])
            | (refine wk_skip (wanted_not _ true false rfl rfl rfl) ?_; simp only [Act.put, List.setIfInBounds_toArray, List.set_cons_zero, List.set_cons_succ])
            | (refine wk_skip (wanted_not _ false true rfl rfl rfl) ?_; simp only [Act.put, List.setIfInBounds_toArray, List.set_cons_zero, List.set_cons_succ])
            | (refine wk_skip (wanted_undef _ _ rfl rfl) ?_; simp only [Act.put, List.setIfInBounds_toArray, List.set_cons_zero, List.set_cons_succ])
            | (refine wk_not true _ _ (by first | exact wanted_none rfl | exact wanted_yes _ _ rfl rfl) rfl rfl ?_; simp only [Act.put, List.setIfInBounds_toArray, List.set_cons_zero, List.set_cons_succ])
            | (refine wk_not false _ _ (by first | exact wanted_none rfl | exact wanted_yes _ _ rfl rfl) rfl rfl ?_; simp only [Act.put, List.setIfInBounds_toArray, List.set_cons_zero, List.set_cons_succ]))
          refine wk_nil ?_
          intro w' hC
          have S1 := Lib.hid (R7.out.since hC)
          clear hC
          go_wp2_with (first
            | refine wpList_build_none rfl 70 rfl _ zeroN Tryd.underlying70 rfl ?_
            | refine wpList_store_row rfl 70 _ _ rfl g2 nzero rfl rfl 70 _ (S1.out.get 2 rfl) sizeN rfl nzero_one ?_)
          refine bodyPost_ret (v := .tuple #[.agg nzero, .int .i64 250]) (results_cell_slot rfl _ _ g2 70 _ (0, 0) _ _ rfl rfl (setRow_heap _ _ _ _ _ _ (S1.out.get 2 rfl)) Tryd.underlying70 rfl sizeN) rfl ⟨by rw [HY.out.1, HY.out.2], ?_⟩
          exact (S1.out.setRow 2 _ rfl).below
      · have hY := HNO.out (by simp)
        have HY := Lib.hid hY
        clear hY
        go_wp2_with (first
          | refine wpList_build_none rfl 70 rfl _ zeroN Tryd.underlying70 rfl ?_
          | refine wpList_store_row rfl 70 _ _ rfl g2 nzero rfl rfl 70 _ (R7.out.get 2 rfl) sizeN rfl nzero_one ?_)
        refine bodyPost_ret (v := .tuple #[.agg nzero, .int .i64 250]) (results_cell_slot rfl _ _ g2 70 _ (0, 0) _ _ rfl rfl (setRow_heap _ _ _ _ _ _ (R7.out.get 2 rfl)) Tryd.underlying70 rfl sizeN) rfl ⟨by rw [HY.out.1, HY.out.2], ?_⟩
        exact (R7.out.setRow 2 _ rfl).below
end Go.Proofs.YtnhfkmfmmgaecaaDoor
