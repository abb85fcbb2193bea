/- The tally layer: the law TallyGets holds of every block and place. -/
import Derived.Test.YtnhfkmfmmgaecaaDoorTallyPuts
import Derived.Test.YtnhfkmfmmgaecaaDoorRef05G
import Derived.Test.YtnhfkmfmmgaecaaDoorPair
namespace Go.Proofs.YtnhfkmfmmgaecaaDoor
open Go.RowKit
set_option linter.unusedSimpArgs false
set_option maxRecDepth 100000
theorem ta0_ok (n : Nat) (hn : n < 4294967296) : POk 4 2 64 n ta0 := ⟨by simp [ta0], by simpa using hn, by simp [ta0]⟩
theorem ti0_ok (n : Nat) (hn : n < 4294967296) : POk 4 8 16 n ti0 := ⟨by simp [ti0], by simpa using hn, by simp [ti0]⟩
theorem taGetN_ok (b : List UInt8) (hb : b.length = 256) (n : Nat) (hn : n < 4294967296) : POk 4 2 64 (taGetN b n).1 (taGetN b n).2 := by
  unfold taGetN
  repeat' split
  · exact ta0_ok n hn
  · exact pOk_a b hb n hn
  · exact ta0_ok 0 (by decide)
  · exact ta0_ok 0 (by decide)
theorem tiGetN_ok (b : List UInt8) (hb : b.length = 256) (n : Nat) (hn : n < 4294967296) : POk 4 8 16 (tiGetN b n).1 (tiGetN b n).2 := by
  unfold tiGetN
  repeat' split
  · exact ti0_ok n hn
  · exact pOk_i b hb n hn
  · exact ti0_ok 0 (by decide)
  · exact ti0_ok 0 (by decide)
theorem taGet_put (b : List UInt8) (hb : b.length = 256) (n : Nat) (hn : n < 4294967296) (hz : ¬ b = zeroBlk) (h : taGetE b n = 0) : taputB (taGetN b n).1 (taGetN b n).2 = b := by
  have hm : n < 16384 := by
    unfold taGetE at h
    split at h
    · assumption
    · exact absurd h (by decide)
  have hi : isTa b n = true := by
    unfold taGetE tagetE at h
    rw [if_pos hm, if_neg hz] at h
    split at h
    · assumption
    · exact absurd h (by decide)
  unfold taGetN taputB
  rw [if_pos hm, if_neg hz, if_pos hi, if_pos hm]
  exact (isTa_iff b hb n hn).2 hi
theorem tiGet_put (b : List UInt8) (hb : b.length = 256) (n : Nat) (hn : n < 4294967296) (hz : ¬ b = zeroBlk) (h : tiGetE b n = 0) : tiputB (tiGetN b n).1 (tiGetN b n).2 = b := by
  have hm : n < 16 := by
    unfold tiGetE at h
    split at h
    · assumption
    · exact absurd h (by decide)
  have hi : isTi b n = true := by
    unfold tiGetE tigetE at h
    rw [if_pos hm, if_neg hz] at h
    split at h
    · assumption
    · exact absurd h (by decide)
  unfold tiGetN tiputB
  rw [if_pos hm, if_neg hz, if_pos hi, if_pos hm]
  exact (isTi_iff b hb n hn).2 hi
/-- What is known of a block that is looked at. -/
structure TGot (x : List UInt8) (n : Nat) (C P D K : Array Value) (E G F1 F2 : Int) (Z : Bool) : Prop where
  csize : C.size = 65
  cone : C.all (·.oneCell') = true
  psize : P.size = 17
  pone : P.all (·.oneCell') = true
  dsize : D.size = 256
  done : D.all (·.oneCell') = true
  ksize : K.size = 256
  kone : K.all (·.oneCell') = true
  get : ∀ w, Calls Tryd.prog 52 #[.agg (blk x), .int .u32 (n : Int)] w fun e w' => e = .returned (.tuple #[.agg C, .int .i64 E]) ∧ Below w.heap.size w w'
  ref : ∀ w, Calls Tryd.prog 55 #[.agg (blk x), .int .u32 (n : Int)] w fun e w' => e = .returned (.tuple #[.agg C, .int .i64 E]) ∧ Below w.heap.size w w'
  getp : ∀ w, Calls Tryd.prog 53 #[.agg (blk x), .int .u32 (n : Int)] w fun e w' => e = .returned (.tuple #[.agg P, .int .i64 G]) ∧ Below w.heap.size w w'
  refp : ∀ w, Calls Tryd.prog 56 #[.agg (blk x), .int .u32 (n : Int)] w fun e w' => e = .returned (.tuple #[.agg P, .int .i64 G]) ∧ Below w.heap.size w w'
  put : ∀ w, Calls Tryd.prog 46 #[.agg C] w fun e w' => e = .returned (.tuple #[.agg D, .int .i64 F1]) ∧ Below w.heap.size w w'
  putp : ∀ w, Calls Tryd.prog 48 #[.agg P] w fun e w' => e = .returned (.tuple #[.agg K, .int .i64 F2]) ∧ Below w.heap.size w w'
  zero : ∀ w, Calls Tryd.prog 57 #[.agg (blk x)] w fun e w' => e = .returned (.bool Z) ∧ Below w.heap.size w w'
  same : ∀ w : World, (binOp .neq 90 (.agg C) (.agg C)).run Tryd.prog w = .ok (.bool false) w
  samep : ∀ w : World, (binOp .neq 93 (.agg P) (.agg P)).run Tryd.prog w = .ok (.bool false) w
  ways : Z = true ∨ (Z = false ∧ ((E == 0) = false ∨ ((E == 0) = true ∧ D = blk x)) ∧ ((G == 0) = false ∨ ((G == 0) = true ∧ K = blk x)))
  eql : ∀ w : World, (binOp .neq 33 (.agg (blk x)) (.agg (blk x))).run Tryd.prog w = .ok (.bool false) w
theorem tgot (x : List UInt8) (hx : x.length = 256) (n : Nat) (hn : n < 4294967296) : ∃ C P D K E G F1 F2 Z, TGot x n C P D K E G F1 F2 Z := by
  have ha := taGetN_ok x hx n hn
  have hi := tiGetN_ok x hx n hn
  refine ⟨pcells .u32 .u16 (taGetN x n).1 (taGetN x n).2, pcells .u32 .u64 (tiGetN x n).1 (tiGetN x n).2, blk (taputB (taGetN x n).1 (taGetN x n).2), blk (tiputB (tiGetN x n).1 (tiGetN x n).2), taGetE x n, tiGetE x n, taputE (taGetN x n).1, tiputE (tiGetN x n).1, decide (x = zeroBlk), size_tacells ha, pcells_one _ _ _ _, size_ticells hi, pcells_one _ _ _ _, ?_, blk_one _, ?_, blk_one _, taGet_any x hx n hn, reftaGet_any x hx n hn, tiGet_any x hx n hn, reftiGet_any x hx n hn, taPut_any _ _ ha, tiPut_any _ _ hi, refzero_any x hx, ?_, ?_, ?_, ?_⟩
  · rw [size_blk, length_taputB ha]
  · rw [size_blk, length_tiputB hi]
  · intro w
    rw [run_neq_tally w _ _ _ _ ha.len ha.len]; simp
  · intro w
    rw [run_neq_pick w _ _ _ _ hi.len hi.len]; simp
  · by_cases hz : x = zeroBlk
    · left; simp [hz]
    · right
      refine ⟨by simp [hz], ?_, ?_⟩
      · by_cases h : taGetE x n = 0
        · right; exact ⟨by simp [h], by rw [taGet_put x hx n hn hz h]⟩
        · left; simp [h]
      · by_cases h : tiGetE x n = 0
        · right; exact ⟨by simp [h], by rw [tiGet_put x hx n hn hz h]⟩
        · left; simp [h]
  · intro w
    rw [run_neq_blk w 33 5 256 Tryd.underlying33 Tryd.underlying5 sizeU8 x x hx hx]; simp
set_option maxHeartbeats 8000000 in
theorem tallygets_any (b : List UInt8) (n : Nat) (hb : b.length = 256) (hn : n < 4294967296) (w : World) : Calls Tryd.prog 13 #[.agg (blk b), .int .u32 (n : Int)] w fun e w' => e = .returned (.bool true) ∧ Below w.heap.size w w' := by
  have HL := Lib.hid hb
  have HBs : Hid ((blk b).size = 256) := Lib.hid (by rw [size_blk, hb])
  obtain ⟨y, hy⟩ : ∃ y, y = sealB b := ⟨_, rfl⟩
  have HYL : Hid (y.length = 256) := Lib.hid (by rw [hy, length_sealB b hb])
  have HYs : Hid ((blk y).size = 256) := Lib.hid (by rw [size_blk, HYL.out])
  have HSEAL : Hid (∀ w, Calls Tryd.prog 32 #[.agg (blk b)] w fun e w' => e = .returned (.agg (blk y)) ∧ Below w.heap.size w w') := Lib.hid (fun w => by rw [hy]; exact refseal_any b hb w)
  have HX0 := Lib.hid (tgot b hb n hn)
  have HX1 := Lib.hid (tgot y HYL.out n hn)
  clear hy hb hn
  have q1 := (Rows.start w).alloc (blk b) 33
  go_enter Tryd.func13, Tryd.ntmps13
  go_upto_region 1 with (fail)
  obtain ⟨W1, hW⟩ : ∃ W, W = w.alloc (.cells (blk b) 33) := ⟨_, rfl⟩
  rw [← hW] at q1 ⊢
  clear hW
  obtain ⟨g1, hg⟩ : ∃ g, g = w.heap.size := ⟨_, rfl⟩
  rw [← hg] at q1 ⊢
  clear hg
  have R1 := Lib.hid q1
  clear q1
  refine wk_region_tail 3 (by kernel_rfl) (by kernel_rfl) ?_
  simp only [List.take_succ_cons, List.take_zero, List.drop_succ_cons, List.drop_zero]
  refine wk_load_row 33 _ g1 33 (blk b) (0, 0) _ (by kernel_rfl) rfl rfl (fun w' hC => hC.row (R1.out.get 0 rfl)) Tryd.underlying33 rfl (by rw [HBs.out]; exact sizeB) ?_
  simp only [Act.put, List.setIfInBounds_toArray, List.set_cons_zero, List.set_cons_succ]
  refine wk_load_row 33 _ g1 33 (blk b) (0, 0) _ (by kernel_rfl) rfl rfl (fun w' hC => hC.row (R1.out.get 0 rfl)) Tryd.underlying33 rfl (by rw [HBs.out]; exact sizeB) ?_
  simp only [Act.put, List.setIfInBounds_toArray, List.set_cons_zero, List.set_cons_succ]
  refine wk_call 32 _ _ _ _ _ (by kernel_rfl) rfl Tryd.func32 rfl (by kernel_rfl) (fun w' hC => hC.call (HSEAL.out w')) ?_
  simp only [Act.put, List.setIfInBounds_toArray, List.set_cons_zero, List.set_cons_succ]
  refine wk_nil ?_
  intro w' hC
  have q1 := (R1.out.since hC).alloc (blk (b ++ y)) 33
  clear hC
  refine wpList_build_pair rfl 62 _ _ rfl b y HL.out HYL.out rfl rfl Tryd.underlying62 ?_
  simp only [Act.put, List.setIfInBounds_toArray, List.set_cons_zero, List.set_cons_succ]
  obtain ⟨W2, hW⟩ : ∃ W, W = w'.alloc (.cells (blk (b ++ y)) 33) := ⟨_, rfl⟩
  rw [← hW] at q1 ⊢
  clear hW
  obtain ⟨g2, hg⟩ : ∃ g, g = w'.heap.size := ⟨_, rfl⟩
  rw [← hg] at q1 ⊢
  clear hg
  have R2 := Lib.hid q1
  clear q1
  go_wp2_with fail
  go_loopw [6] (fun i wr => ∃ (k : Nat) (z : Int), z = (k : Int) ∧ k ≤ 2 ∧ i = .int .i64 z ∧ Rows w wr [(g2, blk (b ++ y), 33), (g1, blk b, 33)]) (fun i _ => 2 - (intOf i).toNat)
  case atStart => exact ⟨0, 0, rfl, by omega, rfl, R2.out⟩
  case round =>
    obtain ⟨k, z, hz, hk, rfl, hR⟩ := hrel
    have R3 := Lib.hid hR
    clear hR R2 R1
    rcases (show (k = 0 ∧ z = 0) ∨ (k = 1 ∧ z = 1) ∨ (k = 2 ∧ z = 2) by omega) with ⟨rfl, rfl⟩ | ⟨rfl, rfl⟩ | ⟨rfl, rfl⟩
    · obtain ⟨C, P, D, K, E, G, F1, F2, Z, hG⟩ := HX0.out
      have HG := Lib.hid hG
      clear hG hz hk
      go_wp2_with (refine wpList_load_arr rfl 33 _ rfl g2 0 rfl (blk b) _ (pair_fst (R3.out.get 0 rfl)) Tryd.underlying33 rfl (by rw [HBs.out]; exact sizeB) ?_)
      refine (HG.out.get _).mono ?_
      rintro e w4 ⟨rfl, hb⟩
      have q1 := (R3.out.call hb).alloc C 90
      clear hb
      go_upto_region 6 with (first | refine wpList_alloc_row rfl 90 rfl _ zero_ta ?_ | refine wpList_store_new rfl 90 _ _ rfl _ C _ rfl rfl (by rw [HG.out.csize]; exact sizeTally) (by rw [HG.out.csize]; rfl) HG.out.cone ?_)
      obtain ⟨W4, hW⟩ : ∃ W, W = w4.alloc (.cells C 90) := ⟨_, rfl⟩
      rw [← hW] at q1 ⊢
      clear hW
      obtain ⟨g4, hg⟩ : ∃ g, g = w4.heap.size := ⟨_, rfl⟩
      rw [← hg] at q1 ⊢
      clear hg
      have R4 := Lib.hid q1
      clear q1
      go_wp2_with (refine wpList_load_arr rfl 33 _ rfl g2 0 rfl (blk b) _ (pair_fst (R4.out.get 1 rfl)) Tryd.underlying33 rfl (by rw [HBs.out]; exact sizeB) ?_)
      refine (HG.out.ref _).mono ?_
      rintro e w5 ⟨rfl, hb⟩
      have q1 := (R4.out.call hb).alloc C 90
      clear hb
      go_upto_region 7 with (first | refine wpList_alloc_row rfl 90 rfl _ zero_ta ?_ | refine wpList_store_new rfl 90 _ _ rfl _ C _ rfl rfl (by rw [HG.out.csize]; exact sizeTally) (by rw [HG.out.csize]; rfl) HG.out.cone ?_)
      obtain ⟨W5, hW⟩ : ∃ W, W = w5.alloc (.cells C 90) := ⟨_, rfl⟩
      rw [← hW] at q1 ⊢
      clear hW
      obtain ⟨g5, hg⟩ : ∃ g, g = w5.heap.size := ⟨_, rfl⟩
      rw [← hg] at q1 ⊢
      clear hg
      have R5 := Lib.hid q1
      clear q1
      go_wp2_with (refine wpList_load_arr rfl 33 _ rfl g2 0 rfl (blk b) _ (pair_fst (R5.out.get 2 rfl)) Tryd.underlying33 rfl (by rw [HBs.out]; exact sizeB) ?_)
      refine (HG.out.getp _).mono ?_
      rintro e w6 ⟨rfl, hb⟩
      have q1 := (R5.out.call hb).alloc P 93
      clear hb
      go_upto_region 8 with (first | refine wpList_alloc_row rfl 93 rfl _ zero_ti ?_ | refine wpList_store_new rfl 93 _ _ rfl _ P _ rfl rfl (by rw [HG.out.psize]; exact sizePick) (by rw [HG.out.psize]; rfl) HG.out.pone ?_)
      obtain ⟨W6, hW⟩ : ∃ W, W = w6.alloc (.cells P 93) := ⟨_, rfl⟩
      rw [← hW] at q1 ⊢
      clear hW
      obtain ⟨g6, hg⟩ : ∃ g, g = w6.heap.size := ⟨_, rfl⟩
      rw [← hg] at q1 ⊢
      clear hg
      have R6 := Lib.hid q1
      clear q1
      go_wp2_with (refine wpList_load_arr rfl 33 _ rfl g2 0 rfl (blk b) _ (pair_fst (R6.out.get 3 rfl)) Tryd.underlying33 rfl (by rw [HBs.out]; exact sizeB) ?_)
      refine (HG.out.refp _).mono ?_
      rintro e w7 ⟨rfl, hb⟩
      have q1 := (R6.out.call hb).alloc P 93
      clear hb
      go_upto_region 9 with (first | refine wpList_alloc_row rfl 93 rfl _ zero_ti ?_ | refine wpList_store_new rfl 93 _ _ rfl _ P _ rfl rfl (by rw [HG.out.psize]; exact sizePick) (by rw [HG.out.psize]; rfl) HG.out.pone ?_)
      obtain ⟨W7, hW⟩ : ∃ W, W = w7.alloc (.cells P 93) := ⟨_, rfl⟩
      rw [← hW] at q1 ⊢
      clear hW
      obtain ⟨g7, hg⟩ : ∃ g, g = w7.heap.size := ⟨_, rfl⟩
      rw [← hg] at q1 ⊢
      clear hg
      have R7 := Lib.hid q1
      clear q1
      refine wk_plain_since ?_
      refine wk_load_row 90 _ g4 90 C (0, 0) _ (by kernel_rfl) rfl rfl (fun w' hC => hC.row (R7.out.get 3 rfl)) Tryd.underlying90 rfl (by rw [HG.out.csize]; exact sizeTally) ?_
      simp only [Act.put, List.setIfInBounds_toArray, List.set_cons_zero, List.set_cons_succ]
      refine wk_load_row 90 _ g5 90 C (0, 0) _ (by kernel_rfl) rfl rfl (fun w' hC => hC.row (R7.out.get 2 rfl)) Tryd.underlying90 rfl (by rw [HG.out.csize]; exact sizeTally) ?_
      simp only [Act.put, List.setIfInBounds_toArray, List.set_cons_zero, List.set_cons_succ]
      refine wk_eql .neq (false) 90 90 _ _ (by first | exact wanted_none rfl | exact wanted_yes _ _ rfl rfl) rfl _ _ rfl rfl (by kernel_rfl) (fun w => HG.out.same w) ?_
      simp only [Act.put, List.setIfInBounds_toArray, List.set_cons_zero, List.set_cons_succ]
      repeat (first
        | (refine wk_move _ (by first | exact wanted_none rfl | exact wanted_yes _ _ rfl rfl) rfl ?_; simp only [Act.put, Act.eval, Array.getD_eq_getD_getElem?, List.getElem?_toArray, List.getElem?_cons_succ, List.getElem?_cons_zero, Option.getD_some, List.setIfInBounds_toArray, List.set_cons_zero, List.set_cons_succ])
        | (refine wk_assign _ (by first | exact wanted_none rfl | exact wanted_yes _ _ rfl rfl) rfl ?_; simp only [Act.put, Act.eval, Array.getD_eq_getD_getElem?, List.getElem?_toArray, List.getElem?_cons_succ, List.getElem?_cons_zero, Option.getD_some, List.setIfInBounds_toArray, List.set_cons_zero, List.set_cons_succ])
        | (refine wk_pickt _ _ _ _ (by first | exact wanted_none rfl | exact wanted_yes _ _ rfl rfl) rfl rfl rfl ?_; simp only [Act.put, Act.eval, Array.getD_eq_getD_getElem?, List.getElem?_toArray, List.getElem?_cons_succ, List.getElem?_cons_zero, Option.getD_some, List.setIfInBounds_toArray, List.set_cons_zero, List.set_cons_succ])
        | (refine wk_pickf _ _ _ _ (by first | exact wanted_none rfl | exact wanted_yes _ _ rfl rfl) rfl rfl rfl ?_; simp only [Act.put, Act.eval, Array.getD_eq_getD_getElem?, List.getElem?_toArray, List.getElem?_cons_succ, List.getElem?_cons_zero, Option.getD_some, List.setIfInBounds_toArray, List.set_cons_zero, List.set_cons_succ])
        | (refine wk_skip (wanted_not _ true false rfl rfl rfl) ?_; simp only [Act.put, List.setIfInBounds_toArray, List.set_cons_zero, List.set_cons_succ])
        | (refine wk_skip (wanted_not _ false true rfl rfl rfl) ?_; simp only [Act.put, List.setIfInBounds_toArray, List.set_cons_zero, List.set_cons_succ])
        | (refine wk_skip (wanted_undef _ _ rfl rfl) ?_; simp only [Act.put, List.setIfInBounds_toArray, List.set_cons_zero, List.set_cons_succ])
        | (refine wk_not true _ _ (by first | exact wanted_none rfl | exact wanted_yes _ _ rfl rfl) rfl rfl ?_; simp only [Act.put, List.setIfInBounds_toArray, List.set_cons_zero, List.set_cons_succ])
        | (refine wk_not false _ _ (by first | exact wanted_none rfl | exact wanted_yes _ _ rfl rfl) rfl rfl ?_; simp only [Act.put, List.setIfInBounds_toArray, List.set_cons_zero, List.set_cons_succ]))
      refine wk_cmp_int .neq (false) _ _ _ _ _ _ _ (by kernel_rfl) rfl rfl rfl (by simp [cmpInt]) ?_
      simp only [Act.put, List.setIfInBounds_toArray, List.set_cons_zero, List.set_cons_succ]
      repeat (first
        | (refine wk_move _ (by first | exact wanted_none rfl | exact wanted_yes _ _ rfl rfl) rfl ?_; simp only [Act.put, Act.eval, Array.getD_eq_getD_getElem?, List.getElem?_toArray, List.getElem?_cons_succ, List.getElem?_cons_zero, Option.getD_some, List.setIfInBounds_toArray, List.set_cons_zero, List.set_cons_succ])
        | (refine wk_assign _ (by first | exact wanted_none rfl | exact wanted_yes _ _ rfl rfl) rfl ?_; simp only [Act.put, Act.eval, Array.getD_eq_getD_getElem?, List.getElem?_toArray, List.getElem?_cons_succ, List.getElem?_cons_zero, Option.getD_some, List.setIfInBounds_toArray, List.set_cons_zero, List.set_cons_succ])
        | (refine wk_pickt _ _ _ _ (by first | exact wanted_none rfl | exact wanted_yes _ _ rfl rfl) rfl rfl rfl ?_; simp only [Act.put, Act.eval, Array.getD_eq_getD_getElem?, List.getElem?_toArray, List.getElem?_cons_succ, List.getElem?_cons_zero, Option.getD_some, List.setIfInBounds_toArray, List.set_cons_zero, List.set_cons_succ])
        | (refine wk_pickf _ _ _ _ (by first | exact wanted_none rfl | exact wanted_yes _ _ rfl rfl) rfl rfl rfl ?_; simp only [Act.put, Act.eval, Array.getD_eq_getD_getElem?, List.getElem?_toArray, List.getElem?_cons_succ, List.getElem?_cons_zero, Option.getD_some, List.setIfInBounds_toArray, List.set_cons_zero, List.set_cons_succ])
        | (refine wk_skip (wanted_not _ true false rfl rfl rfl) ?_; simp only [Act.put, List.setIfInBounds_toArray, List.set_cons_zero, List.set_cons_succ])
        | (refine wk_skip (wanted_not _ false true rfl rfl rfl) ?_; simp only [Act.put, List.setIfInBounds_toArray, List.set_cons_zero, List.set_cons_succ])
        | (refine wk_skip (wanted_undef _ _ rfl rfl) ?_; simp only [Act.put, List.setIfInBounds_toArray, List.set_cons_zero, List.set_cons_succ])
        | (refine wk_not true _ _ (by first | exact wanted_none rfl | exact wanted_yes _ _ rfl rfl) rfl rfl ?_; simp only [Act.put, List.setIfInBounds_toArray, List.set_cons_zero, List.set_cons_succ])
        | (refine wk_not false _ _ (by first | exact wanted_none rfl | exact wanted_yes _ _ rfl rfl) rfl rfl ?_; simp only [Act.put, List.setIfInBounds_toArray, List.set_cons_zero, List.set_cons_succ]))
      refine wk_load_row 93 _ g6 93 P (0, 0) _ (by kernel_rfl) rfl rfl (fun w' hC => hC.row (R7.out.get 1 rfl)) Tryd.underlying93 rfl (by rw [HG.out.psize]; exact sizePick) ?_
      simp only [Act.put, List.setIfInBounds_toArray, List.set_cons_zero, List.set_cons_succ]
      refine wk_load_row 93 _ g7 93 P (0, 0) _ (by kernel_rfl) rfl rfl (fun w' hC => hC.row (R7.out.get 0 rfl)) Tryd.underlying93 rfl (by rw [HG.out.psize]; exact sizePick) ?_
      simp only [Act.put, List.setIfInBounds_toArray, List.set_cons_zero, List.set_cons_succ]
      refine wk_eql .neq (false) 93 93 _ _ (by first | exact wanted_none rfl | exact wanted_yes _ _ rfl rfl) rfl _ _ rfl rfl (by kernel_rfl) (fun w => HG.out.samep w) ?_
      simp only [Act.put, List.setIfInBounds_toArray, List.set_cons_zero, List.set_cons_succ]
      repeat (first
        | (refine wk_move _ (by first | exact wanted_none rfl | exact wanted_yes _ _ rfl rfl) rfl ?_; simp only [Act.put, Act.eval, Array.getD_eq_getD_getElem?, List.getElem?_toArray, List.getElem?_cons_succ, List.getElem?_cons_zero, Option.getD_some, List.setIfInBounds_toArray, List.set_cons_zero, List.set_cons_succ])
        | (refine wk_assign _ (by first | exact wanted_none rfl | exact wanted_yes _ _ rfl rfl) rfl ?_; simp only [Act.put, Act.eval, Array.getD_eq_getD_getElem?, List.getElem?_toArray, List.getElem?_cons_succ, List.getElem?_cons_zero, Option.getD_some, List.setIfInBounds_toArray, List.set_cons_zero, List.set_cons_succ])
        | (refine wk_pickt _ _ _ _ (by first | exact wanted_none rfl | exact wanted_yes _ _ rfl rfl) rfl rfl rfl ?_; simp only [Act.put, Act.eval, Array.getD_eq_getD_getElem?, List.getElem?_toArray, List.getElem?_cons_succ, List.getElem?_cons_zero, Option.getD_some, List.setIfInBounds_toArray, List.set_cons_zero, List.set_cons_succ])
        | (refine wk_pickf _ _ _ _ (by first | exact wanted_none rfl | exact wanted_yes _ _ rfl rfl) rfl rfl rfl ?_; simp only [Act.put, Act.eval, Array.getD_eq_getD_getElem?, List.getElem?_toArray, List.getElem?_cons_succ, List.getElem?_cons_zero, Option.getD_some, List.setIfInBounds_toArray, List.set_cons_zero, List.set_cons_succ])
        | (refine wk_skip (wanted_not _ true false rfl rfl rfl) ?_; simp only [Act.put, List.setIfInBounds_toArray, List.set_cons_zero, List.set_cons_succ])
        | (refine wk_skip (wanted_not _ false true rfl rfl rfl) ?_; simp only [Act.put, List.setIfInBounds_toArray, List.set_cons_zero, List.set_cons_succ])
        | (refine wk_skip (wanted_undef _ _ rfl rfl) ?_; simp only [Act.put, List.setIfInBounds_toArray, List.set_cons_zero, List.set_cons_succ])
        | (refine wk_not true _ _ (by first | exact wanted_none rfl | exact wanted_yes _ _ rfl rfl) rfl rfl ?_; simp only [Act.put, List.setIfInBounds_toArray, List.set_cons_zero, List.set_cons_succ])
        | (refine wk_not false _ _ (by first | exact wanted_none rfl | exact wanted_yes _ _ rfl rfl) rfl rfl ?_; simp only [Act.put, List.setIfInBounds_toArray, List.set_cons_zero, List.set_cons_succ]))
      refine wk_cmp_int .neq (false) _ _ _ _ _ _ _ (by kernel_rfl) rfl rfl rfl (by simp [cmpInt]) ?_
      simp only [Act.put, List.setIfInBounds_toArray, List.set_cons_zero, List.set_cons_succ]
      repeat (first
        | (refine wk_move _ (by first | exact wanted_none rfl | exact wanted_yes _ _ rfl rfl) rfl ?_; simp only [Act.put, Act.eval, Array.getD_eq_getD_getElem?, List.getElem?_toArray, List.getElem?_cons_succ, List.getElem?_cons_zero, Option.getD_some, List.setIfInBounds_toArray, List.set_cons_zero, List.set_cons_succ])
        | (refine wk_assign _ (by first | exact wanted_none rfl | exact wanted_yes _ _ rfl rfl) rfl ?_; simp only [Act.put, Act.eval, Array.getD_eq_getD_getElem?, List.getElem?_toArray, List.getElem?_cons_succ, List.getElem?_cons_zero, Option.getD_some, List.setIfInBounds_toArray, List.set_cons_zero, List.set_cons_succ])
        | (refine wk_pickt _ _ _ _ (by first | exact wanted_none rfl | exact wanted_yes _ _ rfl rfl) rfl rfl rfl ?_; simp only [Act.put, Act.eval, Array.getD_eq_getD_getElem?, List.getElem?_toArray, List.getElem?_cons_succ, List.getElem?_cons_zero, Option.getD_some, List.setIfInBounds_toArray, List.set_cons_zero, List.set_cons_succ])
        | (refine wk_pickf _ _ _ _ (by first | exact wanted_none rfl | exact wanted_yes _ _ rfl rfl) rfl rfl rfl ?_; simp only [Act.put, Act.eval, Array.getD_eq_getD_getElem?, List.getElem?_toArray, List.getElem?_cons_succ, List.getElem?_cons_zero, Option.getD_some, List.setIfInBounds_toArray, List.set_cons_zero, List.set_cons_succ])
        | (refine wk_skip (wanted_not _ true false rfl rfl rfl) ?_; simp only [Act.put, List.setIfInBounds_toArray, List.set_cons_zero, List.set_cons_succ])
        | (refine wk_skip (wanted_not _ false true rfl rfl rfl) ?_; simp only [Act.put, List.setIfInBounds_toArray, List.set_cons_zero, List.set_cons_succ])
        | (refine wk_skip (wanted_undef _ _ rfl rfl) ?_; simp only [Act.put, List.setIfInBounds_toArray, List.set_cons_zero, List.set_cons_succ])
        | (refine wk_not true _ _ (by first | exact wanted_none rfl | exact wanted_yes _ _ rfl rfl) rfl rfl ?_; simp only [Act.put, List.setIfInBounds_toArray, List.set_cons_zero, List.set_cons_succ])
        | (refine wk_not false _ _ (by first | exact wanted_none rfl | exact wanted_yes _ _ rfl rfl) rfl rfl ?_; simp only [Act.put, List.setIfInBounds_toArray, List.set_cons_zero, List.set_cons_succ]))
      refine wk_nil ?_
      intro w' hC
      have R8 := Lib.hid (R7.out.since hC)
      clear hC
      go_wp2_with (refine wpList_load_row rfl 90 _ rfl g4 rfl 90 C (0, 0) _ (R8.out.get 3 rfl) Tryd.underlying90 rfl (by rw [HG.out.csize]; exact sizeTally) ?_)
      refine (HG.out.put _).mono ?_
      rintro e w8 ⟨rfl, hb⟩
      have q1 := (R8.out.call hb).alloc D 33
      clear hb
      go_upto_region 12 with (first | refine wpList_alloc_row rfl 33 rfl _ zeroB ?_ | refine wpList_store_new rfl 33 _ _ rfl _ D _ rfl rfl (by rw [HG.out.dsize]; exact sizeB) (by rw [HG.out.dsize, size_zeros]) HG.out.done ?_)
      obtain ⟨W8, hW⟩ : ∃ W, W = w8.alloc (.cells D 33) := ⟨_, rfl⟩
      rw [← hW] at q1 ⊢
      clear hW
      obtain ⟨g8, hg⟩ : ∃ g, g = w8.heap.size := ⟨_, rfl⟩
      rw [← hg] at q1 ⊢
      clear hg
      have R9 := Lib.hid q1
      clear q1
      go_wp2_with (refine wpList_load_row rfl 93 _ rfl g6 rfl 93 P (0, 0) _ (R9.out.get 2 rfl) Tryd.underlying93 rfl (by rw [HG.out.psize]; exact sizePick) ?_)
      refine (HG.out.putp _).mono ?_
      rintro e w9 ⟨rfl, hb⟩
      have q1 := (R9.out.call hb).alloc K 33
      clear hb
      go_upto_region 13 with (first | refine wpList_alloc_row rfl 33 rfl _ zeroB ?_ | refine wpList_store_new rfl 33 _ _ rfl _ K _ rfl rfl (by rw [HG.out.ksize]; exact sizeB) (by rw [HG.out.ksize, size_zeros]) HG.out.kone ?_)
      obtain ⟨W9, hW⟩ : ∃ W, W = w9.alloc (.cells K 33) := ⟨_, rfl⟩
      rw [← hW] at q1 ⊢
      clear hW
      obtain ⟨g9, hg⟩ : ∃ g, g = w9.heap.size := ⟨_, rfl⟩
      rw [← hg] at q1 ⊢
      clear hg
      have R10 := Lib.hid q1
      clear q1
      rcases HG.out.ways with rfl | ⟨rfl, hE, hG⟩
      · skip
        refine wk_region_since (by kernel_rfl) (by kernel_rfl) ?_
        repeat (first
          | (refine wk_move _ (by first | exact wanted_none rfl | exact wanted_yes _ _ rfl rfl) rfl ?_; simp only [Act.put, Act.eval, Array.getD_eq_getD_getElem?, List.getElem?_toArray, List.getElem?_cons_succ, List.getElem?_cons_zero, Option.getD_some, List.setIfInBounds_toArray, List.set_cons_zero, List.set_cons_succ])
          | (refine wk_assign _ (by first | exact wanted_none rfl | exact wanted_yes _ _ rfl rfl) rfl ?_; simp only [Act.put, Act.eval, Array.getD_eq_getD_getElem?, List.getElem?_toArray, List.getElem?_cons_succ, List.getElem?_cons_zero, Option.getD_some, List.setIfInBounds_toArray, List.set_cons_zero, List.set_cons_succ])
          | (refine wk_pickt _ _ _ _ (by first | exact wanted_none rfl | exact wanted_yes _ _ rfl rfl) rfl rfl rfl ?_; simp only [Act.put, Act.eval, Array.getD_eq_getD_getElem?, List.getElem?_toArray, List.getElem?_cons_succ, List.getElem?_cons_zero, Option.getD_some, List.setIfInBounds_toArray, List.set_cons_zero, List.set_cons_succ])
          | (refine wk_pickf _ _ _ _ (by first | exact wanted_none rfl | exact wanted_yes _ _ rfl rfl) rfl rfl rfl ?_; simp only [Act.put, Act.eval, Array.getD_eq_getD_getElem?, List.getElem?_toArray, List.getElem?_cons_succ, List.getElem?_cons_zero, Option.getD_some, List.setIfInBounds_toArray, List.set_cons_zero, List.set_cons_succ])
          | (refine wk_skip (wanted_not _ true false rfl rfl rfl) ?_; simp only [Act.put, List.setIfInBounds_toArray, List.set_cons_zero, List.set_cons_succ])
          | (refine wk_skip (wanted_not _ false true rfl rfl rfl) ?_; simp only [Act.put, List.setIfInBounds_toArray, List.set_cons_zero, List.set_cons_succ])
          | (refine wk_skip (wanted_undef _ _ rfl rfl) ?_; simp only [Act.put, List.setIfInBounds_toArray, List.set_cons_zero, List.set_cons_succ])
          | (refine wk_not true _ _ (by first | exact wanted_none rfl | exact wanted_yes _ _ rfl rfl) rfl rfl ?_; simp only [Act.put, List.setIfInBounds_toArray, List.set_cons_zero, List.set_cons_succ])
          | (refine wk_not false _ _ (by first | exact wanted_none rfl | exact wanted_yes _ _ rfl rfl) rfl rfl ?_; simp only [Act.put, List.setIfInBounds_toArray, List.set_cons_zero, List.set_cons_succ]))
        refine wk_index 62 33 _ _ g2 0 2 2 0 256 .i64 (by first | exact wanted_none rfl | exact wanted_yes _ _ rfl rfl) rfl Tryd.underlying62 sizeB rfl rfl (by omega) ?_
        simp only [Act.put, List.setIfInBounds_toArray, List.set_cons_zero, List.set_cons_succ]
        refine wk_load_mid 33 _ g2 0 (blk b) _ (by first | exact wanted_none rfl | exact wanted_yes _ _ rfl rfl) rfl rfl (fun w' hC => pair_fst (hC.row (R10.out.get 6 rfl))) Tryd.underlying33 rfl (by rw [HBs.out]; exact sizeB) ?_
        simp only [Act.put, List.setIfInBounds_toArray, List.set_cons_zero, List.set_cons_succ]
        refine wk_call 57 _ _ _ _ _ (by kernel_rfl) rfl Tryd.func57 rfl (by kernel_rfl) (fun w' hC => hC.call (HG.out.zero w')) ?_
        simp only [Act.put, List.setIfInBounds_toArray, List.set_cons_zero, List.set_cons_succ]
        repeat (first
          | (refine wk_move _ (by first | exact wanted_none rfl | exact wanted_yes _ _ rfl rfl) rfl ?_; simp only [Act.put, Act.eval, Array.getD_eq_getD_getElem?, List.getElem?_toArray, List.getElem?_cons_succ, List.getElem?_cons_zero, Option.getD_some, List.setIfInBounds_toArray, List.set_cons_zero, List.set_cons_succ])
          | (refine wk_assign _ (by first | exact wanted_none rfl | exact wanted_yes _ _ rfl rfl) rfl ?_; simp only [Act.put, Act.eval, Array.getD_eq_getD_getElem?, List.getElem?_toArray, List.getElem?_cons_succ, List.getElem?_cons_zero, Option.getD_some, List.setIfInBounds_toArray, List.set_cons_zero, List.set_cons_succ])
          | (refine wk_pickt _ _ _ _ (by first | exact wanted_none rfl | exact wanted_yes _ _ rfl rfl) rfl rfl rfl ?_; simp only [Act.put, Act.eval, Array.getD_eq_getD_getElem?, List.getElem?_toArray, List.getElem?_cons_succ, List.getElem?_cons_zero, Option.getD_some, List.setIfInBounds_toArray, List.set_cons_zero, List.set_cons_succ])
          | (refine wk_pickf _ _ _ _ (by first | exact wanted_none rfl | exact wanted_yes _ _ rfl rfl) rfl rfl rfl ?_; simp only [Act.put, Act.eval, Array.getD_eq_getD_getElem?, List.getElem?_toArray, List.getElem?_cons_succ, List.getElem?_cons_zero, Option.getD_some, List.setIfInBounds_toArray, List.set_cons_zero, List.set_cons_succ])
          | (refine wk_skip (wanted_not _ true false rfl rfl rfl) ?_; simp only [Act.put, List.setIfInBounds_toArray, List.set_cons_zero, List.set_cons_succ])
          | (refine wk_skip (wanted_not _ false true rfl rfl rfl) ?_; simp only [Act.put, List.setIfInBounds_toArray, List.set_cons_zero, List.set_cons_succ])
          | (refine wk_skip (wanted_undef _ _ rfl rfl) ?_; simp only [Act.put, List.setIfInBounds_toArray, List.set_cons_zero, List.set_cons_succ])
          | (refine wk_not true _ _ (by first | exact wanted_none rfl | exact wanted_yes _ _ rfl rfl) rfl rfl ?_; simp only [Act.put, List.setIfInBounds_toArray, List.set_cons_zero, List.set_cons_succ])
          | (refine wk_not false _ _ (by first | exact wanted_none rfl | exact wanted_yes _ _ rfl rfl) rfl rfl ?_; simp only [Act.put, List.setIfInBounds_toArray, List.set_cons_zero, List.set_cons_succ]))
        refine wk_nil ?_
        intro w' hC
        have R11 := Lib.hid ((R10.out.since hC).drop 6)
        clear hC
        go_wp2_with fail
        exact ⟨⟨0 + 1, _, by rfl, by omega, rfl, R11.out⟩, by simp [intOf]⟩
      · rcases hE with hE | ⟨hE, rfl⟩ <;> rcases hG with hG | ⟨hG, rfl⟩ <;> have HE := Lib.hid hE <;> have HGG := Lib.hid hG <;> clear hE hG
        · skip
          refine wk_region_since (by kernel_rfl) (by kernel_rfl) ?_
          repeat (first
            | (refine wk_move _ (by first | exact wanted_none rfl | exact wanted_yes _ _ rfl rfl) rfl ?_; simp only [Act.put, Act.eval, Array.getD_eq_getD_getElem?, List.getElem?_toArray, List.getElem?_cons_succ, List.getElem?_cons_zero, Option.getD_some, List.setIfInBounds_toArray, List.set_cons_zero, List.set_cons_succ])
            | (refine wk_assign _ (by first | exact wanted_none rfl | exact wanted_yes _ _ rfl rfl) rfl ?_; simp only [Act.put, Act.eval, Array.getD_eq_getD_getElem?, List.getElem?_toArray, List.getElem?_cons_succ, List.getElem?_cons_zero, Option.getD_some, List.setIfInBounds_toArray, List.set_cons_zero, List.set_cons_succ])
            | (refine wk_pickt _ _ _ _ (by first | exact wanted_none rfl | exact wanted_yes _ _ rfl rfl) rfl rfl rfl ?_; simp only [Act.put, Act.eval, Array.getD_eq_getD_getElem?, List.getElem?_toArray, List.getElem?_cons_succ, List.getElem?_cons_zero, Option.getD_some, List.setIfInBounds_toArray, List.set_cons_zero, List.set_cons_succ])
            | (refine wk_pickf _ _ _ _ (by first | exact wanted_none rfl | exact wanted_yes _ _ rfl rfl) rfl rfl rfl ?_; simp only [Act.put, Act.eval, Array.getD_eq_getD_getElem?, List.getElem?_toArray, List.getElem?_cons_succ, List.getElem?_cons_zero, Option.getD_some, List.setIfInBounds_toArray, List.set_cons_zero, List.set_cons_succ])
            | (refine wk_skip (wanted_not _ true false rfl rfl rfl) ?_; simp only [Act.put, List.setIfInBounds_toArray, List.set_cons_zero, List.set_cons_succ])
            | (refine wk_skip (wanted_not _ false true rfl rfl rfl) ?_; simp only [Act.put, List.setIfInBounds_toArray, List.set_cons_zero, List.set_cons_succ])
            | (refine wk_skip (wanted_undef _ _ rfl rfl) ?_; simp only [Act.put, List.setIfInBounds_toArray, List.set_cons_zero, List.set_cons_succ])
            | (refine wk_not true _ _ (by first | exact wanted_none rfl | exact wanted_yes _ _ rfl rfl) rfl rfl ?_; simp only [Act.put, List.setIfInBounds_toArray, List.set_cons_zero, List.set_cons_succ])
            | (refine wk_not false _ _ (by first | exact wanted_none rfl | exact wanted_yes _ _ rfl rfl) rfl rfl ?_; simp only [Act.put, List.setIfInBounds_toArray, List.set_cons_zero, List.set_cons_succ]))
          refine wk_index 62 33 _ _ g2 0 2 2 0 256 .i64 (by first | exact wanted_none rfl | exact wanted_yes _ _ rfl rfl) rfl Tryd.underlying62 sizeB rfl rfl (by omega) ?_
          simp only [Act.put, List.setIfInBounds_toArray, List.set_cons_zero, List.set_cons_succ]
          refine wk_load_mid 33 _ g2 0 (blk b) _ (by first | exact wanted_none rfl | exact wanted_yes _ _ rfl rfl) rfl rfl (fun w' hC => pair_fst (hC.row (R10.out.get 6 rfl))) Tryd.underlying33 rfl (by rw [HBs.out]; exact sizeB) ?_
          simp only [Act.put, List.setIfInBounds_toArray, List.set_cons_zero, List.set_cons_succ]
          refine wk_call 57 _ _ _ _ _ (by kernel_rfl) rfl Tryd.func57 rfl (by kernel_rfl) (fun w' hC => hC.call (HG.out.zero w')) ?_
          simp only [Act.put, List.setIfInBounds_toArray, List.set_cons_zero, List.set_cons_succ]
          repeat (first
            | (refine wk_move _ (by first | exact wanted_none rfl | exact wanted_yes _ _ rfl rfl) rfl ?_; simp only [Act.put, Act.eval, Array.getD_eq_getD_getElem?, List.getElem?_toArray, List.getElem?_cons_succ, List.getElem?_cons_zero, Option.getD_some, List.setIfInBounds_toArray, List.set_cons_zero, List.set_cons_succ])
            | (refine wk_assign _ (by first | exact wanted_none rfl | exact wanted_yes _ _ rfl rfl) rfl ?_; simp only [Act.put, Act.eval, Array.getD_eq_getD_getElem?, List.getElem?_toArray, List.getElem?_cons_succ, List.getElem?_cons_zero, Option.getD_some, List.setIfInBounds_toArray, List.set_cons_zero, List.set_cons_succ])
            | (refine wk_pickt _ _ _ _ (by first | exact wanted_none rfl | exact wanted_yes _ _ rfl rfl) rfl rfl rfl ?_; simp only [Act.put, Act.eval, Array.getD_eq_getD_getElem?, List.getElem?_toArray, List.getElem?_cons_succ, List.getElem?_cons_zero, Option.getD_some, List.setIfInBounds_toArray, List.set_cons_zero, List.set_cons_succ])
            | (refine wk_pickf _ _ _ _ (by first | exact wanted_none rfl | exact wanted_yes _ _ rfl rfl) rfl rfl rfl ?_; simp only [Act.put, Act.eval, Array.getD_eq_getD_getElem?, List.getElem?_toArray, List.getElem?_cons_succ, List.getElem?_cons_zero, Option.getD_some, List.setIfInBounds_toArray, List.set_cons_zero, List.set_cons_succ])
            | (refine wk_skip (wanted_not _ true false rfl rfl rfl) ?_; simp only [Act.put, List.setIfInBounds_toArray, List.set_cons_zero, List.set_cons_succ])
            | (refine wk_skip (wanted_not _ false true rfl rfl rfl) ?_; simp only [Act.put, List.setIfInBounds_toArray, List.set_cons_zero, List.set_cons_succ])
            | (refine wk_skip (wanted_undef _ _ rfl rfl) ?_; simp only [Act.put, List.setIfInBounds_toArray, List.set_cons_zero, List.set_cons_succ])
            | (refine wk_not true _ _ (by first | exact wanted_none rfl | exact wanted_yes _ _ rfl rfl) rfl rfl ?_; simp only [Act.put, List.setIfInBounds_toArray, List.set_cons_zero, List.set_cons_succ])
            | (refine wk_not false _ _ (by first | exact wanted_none rfl | exact wanted_yes _ _ rfl rfl) rfl rfl ?_; simp only [Act.put, List.setIfInBounds_toArray, List.set_cons_zero, List.set_cons_succ]))
          refine wk_eql_int false _ _ _ _ _ _ _ (by kernel_rfl) rfl rfl rfl (HE.out) ?_
          simp only [Act.put, List.setIfInBounds_toArray, List.set_cons_zero, List.set_cons_succ]
          repeat (first
            | (refine wk_move _ (by first | exact wanted_none rfl | exact wanted_yes _ _ rfl rfl) rfl ?_; simp only [Act.put, Act.eval, Array.getD_eq_getD_getElem?, List.getElem?_toArray, List.getElem?_cons_succ, List.getElem?_cons_zero, Option.getD_some, List.setIfInBounds_toArray, List.set_cons_zero, List.set_cons_succ])
            | (refine wk_assign _ (by first | exact wanted_none rfl | exact wanted_yes _ _ rfl rfl) rfl ?_; simp only [Act.put, Act.eval, Array.getD_eq_getD_getElem?, List.getElem?_toArray, List.getElem?_cons_succ, List.getElem?_cons_zero, Option.getD_some, List.setIfInBounds_toArray, List.set_cons_zero, List.set_cons_succ])
            | (refine wk_pickt _ _ _ _ (by first | exact wanted_none rfl | exact wanted_yes _ _ rfl rfl) rfl rfl rfl ?_; simp only [Act.put, Act.eval, Array.getD_eq_getD_getElem?, List.getElem?_toArray, List.getElem?_cons_succ, List.getElem?_cons_zero, Option.getD_some, List.setIfInBounds_toArray, List.set_cons_zero, List.set_cons_succ])
            | (refine wk_pickf _ _ _ _ (by first | exact wanted_none rfl | exact wanted_yes _ _ rfl rfl) rfl rfl rfl ?_; simp only [Act.put, Act.eval, Array.getD_eq_getD_getElem?, List.getElem?_toArray, List.getElem?_cons_succ, List.getElem?_cons_zero, Option.getD_some, List.setIfInBounds_toArray, List.set_cons_zero, List.set_cons_succ])
            | (refine wk_skip (wanted_not _ true false rfl rfl rfl) ?_; simp only [Act.put, List.setIfInBounds_toArray, List.set_cons_zero, List.set_cons_succ])
            | (refine wk_skip (wanted_not _ false true rfl rfl rfl) ?_; simp only [Act.put, List.setIfInBounds_toArray, List.set_cons_zero, List.set_cons_succ])
            | (refine wk_skip (wanted_undef _ _ rfl rfl) ?_; simp only [Act.put, List.setIfInBounds_toArray, List.set_cons_zero, List.set_cons_succ])
            | (refine wk_not true _ _ (by first | exact wanted_none rfl | exact wanted_yes _ _ rfl rfl) rfl rfl ?_; simp only [Act.put, List.setIfInBounds_toArray, List.set_cons_zero, List.set_cons_succ])
            | (refine wk_not false _ _ (by first | exact wanted_none rfl | exact wanted_yes _ _ rfl rfl) rfl rfl ?_; simp only [Act.put, List.setIfInBounds_toArray, List.set_cons_zero, List.set_cons_succ]))
          refine wk_eql_int false _ _ _ _ _ _ _ (by kernel_rfl) rfl rfl rfl (HGG.out) ?_
          simp only [Act.put, List.setIfInBounds_toArray, List.set_cons_zero, List.set_cons_succ]
          repeat (first
            | (refine wk_move _ (by first | exact wanted_none rfl | exact wanted_yes _ _ rfl rfl) rfl ?_; simp only [Act.put, Act.eval, Array.getD_eq_getD_getElem?, List.getElem?_toArray, List.getElem?_cons_succ, List.getElem?_cons_zero, Option.getD_some, List.setIfInBounds_toArray, List.set_cons_zero, List.set_cons_succ])
            | (refine wk_assign _ (by first | exact wanted_none rfl | exact wanted_yes _ _ rfl rfl) rfl ?_; simp only [Act.put, Act.eval, Array.getD_eq_getD_getElem?, List.getElem?_toArray, List.getElem?_cons_succ, List.getElem?_cons_zero, Option.getD_some, List.setIfInBounds_toArray, List.set_cons_zero, List.set_cons_succ])
            | (refine wk_pickt _ _ _ _ (by first | exact wanted_none rfl | exact wanted_yes _ _ rfl rfl) rfl rfl rfl ?_; simp only [Act.put, Act.eval, Array.getD_eq_getD_getElem?, List.getElem?_toArray, List.getElem?_cons_succ, List.getElem?_cons_zero, Option.getD_some, List.setIfInBounds_toArray, List.set_cons_zero, List.set_cons_succ])
            | (refine wk_pickf _ _ _ _ (by first | exact wanted_none rfl | exact wanted_yes _ _ rfl rfl) rfl rfl rfl ?_; simp only [Act.put, Act.eval, Array.getD_eq_getD_getElem?, List.getElem?_toArray, List.getElem?_cons_succ, List.getElem?_cons_zero, Option.getD_some, List.setIfInBounds_toArray, List.set_cons_zero, List.set_cons_succ])
            | (refine wk_skip (wanted_not _ true false rfl rfl rfl) ?_; simp only [Act.put, List.setIfInBounds_toArray, List.set_cons_zero, List.set_cons_succ])
            | (refine wk_skip (wanted_not _ false true rfl rfl rfl) ?_; simp only [Act.put, List.setIfInBounds_toArray, List.set_cons_zero, List.set_cons_succ])
            | (refine wk_skip (wanted_undef _ _ rfl rfl) ?_; simp only [Act.put, List.setIfInBounds_toArray, List.set_cons_zero, List.set_cons_succ])
            | (refine wk_not true _ _ (by first | exact wanted_none rfl | exact wanted_yes _ _ rfl rfl) rfl rfl ?_; simp only [Act.put, List.setIfInBounds_toArray, List.set_cons_zero, List.set_cons_succ])
            | (refine wk_not false _ _ (by first | exact wanted_none rfl | exact wanted_yes _ _ rfl rfl) rfl rfl ?_; simp only [Act.put, List.setIfInBounds_toArray, List.set_cons_zero, List.set_cons_succ]))
          refine wk_nil ?_
          intro w' hC
          have R11 := Lib.hid ((R10.out.since hC).drop 6)
          clear hC
          go_wp2_with fail
          exact ⟨⟨0 + 1, _, by rfl, by omega, rfl, R11.out⟩, by simp [intOf]⟩
        · skip
          refine wk_region_since (by kernel_rfl) (by kernel_rfl) ?_
          repeat (first
            | (refine wk_move _ (by first | exact wanted_none rfl | exact wanted_yes _ _ rfl rfl) rfl ?_; simp only [Act.put, Act.eval, Array.getD_eq_getD_getElem?, List.getElem?_toArray, List.getElem?_cons_succ, List.getElem?_cons_zero, Option.getD_some, List.setIfInBounds_toArray, List.set_cons_zero, List.set_cons_succ])
            | (refine wk_assign _ (by first | exact wanted_none rfl | exact wanted_yes _ _ rfl rfl) rfl ?_; simp only [Act.put, Act.eval, Array.getD_eq_getD_getElem?, List.getElem?_toArray, List.getElem?_cons_succ, List.getElem?_cons_zero, Option.getD_some, List.setIfInBounds_toArray, List.set_cons_zero, List.set_cons_succ])
            | (refine wk_pickt _ _ _ _ (by first | exact wanted_none rfl | exact wanted_yes _ _ rfl rfl) rfl rfl rfl ?_; simp only [Act.put, Act.eval, Array.getD_eq_getD_getElem?, List.getElem?_toArray, List.getElem?_cons_succ, List.getElem?_cons_zero, Option.getD_some, List.setIfInBounds_toArray, List.set_cons_zero, List.set_cons_succ])
            | (refine wk_pickf _ _ _ _ (by first | exact wanted_none rfl | exact wanted_yes _ _ rfl rfl) rfl rfl rfl ?_; simp only [Act.put, Act.eval, Array.getD_eq_getD_getElem?, List.getElem?_toArray, List.getElem?_cons_succ, List.getElem?_cons_zero, Option.getD_some, List.setIfInBounds_toArray, List.set_cons_zero, List.set_cons_succ])
            | (refine wk_skip (wanted_not _ true false rfl rfl rfl) ?_; simp only [Act.put, List.setIfInBounds_toArray, List.set_cons_zero, List.set_cons_succ])
            | (refine wk_skip (wanted_not _ false true rfl rfl rfl) ?_; simp only [Act.put, List.setIfInBounds_toArray, List.set_cons_zero, List.set_cons_succ])
            | (refine wk_skip (wanted_undef _ _ rfl rfl) ?_; simp only [Act.put, List.setIfInBounds_toArray, List.set_cons_zero, List.set_cons_succ])
            | (refine wk_not true _ _ (by first | exact wanted_none rfl | exact wanted_yes _ _ rfl rfl) rfl rfl ?_; simp only [Act.put, List.setIfInBounds_toArray, List.set_cons_zero, List.set_cons_succ])
            | (refine wk_not false _ _ (by first | exact wanted_none rfl | exact wanted_yes _ _ rfl rfl) rfl rfl ?_; simp only [Act.put, List.setIfInBounds_toArray, List.set_cons_zero, List.set_cons_succ]))
          refine wk_index 62 33 _ _ g2 0 2 2 0 256 .i64 (by first | exact wanted_none rfl | exact wanted_yes _ _ rfl rfl) rfl Tryd.underlying62 sizeB rfl rfl (by omega) ?_
          simp only [Act.put, List.setIfInBounds_toArray, List.set_cons_zero, List.set_cons_succ]
          refine wk_load_mid 33 _ g2 0 (blk b) _ (by first | exact wanted_none rfl | exact wanted_yes _ _ rfl rfl) rfl rfl (fun w' hC => pair_fst (hC.row (R10.out.get 6 rfl))) Tryd.underlying33 rfl (by rw [HBs.out]; exact sizeB) ?_
          simp only [Act.put, List.setIfInBounds_toArray, List.set_cons_zero, List.set_cons_succ]
          refine wk_call 57 _ _ _ _ _ (by kernel_rfl) rfl Tryd.func57 rfl (by kernel_rfl) (fun w' hC => hC.call (HG.out.zero w')) ?_
          simp only [Act.put, List.setIfInBounds_toArray, List.set_cons_zero, List.set_cons_succ]
          repeat (first
            | (refine wk_move _ (by first | exact wanted_none rfl | exact wanted_yes _ _ rfl rfl) rfl ?_; simp only [Act.put, Act.eval, Array.getD_eq_getD_getElem?, List.getElem?_toArray, List.getElem?_cons_succ, List.getElem?_cons_zero, Option.getD_some, List.setIfInBounds_toArray, List.set_cons_zero, List.set_cons_succ])
            | (refine wk_assign _ (by first | exact wanted_none rfl | exact wanted_yes _ _ rfl rfl) rfl ?_; simp only [Act.put, Act.eval, Array.getD_eq_getD_getElem?, List.getElem?_toArray, List.getElem?_cons_succ, List.getElem?_cons_zero, Option.getD_some, List.setIfInBounds_toArray, List.set_cons_zero, List.set_cons_succ])
            | (refine wk_pickt _ _ _ _ (by first | exact wanted_none rfl | exact wanted_yes _ _ rfl rfl) rfl rfl rfl ?_; simp only [Act.put, Act.eval, Array.getD_eq_getD_getElem?, List.getElem?_toArray, List.getElem?_cons_succ, List.getElem?_cons_zero, Option.getD_some, List.setIfInBounds_toArray, List.set_cons_zero, List.set_cons_succ])
            | (refine wk_pickf _ _ _ _ (by first | exact wanted_none rfl | exact wanted_yes _ _ rfl rfl) rfl rfl rfl ?_; simp only [Act.put, Act.eval, Array.getD_eq_getD_getElem?, List.getElem?_toArray, List.getElem?_cons_succ, List.getElem?_cons_zero, Option.getD_some, List.setIfInBounds_toArray, List.set_cons_zero, List.set_cons_succ])
            | (refine wk_skip (wanted_not _ true false rfl rfl rfl) ?_; simp only [Act.put, List.setIfInBounds_toArray, List.set_cons_zero, List.set_cons_succ])
            | (refine wk_skip (wanted_not _ false true rfl rfl rfl) ?_; simp only [Act.put, List.setIfInBounds_toArray, List.set_cons_zero, List.set_cons_succ])
            | (refine wk_skip (wanted_undef _ _ rfl rfl) ?_; simp only [Act.put, List.setIfInBounds_toArray, List.set_cons_zero, List.set_cons_succ])
            | (refine wk_not true _ _ (by first | exact wanted_none rfl | exact wanted_yes _ _ rfl rfl) rfl rfl ?_; simp only [Act.put, List.setIfInBounds_toArray, List.set_cons_zero, List.set_cons_succ])
            | (refine wk_not false _ _ (by first | exact wanted_none rfl | exact wanted_yes _ _ rfl rfl) rfl rfl ?_; simp only [Act.put, List.setIfInBounds_toArray, List.set_cons_zero, List.set_cons_succ]))
          refine wk_eql_int false _ _ _ _ _ _ _ (by kernel_rfl) rfl rfl rfl (HE.out) ?_
          simp only [Act.put, List.setIfInBounds_toArray, List.set_cons_zero, List.set_cons_succ]
          repeat (first
            | (refine wk_move _ (by first | exact wanted_none rfl | exact wanted_yes _ _ rfl rfl) rfl ?_; simp only [Act.put, Act.eval, Array.getD_eq_getD_getElem?, List.getElem?_toArray, List.getElem?_cons_succ, List.getElem?_cons_zero, Option.getD_some, List.setIfInBounds_toArray, List.set_cons_zero, List.set_cons_succ])
            | (refine wk_assign _ (by first | exact wanted_none rfl | exact wanted_yes _ _ rfl rfl) rfl ?_; simp only [Act.put, Act.eval, Array.getD_eq_getD_getElem?, List.getElem?_toArray, List.getElem?_cons_succ, List.getElem?_cons_zero, Option.getD_some, List.setIfInBounds_toArray, List.set_cons_zero, List.set_cons_succ])
            | (refine wk_pickt _ _ _ _ (by first | exact wanted_none rfl | exact wanted_yes _ _ rfl rfl) rfl rfl rfl ?_; simp only [Act.put, Act.eval, Array.getD_eq_getD_getElem?, List.getElem?_toArray, List.getElem?_cons_succ, List.getElem?_cons_zero, Option.getD_some, List.setIfInBounds_toArray, List.set_cons_zero, List.set_cons_succ])
            | (refine wk_pickf _ _ _ _ (by first | exact wanted_none rfl | exact wanted_yes _ _ rfl rfl) rfl rfl rfl ?_; simp only [Act.put, Act.eval, Array.getD_eq_getD_getElem?, List.getElem?_toArray, List.getElem?_cons_succ, List.getElem?_cons_zero, Option.getD_some, List.setIfInBounds_toArray, List.set_cons_zero, List.set_cons_succ])
            | (refine wk_skip (wanted_not _ true false rfl rfl rfl) ?_; simp only [Act.put, List.setIfInBounds_toArray, List.set_cons_zero, List.set_cons_succ])
            | (refine wk_skip (wanted_not _ false true rfl rfl rfl) ?_; simp only [Act.put, List.setIfInBounds_toArray, List.set_cons_zero, List.set_cons_succ])
            | (refine wk_skip (wanted_undef _ _ rfl rfl) ?_; simp only [Act.put, List.setIfInBounds_toArray, List.set_cons_zero, List.set_cons_succ])
            | (refine wk_not true _ _ (by first | exact wanted_none rfl | exact wanted_yes _ _ rfl rfl) rfl rfl ?_; simp only [Act.put, List.setIfInBounds_toArray, List.set_cons_zero, List.set_cons_succ])
            | (refine wk_not false _ _ (by first | exact wanted_none rfl | exact wanted_yes _ _ rfl rfl) rfl rfl ?_; simp only [Act.put, List.setIfInBounds_toArray, List.set_cons_zero, List.set_cons_succ]))
          refine wk_eql_int true _ _ _ _ _ _ _ (by kernel_rfl) rfl rfl rfl (HGG.out) ?_
          simp only [Act.put, List.setIfInBounds_toArray, List.set_cons_zero, List.set_cons_succ]
          repeat (first
            | (refine wk_move _ (by first | exact wanted_none rfl | exact wanted_yes _ _ rfl rfl) rfl ?_; simp only [Act.put, Act.eval, Array.getD_eq_getD_getElem?, List.getElem?_toArray, List.getElem?_cons_succ, List.getElem?_cons_zero, Option.getD_some, List.setIfInBounds_toArray, List.set_cons_zero, List.set_cons_succ])
            | (refine wk_assign _ (by first | exact wanted_none rfl | exact wanted_yes _ _ rfl rfl) rfl ?_; simp only [Act.put, Act.eval, Array.getD_eq_getD_getElem?, List.getElem?_toArray, List.getElem?_cons_succ, List.getElem?_cons_zero, Option.getD_some, List.setIfInBounds_toArray, List.set_cons_zero, List.set_cons_succ])
            | (refine wk_pickt _ _ _ _ (by first | exact wanted_none rfl | exact wanted_yes _ _ rfl rfl) rfl rfl rfl ?_; simp only [Act.put, Act.eval, Array.getD_eq_getD_getElem?, List.getElem?_toArray, List.getElem?_cons_succ, List.getElem?_cons_zero, Option.getD_some, List.setIfInBounds_toArray, List.set_cons_zero, List.set_cons_succ])
            | (refine wk_pickf _ _ _ _ (by first | exact wanted_none rfl | exact wanted_yes _ _ rfl rfl) rfl rfl rfl ?_; simp only [Act.put, Act.eval, Array.getD_eq_getD_getElem?, List.getElem?_toArray, List.getElem?_cons_succ, List.getElem?_cons_zero, Option.getD_some, List.setIfInBounds_toArray, List.set_cons_zero, List.set_cons_succ])
            | (refine wk_skip (wanted_not _ true false rfl rfl rfl) ?_; simp only [Act.put, List.setIfInBounds_toArray, List.set_cons_zero, List.set_cons_succ])
            | (refine wk_skip (wanted_not _ false true rfl rfl rfl) ?_; simp only [Act.put, List.setIfInBounds_toArray, List.set_cons_zero, List.set_cons_succ])
            | (refine wk_skip (wanted_undef _ _ rfl rfl) ?_; simp only [Act.put, List.setIfInBounds_toArray, List.set_cons_zero, List.set_cons_succ])
            | (refine wk_not true _ _ (by first | exact wanted_none rfl | exact wanted_yes _ _ rfl rfl) rfl rfl ?_; simp only [Act.put, List.setIfInBounds_toArray, List.set_cons_zero, List.set_cons_succ])
            | (refine wk_not false _ _ (by first | exact wanted_none rfl | exact wanted_yes _ _ rfl rfl) rfl rfl ?_; simp only [Act.put, List.setIfInBounds_toArray, List.set_cons_zero, List.set_cons_succ]))
          refine wk_load_row 33 _ g9 33 (blk b) (0, 0) _ (by kernel_rfl) rfl rfl (fun w' hC => hC.row (R10.out.get (9 - 9) rfl)) Tryd.underlying33 rfl (by rw [HBs.out]; exact sizeB) ?_
          simp only [Act.put, List.setIfInBounds_toArray, List.set_cons_zero, List.set_cons_succ]
          repeat (first
            | (refine wk_move _ (by first | exact wanted_none rfl | exact wanted_yes _ _ rfl rfl) rfl ?_; simp only [Act.put, Act.eval, Array.getD_eq_getD_getElem?, List.getElem?_toArray, List.getElem?_cons_succ, List.getElem?_cons_zero, Option.getD_some, List.setIfInBounds_toArray, List.set_cons_zero, List.set_cons_succ])
            | (refine wk_assign _ (by first | exact wanted_none rfl | exact wanted_yes _ _ rfl rfl) rfl ?_; simp only [Act.put, Act.eval, Array.getD_eq_getD_getElem?, List.getElem?_toArray, List.getElem?_cons_succ, List.getElem?_cons_zero, Option.getD_some, List.setIfInBounds_toArray, List.set_cons_zero, List.set_cons_succ])
            | (refine wk_pickt _ _ _ _ (by first | exact wanted_none rfl | exact wanted_yes _ _ rfl rfl) rfl rfl rfl ?_; simp only [Act.put, Act.eval, Array.getD_eq_getD_getElem?, List.getElem?_toArray, List.getElem?_cons_succ, List.getElem?_cons_zero, Option.getD_some, List.setIfInBounds_toArray, List.set_cons_zero, List.set_cons_succ])
            | (refine wk_pickf _ _ _ _ (by first | exact wanted_none rfl | exact wanted_yes _ _ rfl rfl) rfl rfl rfl ?_; simp only [Act.put, Act.eval, Array.getD_eq_getD_getElem?, List.getElem?_toArray, List.getElem?_cons_succ, List.getElem?_cons_zero, Option.getD_some, List.setIfInBounds_toArray, List.set_cons_zero, List.set_cons_succ])
            | (refine wk_skip (wanted_not _ true false rfl rfl rfl) ?_; simp only [Act.put, List.setIfInBounds_toArray, List.set_cons_zero, List.set_cons_succ])
            | (refine wk_skip (wanted_not _ false true rfl rfl rfl) ?_; simp only [Act.put, List.setIfInBounds_toArray, List.set_cons_zero, List.set_cons_succ])
            | (refine wk_skip (wanted_undef _ _ rfl rfl) ?_; simp only [Act.put, List.setIfInBounds_toArray, List.set_cons_zero, List.set_cons_succ])
            | (refine wk_not true _ _ (by first | exact wanted_none rfl | exact wanted_yes _ _ rfl rfl) rfl rfl ?_; simp only [Act.put, List.setIfInBounds_toArray, List.set_cons_zero, List.set_cons_succ])
            | (refine wk_not false _ _ (by first | exact wanted_none rfl | exact wanted_yes _ _ rfl rfl) rfl rfl ?_; simp only [Act.put, List.setIfInBounds_toArray, List.set_cons_zero, List.set_cons_succ]))
          refine wk_index 62 33 _ _ g2 0 2 2 0 256 .i64 (by first | exact wanted_none rfl | exact wanted_yes _ _ rfl rfl) rfl Tryd.underlying62 sizeB rfl rfl (by omega) ?_
          simp only [Act.put, List.setIfInBounds_toArray, List.set_cons_zero, List.set_cons_succ]
          refine wk_load_mid 33 _ g2 0 (blk b) _ (by first | exact wanted_none rfl | exact wanted_yes _ _ rfl rfl) rfl rfl (fun w' hC => pair_fst (hC.row (R10.out.get 6 rfl))) Tryd.underlying33 rfl (by rw [HBs.out]; exact sizeB) ?_
          simp only [Act.put, List.setIfInBounds_toArray, List.set_cons_zero, List.set_cons_succ]
          refine wk_eql .neq (false) 33 33 _ _ (by first | exact wanted_none rfl | exact wanted_yes _ _ rfl rfl) rfl _ _ rfl rfl (by kernel_rfl) (fun w => HG.out.eql w) ?_
          simp only [Act.put, List.setIfInBounds_toArray, List.set_cons_zero, List.set_cons_succ]
          repeat (first
            | (refine wk_move _ (by first | exact wanted_none rfl | exact wanted_yes _ _ rfl rfl) rfl ?_; simp only [Act.put, Act.eval, Array.getD_eq_getD_getElem?, List.getElem?_toArray, List.getElem?_cons_succ, List.getElem?_cons_zero, Option.getD_some, List.setIfInBounds_toArray, List.set_cons_zero, List.set_cons_succ])
            | (refine wk_assign _ (by first | exact wanted_none rfl | exact wanted_yes _ _ rfl rfl) rfl ?_; simp only [Act.put, Act.eval, Array.getD_eq_getD_getElem?, List.getElem?_toArray, List.getElem?_cons_succ, List.getElem?_cons_zero, Option.getD_some, List.setIfInBounds_toArray, List.set_cons_zero, List.set_cons_succ])
            | (refine wk_pickt _ _ _ _ (by first | exact wanted_none rfl | exact wanted_yes _ _ rfl rfl) rfl rfl rfl ?_; simp only [Act.put, Act.eval, Array.getD_eq_getD_getElem?, List.getElem?_toArray, List.getElem?_cons_succ, List.getElem?_cons_zero, Option.getD_some, List.setIfInBounds_toArray, List.set_cons_zero, List.set_cons_succ])
            | (refine wk_pickf _ _ _ _ (by first | exact wanted_none rfl | exact wanted_yes _ _ rfl rfl) rfl rfl rfl ?_; simp only [Act.put, Act.eval, Array.getD_eq_getD_getElem?, List.getElem?_toArray, List.getElem?_cons_succ, List.getElem?_cons_zero, Option.getD_some, List.setIfInBounds_toArray, List.set_cons_zero, List.set_cons_succ])
            | (refine wk_skip (wanted_not _ true false rfl rfl rfl) ?_; simp only [Act.put, List.setIfInBounds_toArray, List.set_cons_zero, List.set_cons_succ])
            | (refine wk_skip (wanted_not _ false true rfl rfl rfl) ?_; simp only [Act.put, List.setIfInBounds_toArray, List.set_cons_zero, List.set_cons_succ])
            | (refine wk_skip (wanted_undef _ _ rfl rfl) ?_; simp only [Act.put, List.setIfInBounds_toArray, List.set_cons_zero, List.set_cons_succ])
            | (refine wk_not true _ _ (by first | exact wanted_none rfl | exact wanted_yes _ _ rfl rfl) rfl rfl ?_; simp only [Act.put, List.setIfInBounds_toArray, List.set_cons_zero, List.set_cons_succ])
            | (refine wk_not false _ _ (by first | exact wanted_none rfl | exact wanted_yes _ _ rfl rfl) rfl rfl ?_; simp only [Act.put, List.setIfInBounds_toArray, List.set_cons_zero, List.set_cons_succ]))
          refine wk_nil ?_
          intro w' hC
          have R11 := Lib.hid ((R10.out.since hC).drop 6)
          clear hC
          go_wp2_with fail
          exact ⟨⟨0 + 1, _, by rfl, by omega, rfl, R11.out⟩, by simp [intOf]⟩
        · skip
          refine wk_region_since (by kernel_rfl) (by kernel_rfl) ?_
          repeat (first
            | (refine wk_move _ (by first | exact wanted_none rfl | exact wanted_yes _ _ rfl rfl) rfl ?_; simp only [Act.put, Act.eval, Array.getD_eq_getD_getElem?, List.getElem?_toArray, List.getElem?_cons_succ, List.getElem?_cons_zero, Option.getD_some, List.setIfInBounds_toArray, List.set_cons_zero, List.set_cons_succ])
            | (refine wk_assign _ (by first | exact wanted_none rfl | exact wanted_yes _ _ rfl rfl) rfl ?_; simp only [Act.put, Act.eval, Array.getD_eq_getD_getElem?, List.getElem?_toArray, List.getElem?_cons_succ, List.getElem?_cons_zero, Option.getD_some, List.setIfInBounds_toArray, List.set_cons_zero, List.set_cons_succ])
            | (refine wk_pickt _ _ _ _ (by first | exact wanted_none rfl | exact wanted_yes _ _ rfl rfl) rfl rfl rfl ?_; simp only [Act.put, Act.eval, Array.getD_eq_getD_getElem?, List.getElem?_toArray, List.getElem?_cons_succ, List.getElem?_cons_zero, Option.getD_some, List.setIfInBounds_toArray, List.set_cons_zero, List.set_cons_succ])
            | (refine wk_pickf _ _ _ _ (by first | exact wanted_none rfl | exact wanted_yes _ _ rfl rfl) rfl rfl rfl ?_; simp only [Act.put, Act.eval, Array.getD_eq_getD_getElem?, List.getElem?_toArray, List.getElem?_cons_succ, List.getElem?_cons_zero, Option.getD_some, List.setIfInBounds_toArray, List.set_cons_zero, List.set_cons_succ])
            | (refine wk_skip (wanted_not _ true false rfl rfl rfl) ?_; simp only [Act.put, List.setIfInBounds_toArray, List.set_cons_zero, List.set_cons_succ])
            | (refine wk_skip (wanted_not _ false true rfl rfl rfl) ?_; simp only [Act.put, List.setIfInBounds_toArray, List.set_cons_zero, List.set_cons_succ])
            | (refine wk_skip (wanted_undef _ _ rfl rfl) ?_; simp only [Act.put, List.setIfInBounds_toArray, List.set_cons_zero, List.set_cons_succ])
            | (refine wk_not true _ _ (by first | exact wanted_none rfl | exact wanted_yes _ _ rfl rfl) rfl rfl ?_; simp only [Act.put, List.setIfInBounds_toArray, List.set_cons_zero, List.set_cons_succ])
            | (refine wk_not false _ _ (by first | exact wanted_none rfl | exact wanted_yes _ _ rfl rfl) rfl rfl ?_; simp only [Act.put, List.setIfInBounds_toArray, List.set_cons_zero, List.set_cons_succ]))
          refine wk_index 62 33 _ _ g2 0 2 2 0 256 .i64 (by first | exact wanted_none rfl | exact wanted_yes _ _ rfl rfl) rfl Tryd.underlying62 sizeB rfl rfl (by omega) ?_
          simp only [Act.put, List.setIfInBounds_toArray, List.set_cons_zero, List.set_cons_succ]
          refine wk_load_mid 33 _ g2 0 (blk b) _ (by first | exact wanted_none rfl | exact wanted_yes _ _ rfl rfl) rfl rfl (fun w' hC => pair_fst (hC.row (R10.out.get 6 rfl))) Tryd.underlying33 rfl (by rw [HBs.out]; exact sizeB) ?_
          simp only [Act.put, List.setIfInBounds_toArray, List.set_cons_zero, List.set_cons_succ]
          refine wk_call 57 _ _ _ _ _ (by kernel_rfl) rfl Tryd.func57 rfl (by kernel_rfl) (fun w' hC => hC.call (HG.out.zero w')) ?_
          simp only [Act.put, List.setIfInBounds_toArray, List.set_cons_zero, List.set_cons_succ]
          repeat (first
            | (refine wk_move _ (by first | exact wanted_none rfl | exact wanted_yes _ _ rfl rfl) rfl ?_; simp only [Act.put, Act.eval, Array.getD_eq_getD_getElem?, List.getElem?_toArray, List.getElem?_cons_succ, List.getElem?_cons_zero, Option.getD_some, List.setIfInBounds_toArray, List.set_cons_zero, List.set_cons_succ])
            | (refine wk_assign _ (by first | exact wanted_none rfl | exact wanted_yes _ _ rfl rfl) rfl ?_; simp only [Act.put, Act.eval, Array.getD_eq_getD_getElem?, List.getElem?_toArray, List.getElem?_cons_succ, List.getElem?_cons_zero, Option.getD_some, List.setIfInBounds_toArray, List.set_cons_zero, List.set_cons_succ])
            | (refine wk_pickt _ _ _ _ (by first | exact wanted_none rfl | exact wanted_yes _ _ rfl rfl) rfl rfl rfl ?_; simp only [Act.put, Act.eval, Array.getD_eq_getD_getElem?, List.getElem?_toArray, List.getElem?_cons_succ, List.getElem?_cons_zero, Option.getD_some, List.setIfInBounds_toArray, List.set_cons_zero, List.set_cons_succ])
            | (refine wk_pickf _ _ _ _ (by first | exact wanted_none rfl | exact wanted_yes _ _ rfl rfl) rfl rfl rfl ?_; simp only [Act.put, Act.eval, Array.getD_eq_getD_getElem?, List.getElem?_toArray, List.getElem?_cons_succ, List.getElem?_cons_zero, Option.getD_some, List.setIfInBounds_toArray, List.set_cons_zero, List.set_cons_succ])
            | (refine wk_skip (wanted_not _ true false rfl rfl rfl) ?_; simp only [Act.put, List.setIfInBounds_toArray, List.set_cons_zero, List.set_cons_succ])
            | (refine wk_skip (wanted_not _ false true rfl rfl rfl) ?_; simp only [Act.put, List.setIfInBounds_toArray, List.set_cons_zero, List.set_cons_succ])
            | (refine wk_skip (wanted_undef _ _ rfl rfl) ?_; simp only [Act.put, List.setIfInBounds_toArray, List.set_cons_zero, List.set_cons_succ])
            | (refine wk_not true _ _ (by first | exact wanted_none rfl | exact wanted_yes _ _ rfl rfl) rfl rfl ?_; simp only [Act.put, List.setIfInBounds_toArray, List.set_cons_zero, List.set_cons_succ])
            | (refine wk_not false _ _ (by first | exact wanted_none rfl | exact wanted_yes _ _ rfl rfl) rfl rfl ?_; simp only [Act.put, List.setIfInBounds_toArray, List.set_cons_zero, List.set_cons_succ]))
          refine wk_eql_int true _ _ _ _ _ _ _ (by kernel_rfl) rfl rfl rfl (HE.out) ?_
          simp only [Act.put, List.setIfInBounds_toArray, List.set_cons_zero, List.set_cons_succ]
          repeat (first
            | (refine wk_move _ (by first | exact wanted_none rfl | exact wanted_yes _ _ rfl rfl) rfl ?_; simp only [Act.put, Act.eval, Array.getD_eq_getD_getElem?, List.getElem?_toArray, List.getElem?_cons_succ, List.getElem?_cons_zero, Option.getD_some, List.setIfInBounds_toArray, List.set_cons_zero, List.set_cons_succ])
            | (refine wk_assign _ (by first | exact wanted_none rfl | exact wanted_yes _ _ rfl rfl) rfl ?_; simp only [Act.put, Act.eval, Array.getD_eq_getD_getElem?, List.getElem?_toArray, List.getElem?_cons_succ, List.getElem?_cons_zero, Option.getD_some, List.setIfInBounds_toArray, List.set_cons_zero, List.set_cons_succ])
            | (refine wk_pickt _ _ _ _ (by first | exact wanted_none rfl | exact wanted_yes _ _ rfl rfl) rfl rfl rfl ?_; simp only [Act.put, Act.eval, Array.getD_eq_getD_getElem?, List.getElem?_toArray, List.getElem?_cons_succ, List.getElem?_cons_zero, Option.getD_some, List.setIfInBounds_toArray, List.set_cons_zero, List.set_cons_succ])
            | (refine wk_pickf _ _ _ _ (by first | exact wanted_none rfl | exact wanted_yes _ _ rfl rfl) rfl rfl rfl ?_; simp only [Act.put, Act.eval, Array.getD_eq_getD_getElem?, List.getElem?_toArray, List.getElem?_cons_succ, List.getElem?_cons_zero, Option.getD_some, List.setIfInBounds_toArray, List.set_cons_zero, List.set_cons_succ])
            | (refine wk_skip (wanted_not _ true false rfl rfl rfl) ?_; simp only [Act.put, List.setIfInBounds_toArray, List.set_cons_zero, List.set_cons_succ])
            | (refine wk_skip (wanted_not _ false true rfl rfl rfl) ?_; simp only [Act.put, List.setIfInBounds_toArray, List.set_cons_zero, List.set_cons_succ])
            | (refine wk_skip (wanted_undef _ _ rfl rfl) ?_; simp only [Act.put, List.setIfInBounds_toArray, List.set_cons_zero, List.set_cons_succ])
            | (refine wk_not true _ _ (by first | exact wanted_none rfl | exact wanted_yes _ _ rfl rfl) rfl rfl ?_; simp only [Act.put, List.setIfInBounds_toArray, List.set_cons_zero, List.set_cons_succ])
            | (refine wk_not false _ _ (by first | exact wanted_none rfl | exact wanted_yes _ _ rfl rfl) rfl rfl ?_; simp only [Act.put, List.setIfInBounds_toArray, List.set_cons_zero, List.set_cons_succ]))
          refine wk_load_row 33 _ g8 33 (blk b) (0, 0) _ (by kernel_rfl) rfl rfl (fun w' hC => hC.row (R10.out.get (9 - 8) rfl)) Tryd.underlying33 rfl (by rw [HBs.out]; exact sizeB) ?_
          simp only [Act.put, List.setIfInBounds_toArray, List.set_cons_zero, List.set_cons_succ]
          repeat (first
            | (refine wk_move _ (by first | exact wanted_none rfl | exact wanted_yes _ _ rfl rfl) rfl ?_; simp only [Act.put, Act.eval, Array.getD_eq_getD_getElem?, List.getElem?_toArray, List.getElem?_cons_succ, List.getElem?_cons_zero, Option.getD_some, List.setIfInBounds_toArray, List.set_cons_zero, List.set_cons_succ])
            | (refine wk_assign _ (by first | exact wanted_none rfl | exact wanted_yes _ _ rfl rfl) rfl ?_; simp only [Act.put, Act.eval, Array.getD_eq_getD_getElem?, List.getElem?_toArray, List.getElem?_cons_succ, List.getElem?_cons_zero, Option.getD_some, List.setIfInBounds_toArray, List.set_cons_zero, List.set_cons_succ])
            | (refine wk_pickt _ _ _ _ (by first | exact wanted_none rfl | exact wanted_yes _ _ rfl rfl) rfl rfl rfl ?_; simp only [Act.put, Act.eval, Array.getD_eq_getD_getElem?, List.getElem?_toArray, List.getElem?_cons_succ, List.getElem?_cons_zero, Option.getD_some, List.setIfInBounds_toArray, List.set_cons_zero, List.set_cons_succ])
            | (refine wk_pickf _ _ _ _ (by first | exact wanted_none rfl | exact wanted_yes _ _ rfl rfl) rfl rfl rfl ?_; simp only [Act.put, Act.eval, Array.getD_eq_getD_getElem?, List.getElem?_toArray, List.getElem?_cons_succ, List.getElem?_cons_zero, Option.getD_some, List.setIfInBounds_toArray, List.set_cons_zero, List.set_cons_succ])
            | (refine wk_skip (wanted_not _ true false rfl rfl rfl) ?_; simp only [Act.put, List.setIfInBounds_toArray, List.set_cons_zero, List.set_cons_succ])
            | (refine wk_skip (wanted_not _ false true rfl rfl rfl) ?_; simp only [Act.put, List.setIfInBounds_toArray, List.set_cons_zero, List.set_cons_succ])
            | (refine wk_skip (wanted_undef _ _ rfl rfl) ?_; simp only [Act.put, List.setIfInBounds_toArray, List.set_cons_zero, List.set_cons_succ])
            | (refine wk_not true _ _ (by first | exact wanted_none rfl | exact wanted_yes _ _ rfl rfl) rfl rfl ?_; simp only [Act.put, List.setIfInBounds_toArray, List.set_cons_zero, List.set_cons_succ])
            | (refine wk_not false _ _ (by first | exact wanted_none rfl | exact wanted_yes _ _ rfl rfl) rfl rfl ?_; simp only [Act.put, List.setIfInBounds_toArray, List.set_cons_zero, List.set_cons_succ]))
          refine wk_index 62 33 _ _ g2 0 2 2 0 256 .i64 (by first | exact wanted_none rfl | exact wanted_yes _ _ rfl rfl) rfl Tryd.underlying62 sizeB rfl rfl (by omega) ?_
          simp only [Act.put, List.setIfInBounds_toArray, List.set_cons_zero, List.set_cons_succ]
          refine wk_load_mid 33 _ g2 0 (blk b) _ (by first | exact wanted_none rfl | exact wanted_yes _ _ rfl rfl) rfl rfl (fun w' hC => pair_fst (hC.row (R10.out.get 6 rfl))) Tryd.underlying33 rfl (by rw [HBs.out]; exact sizeB) ?_
          simp only [Act.put, List.setIfInBounds_toArray, List.set_cons_zero, List.set_cons_succ]
          refine wk_eql .neq (false) 33 33 _ _ (by first | exact wanted_none rfl | exact wanted_yes _ _ rfl rfl) rfl _ _ rfl rfl (by kernel_rfl) (fun w => HG.out.eql w) ?_
          simp only [Act.put, List.setIfInBounds_toArray, List.set_cons_zero, List.set_cons_succ]
          repeat (first
            | (refine wk_move _ (by first | exact wanted_none rfl | exact wanted_yes _ _ rfl rfl) rfl ?_; simp only [Act.put, Act.eval, Array.getD_eq_getD_getElem?, List.getElem?_toArray, List.getElem?_cons_succ, List.getElem?_cons_zero, Option.getD_some, List.setIfInBounds_toArray, List.set_cons_zero, List.set_cons_succ])
            | (refine wk_assign _ (by first | exact wanted_none rfl | exact wanted_yes _ _ rfl rfl) rfl ?_; simp only [Act.put, Act.eval, Array.getD_eq_getD_getElem?, List.getElem?_toArray, List.getElem?_cons_succ, List.getElem?_cons_zero, Option.getD_some, List.setIfInBounds_toArray, List.set_cons_zero, List.set_cons_succ])
            | (refine wk_pickt _ _ _ _ (by first | exact wanted_none rfl | exact wanted_yes _ _ rfl rfl) rfl rfl rfl ?_; simp only [Act.put, Act.eval, Array.getD_eq_getD_getElem?, List.getElem?_toArray, List.getElem?_cons_succ, List.getElem?_cons_zero, Option.getD_some, List.setIfInBounds_toArray, List.set_cons_zero, List.set_cons_succ])
            | (refine wk_pickf _ _ _ _ (by first | exact wanted_none rfl | exact wanted_yes _ _ rfl rfl) rfl rfl rfl ?_; simp only [Act.put, Act.eval, Array.getD_eq_getD_getElem?, List.getElem?_toArray, List.getElem?_cons_succ, List.getElem?_cons_zero, Option.getD_some, List.setIfInBounds_toArray, List.set_cons_zero, List.set_cons_succ])
            | (refine wk_skip (wanted_not _ true false rfl rfl rfl) ?_; simp only [Act.put, List.setIfInBounds_toArray, List.set_cons_zero, List.set_cons_succ])
            | (refine wk_skip (wanted_not _ false true rfl rfl rfl) ?_; simp only [Act.put, List.setIfInBounds_toArray, List.set_cons_zero, List.set_cons_succ])
            | (refine wk_skip (wanted_undef _ _ rfl rfl) ?_; simp only [Act.put, List.setIfInBounds_toArray, List.set_cons_zero, List.set_cons_succ])
            | (refine wk_not true _ _ (by first | exact wanted_none rfl | exact wanted_yes _ _ rfl rfl) rfl rfl ?_; simp only [Act.put, List.setIfInBounds_toArray, List.set_cons_zero, List.set_cons_succ])
            | (refine wk_not false _ _ (by first | exact wanted_none rfl | exact wanted_yes _ _ rfl rfl) rfl rfl ?_; simp only [Act.put, List.setIfInBounds_toArray, List.set_cons_zero, List.set_cons_succ]))
          refine wk_eql_int false _ _ _ _ _ _ _ (by kernel_rfl) rfl rfl rfl (HGG.out) ?_
          simp only [Act.put, List.setIfInBounds_toArray, List.set_cons_zero, List.set_cons_succ]
          repeat (first
            | (refine wk_move _ (by first | exact wanted_none rfl | exact wanted_yes _ _ rfl rfl) rfl ?_; simp only [Act.put, Act.eval, Array.getD_eq_getD_getElem?, List.getElem?_toArray, List.getElem?_cons_succ, List.getElem?_cons_zero, Option.getD_some, List.setIfInBounds_toArray, List.set_cons_zero, List.set_cons_succ])
            | (refine wk_assign _ (by first | exact wanted_none rfl | exact wanted_yes _ _ rfl rfl) rfl ?_; simp only [Act.put, Act.eval, Array.getD_eq_getD_getElem?, List.getElem?_toArray, List.getElem?_cons_succ, List.getElem?_cons_zero, Option.getD_some, List.setIfInBounds_toArray, List.set_cons_zero, List.set_cons_succ])
            | (refine wk_pickt _ _ _ _ (by first | exact wanted_none rfl | exact wanted_yes _ _ rfl rfl) rfl rfl rfl ?_; simp only [Act.put, Act.eval, Array.getD_eq_getD_getElem?, List.getElem?_toArray, List.getElem?_cons_succ, List.getElem?_cons_zero, Option.getD_some, List.setIfInBounds_toArray, List.set_cons_zero, List.set_cons_succ])
            | (refine wk_pickf _ _ _ _ (by first | exact wanted_none rfl | exact wanted_yes _ _ rfl rfl) rfl rfl rfl ?_; simp only [Act.put, Act.eval, Array.getD_eq_getD_getElem?, List.getElem?_toArray, List.getElem?_cons_succ, List.getElem?_cons_zero, Option.getD_some, List.setIfInBounds_toArray, List.set_cons_zero, List.set_cons_succ])
            | (refine wk_skip (wanted_not _ true false rfl rfl rfl) ?_; simp only [Act.put, List.setIfInBounds_toArray, List.set_cons_zero, List.set_cons_succ])
            | (refine wk_skip (wanted_not _ false true rfl rfl rfl) ?_; simp only [Act.put, List.setIfInBounds_toArray, List.set_cons_zero, List.set_cons_succ])
            | (refine wk_skip (wanted_undef _ _ rfl rfl) ?_; simp only [Act.put, List.setIfInBounds_toArray, List.set_cons_zero, List.set_cons_succ])
            | (refine wk_not true _ _ (by first | exact wanted_none rfl | exact wanted_yes _ _ rfl rfl) rfl rfl ?_; simp only [Act.put, List.setIfInBounds_toArray, List.set_cons_zero, List.set_cons_succ])
            | (refine wk_not false _ _ (by first | exact wanted_none rfl | exact wanted_yes _ _ rfl rfl) rfl rfl ?_; simp only [Act.put, List.setIfInBounds_toArray, List.set_cons_zero, List.set_cons_succ]))
          refine wk_nil ?_
          intro w' hC
          have R11 := Lib.hid ((R10.out.since hC).drop 6)
          clear hC
          go_wp2_with fail
          exact ⟨⟨0 + 1, _, by rfl, by omega, rfl, R11.out⟩, by simp [intOf]⟩
        · skip
          refine wk_region_since (by kernel_rfl) (by kernel_rfl) ?_
          repeat (first
            | (refine wk_move _ (by first | exact wanted_none rfl | exact wanted_yes _ _ rfl rfl) rfl ?_; simp only [Act.put, Act.eval, Array.getD_eq_getD_getElem?, List.getElem?_toArray, List.getElem?_cons_succ, List.getElem?_cons_zero, Option.getD_some, List.setIfInBounds_toArray, List.set_cons_zero, List.set_cons_succ])
            | (refine wk_assign _ (by first | exact wanted_none rfl | exact wanted_yes _ _ rfl rfl) rfl ?_; simp only [Act.put, Act.eval, Array.getD_eq_getD_getElem?, List.getElem?_toArray, List.getElem?_cons_succ, List.getElem?_cons_zero, Option.getD_some, List.setIfInBounds_toArray, List.set_cons_zero, List.set_cons_succ])
            | (refine wk_pickt _ _ _ _ (by first | exact wanted_none rfl | exact wanted_yes _ _ rfl rfl) rfl rfl rfl ?_; simp only [Act.put, Act.eval, Array.getD_eq_getD_getElem?, List.getElem?_toArray, List.getElem?_cons_succ, List.getElem?_cons_zero, Option.getD_some, List.setIfInBounds_toArray, List.set_cons_zero, List.set_cons_succ])
            | (refine wk_pickf _ _ _ _ (by first | exact wanted_none rfl | exact wanted_yes _ _ rfl rfl) rfl rfl rfl ?_; simp only [Act.put, Act.eval, Array.getD_eq_getD_getElem?, List.getElem?_toArray, List.getElem?_cons_succ, List.getElem?_cons_zero, Option.getD_some, List.setIfInBounds_toArray, List.set_cons_zero, List.set_cons_succ])
            | (refine wk_skip (wanted_not _ true false rfl rfl rfl) ?_; simp only [Act.put, List.setIfInBounds_toArray, List.set_cons_zero, List.set_cons_succ])
            | (refine wk_skip (wanted_not _ false true rfl rfl rfl) ?_; simp only [Act.put, List.setIfInBounds_toArray, List.set_cons_zero, List.set_cons_succ])
            | (refine wk_skip (wanted_undef _ _ rfl rfl) ?_; simp only [Act.put, List.setIfInBounds_toArray, List.set_cons_zero, List.set_cons_succ])
            | (refine wk_not true _ _ (by first | exact wanted_none rfl | exact wanted_yes _ _ rfl rfl) rfl rfl ?_; simp only [Act.put, List.setIfInBounds_toArray, List.set_cons_zero, List.set_cons_succ])
            | (refine wk_not false _ _ (by first | exact wanted_none rfl | exact wanted_yes _ _ rfl rfl) rfl rfl ?_; simp only [Act.put, List.setIfInBounds_toArray, List.set_cons_zero, List.set_cons_succ]))
          refine wk_index 62 33 _ _ g2 0 2 2 0 256 .i64 (by first | exact wanted_none rfl | exact wanted_yes _ _ rfl rfl) rfl Tryd.underlying62 sizeB rfl rfl (by omega) ?_
          simp only [Act.put, List.setIfInBounds_toArray, List.set_cons_zero, List.set_cons_succ]
          refine wk_load_mid 33 _ g2 0 (blk b) _ (by first | exact wanted_none rfl | exact wanted_yes _ _ rfl rfl) rfl rfl (fun w' hC => pair_fst (hC.row (R10.out.get 6 rfl))) Tryd.underlying33 rfl (by rw [HBs.out]; exact sizeB) ?_
          simp only [Act.put, List.setIfInBounds_toArray, List.set_cons_zero, List.set_cons_succ]
          refine wk_call 57 _ _ _ _ _ (by kernel_rfl) rfl Tryd.func57 rfl (by kernel_rfl) (fun w' hC => hC.call (HG.out.zero w')) ?_
          simp only [Act.put, List.setIfInBounds_toArray, List.set_cons_zero, List.set_cons_succ]
          repeat (first
            | (refine wk_move _ (by first | exact wanted_none rfl | exact wanted_yes _ _ rfl rfl) rfl ?_; simp only [Act.put, Act.eval, Array.getD_eq_getD_getElem?, List.getElem?_toArray, List.getElem?_cons_succ, List.getElem?_cons_zero, Option.getD_some, List.setIfInBounds_toArray, List.set_cons_zero, List.set_cons_succ])
            | (refine wk_assign _ (by first | exact wanted_none rfl | exact wanted_yes _ _ rfl rfl) rfl ?_; simp only [Act.put, Act.eval, Array.getD_eq_getD_getElem?, List.getElem?_toArray, List.getElem?_cons_succ, List.getElem?_cons_zero, Option.getD_some, List.setIfInBounds_toArray, List.set_cons_zero, List.set_cons_succ])
            | (refine wk_pickt _ _ _ _ (by first | exact wanted_none rfl | exact wanted_yes _ _ rfl rfl) rfl rfl rfl ?_; simp only [Act.put, Act.eval, Array.getD_eq_getD_getElem?, List.getElem?_toArray, List.getElem?_cons_succ, List.getElem?_cons_zero, Option.getD_some, List.setIfInBounds_toArray, List.set_cons_zero, List.set_cons_succ])
            | (refine wk_pickf _ _ _ _ (by first | exact wanted_none rfl | exact wanted_yes _ _ rfl rfl) rfl rfl rfl ?_; simp only [Act.put, Act.eval, Array.getD_eq_getD_getElem?, List.getElem?_toArray, List.getElem?_cons_succ, List.getElem?_cons_zero, Option.getD_some, List.setIfInBounds_toArray, List.set_cons_zero, List.set_cons_succ])
            | (refine wk_skip (wanted_not _ true false rfl rfl rfl) ?_; simp only [Act.put, List.setIfInBounds_toArray, List.set_cons_zero, List.set_cons_succ])
            | (refine wk_skip (wanted_not _ false true rfl rfl rfl) ?_; simp only [Act.put, List.setIfInBounds_toArray, List.set_cons_zero, List.set_cons_succ])
            | (refine wk_skip (wanted_undef _ _ rfl rfl) ?_; simp only [Act.put, List.setIfInBounds_toArray, List.set_cons_zero, List.set_cons_succ])
            | (refine wk_not true _ _ (by first | exact wanted_none rfl | exact wanted_yes _ _ rfl rfl) rfl rfl ?_; simp only [Act.put, List.setIfInBounds_toArray, List.set_cons_zero, List.set_cons_succ])
            | (refine wk_not false _ _ (by first | exact wanted_none rfl | exact wanted_yes _ _ rfl rfl) rfl rfl ?_; simp only [Act.put, List.setIfInBounds_toArray, List.set_cons_zero, List.set_cons_succ]))
          refine wk_eql_int true _ _ _ _ _ _ _ (by kernel_rfl) rfl rfl rfl (HE.out) ?_
          simp only [Act.put, List.setIfInBounds_toArray, List.set_cons_zero, List.set_cons_succ]
          repeat (first
            | (refine wk_move _ (by first | exact wanted_none rfl | exact wanted_yes _ _ rfl rfl) rfl ?_; simp only [Act.put, Act.eval, Array.getD_eq_getD_getElem?, List.getElem?_toArray, List.getElem?_cons_succ, List.getElem?_cons_zero, Option.getD_some, List.setIfInBounds_toArray, List.set_cons_zero, List.set_cons_succ])
            | (refine wk_assign _ (by first | exact wanted_none rfl | exact wanted_yes _ _ rfl rfl) rfl ?_; simp only [Act.put, Act.eval, Array.getD_eq_getD_getElem?, List.getElem?_toArray, List.getElem?_cons_succ, List.getElem?_cons_zero, Option.getD_some, List.setIfInBounds_toArray, List.set_cons_zero, List.set_cons_succ])
            | (refine wk_pickt _ _ _ _ (by first | exact wanted_none rfl | exact wanted_yes _ _ rfl rfl) rfl rfl rfl ?_; simp only [Act.put, Act.eval, Array.getD_eq_getD_getElem?, List.getElem?_toArray, List.getElem?_cons_succ, List.getElem?_cons_zero, Option.getD_some, List.setIfInBounds_toArray, List.set_cons_zero, List.set_cons_succ])
            | (refine wk_pickf _ _ _ _ (by first | exact wanted_none rfl | exact wanted_yes _ _ rfl rfl) rfl rfl rfl ?_; simp only [Act.put, Act.eval, Array.getD_eq_getD_getElem?, List.getElem?_toArray, List.getElem?_cons_succ, List.getElem?_cons_zero, Option.getD_some, List.setIfInBounds_toArray, List.set_cons_zero, List.set_cons_succ])
            | (refine wk_skip (wanted_not _ true false rfl rfl rfl) ?_; simp only [Act.put, List.setIfInBounds_toArray, List.set_cons_zero, List.set_cons_succ])
            | (refine wk_skip (wanted_not _ false true rfl rfl rfl) ?_; simp only [Act.put, List.setIfInBounds_toArray, List.set_cons_zero, List.set_cons_succ])
            | (refine wk_skip (wanted_undef _ _ rfl rfl) ?_; simp only [Act.put, List.setIfInBounds_toArray, List.set_cons_zero, List.set_cons_succ])
            | (refine wk_not true _ _ (by first | exact wanted_none rfl | exact wanted_yes _ _ rfl rfl) rfl rfl ?_; simp only [Act.put, List.setIfInBounds_toArray, List.set_cons_zero, List.set_cons_succ])
            | (refine wk_not false _ _ (by first | exact wanted_none rfl | exact wanted_yes _ _ rfl rfl) rfl rfl ?_; simp only [Act.put, List.setIfInBounds_toArray, List.set_cons_zero, List.set_cons_succ]))
          refine wk_load_row 33 _ g8 33 (blk b) (0, 0) _ (by kernel_rfl) rfl rfl (fun w' hC => hC.row (R10.out.get (9 - 8) rfl)) Tryd.underlying33 rfl (by rw [HBs.out]; exact sizeB) ?_
          simp only [Act.put, List.setIfInBounds_toArray, List.set_cons_zero, List.set_cons_succ]
          repeat (first
            | (refine wk_move _ (by first | exact wanted_none rfl | exact wanted_yes _ _ rfl rfl) rfl ?_; simp only [Act.put, Act.eval, Array.getD_eq_getD_getElem?, List.getElem?_toArray, List.getElem?_cons_succ, List.getElem?_cons_zero, Option.getD_some, List.setIfInBounds_toArray, List.set_cons_zero, List.set_cons_succ])
            | (refine wk_assign _ (by first | exact wanted_none rfl | exact wanted_yes _ _ rfl rfl) rfl ?_; simp only [Act.put, Act.eval, Array.getD_eq_getD_getElem?, List.getElem?_toArray, List.getElem?_cons_succ, List.getElem?_cons_zero, Option.getD_some, List.setIfInBounds_toArray, List.set_cons_zero, List.set_cons_succ])
            | (refine wk_pickt _ _ _ _ (by first | exact wanted_none rfl | exact wanted_yes _ _ rfl rfl) rfl rfl rfl ?_; simp only [Act.put, Act.eval, Array.getD_eq_getD_getElem?, List.getElem?_toArray, List.getElem?_cons_succ, List.getElem?_cons_zero, Option.getD_some, List.setIfInBounds_toArray, List.set_cons_zero, List.set_cons_succ])
            | (refine wk_pickf _ _ _ _ (by first | exact wanted_none rfl | exact wanted_yes _ _ rfl rfl) rfl rfl rfl ?_; simp only [Act.put, Act.eval, Array.getD_eq_getD_getElem?, List.getElem?_toArray, List.getElem?_cons_succ, List.getElem?_cons_zero, Option.getD_some, List.setIfInBounds_toArray, List.set_cons_zero, List.set_cons_succ])
            | (refine wk_skip (wanted_not _ true false rfl rfl rfl) ?_; simp only [Act.put, List.setIfInBounds_toArray, List.set_cons_zero, List.set_cons_succ])
            | (refine wk_skip (wanted_not _ false true rfl rfl rfl) ?_; simp only [Act.put, List.setIfInBounds_toArray, List.set_cons_zero, List.set_cons_succ])
            | (refine wk_skip (wanted_undef _ _ rfl rfl) ?_; simp only [Act.put, List.setIfInBounds_toArray, List.set_cons_zero, List.set_cons_succ])
            | (refine wk_not true _ _ (by first | exact wanted_none rfl | exact wanted_yes _ _ rfl rfl) rfl rfl ?_; simp only [Act.put, List.setIfInBounds_toArray, List.set_cons_zero, List.set_cons_succ])
            | (refine wk_not false _ _ (by first | exact wanted_none rfl | exact wanted_yes _ _ rfl rfl) rfl rfl ?_; simp only [Act.put, List.setIfInBounds_toArray, List.set_cons_zero, List.set_cons_succ]))
          refine wk_index 62 33 _ _ g2 0 2 2 0 256 .i64 (by first | exact wanted_none rfl | exact wanted_yes _ _ rfl rfl) rfl Tryd.underlying62 sizeB rfl rfl (by omega) ?_
          simp only [Act.put, List.setIfInBounds_toArray, List.set_cons_zero, List.set_cons_succ]
          refine wk_load_mid 33 _ g2 0 (blk b) _ (by first | exact wanted_none rfl | exact wanted_yes _ _ rfl rfl) rfl rfl (fun w' hC => pair_fst (hC.row (R10.out.get 6 rfl))) Tryd.underlying33 rfl (by rw [HBs.out]; exact sizeB) ?_
          simp only [Act.put, List.setIfInBounds_toArray, List.set_cons_zero, List.set_cons_succ]
          refine wk_eql .neq (false) 33 33 _ _ (by first | exact wanted_none rfl | exact wanted_yes _ _ rfl rfl) rfl _ _ rfl rfl (by kernel_rfl) (fun w => HG.out.eql w) ?_
          simp only [Act.put, List.setIfInBounds_toArray, List.set_cons_zero, List.set_cons_succ]
          repeat (first
            | (refine wk_move _ (by first | exact wanted_none rfl | exact wanted_yes _ _ rfl rfl) rfl ?_; simp only [Act.put, Act.eval, Array.getD_eq_getD_getElem?, List.getElem?_toArray, List.getElem?_cons_succ, List.getElem?_cons_zero, Option.getD_some, List.setIfInBounds_toArray, List.set_cons_zero, List.set_cons_succ])
            | (refine wk_assign _ (by first | exact wanted_none rfl | exact wanted_yes _ _ rfl rfl) rfl ?_; simp only [Act.put, Act.eval, Array.getD_eq_getD_getElem?, List.getElem?_toArray, List.getElem?_cons_succ, List.getElem?_cons_zero, Option.getD_some, List.setIfInBounds_toArray, List.set_cons_zero, List.set_cons_succ])
            | (refine wk_pickt _ _ _ _ (by first | exact wanted_none rfl | exact wanted_yes _ _ rfl rfl) rfl rfl rfl ?_; simp only [Act.put, Act.eval, Array.getD_eq_getD_getElem?, List.getElem?_toArray, List.getElem?_cons_succ, List.getElem?_cons_zero, Option.getD_some, List.setIfInBounds_toArray, List.set_cons_zero, List.set_cons_succ])
            | (refine wk_pickf _ _ _ _ (by first | exact wanted_none rfl | exact wanted_yes _ _ rfl rfl) rfl rfl rfl ?_; simp only [Act.put, Act.eval, Array.getD_eq_getD_getElem?, List.getElem?_toArray, List.getElem?_cons_succ, List.getElem?_cons_zero, Option.getD_some, List.setIfInBounds_toArray, List.set_cons_zero, List.set_cons_succ])
            | (refine wk_skip (wanted_not _ true false rfl rfl rfl) ?_; simp only [Act.put, List.setIfInBounds_toArray, List.set_cons_zero, List.set_cons_succ])
            | (refine wk_skip (wanted_not _ false true rfl rfl rfl) ?_; simp only [Act.put, List.setIfInBounds_toArray, List.set_cons_zero, List.set_cons_succ])
            | (refine wk_skip (wanted_undef _ _ rfl rfl) ?_; simp only [Act.put, List.setIfInBounds_toArray, List.set_cons_zero, List.set_cons_succ])
            | (refine wk_not true _ _ (by first | exact wanted_none rfl | exact wanted_yes _ _ rfl rfl) rfl rfl ?_; simp only [Act.put, List.setIfInBounds_toArray, List.set_cons_zero, List.set_cons_succ])
            | (refine wk_not false _ _ (by first | exact wanted_none rfl | exact wanted_yes _ _ rfl rfl) rfl rfl ?_; simp only [Act.put, List.setIfInBounds_toArray, List.set_cons_zero, List.set_cons_succ]))
          refine wk_eql_int true _ _ _ _ _ _ _ (by kernel_rfl) rfl rfl rfl (HGG.out) ?_
          simp only [Act.put, List.setIfInBounds_toArray, List.set_cons_zero, List.set_cons_succ]
          repeat (first
            | (refine wk_move _ (by first | exact wanted_none rfl | exact wanted_yes _ _ rfl rfl) rfl ?_; simp only [Act.put, Act.eval, Array.getD_eq_getD_getElem?, List.getElem?_toArray, List.getElem?_cons_succ, List.getElem?_cons_zero, Option.getD_some, List.setIfInBounds_toArray, List.set_cons_zero, List.set_cons_succ])
            | (refine wk_assign _ (by first | exact wanted_none rfl | exact wanted_yes _ _ rfl rfl) rfl ?_; simp only [Act.put, Act.eval, Array.getD_eq_getD_getElem?, List.getElem?_toArray, List.getElem?_cons_succ, List.getElem?_cons_zero, Option.getD_some, List.setIfInBounds_toArray, List.set_cons_zero, List.set_cons_succ])
            | (refine wk_pickt _ _ _ _ (by first | exact wanted_none rfl | exact wanted_yes _ _ rfl rfl) rfl rfl rfl ?_; simp only [Act.put, Act.eval, Array.getD_eq_getD_getElem?, List.getElem?_toArray, List.getElem?_cons_succ, List.getElem?_cons_zero, Option.getD_some, List.setIfInBounds_toArray, List.set_cons_zero, List.set_cons_succ])
            | (refine wk_pickf _ _ _ _ (by first | exact wanted_none rfl | exact wanted_yes _ _ rfl rfl) rfl rfl rfl ?_; simp only [Act.put, Act.eval, Array.getD_eq_getD_getElem?, List.getElem?_toArray, List.getElem?_cons_succ, List.getElem?_cons_zero, Option.getD_some, List.setIfInBounds_toArray, List.set_cons_zero, List.set_cons_succ])
            | (refine wk_skip (wanted_not _ true false rfl rfl rfl) ?_; simp only [Act.put, List.setIfInBounds_toArray, List.set_cons_zero, List.set_cons_succ])
            | (refine wk_skip (wanted_not _ false true rfl rfl rfl) ?_; simp only [Act.put, List.setIfInBounds_toArray, List.set_cons_zero, List.set_cons_succ])
            | (refine wk_skip (wanted_undef _ _ rfl rfl) ?_; simp only [Act.put, List.setIfInBounds_toArray, List.set_cons_zero, List.set_cons_succ])
            | (refine wk_not true _ _ (by first | exact wanted_none rfl | exact wanted_yes _ _ rfl rfl) rfl rfl ?_; simp only [Act.put, List.setIfInBounds_toArray, List.set_cons_zero, List.set_cons_succ])
            | (refine wk_not false _ _ (by first | exact wanted_none rfl | exact wanted_yes _ _ rfl rfl) rfl rfl ?_; simp only [Act.put, List.setIfInBounds_toArray, List.set_cons_zero, List.set_cons_succ]))
          refine wk_load_row 33 _ g9 33 (blk b) (0, 0) _ (by kernel_rfl) rfl rfl (fun w' hC => hC.row (R10.out.get (9 - 9) rfl)) Tryd.underlying33 rfl (by rw [HBs.out]; exact sizeB) ?_
          simp only [Act.put, List.setIfInBounds_toArray, List.set_cons_zero, List.set_cons_succ]
          repeat (first
            | (refine wk_move _ (by first | exact wanted_none rfl | exact wanted_yes _ _ rfl rfl) rfl ?_; simp only [Act.put, Act.eval, Array.getD_eq_getD_getElem?, List.getElem?_toArray, List.getElem?_cons_succ, List.getElem?_cons_zero, Option.getD_some, List.setIfInBounds_toArray, List.set_cons_zero, List.set_cons_succ])
            | (refine wk_assign _ (by first | exact wanted_none rfl | exact wanted_yes _ _ rfl rfl) rfl ?_; simp only [Act.put, Act.eval, Array.getD_eq_getD_getElem?, List.getElem?_toArray, List.getElem?_cons_succ, List.getElem?_cons_zero, Option.getD_some, List.setIfInBounds_toArray, List.set_cons_zero, List.set_cons_succ])
            | (refine wk_pickt _ _ _ _ (by first | exact wanted_none rfl | exact wanted_yes _ _ rfl rfl) rfl rfl rfl ?_; simp only [Act.put, Act.eval, Array.getD_eq_getD_getElem?, List.getElem?_toArray, List.getElem?_cons_succ, List.getElem?_cons_zero, Option.getD_some, List.setIfInBounds_toArray, List.set_cons_zero, List.set_cons_succ])
            | (refine wk_pickf _ _ _ _ (by first | exact wanted_none rfl | exact wanted_yes _ _ rfl rfl) rfl rfl rfl ?_; simp only [Act.put, Act.eval, Array.getD_eq_getD_getElem?, List.getElem?_toArray, List.getElem?_cons_succ, List.getElem?_cons_zero, Option.getD_some, List.setIfInBounds_toArray, List.set_cons_zero, List.set_cons_succ])
            | (refine wk_skip (wanted_not _ true false rfl rfl rfl) ?_; simp only [Act.put, List.setIfInBounds_toArray, List.set_cons_zero, List.set_cons_succ])
            | (refine wk_skip (wanted_not _ false true rfl rfl rfl) ?_; simp only [Act.put, List.setIfInBounds_toArray, List.set_cons_zero, List.set_cons_succ])
            | (refine wk_skip (wanted_undef _ _ rfl rfl) ?_; simp only [Act.put, List.setIfInBounds_toArray, List.set_cons_zero, List.set_cons_succ])
            | (refine wk_not true _ _ (by first | exact wanted_none rfl | exact wanted_yes _ _ rfl rfl) rfl rfl ?_; simp only [Act.put, List.setIfInBounds_toArray, List.set_cons_zero, List.set_cons_succ])
            | (refine wk_not false _ _ (by first | exact wanted_none rfl | exact wanted_yes _ _ rfl rfl) rfl rfl ?_; simp only [Act.put, List.setIfInBounds_toArray, List.set_cons_zero, List.set_cons_succ]))
          refine wk_index 62 33 _ _ g2 0 2 2 0 256 .i64 (by first | exact wanted_none rfl | exact wanted_yes _ _ rfl rfl) rfl Tryd.underlying62 sizeB rfl rfl (by omega) ?_
          simp only [Act.put, List.setIfInBounds_toArray, List.set_cons_zero, List.set_cons_succ]
          refine wk_load_mid 33 _ g2 0 (blk b) _ (by first | exact wanted_none rfl | exact wanted_yes _ _ rfl rfl) rfl rfl (fun w' hC => pair_fst (hC.row (R10.out.get 6 rfl))) Tryd.underlying33 rfl (by rw [HBs.out]; exact sizeB) ?_
          simp only [Act.put, List.setIfInBounds_toArray, List.set_cons_zero, List.set_cons_succ]
          refine wk_eql .neq (false) 33 33 _ _ (by first | exact wanted_none rfl | exact wanted_yes _ _ rfl rfl) rfl _ _ rfl rfl (by kernel_rfl) (fun w => HG.out.eql w) ?_
          simp only [Act.put, List.setIfInBounds_toArray, List.set_cons_zero, List.set_cons_succ]
          repeat (first
            | (refine wk_move _ (by first | exact wanted_none rfl | exact wanted_yes _ _ rfl rfl) rfl ?_; simp only [Act.put, Act.eval, Array.getD_eq_getD_getElem?, List.getElem?_toArray, List.getElem?_cons_succ, List.getElem?_cons_zero, Option.getD_some, List.setIfInBounds_toArray, List.set_cons_zero, List.set_cons_succ])
            | (refine wk_assign _ (by first | exact wanted_none rfl | exact wanted_yes _ _ rfl rfl) rfl ?_; simp only [Act.put, Act.eval, Array.getD_eq_getD_getElem?, List.getElem?_toArray, List.getElem?_cons_succ, List.getElem?_cons_zero, Option.getD_some, List.setIfInBounds_toArray, List.set_cons_zero, List.set_cons_succ])
            | (refine wk_pickt _ _ _ _ (by first | exact wanted_none rfl | exact wanted_yes _ _ rfl rfl) rfl rfl rfl ?_; simp only [Act.put, Act.eval, Array.getD_eq_getD_getElem?, List.getElem?_toArray, List.getElem?_cons_succ, List.getElem?_cons_zero, Option.getD_some, List.setIfInBounds_toArray, List.set_cons_zero, List.set_cons_succ])
            | (refine wk_pickf _ _ _ _ (by first | exact wanted_none rfl | exact wanted_yes _ _ rfl rfl) rfl rfl rfl ?_; simp only [Act.put, Act.eval, Array.getD_eq_getD_getElem?, List.getElem?_toArray, List.getElem?_cons_succ, List.getElem?_cons_zero, Option.getD_some, List.setIfInBounds_toArray, List.set_cons_zero, List.set_cons_succ])
            | (refine wk_skip (wanted_not _ true false rfl rfl rfl) ?_; simp only [Act.put, List.setIfInBounds_toArray, List.set_cons_zero, List.set_cons_succ])
            | (refine wk_skip (wanted_not _ false true rfl rfl rfl) ?_; simp only [Act.put, List.setIfInBounds_toArray, List.set_cons_zero, List.set_cons_succ])
            | (refine wk_skip (wanted_undef _ _ rfl rfl) ?_; simp only [Act.put, List.setIfInBounds_toArray, List.set_cons_zero, List.set_cons_succ])
            | (refine wk_not true _ _ (by first | exact wanted_none rfl | exact wanted_yes _ _ rfl rfl) rfl rfl ?_; simp only [Act.put, List.setIfInBounds_toArray, List.set_cons_zero, List.set_cons_succ])
            | (refine wk_not false _ _ (by first | exact wanted_none rfl | exact wanted_yes _ _ rfl rfl) rfl rfl ?_; simp only [Act.put, List.setIfInBounds_toArray, List.set_cons_zero, List.set_cons_succ]))
          refine wk_nil ?_
          intro w' hC
          have R11 := Lib.hid ((R10.out.since hC).drop 6)
          clear hC
          go_wp2_with fail
          exact ⟨⟨0 + 1, _, by rfl, by omega, rfl, R11.out⟩, by simp [intOf]⟩
    · obtain ⟨C, P, D, K, E, G, F1, F2, Z, hG⟩ := HX1.out
      have HG := Lib.hid hG
      clear hG hz hk
      go_wp2_with (refine wpList_load_arr rfl 33 _ rfl g2 256 rfl (blk y) _ (pair_snd HL.out (R3.out.get 0 rfl)) Tryd.underlying33 rfl (by rw [HYs.out]; exact sizeB) ?_)
      refine (HG.out.get _).mono ?_
      rintro e w4 ⟨rfl, hb⟩
      have q1 := (R3.out.call hb).alloc C 90
      clear hb
      go_upto_region 6 with (first | refine wpList_alloc_row rfl 90 rfl _ zero_ta ?_ | refine wpList_store_new rfl 90 _ _ rfl _ C _ rfl rfl (by rw [HG.out.csize]; exact sizeTally) (by rw [HG.out.csize]; rfl) HG.out.cone ?_)
      obtain ⟨W4, hW⟩ : ∃ W, W = w4.alloc (.cells C 90) := ⟨_, rfl⟩
      rw [← hW] at q1 ⊢
      clear hW
      obtain ⟨g4, hg⟩ : ∃ g, g = w4.heap.size := ⟨_, rfl⟩
      rw [← hg] at q1 ⊢
      clear hg
      have R4 := Lib.hid q1
      clear q1
      go_wp2_with (refine wpList_load_arr rfl 33 _ rfl g2 256 rfl (blk y) _ (pair_snd HL.out (R4.out.get 1 rfl)) Tryd.underlying33 rfl (by rw [HYs.out]; exact sizeB) ?_)
      refine (HG.out.ref _).mono ?_
      rintro e w5 ⟨rfl, hb⟩
      have q1 := (R4.out.call hb).alloc C 90
      clear hb
      go_upto_region 7 with (first | refine wpList_alloc_row rfl 90 rfl _ zero_ta ?_ | refine wpList_store_new rfl 90 _ _ rfl _ C _ rfl rfl (by rw [HG.out.csize]; exact sizeTally) (by rw [HG.out.csize]; rfl) HG.out.cone ?_)
      obtain ⟨W5, hW⟩ : ∃ W, W = w5.alloc (.cells C 90) := ⟨_, rfl⟩
      rw [← hW] at q1 ⊢
      clear hW
      obtain ⟨g5, hg⟩ : ∃ g, g = w5.heap.size := ⟨_, rfl⟩
      rw [← hg] at q1 ⊢
      clear hg
      have R5 := Lib.hid q1
      clear q1
      go_wp2_with (refine wpList_load_arr rfl 33 _ rfl g2 256 rfl (blk y) _ (pair_snd HL.out (R5.out.get 2 rfl)) Tryd.underlying33 rfl (by rw [HYs.out]; exact sizeB) ?_)
      refine (HG.out.getp _).mono ?_
      rintro e w6 ⟨rfl, hb⟩
      have q1 := (R5.out.call hb).alloc P 93
      clear hb
      go_upto_region 8 with (first | refine wpList_alloc_row rfl 93 rfl _ zero_ti ?_ | refine wpList_store_new rfl 93 _ _ rfl _ P _ rfl rfl (by rw [HG.out.psize]; exact sizePick) (by rw [HG.out.psize]; rfl) HG.out.pone ?_)
      obtain ⟨W6, hW⟩ : ∃ W, W = w6.alloc (.cells P 93) := ⟨_, rfl⟩
      rw [← hW] at q1 ⊢
      clear hW
      obtain ⟨g6, hg⟩ : ∃ g, g = w6.heap.size := ⟨_, rfl⟩
      rw [← hg] at q1 ⊢
      clear hg
      have R6 := Lib.hid q1
      clear q1
      go_wp2_with (refine wpList_load_arr rfl 33 _ rfl g2 256 rfl (blk y) _ (pair_snd HL.out (R6.out.get 3 rfl)) Tryd.underlying33 rfl (by rw [HYs.out]; exact sizeB) ?_)
      refine (HG.out.refp _).mono ?_
      rintro e w7 ⟨rfl, hb⟩
      have q1 := (R6.out.call hb).alloc P 93
      clear hb
      go_upto_region 9 with (first | refine wpList_alloc_row rfl 93 rfl _ zero_ti ?_ | refine wpList_store_new rfl 93 _ _ rfl _ P _ rfl rfl (by rw [HG.out.psize]; exact sizePick) (by rw [HG.out.psize]; rfl) HG.out.pone ?_)
      obtain ⟨W7, hW⟩ : ∃ W, W = w7.alloc (.cells P 93) := ⟨_, rfl⟩
      rw [← hW] at q1 ⊢
      clear hW
      obtain ⟨g7, hg⟩ : ∃ g, g = w7.heap.size := ⟨_, rfl⟩
      rw [← hg] at q1 ⊢
      clear hg
      have R7 := Lib.hid q1
      clear q1
      refine wk_plain_since ?_
      refine wk_load_row 90 _ g4 90 C (0, 0) _ (by kernel_rfl) rfl rfl (fun w' hC => hC.row (R7.out.get 3 rfl)) Tryd.underlying90 rfl (by rw [HG.out.csize]; exact sizeTally) ?_
      simp only [Act.put, List.setIfInBounds_toArray, List.set_cons_zero, List.set_cons_succ]
      refine wk_load_row 90 _ g5 90 C (0, 0) _ (by kernel_rfl) rfl rfl (fun w' hC => hC.row (R7.out.get 2 rfl)) Tryd.underlying90 rfl (by rw [HG.out.csize]; exact sizeTally) ?_
      simp only [Act.put, List.setIfInBounds_toArray, List.set_cons_zero, List.set_cons_succ]
      refine wk_eql .neq (false) 90 90 _ _ (by first | exact wanted_none rfl | exact wanted_yes _ _ rfl rfl) rfl _ _ rfl rfl (by kernel_rfl) (fun w => HG.out.same w) ?_
      simp only [Act.put, List.setIfInBounds_toArray, List.set_cons_zero, List.set_cons_succ]
      repeat (first
        | (refine wk_move _ (by first | exact wanted_none rfl | exact wanted_yes _ _ rfl rfl) rfl ?_; simp only [Act.put, Act.eval, Array.getD_eq_getD_getElem?, List.getElem?_toArray, List.getElem?_cons_succ, List.getElem?_cons_zero, Option.getD_some, List.setIfInBounds_toArray, List.set_cons_zero, List.set_cons_succ])
        | (refine wk_assign _ (by first | exact wanted_none rfl | exact wanted_yes _ _ rfl rfl) rfl ?_; simp only [Act.put, Act.eval, Array.getD_eq_getD_getElem?, List.getElem?_toArray, List.getElem?_cons_succ, List.getElem?_cons_zero, Option.getD_some, List.setIfInBounds_toArray, List.set_cons_zero, List.set_cons_succ])
        | (refine wk_pickt _ _ _ _ (by first | exact wanted_none rfl | exact wanted_yes _ _ rfl rfl) rfl rfl rfl ?_; simp only [Act.put, Act.eval, Array.getD_eq_getD_getElem?, List.getElem?_toArray, List.getElem?_cons_succ, List.getElem?_cons_zero, Option.getD_some, List.setIfInBounds_toArray, List.set_cons_zero, List.set_cons_succ])
        | (refine wk_pickf _ _ _ _ (by first | exact wanted_none rfl | exact wanted_yes _ _ rfl rfl) rfl rfl rfl ?_; simp only [Act.put, Act.eval, Array.getD_eq_getD_getElem?, List.getElem?_toArray, List.getElem?_cons_succ, List.getElem?_cons_zero, Option.getD_some, List.setIfInBounds_toArray, List.set_cons_zero, List.set_cons_succ])
        | (refine wk_skip (wanted_not _ true false rfl rfl rfl) ?_; simp only [Act.put, List.setIfInBounds_toArray, List.set_cons_zero, List.set_cons_succ])
        | (refine wk_skip (wanted_not _ false true rfl rfl rfl) ?_; simp only [Act.put, List.setIfInBounds_toArray, List.set_cons_zero, List.set_cons_succ])
        | (refine wk_skip (wanted_undef _ _ rfl rfl) ?_; simp only [Act.put, List.setIfInBounds_toArray, List.set_cons_zero, List.set_cons_succ])
        | (refine wk_not true _ _ (by first | exact wanted_none rfl | exact wanted_yes _ _ rfl rfl) rfl rfl ?_; simp only [Act.put, List.setIfInBounds_toArray, List.set_cons_zero, List.set_cons_succ])
        | (refine wk_not false _ _ (by first | exact wanted_none rfl | exact wanted_yes _ _ rfl rfl) rfl rfl ?_; simp only [Act.put, List.setIfInBounds_toArray, List.set_cons_zero, List.set_cons_succ]))
      refine wk_cmp_int .neq (false) _ _ _ _ _ _ _ (by kernel_rfl) rfl rfl rfl (by simp [cmpInt]) ?_
      simp only [Act.put, List.setIfInBounds_toArray, List.set_cons_zero, List.set_cons_succ]
      repeat (first
        | (refine wk_move _ (by first | exact wanted_none rfl | exact wanted_yes _ _ rfl rfl) rfl ?_; simp only [Act.put, Act.eval, Array.getD_eq_getD_getElem?, List.getElem?_toArray, List.getElem?_cons_succ, List.getElem?_cons_zero, Option.getD_some, List.setIfInBounds_toArray, List.set_cons_zero, List.set_cons_succ])
        | (refine wk_assign _ (by first | exact wanted_none rfl | exact wanted_yes _ _ rfl rfl) rfl ?_; simp only [Act.put, Act.eval, Array.getD_eq_getD_getElem?, List.getElem?_toArray, List.getElem?_cons_succ, List.getElem?_cons_zero, Option.getD_some, List.setIfInBounds_toArray, List.set_cons_zero, List.set_cons_succ])
        | (refine wk_pickt _ _ _ _ (by first | exact wanted_none rfl | exact wanted_yes _ _ rfl rfl) rfl rfl rfl ?_; simp only [Act.put, Act.eval, Array.getD_eq_getD_getElem?, List.getElem?_toArray, List.getElem?_cons_succ, List.getElem?_cons_zero, Option.getD_some, List.setIfInBounds_toArray, List.set_cons_zero, List.set_cons_succ])
        | (refine wk_pickf _ _ _ _ (by first | exact wanted_none rfl | exact wanted_yes _ _ rfl rfl) rfl rfl rfl ?_; simp only [Act.put, Act.eval, Array.getD_eq_getD_getElem?, List.getElem?_toArray, List.getElem?_cons_succ, List.getElem?_cons_zero, Option.getD_some, List.setIfInBounds_toArray, List.set_cons_zero, List.set_cons_succ])
        | (refine wk_skip (wanted_not _ true false rfl rfl rfl) ?_; simp only [Act.put, List.setIfInBounds_toArray, List.set_cons_zero, List.set_cons_succ])
        | (refine wk_skip (wanted_not _ false true rfl rfl rfl) ?_; simp only [Act.put, List.setIfInBounds_toArray, List.set_cons_zero, List.set_cons_succ])
        | (refine wk_skip (wanted_undef _ _ rfl rfl) ?_; simp only [Act.put, List.setIfInBounds_toArray, List.set_cons_zero, List.set_cons_succ])
        | (refine wk_not true _ _ (by first | exact wanted_none rfl | exact wanted_yes _ _ rfl rfl) rfl rfl ?_; simp only [Act.put, List.setIfInBounds_toArray, List.set_cons_zero, List.set_cons_succ])
        | (refine wk_not false _ _ (by first | exact wanted_none rfl | exact wanted_yes _ _ rfl rfl) rfl rfl ?_; simp only [Act.put, List.setIfInBounds_toArray, List.set_cons_zero, List.set_cons_succ]))
      refine wk_load_row 93 _ g6 93 P (0, 0) _ (by kernel_rfl) rfl rfl (fun w' hC => hC.row (R7.out.get 1 rfl)) Tryd.underlying93 rfl (by rw [HG.out.psize]; exact sizePick) ?_
      simp only [Act.put, List.setIfInBounds_toArray, List.set_cons_zero, List.set_cons_succ]
      refine wk_load_row 93 _ g7 93 P (0, 0) _ (by kernel_rfl) rfl rfl (fun w' hC => hC.row (R7.out.get 0 rfl)) Tryd.underlying93 rfl (by rw [HG.out.psize]; exact sizePick) ?_
      simp only [Act.put, List.setIfInBounds_toArray, List.set_cons_zero, List.set_cons_succ]
      refine wk_eql .neq (false) 93 93 _ _ (by first | exact wanted_none rfl | exact wanted_yes _ _ rfl rfl) rfl _ _ rfl rfl (by kernel_rfl) (fun w => HG.out.samep w) ?_
      simp only [Act.put, List.setIfInBounds_toArray, List.set_cons_zero, List.set_cons_succ]
      repeat (first
        | (refine wk_move _ (by first | exact wanted_none rfl | exact wanted_yes _ _ rfl rfl) rfl ?_; simp only [Act.put, Act.eval, Array.getD_eq_getD_getElem?, List.getElem?_toArray, List.getElem?_cons_succ, List.getElem?_cons_zero, Option.getD_some, List.setIfInBounds_toArray, List.set_cons_zero, List.set_cons_succ])
        | (refine wk_assign _ (by first | exact wanted_none rfl | exact wanted_yes _ _ rfl rfl) rfl ?_; simp only [Act.put, Act.eval, Array.getD_eq_getD_getElem?, List.getElem?_toArray, List.getElem?_cons_succ, List.getElem?_cons_zero, Option.getD_some, List.setIfInBounds_toArray, List.set_cons_zero, List.set_cons_succ])
        | (refine wk_pickt _ _ _ _ (by first | exact wanted_none rfl | exact wanted_yes _ _ rfl rfl) rfl rfl rfl ?_; simp only [Act.put, Act.eval, Array.getD_eq_getD_getElem?, List.getElem?_toArray, List.getElem?_cons_succ, List.getElem?_cons_zero, Option.getD_some, List.setIfInBounds_toArray, List.set_cons_zero, List.set_cons_succ])
        | (refine wk_pickf _ _ _ _ (by first | exact wanted_none rfl | exact wanted_yes _ _ rfl rfl) rfl rfl rfl ?_; simp only [Act.put, Act.eval, Array.getD_eq_getD_getElem?, List.getElem?_toArray, List.getElem?_cons_succ, List.getElem?_cons_zero, Option.getD_some, List.setIfInBounds_toArray, List.set_cons_zero, List.set_cons_succ])
        | (refine wk_skip (wanted_not _ true false rfl rfl rfl) ?_; simp only [Act.put, List.setIfInBounds_toArray, List.set_cons_zero, List.set_cons_succ])
        | (refine wk_skip (wanted_not _ false true rfl rfl rfl) ?_; simp only [Act.put, List.setIfInBounds_toArray, List.set_cons_zero, List.set_cons_succ])
        | (refine wk_skip (wanted_undef _ _ rfl rfl) ?_; simp only [Act.put, List.setIfInBounds_toArray, List.set_cons_zero, List.set_cons_succ])
        | (refine wk_not true _ _ (by first | exact wanted_none rfl | exact wanted_yes _ _ rfl rfl) rfl rfl ?_; simp only [Act.put, List.setIfInBounds_toArray, List.set_cons_zero, List.set_cons_succ])
        | (refine wk_not false _ _ (by first | exact wanted_none rfl | exact wanted_yes _ _ rfl rfl) rfl rfl ?_; simp only [Act.put, List.setIfInBounds_toArray, List.set_cons_zero, List.set_cons_succ]))
      refine wk_cmp_int .neq (false) _ _ _ _ _ _ _ (by kernel_rfl) rfl rfl rfl (by simp [cmpInt]) ?_
      simp only [Act.put, List.setIfInBounds_toArray, List.set_cons_zero, List.set_cons_succ]
      repeat (first
        | (refine wk_move _ (by first | exact wanted_none rfl | exact wanted_yes _ _ rfl rfl) rfl ?_; simp only [Act.put, Act.eval, Array.getD_eq_getD_getElem?, List.getElem?_toArray, List.getElem?_cons_succ, List.getElem?_cons_zero, Option.getD_some, List.setIfInBounds_toArray, List.set_cons_zero, List.set_cons_succ])
        | (refine wk_assign _ (by first | exact wanted_none rfl | exact wanted_yes _ _ rfl rfl) rfl ?_; simp only [Act.put, Act.eval, Array.getD_eq_getD_getElem?, List.getElem?_toArray, List.getElem?_cons_succ, List.getElem?_cons_zero, Option.getD_some, List.setIfInBounds_toArray, List.set_cons_zero, List.set_cons_succ])
        | (refine wk_pickt _ _ _ _ (by first | exact wanted_none rfl | exact wanted_yes _ _ rfl rfl) rfl rfl rfl ?_; simp only [Act.put, Act.eval, Array.getD_eq_getD_getElem?, List.getElem?_toArray, List.getElem?_cons_succ, List.getElem?_cons_zero, Option.getD_some, List.setIfInBounds_toArray, List.set_cons_zero, List.set_cons_succ])
        | (refine wk_pickf _ _ _ _ (by first | exact wanted_none rfl | exact wanted_yes _ _ rfl rfl) rfl rfl rfl ?_; simp only [Act.put, Act.eval, Array.getD_eq_getD_getElem?, List.getElem?_toArray, List.getElem?_cons_succ, List.getElem?_cons_zero, Option.getD_some, List.setIfInBounds_toArray, List.set_cons_zero, List.set_cons_succ])
        | (refine wk_skip (wanted_not _ true false rfl rfl rfl) ?_; simp only [Act.put, List.setIfInBounds_toArray, List.set_cons_zero, List.set_cons_succ])
        | (refine wk_skip (wanted_not _ false true rfl rfl rfl) ?_; simp only [Act.put, List.setIfInBounds_toArray, List.set_cons_zero, List.set_cons_succ])
        | (refine wk_skip (wanted_undef _ _ rfl rfl) ?_; simp only [Act.put, List.setIfInBounds_toArray, List.set_cons_zero, List.set_cons_succ])
        | (refine wk_not true _ _ (by first | exact wanted_none rfl | exact wanted_yes _ _ rfl rfl) rfl rfl ?_; simp only [Act.put, List.setIfInBounds_toArray, List.set_cons_zero, List.set_cons_succ])
        | (refine wk_not false _ _ (by first | exact wanted_none rfl | exact wanted_yes _ _ rfl rfl) rfl rfl ?_; simp only [Act.put, List.setIfInBounds_toArray, List.set_cons_zero, List.set_cons_succ]))
      refine wk_nil ?_
      intro w' hC
      have R8 := Lib.hid (R7.out.since hC)
      clear hC
      go_wp2_with (refine wpList_load_row rfl 90 _ rfl g4 rfl 90 C (0, 0) _ (R8.out.get 3 rfl) Tryd.underlying90 rfl (by rw [HG.out.csize]; exact sizeTally) ?_)
      refine (HG.out.put _).mono ?_
      rintro e w8 ⟨rfl, hb⟩
      have q1 := (R8.out.call hb).alloc D 33
      clear hb
      go_upto_region 12 with (first | refine wpList_alloc_row rfl 33 rfl _ zeroB ?_ | refine wpList_store_new rfl 33 _ _ rfl _ D _ rfl rfl (by rw [HG.out.dsize]; exact sizeB) (by rw [HG.out.dsize, size_zeros]) HG.out.done ?_)
      obtain ⟨W8, hW⟩ : ∃ W, W = w8.alloc (.cells D 33) := ⟨_, rfl⟩
      rw [← hW] at q1 ⊢
      clear hW
      obtain ⟨g8, hg⟩ : ∃ g, g = w8.heap.size := ⟨_, rfl⟩
      rw [← hg] at q1 ⊢
      clear hg
      have R9 := Lib.hid q1
      clear q1
      go_wp2_with (refine wpList_load_row rfl 93 _ rfl g6 rfl 93 P (0, 0) _ (R9.out.get 2 rfl) Tryd.underlying93 rfl (by rw [HG.out.psize]; exact sizePick) ?_)
      refine (HG.out.putp _).mono ?_
      rintro e w9 ⟨rfl, hb⟩
      have q1 := (R9.out.call hb).alloc K 33
      clear hb
      go_upto_region 13 with (first | refine wpList_alloc_row rfl 33 rfl _ zeroB ?_ | refine wpList_store_new rfl 33 _ _ rfl _ K _ rfl rfl (by rw [HG.out.ksize]; exact sizeB) (by rw [HG.out.ksize, size_zeros]) HG.out.kone ?_)
      obtain ⟨W9, hW⟩ : ∃ W, W = w9.alloc (.cells K 33) := ⟨_, rfl⟩
      rw [← hW] at q1 ⊢
      clear hW
      obtain ⟨g9, hg⟩ : ∃ g, g = w9.heap.size := ⟨_, rfl⟩
      rw [← hg] at q1 ⊢
      clear hg
      have R10 := Lib.hid q1
      clear q1
      rcases HG.out.ways with rfl | ⟨rfl, hE, hG⟩
      · skip
        refine wk_region_since (by kernel_rfl) (by kernel_rfl) ?_
        repeat (first
          | (refine wk_move _ (by first | exact wanted_none rfl | exact wanted_yes _ _ rfl rfl) rfl ?_; simp only [Act.put, Act.eval, Array.getD_eq_getD_getElem?, List.getElem?_toArray, List.getElem?_cons_succ, List.getElem?_cons_zero, Option.getD_some, List.setIfInBounds_toArray, List.set_cons_zero, List.set_cons_succ])
          | (refine wk_assign _ (by first | exact wanted_none rfl | exact wanted_yes _ _ rfl rfl) rfl ?_; simp only [Act.put, Act.eval, Array.getD_eq_getD_getElem?, List.getElem?_toArray, List.getElem?_cons_succ, List.getElem?_cons_zero, Option.getD_some, List.setIfInBounds_toArray, List.set_cons_zero, List.set_cons_succ])
          | (refine wk_pickt _ _ _ _ (by first | exact wanted_none rfl | exact wanted_yes _ _ rfl rfl) rfl rfl rfl ?_; simp only [Act.put, Act.eval, Array.getD_eq_getD_getElem?, List.getElem?_toArray, List.getElem?_cons_succ, List.getElem?_cons_zero, Option.getD_some, List.setIfInBounds_toArray, List.set_cons_zero, List.set_cons_succ])
          | (refine wk_pickf _ _ _ _ (by first | exact wanted_none rfl | exact wanted_yes _ _ rfl rfl) rfl rfl rfl ?_; simp only [Act.put, Act.eval, Array.getD_eq_getD_getElem?, List.getElem?_toArray, List.getElem?_cons_succ, List.getElem?_cons_zero, Option.getD_some, List.setIfInBounds_toArray, List.set_cons_zero, List.set_cons_succ])
          | (refine wk_skip (wanted_not _ true false rfl rfl rfl) ?_; simp only [Act.put, List.setIfInBounds_toArray, List.set_cons_zero, List.set_cons_succ])
          | (refine wk_skip (wanted_not _ false true rfl rfl rfl) ?_; simp only [Act.put, List.setIfInBounds_toArray, List.set_cons_zero, List.set_cons_succ])
          | (refine wk_skip (wanted_undef _ _ rfl rfl) ?_; simp only [Act.put, List.setIfInBounds_toArray, List.set_cons_zero, List.set_cons_succ])
          | (refine wk_not true _ _ (by first | exact wanted_none rfl | exact wanted_yes _ _ rfl rfl) rfl rfl ?_; simp only [Act.put, List.setIfInBounds_toArray, List.set_cons_zero, List.set_cons_succ])
          | (refine wk_not false _ _ (by first | exact wanted_none rfl | exact wanted_yes _ _ rfl rfl) rfl rfl ?_; simp only [Act.put, List.setIfInBounds_toArray, List.set_cons_zero, List.set_cons_succ]))
        refine wk_index 62 33 _ _ g2 0 2 2 1 256 .i64 (by first | exact wanted_none rfl | exact wanted_yes _ _ rfl rfl) rfl Tryd.underlying62 sizeB rfl rfl (by omega) ?_
        simp only [Act.put, List.setIfInBounds_toArray, List.set_cons_zero, List.set_cons_succ]
        refine wk_load_mid 33 _ g2 256 (blk y) _ (by first | exact wanted_none rfl | exact wanted_yes _ _ rfl rfl) rfl rfl (fun w' hC => pair_snd HL.out (hC.row (R10.out.get 6 rfl))) Tryd.underlying33 rfl (by rw [HYs.out]; exact sizeB) ?_
        simp only [Act.put, List.setIfInBounds_toArray, List.set_cons_zero, List.set_cons_succ]
        refine wk_call 57 _ _ _ _ _ (by kernel_rfl) rfl Tryd.func57 rfl (by kernel_rfl) (fun w' hC => hC.call (HG.out.zero w')) ?_
        simp only [Act.put, List.setIfInBounds_toArray, List.set_cons_zero, List.set_cons_succ]
        repeat (first
          | (refine wk_move _ (by first | exact wanted_none rfl | exact wanted_yes _ _ rfl rfl) rfl ?_; simp only [Act.put, Act.eval, Array.getD_eq_getD_getElem?, List.getElem?_toArray, List.getElem?_cons_succ, List.getElem?_cons_zero, Option.getD_some, List.setIfInBounds_toArray, List.set_cons_zero, List.set_cons_succ])
          | (refine wk_assign _ (by first | exact wanted_none rfl | exact wanted_yes _ _ rfl rfl) rfl ?_; simp only [Act.put, Act.eval, Array.getD_eq_getD_getElem?, List.getElem?_toArray, List.getElem?_cons_succ, List.getElem?_cons_zero, Option.getD_some, List.setIfInBounds_toArray, List.set_cons_zero, List.set_cons_succ])
          | (refine wk_pickt _ _ _ _ (by first | exact wanted_none rfl | exact wanted_yes _ _ rfl rfl) rfl rfl rfl ?_; simp only [Act.put, Act.eval, Array.getD_eq_getD_getElem?, List.getElem?_toArray, List.getElem?_cons_succ, List.getElem?_cons_zero, Option.getD_some, List.setIfInBounds_toArray, List.set_cons_zero, List.set_cons_succ])
          | (refine wk_pickf _ _ _ _ (by first | exact wanted_none rfl | exact wanted_yes _ _ rfl rfl) rfl rfl rfl ?_; simp only [Act.put, Act.eval, Array.getD_eq_getD_getElem?, List.getElem?_toArray, List.getElem?_cons_succ, List.getElem?_cons_zero, Option.getD_some, List.setIfInBounds_toArray, List.set_cons_zero, List.set_cons_succ])
          | (refine wk_skip (wanted_not _ true false rfl rfl rfl) ?_; simp only [Act.put, List.setIfInBounds_toArray, List.set_cons_zero, List.set_cons_succ])
          | (refine wk_skip (wanted_not _ false true rfl rfl rfl) ?_; simp only [Act.put, List.setIfInBounds_toArray, List.set_cons_zero, List.set_cons_succ])
          | (refine wk_skip (wanted_undef _ _ rfl rfl) ?_; simp only [Act.put, List.setIfInBounds_toArray, List.set_cons_zero, List.set_cons_succ])
          | (refine wk_not true _ _ (by first | exact wanted_none rfl | exact wanted_yes _ _ rfl rfl) rfl rfl ?_; simp only [Act.put, List.setIfInBounds_toArray, List.set_cons_zero, List.set_cons_succ])
          | (refine wk_not false _ _ (by first | exact wanted_none rfl | exact wanted_yes _ _ rfl rfl) rfl rfl ?_; simp only [Act.put, List.setIfInBounds_toArray, List.set_cons_zero, List.set_cons_succ]))
        refine wk_nil ?_
        intro w' hC
        have R11 := Lib.hid ((R10.out.since hC).drop 6)
        clear hC
        go_wp2_with fail
        exact ⟨⟨1 + 1, _, by rfl, by omega, rfl, R11.out⟩, by simp [intOf]⟩
      · rcases hE with hE | ⟨hE, rfl⟩ <;> rcases hG with hG | ⟨hG, rfl⟩ <;> have HE := Lib.hid hE <;> have HGG := Lib.hid hG <;> clear hE hG
        · skip
          refine wk_region_since (by kernel_rfl) (by kernel_rfl) ?_
          repeat (first
            | (refine wk_move _ (by first | exact wanted_none rfl | exact wanted_yes _ _ rfl rfl) rfl ?_; simp only [Act.put, Act.eval, Array.getD_eq_getD_getElem?, List.getElem?_toArray, List.getElem?_cons_succ, List.getElem?_cons_zero, Option.getD_some, List.setIfInBounds_toArray, List.set_cons_zero, List.set_cons_succ])
            | (refine wk_assign _ (by first | exact wanted_none rfl | exact wanted_yes _ _ rfl rfl) rfl ?_; simp only [Act.put, Act.eval, Array.getD_eq_getD_getElem?, List.getElem?_toArray, List.getElem?_cons_succ, List.getElem?_cons_zero, Option.getD_some, List.setIfInBounds_toArray, List.set_cons_zero, List.set_cons_succ])
            | (refine wk_pickt _ _ _ _ (by first | exact wanted_none rfl | exact wanted_yes _ _ rfl rfl) rfl rfl rfl ?_; simp only [Act.put, Act.eval, Array.getD_eq_getD_getElem?, List.getElem?_toArray, List.getElem?_cons_succ, List.getElem?_cons_zero, Option.getD_some, List.setIfInBounds_toArray, List.set_cons_zero, List.set_cons_succ])
            | (refine wk_pickf _ _ _ _ (by first | exact wanted_none rfl | exact wanted_yes _ _ rfl rfl) rfl rfl rfl ?_; simp only [Act.put, Act.eval, Array.getD_eq_getD_getElem?, List.getElem?_toArray, List.getElem?_cons_succ, List.getElem?_cons_zero, Option.getD_some, List.setIfInBounds_toArray, List.set_cons_zero, List.set_cons_succ])
            | (refine wk_skip (wanted_not _ true false rfl rfl rfl) ?_; simp only [Act.put, List.setIfInBounds_toArray, List.set_cons_zero, List.set_cons_succ])
            | (refine wk_skip (wanted_not _ false true rfl rfl rfl) ?_; simp only [Act.put, List.setIfInBounds_toArray, List.set_cons_zero, List.set_cons_succ])
            | (refine wk_skip (wanted_undef _ _ rfl rfl) ?_; simp only [Act.put, List.setIfInBounds_toArray, List.set_cons_zero, List.set_cons_succ])
            | (refine wk_not true _ _ (by first | exact wanted_none rfl | exact wanted_yes _ _ rfl rfl) rfl rfl ?_; simp only [Act.put, List.setIfInBounds_toArray, List.set_cons_zero, List.set_cons_succ])
            | (refine wk_not false _ _ (by first | exact wanted_none rfl | exact wanted_yes _ _ rfl rfl) rfl rfl ?_; simp only [Act.put, List.setIfInBounds_toArray, List.set_cons_zero, List.set_cons_succ]))
          refine wk_index 62 33 _ _ g2 0 2 2 1 256 .i64 (by first | exact wanted_none rfl | exact wanted_yes _ _ rfl rfl) rfl Tryd.underlying62 sizeB rfl rfl (by omega) ?_
          simp only [Act.put, List.setIfInBounds_toArray, List.set_cons_zero, List.set_cons_succ]
          refine wk_load_mid 33 _ g2 256 (blk y) _ (by first | exact wanted_none rfl | exact wanted_yes _ _ rfl rfl) rfl rfl (fun w' hC => pair_snd HL.out (hC.row (R10.out.get 6 rfl))) Tryd.underlying33 rfl (by rw [HYs.out]; exact sizeB) ?_
          simp only [Act.put, List.setIfInBounds_toArray, List.set_cons_zero, List.set_cons_succ]
          refine wk_call 57 _ _ _ _ _ (by kernel_rfl) rfl Tryd.func57 rfl (by kernel_rfl) (fun w' hC => hC.call (HG.out.zero w')) ?_
          simp only [Act.put, List.setIfInBounds_toArray, List.set_cons_zero, List.set_cons_succ]
          repeat (first
            | (refine wk_move _ (by first | exact wanted_none rfl | exact wanted_yes _ _ rfl rfl) rfl ?_; simp only [Act.put, Act.eval, Array.getD_eq_getD_getElem?, List.getElem?_toArray, List.getElem?_cons_succ, List.getElem?_cons_zero, Option.getD_some, List.setIfInBounds_toArray, List.set_cons_zero, List.set_cons_succ])
            | (refine wk_assign _ (by first | exact wanted_none rfl | exact wanted_yes _ _ rfl rfl) rfl ?_; simp only [Act.put, Act.eval, Array.getD_eq_getD_getElem?, List.getElem?_toArray, List.getElem?_cons_succ, List.getElem?_cons_zero, Option.getD_some, List.setIfInBounds_toArray, List.set_cons_zero, List.set_cons_succ])
            | (refine wk_pickt _ _ _ _ (by first | exact wanted_none rfl | exact wanted_yes _ _ rfl rfl) rfl rfl rfl ?_; simp only [Act.put, Act.eval, Array.getD_eq_getD_getElem?, List.getElem?_toArray, List.getElem?_cons_succ, List.getElem?_cons_zero, Option.getD_some, List.setIfInBounds_toArray, List.set_cons_zero, List.set_cons_succ])
            | (refine wk_pickf _ _ _ _ (by first | exact wanted_none rfl | exact wanted_yes _ _ rfl rfl) rfl rfl rfl ?_; simp only [Act.put, Act.eval, Array.getD_eq_getD_getElem?, List.getElem?_toArray, List.getElem?_cons_succ, List.getElem?_cons_zero, Option.getD_some, List.setIfInBounds_toArray, List.set_cons_zero, List.set_cons_succ])
            | (refine wk_skip (wanted_not _ true false rfl rfl rfl) ?_; simp only [Act.put, List.setIfInBounds_toArray, List.set_cons_zero, List.set_cons_succ])
            | (refine wk_skip (wanted_not _ false true rfl rfl rfl) ?_; simp only [Act.put, List.setIfInBounds_toArray, List.set_cons_zero, List.set_cons_succ])
            | (refine wk_skip (wanted_undef _ _ rfl rfl) ?_; simp only [Act.put, List.setIfInBounds_toArray, List.set_cons_zero, List.set_cons_succ])
            | (refine wk_not true _ _ (by first | exact wanted_none rfl | exact wanted_yes _ _ rfl rfl) rfl rfl ?_; simp only [Act.put, List.setIfInBounds_toArray, List.set_cons_zero, List.set_cons_succ])
            | (refine wk_not false _ _ (by first | exact wanted_none rfl | exact wanted_yes _ _ rfl rfl) rfl rfl ?_; simp only [Act.put, List.setIfInBounds_toArray, List.set_cons_zero, List.set_cons_succ]))
          refine wk_eql_int false _ _ _ _ _ _ _ (by kernel_rfl) rfl rfl rfl (HE.out) ?_
          simp only [Act.put, List.setIfInBounds_toArray, List.set_cons_zero, List.set_cons_succ]
          repeat (first
            | (refine wk_move _ (by first | exact wanted_none rfl | exact wanted_yes _ _ rfl rfl) rfl ?_; simp only [Act.put, Act.eval, Array.getD_eq_getD_getElem?, List.getElem?_toArray, List.getElem?_cons_succ, List.getElem?_cons_zero, Option.getD_some, List.setIfInBounds_toArray, List.set_cons_zero, List.set_cons_succ])
            | (refine wk_assign _ (by first | exact wanted_none rfl | exact wanted_yes _ _ rfl rfl) rfl ?_; simp only [Act.put, Act.eval, Array.getD_eq_getD_getElem?, List.getElem?_toArray, List.getElem?_cons_succ, List.getElem?_cons_zero, Option.getD_some, List.setIfInBounds_toArray, List.set_cons_zero, List.set_cons_succ])
            | (refine wk_pickt _ _ _ _ (by first | exact wanted_none rfl | exact wanted_yes _ _ rfl rfl) rfl rfl rfl ?_; simp only [Act.put, Act.eval, Array.getD_eq_getD_getElem?, List.getElem?_toArray, List.getElem?_cons_succ, List.getElem?_cons_zero, Option.getD_some, List.setIfInBounds_toArray, List.set_cons_zero, List.set_cons_succ])
            | (refine wk_pickf _ _ _ _ (by first | exact wanted_none rfl | exact wanted_yes _ _ rfl rfl) rfl rfl rfl ?_; simp only [Act.put, Act.eval, Array.getD_eq_getD_getElem?, List.getElem?_toArray, List.getElem?_cons_succ, List.getElem?_cons_zero, Option.getD_some, List.setIfInBounds_toArray, List.set_cons_zero, List.set_cons_succ])
            | (refine wk_skip (wanted_not _ true false rfl rfl rfl) ?_; simp only [Act.put, List.setIfInBounds_toArray, List.set_cons_zero, List.set_cons_succ])
            | (refine wk_skip (wanted_not _ false true rfl rfl rfl) ?_; simp only [Act.put, List.setIfInBounds_toArray, List.set_cons_zero, List.set_cons_succ])
            | (refine wk_skip (wanted_undef _ _ rfl rfl) ?_; simp only [Act.put, List.setIfInBounds_toArray, List.set_cons_zero, List.set_cons_succ])
            | (refine wk_not true _ _ (by first | exact wanted_none rfl | exact wanted_yes _ _ rfl rfl) rfl rfl ?_; simp only [Act.put, List.setIfInBounds_toArray, List.set_cons_zero, List.set_cons_succ])
            | (refine wk_not false _ _ (by first | exact wanted_none rfl | exact wanted_yes _ _ rfl rfl) rfl rfl ?_; simp only [Act.put, List.setIfInBounds_toArray, List.set_cons_zero, List.set_cons_succ]))
          refine wk_eql_int false _ _ _ _ _ _ _ (by kernel_rfl) rfl rfl rfl (HGG.out) ?_
          simp only [Act.put, List.setIfInBounds_toArray, List.set_cons_zero, List.set_cons_succ]
          repeat (first
            | (refine wk_move _ (by first | exact wanted_none rfl | exact wanted_yes _ _ rfl rfl) rfl ?_; simp only [Act.put, Act.eval, Array.getD_eq_getD_getElem?, List.getElem?_toArray, List.getElem?_cons_succ, List.getElem?_cons_zero, Option.getD_some, List.setIfInBounds_toArray, List.set_cons_zero, List.set_cons_succ])
            | (refine wk_assign _ (by first | exact wanted_none rfl | exact wanted_yes _ _ rfl rfl) rfl ?_; simp only [Act.put, Act.eval, Array.getD_eq_getD_getElem?, List.getElem?_toArray, List.getElem?_cons_succ, List.getElem?_cons_zero, Option.getD_some, List.setIfInBounds_toArray, List.set_cons_zero, List.set_cons_succ])
            | (refine wk_pickt _ _ _ _ (by first | exact wanted_none rfl | exact wanted_yes _ _ rfl rfl) rfl rfl rfl ?_; simp only [Act.put, Act.eval, Array.getD_eq_getD_getElem?, List.getElem?_toArray, List.getElem?_cons_succ, List.getElem?_cons_zero, Option.getD_some, List.setIfInBounds_toArray, List.set_cons_zero, List.set_cons_succ])
            | (refine wk_pickf _ _ _ _ (by first | exact wanted_none rfl | exact wanted_yes _ _ rfl rfl) rfl rfl rfl ?_; simp only [Act.put, Act.eval, Array.getD_eq_getD_getElem?, List.getElem?_toArray, List.getElem?_cons_succ, List.getElem?_cons_zero, Option.getD_some, List.setIfInBounds_toArray, List.set_cons_zero, List.set_cons_succ])
            | (refine wk_skip (wanted_not _ true false rfl rfl rfl) ?_; simp only [Act.put, List.setIfInBounds_toArray, List.set_cons_zero, List.set_cons_succ])
            | (refine wk_skip (wanted_not _ false true rfl rfl rfl) ?_; simp only [Act.put, List.setIfInBounds_toArray, List.set_cons_zero, List.set_cons_succ])
            | (refine wk_skip (wanted_undef _ _ rfl rfl) ?_; simp only [Act.put, List.setIfInBounds_toArray, List.set_cons_zero, List.set_cons_succ])
            | (refine wk_not true _ _ (by first | exact wanted_none rfl | exact wanted_yes _ _ rfl rfl) rfl rfl ?_; simp only [Act.put, List.setIfInBounds_toArray, List.set_cons_zero, List.set_cons_succ])
            | (refine wk_not false _ _ (by first | exact wanted_none rfl | exact wanted_yes _ _ rfl rfl) rfl rfl ?_; simp only [Act.put, List.setIfInBounds_toArray, List.set_cons_zero, List.set_cons_succ]))
          refine wk_nil ?_
          intro w' hC
          have R11 := Lib.hid ((R10.out.since hC).drop 6)
          clear hC
          go_wp2_with fail
          exact ⟨⟨1 + 1, _, by rfl, by omega, rfl, R11.out⟩, by simp [intOf]⟩
        · skip
          refine wk_region_since (by kernel_rfl) (by kernel_rfl) ?_
          repeat (first
            | (refine wk_move _ (by first | exact wanted_none rfl | exact wanted_yes _ _ rfl rfl) rfl ?_; simp only [Act.put, Act.eval, Array.getD_eq_getD_getElem?, List.getElem?_toArray, List.getElem?_cons_succ, List.getElem?_cons_zero, Option.getD_some, List.setIfInBounds_toArray, List.set_cons_zero, List.set_cons_succ])
            | (refine wk_assign _ (by first | exact wanted_none rfl | exact wanted_yes _ _ rfl rfl) rfl ?_; simp only [Act.put, Act.eval, Array.getD_eq_getD_getElem?, List.getElem?_toArray, List.getElem?_cons_succ, List.getElem?_cons_zero, Option.getD_some, List.setIfInBounds_toArray, List.set_cons_zero, List.set_cons_succ])
            | (refine wk_pickt _ _ _ _ (by first | exact wanted_none rfl | exact wanted_yes _ _ rfl rfl) rfl rfl rfl ?_; simp only [Act.put, Act.eval, Array.getD_eq_getD_getElem?, List.getElem?_toArray, List.getElem?_cons_succ, List.getElem?_cons_zero, Option.getD_some, List.setIfInBounds_toArray, List.set_cons_zero, List.set_cons_succ])
            | (refine wk_pickf _ _ _ _ (by first | exact wanted_none rfl | exact wanted_yes _ _ rfl rfl) rfl rfl rfl ?_; simp only [Act.put, Act.eval, Array.getD_eq_getD_getElem?, List.getElem?_toArray, List.getElem?_cons_succ, List.getElem?_cons_zero, Option.getD_some, List.setIfInBounds_toArray, List.set_cons_zero, List.set_cons_succ])
            | (refine wk_skip (wanted_not _ true false rfl rfl rfl) ?_; simp only [Act.put, List.setIfInBounds_toArray, List.set_cons_zero, List.set_cons_succ])
            | (refine wk_skip (wanted_not _ false true rfl rfl rfl) ?_; simp only [Act.put, List.setIfInBounds_toArray, List.set_cons_zero, List.set_cons_succ])
            | (refine wk_skip (wanted_undef _ _ rfl rfl) ?_; simp only [Act.put, List.setIfInBounds_toArray, List.set_cons_zero, List.set_cons_succ])
            | (refine wk_not true _ _ (by first | exact wanted_none rfl | exact wanted_yes _ _ rfl rfl) rfl rfl ?_; simp only [Act.put, List.setIfInBounds_toArray, List.set_cons_zero, List.set_cons_succ])
            | (refine wk_not false _ _ (by first | exact wanted_none rfl | exact wanted_yes _ _ rfl rfl) rfl rfl ?_; simp only [Act.put, List.setIfInBounds_toArray, List.set_cons_zero, List.set_cons_succ]))
          refine wk_index 62 33 _ _ g2 0 2 2 1 256 .i64 (by first | exact wanted_none rfl | exact wanted_yes _ _ rfl rfl) rfl Tryd.underlying62 sizeB rfl rfl (by omega) ?_
          simp only [Act.put, List.setIfInBounds_toArray, List.set_cons_zero, List.set_cons_succ]
          refine wk_load_mid 33 _ g2 256 (blk y) _ (by first | exact wanted_none rfl | exact wanted_yes _ _ rfl rfl) rfl rfl (fun w' hC => pair_snd HL.out (hC.row (R10.out.get 6 rfl))) Tryd.underlying33 rfl (by rw [HYs.out]; exact sizeB) ?_
          simp only [Act.put, List.setIfInBounds_toArray, List.set_cons_zero, List.set_cons_succ]
          refine wk_call 57 _ _ _ _ _ (by kernel_rfl) rfl Tryd.func57 rfl (by kernel_rfl) (fun w' hC => hC.call (HG.out.zero w')) ?_
          simp only [Act.put, List.setIfInBounds_toArray, List.set_cons_zero, List.set_cons_succ]
          repeat (first
            | (refine wk_move _ (by first | exact wanted_none rfl | exact wanted_yes _ _ rfl rfl) rfl ?_; simp only [Act.put, Act.eval, Array.getD_eq_getD_getElem?, List.getElem?_toArray, List.getElem?_cons_succ, List.getElem?_cons_zero, Option.getD_some, List.setIfInBounds_toArray, List.set_cons_zero, List.set_cons_succ])
            | (refine wk_assign _ (by first | exact wanted_none rfl | exact wanted_yes _ _ rfl rfl) rfl ?_; simp only [Act.put, Act.eval, Array.getD_eq_getD_getElem?, List.getElem?_toArray, List.getElem?_cons_succ, List.getElem?_cons_zero, Option.getD_some, List.setIfInBounds_toArray, List.set_cons_zero, List.set_cons_succ])
            | (refine wk_pickt _ _ _ _ (by first | exact wanted_none rfl | exact wanted_yes _ _ rfl rfl) rfl rfl rfl ?_; simp only [Act.put, Act.eval, Array.getD_eq_getD_getElem?, List.getElem?_toArray, List.getElem?_cons_succ, List.getElem?_cons_zero, Option.getD_some, List.setIfInBounds_toArray, List.set_cons_zero, List.set_cons_succ])
            | (refine wk_pickf _ _ _ _ (by first | exact wanted_none rfl | exact wanted_yes _ _ rfl rfl) rfl rfl rfl ?_; simp only [Act.put, Act.eval, Array.getD_eq_getD_getElem?, List.getElem?_toArray, List.getElem?_cons_succ, List.getElem?_cons_zero, Option.getD_some, List.setIfInBounds_toArray, List.set_cons_zero, List.set_cons_succ])
            | (refine wk_skip (wanted_not _ true false rfl rfl rfl) ?_; simp only [Act.put, List.setIfInBounds_toArray, List.set_cons_zero, List.set_cons_succ])
            | (refine wk_skip (wanted_not _ false true rfl rfl rfl) ?_; simp only [Act.put, List.setIfInBounds_toArray, List.set_cons_zero, List.set_cons_succ])
            | (refine wk_skip (wanted_undef _ _ rfl rfl) ?_; simp only [Act.put, List.setIfInBounds_toArray, List.set_cons_zero, List.set_cons_succ])
            | (refine wk_not true _ _ (by first | exact wanted_none rfl | exact wanted_yes _ _ rfl rfl) rfl rfl ?_; simp only [Act.put, List.setIfInBounds_toArray, List.set_cons_zero, List.set_cons_succ])
            | (refine wk_not false _ _ (by first | exact wanted_none rfl | exact wanted_yes _ _ rfl rfl) rfl rfl ?_; simp only [Act.put, List.setIfInBounds_toArray, List.set_cons_zero, List.set_cons_succ]))
          refine wk_eql_int false _ _ _ _ _ _ _ (by kernel_rfl) rfl rfl rfl (HE.out) ?_
          simp only [Act.put, List.setIfInBounds_toArray, List.set_cons_zero, List.set_cons_succ]
          repeat (first
            | (refine wk_move _ (by first | exact wanted_none rfl | exact wanted_yes _ _ rfl rfl) rfl ?_; simp only [Act.put, Act.eval, Array.getD_eq_getD_getElem?, List.getElem?_toArray, List.getElem?_cons_succ, List.getElem?_cons_zero, Option.getD_some, List.setIfInBounds_toArray, List.set_cons_zero, List.set_cons_succ])
            | (refine wk_assign _ (by first | exact wanted_none rfl | exact wanted_yes _ _ rfl rfl) rfl ?_; simp only [Act.put, Act.eval, Array.getD_eq_getD_getElem?, List.getElem?_toArray, List.getElem?_cons_succ, List.getElem?_cons_zero, Option.getD_some, List.setIfInBounds_toArray, List.set_cons_zero, List.set_cons_succ])
            | (refine wk_pickt _ _ _ _ (by first | exact wanted_none rfl | exact wanted_yes _ _ rfl rfl) rfl rfl rfl ?_; simp only [Act.put, Act.eval, Array.getD_eq_getD_getElem?, List.getElem?_toArray, List.getElem?_cons_succ, List.getElem?_cons_zero, Option.getD_some, List.setIfInBounds_toArray, List.set_cons_zero, List.set_cons_succ])
            | (refine wk_pickf _ _ _ _ (by first | exact wanted_none rfl | exact wanted_yes _ _ rfl rfl) rfl rfl rfl ?_; simp only [Act.put, Act.eval, Array.getD_eq_getD_getElem?, List.getElem?_toArray, List.getElem?_cons_succ, List.getElem?_cons_zero, Option.getD_some, List.setIfInBounds_toArray, List.set_cons_zero, List.set_cons_succ])
            | (refine wk_skip (wanted_not _ true false rfl rfl rfl) ?_; simp only [Act.put, List.setIfInBounds_toArray, List.set_cons_zero, List.set_cons_succ])
            | (refine wk_skip (wanted_not _ false true rfl rfl rfl) ?_; simp only [Act.put, List.setIfInBounds_toArray, List.set_cons_zero, List.set_cons_succ])
            | (refine wk_skip (wanted_undef _ _ rfl rfl) ?_; simp only [Act.put, List.setIfInBounds_toArray, List.set_cons_zero, List.set_cons_succ])
            | (refine wk_not true _ _ (by first | exact wanted_none rfl | exact wanted_yes _ _ rfl rfl) rfl rfl ?_; simp only [Act.put, List.setIfInBounds_toArray, List.set_cons_zero, List.set_cons_succ])
            | (refine wk_not false _ _ (by first | exact wanted_none rfl | exact wanted_yes _ _ rfl rfl) rfl rfl ?_; simp only [Act.put, List.setIfInBounds_toArray, List.set_cons_zero, List.set_cons_succ]))
          refine wk_eql_int true _ _ _ _ _ _ _ (by kernel_rfl) rfl rfl rfl (HGG.out) ?_
          simp only [Act.put, List.setIfInBounds_toArray, List.set_cons_zero, List.set_cons_succ]
          repeat (first
            | (refine wk_move _ (by first | exact wanted_none rfl | exact wanted_yes _ _ rfl rfl) rfl ?_; simp only [Act.put, Act.eval, Array.getD_eq_getD_getElem?, List.getElem?_toArray, List.getElem?_cons_succ, List.getElem?_cons_zero, Option.getD_some, List.setIfInBounds_toArray, List.set_cons_zero, List.set_cons_succ])
            | (refine wk_assign _ (by first | exact wanted_none rfl | exact wanted_yes _ _ rfl rfl) rfl ?_; simp only [Act.put, Act.eval, Array.getD_eq_getD_getElem?, List.getElem?_toArray, List.getElem?_cons_succ, List.getElem?_cons_zero, Option.getD_some, List.setIfInBounds_toArray, List.set_cons_zero, List.set_cons_succ])
            | (refine wk_pickt _ _ _ _ (by first | exact wanted_none rfl | exact wanted_yes _ _ rfl rfl) rfl rfl rfl ?_; simp only [Act.put, Act.eval, Array.getD_eq_getD_getElem?, List.getElem?_toArray, List.getElem?_cons_succ, List.getElem?_cons_zero, Option.getD_some, List.setIfInBounds_toArray, List.set_cons_zero, List.set_cons_succ])
            | (refine wk_pickf _ _ _ _ (by first | exact wanted_none rfl | exact wanted_yes _ _ rfl rfl) rfl rfl rfl ?_; simp only [Act.put, Act.eval, Array.getD_eq_getD_getElem?, List.getElem?_toArray, List.getElem?_cons_succ, List.getElem?_cons_zero, Option.getD_some, List.setIfInBounds_toArray, List.set_cons_zero, List.set_cons_succ])
            | (refine wk_skip (wanted_not _ true false rfl rfl rfl) ?_; simp only [Act.put, List.setIfInBounds_toArray, List.set_cons_zero, List.set_cons_succ])
            | (refine wk_skip (wanted_not _ false true rfl rfl rfl) ?_; simp only [Act.put, List.setIfInBounds_toArray, List.set_cons_zero, List.set_cons_succ])
            | (refine wk_skip (wanted_undef _ _ rfl rfl) ?_; simp only [Act.put, List.setIfInBounds_toArray, List.set_cons_zero, List.set_cons_succ])
            | (refine wk_not true _ _ (by first | exact wanted_none rfl | exact wanted_yes _ _ rfl rfl) rfl rfl ?_; simp only [Act.put, List.setIfInBounds_toArray, List.set_cons_zero, List.set_cons_succ])
            | (refine wk_not false _ _ (by first | exact wanted_none rfl | exact wanted_yes _ _ rfl rfl) rfl rfl ?_; simp only [Act.put, List.setIfInBounds_toArray, List.set_cons_zero, List.set_cons_succ]))
          refine wk_load_row 33 _ g9 33 (blk y) (0, 0) _ (by kernel_rfl) rfl rfl (fun w' hC => hC.row (R10.out.get (9 - 9) rfl)) Tryd.underlying33 rfl (by rw [HYs.out]; exact sizeB) ?_
          simp only [Act.put, List.setIfInBounds_toArray, List.set_cons_zero, List.set_cons_succ]
          repeat (first
            | (refine wk_move _ (by first | exact wanted_none rfl | exact wanted_yes _ _ rfl rfl) rfl ?_; simp only [Act.put, Act.eval, Array.getD_eq_getD_getElem?, List.getElem?_toArray, List.getElem?_cons_succ, List.getElem?_cons_zero, Option.getD_some, List.setIfInBounds_toArray, List.set_cons_zero, List.set_cons_succ])
            | (refine wk_assign _ (by first | exact wanted_none rfl | exact wanted_yes _ _ rfl rfl) rfl ?_; simp only [Act.put, Act.eval, Array.getD_eq_getD_getElem?, List.getElem?_toArray, List.getElem?_cons_succ, List.getElem?_cons_zero, Option.getD_some, List.setIfInBounds_toArray, List.set_cons_zero, List.set_cons_succ])
            | (refine wk_pickt _ _ _ _ (by first | exact wanted_none rfl | exact wanted_yes _ _ rfl rfl) rfl rfl rfl ?_; simp only [Act.put, Act.eval, Array.getD_eq_getD_getElem?, List.getElem?_toArray, List.getElem?_cons_succ, List.getElem?_cons_zero, Option.getD_some, List.setIfInBounds_toArray, List.set_cons_zero, List.set_cons_succ])
            | (refine wk_pickf _ _ _ _ (by first | exact wanted_none rfl | exact wanted_yes _ _ rfl rfl) rfl rfl rfl ?_; simp only [Act.put, Act.eval, Array.getD_eq_getD_getElem?, List.getElem?_toArray, List.getElem?_cons_succ, List.getElem?_cons_zero, Option.getD_some, List.setIfInBounds_toArray, List.set_cons_zero, List.set_cons_succ])
            | (refine wk_skip (wanted_not _ true false rfl rfl rfl) ?_; simp only [Act.put, List.setIfInBounds_toArray, List.set_cons_zero, List.set_cons_succ])
            | (refine wk_skip (wanted_not _ false true rfl rfl rfl) ?_; simp only [Act.put, List.setIfInBounds_toArray, List.set_cons_zero, List.set_cons_succ])
            | (refine wk_skip (wanted_undef _ _ rfl rfl) ?_; simp only [Act.put, List.setIfInBounds_toArray, List.set_cons_zero, List.set_cons_succ])
            | (refine wk_not true _ _ (by first | exact wanted_none rfl | exact wanted_yes _ _ rfl rfl) rfl rfl ?_; simp only [Act.put, List.setIfInBounds_toArray, List.set_cons_zero, List.set_cons_succ])
            | (refine wk_not false _ _ (by first | exact wanted_none rfl | exact wanted_yes _ _ rfl rfl) rfl rfl ?_; simp only [Act.put, List.setIfInBounds_toArray, List.set_cons_zero, List.set_cons_succ]))
          refine wk_index 62 33 _ _ g2 0 2 2 1 256 .i64 (by first | exact wanted_none rfl | exact wanted_yes _ _ rfl rfl) rfl Tryd.underlying62 sizeB rfl rfl (by omega) ?_
          simp only [Act.put, List.setIfInBounds_toArray, List.set_cons_zero, List.set_cons_succ]
          refine wk_load_mid 33 _ g2 256 (blk y) _ (by first | exact wanted_none rfl | exact wanted_yes _ _ rfl rfl) rfl rfl (fun w' hC => pair_snd HL.out (hC.row (R10.out.get 6 rfl))) Tryd.underlying33 rfl (by rw [HYs.out]; exact sizeB) ?_
          simp only [Act.put, List.setIfInBounds_toArray, List.set_cons_zero, List.set_cons_succ]
          refine wk_eql .neq (false) 33 33 _ _ (by first | exact wanted_none rfl | exact wanted_yes _ _ rfl rfl) rfl _ _ rfl rfl (by kernel_rfl) (fun w => HG.out.eql w) ?_
          simp only [Act.put, List.setIfInBounds_toArray, List.set_cons_zero, List.set_cons_succ]
          repeat (first
            | (refine wk_move _ (by first | exact wanted_none rfl | exact wanted_yes _ _ rfl rfl) rfl ?_; simp only [Act.put, Act.eval, Array.getD_eq_getD_getElem?, List.getElem?_toArray, List.getElem?_cons_succ, List.getElem?_cons_zero, Option.getD_some, List.setIfInBounds_toArray, List.set_cons_zero, List.set_cons_succ])
            | (refine wk_assign _ (by first | exact wanted_none rfl | exact wanted_yes _ _ rfl rfl) rfl ?_; simp only [Act.put, Act.eval, Array.getD_eq_getD_getElem?, List.getElem?_toArray, List.getElem?_cons_succ, List.getElem?_cons_zero, Option.getD_some, List.setIfInBounds_toArray, List.set_cons_zero, List.set_cons_succ])
            | (refine wk_pickt _ _ _ _ (by first | exact wanted_none rfl | exact wanted_yes _ _ rfl rfl) rfl rfl rfl ?_; simp only [Act.put, Act.eval, Array.getD_eq_getD_getElem?, List.getElem?_toArray, List.getElem?_cons_succ, List.getElem?_cons_zero, Option.getD_some, List.setIfInBounds_toArray, List.set_cons_zero, List.set_cons_succ])
            | (refine wk_pickf _ _ _ _ (by first | exact wanted_none rfl | exact wanted_yes _ _ rfl rfl) rfl rfl rfl ?_; simp only [Act.put, Act.eval, Array.getD_eq_getD_getElem?, List.getElem?_toArray, List.getElem?_cons_succ, List.getElem?_cons_zero, Option.getD_some, List.setIfInBounds_toArray, List.set_cons_zero, List.set_cons_succ])
            | (refine wk_skip (wanted_not _ true false rfl rfl rfl) ?_; simp only [Act.put, List.setIfInBounds_toArray, List.set_cons_zero, List.set_cons_succ])
            | (refine wk_skip (wanted_not _ false true rfl rfl rfl) ?_; simp only [Act.put, List.setIfInBounds_toArray, List.set_cons_zero, List.set_cons_succ])
            | (refine wk_skip (wanted_undef _ _ rfl rfl) ?_; simp only [Act.put, List.setIfInBounds_toArray, List.set_cons_zero, List.set_cons_succ])
            | (refine wk_not true _ _ (by first | exact wanted_none rfl | exact wanted_yes _ _ rfl rfl) rfl rfl ?_; simp only [Act.put, List.setIfInBounds_toArray, List.set_cons_zero, List.set_cons_succ])
            | (refine wk_not false _ _ (by first | exact wanted_none rfl | exact wanted_yes _ _ rfl rfl) rfl rfl ?_; simp only [Act.put, List.setIfInBounds_toArray, List.set_cons_zero, List.set_cons_succ]))
          refine wk_nil ?_
          intro w' hC
          have R11 := Lib.hid ((R10.out.since hC).drop 6)
          clear hC
          go_wp2_with fail
          exact ⟨⟨1 + 1, _, by rfl, by omega, rfl, R11.out⟩, by simp [intOf]⟩
        · skip
          refine wk_region_since (by kernel_rfl) (by kernel_rfl) ?_
          repeat (first
            | (refine wk_move _ (by first | exact wanted_none rfl | exact wanted_yes _ _ rfl rfl) rfl ?_; simp only [Act.put, Act.eval, Array.getD_eq_getD_getElem?, List.getElem?_toArray, List.getElem?_cons_succ, List.getElem?_cons_zero, Option.getD_some, List.setIfInBounds_toArray, List.set_cons_zero, List.set_cons_succ])
            | (refine wk_assign _ (by first | exact wanted_none rfl | exact wanted_yes _ _ rfl rfl) rfl ?_; simp only [Act.put, Act.eval, Array.getD_eq_getD_getElem?, List.getElem?_toArray, List.getElem?_cons_succ, List.getElem?_cons_zero, Option.getD_some, List.setIfInBounds_toArray, List.set_cons_zero, List.set_cons_succ])
            | (refine wk_pickt _ _ _ _ (by first | exact wanted_none rfl | exact wanted_yes _ _ rfl rfl) rfl rfl rfl ?_; simp only [Act.put, Act.eval, Array.getD_eq_getD_getElem?, List.getElem?_toArray, List.getElem?_cons_succ, List.getElem?_cons_zero, Option.getD_some, List.setIfInBounds_toArray, List.set_cons_zero, List.set_cons_succ])
            | (refine wk_pickf _ _ _ _ (by first | exact wanted_none rfl | exact wanted_yes _ _ rfl rfl) rfl rfl rfl ?_; simp only [Act.put, Act.eval, Array.getD_eq_getD_getElem?, List.getElem?_toArray, List.getElem?_cons_succ, List.getElem?_cons_zero, Option.getD_some, List.setIfInBounds_toArray, List.set_cons_zero, List.set_cons_succ])
            | (refine wk_skip (wanted_not _ true false rfl rfl rfl) ?_; simp only [Act.put, List.setIfInBounds_toArray, List.set_cons_zero, List.set_cons_succ])
            | (refine wk_skip (wanted_not _ false true rfl rfl rfl) ?_; simp only [Act.put, List.setIfInBounds_toArray, List.set_cons_zero, List.set_cons_succ])
            | (refine wk_skip (wanted_undef _ _ rfl rfl) ?_; simp only [Act.put, List.setIfInBounds_toArray, List.set_cons_zero, List.set_cons_succ])
            | (refine wk_not true _ _ (by first | exact wanted_none rfl | exact wanted_yes _ _ rfl rfl) rfl rfl ?_; simp only [Act.put, List.setIfInBounds_toArray, List.set_cons_zero, List.set_cons_succ])
            | (refine wk_not false _ _ (by first | exact wanted_none rfl | exact wanted_yes _ _ rfl rfl) rfl rfl ?_; simp only [Act.put, List.setIfInBounds_toArray, List.set_cons_zero, List.set_cons_succ]))
          refine wk_index 62 33 _ _ g2 0 2 2 1 256 .i64 (by first | exact wanted_none rfl | exact wanted_yes _ _ rfl rfl) rfl Tryd.underlying62 sizeB rfl rfl (by omega) ?_
          simp only [Act.put, List.setIfInBounds_toArray, List.set_cons_zero, List.set_cons_succ]
          refine wk_load_mid 33 _ g2 256 (blk y) _ (by first | exact wanted_none rfl | exact wanted_yes _ _ rfl rfl) rfl rfl (fun w' hC => pair_snd HL.out (hC.row (R10.out.get 6 rfl))) Tryd.underlying33 rfl (by rw [HYs.out]; exact sizeB) ?_
          simp only [Act.put, List.setIfInBounds_toArray, List.set_cons_zero, List.set_cons_succ]
          refine wk_call 57 _ _ _ _ _ (by kernel_rfl) rfl Tryd.func57 rfl (by kernel_rfl) (fun w' hC => hC.call (HG.out.zero w')) ?_
          simp only [Act.put, List.setIfInBounds_toArray, List.set_cons_zero, List.set_cons_succ]
          repeat (first
            | (refine wk_move _ (by first | exact wanted_none rfl | exact wanted_yes _ _ rfl rfl) rfl ?_; simp only [Act.put, Act.eval, Array.getD_eq_getD_getElem?, List.getElem?_toArray, List.getElem?_cons_succ, List.getElem?_cons_zero, Option.getD_some, List.setIfInBounds_toArray, List.set_cons_zero, List.set_cons_succ])
            | (refine wk_assign _ (by first | exact wanted_none rfl | exact wanted_yes _ _ rfl rfl) rfl ?_; simp only [Act.put, Act.eval, Array.getD_eq_getD_getElem?, List.getElem?_toArray, List.getElem?_cons_succ, List.getElem?_cons_zero, Option.getD_some, List.setIfInBounds_toArray, List.set_cons_zero, List.set_cons_succ])
            | (refine wk_pickt _ _ _ _ (by first | exact wanted_none rfl | exact wanted_yes _ _ rfl rfl) rfl rfl rfl ?_; simp only [Act.put, Act.eval, Array.getD_eq_getD_getElem?, List.getElem?_toArray, List.getElem?_cons_succ, List.getElem?_cons_zero, Option.getD_some, List.setIfInBounds_toArray, List.set_cons_zero, List.set_cons_succ])
            | (refine wk_pickf _ _ _ _ (by first | exact wanted_none rfl | exact wanted_yes _ _ rfl rfl) rfl rfl rfl ?_; simp only [Act.put, Act.eval, Array.getD_eq_getD_getElem?, List.getElem?_toArray, List.getElem?_cons_succ, List.getElem?_cons_zero, Option.getD_some, List.setIfInBounds_toArray, List.set_cons_zero, List.set_cons_succ])
            | (refine wk_skip (wanted_not _ true false rfl rfl rfl) ?_; simp only [Act.put, List.setIfInBounds_toArray, List.set_cons_zero, List.set_cons_succ])
            | (refine wk_skip (wanted_not _ false true rfl rfl rfl) ?_; simp only [Act.put, List.setIfInBounds_toArray, List.set_cons_zero, List.set_cons_succ])
            | (refine wk_skip (wanted_undef _ _ rfl rfl) ?_; simp only [Act.put, List.setIfInBounds_toArray, List.set_cons_zero, List.set_cons_succ])
            | (refine wk_not true _ _ (by first | exact wanted_none rfl | exact wanted_yes _ _ rfl rfl) rfl rfl ?_; simp only [Act.put, List.setIfInBounds_toArray, List.set_cons_zero, List.set_cons_succ])
            | (refine wk_not false _ _ (by first | exact wanted_none rfl | exact wanted_yes _ _ rfl rfl) rfl rfl ?_; simp only [Act.put, List.setIfInBounds_toArray, List.set_cons_zero, List.set_cons_succ]))
          refine wk_eql_int true _ _ _ _ _ _ _ (by kernel_rfl) rfl rfl rfl (HE.out) ?_
          simp only [Act.put, List.setIfInBounds_toArray, List.set_cons_zero, List.set_cons_succ]
          repeat (first
            | (refine wk_move _ (by first | exact wanted_none rfl | exact wanted_yes _ _ rfl rfl) rfl ?_; simp only [Act.put, Act.eval, Array.getD_eq_getD_getElem?, List.getElem?_toArray, List.getElem?_cons_succ, List.getElem?_cons_zero, Option.getD_some, List.setIfInBounds_toArray, List.set_cons_zero, List.set_cons_succ])
            | (refine wk_assign _ (by first | exact wanted_none rfl | exact wanted_yes _ _ rfl rfl) rfl ?_; simp only [Act.put, Act.eval, Array.getD_eq_getD_getElem?, List.getElem?_toArray, List.getElem?_cons_succ, List.getElem?_cons_zero, Option.getD_some, List.setIfInBounds_toArray, List.set_cons_zero, List.set_cons_succ])
            | (refine wk_pickt _ _ _ _ (by first | exact wanted_none rfl | exact wanted_yes _ _ rfl rfl) rfl rfl rfl ?_; simp only [Act.put, Act.eval, Array.getD_eq_getD_getElem?, List.getElem?_toArray, List.getElem?_cons_succ, List.getElem?_cons_zero, Option.getD_some, List.setIfInBounds_toArray, List.set_cons_zero, List.set_cons_succ])
            | (refine wk_pickf _ _ _ _ (by first | exact wanted_none rfl | exact wanted_yes _ _ rfl rfl) rfl rfl rfl ?_; simp only [Act.put, Act.eval, Array.getD_eq_getD_getElem?, List.getElem?_toArray, List.getElem?_cons_succ, List.getElem?_cons_zero, Option.getD_some, List.setIfInBounds_toArray, List.set_cons_zero, List.set_cons_succ])
            | (refine wk_skip (wanted_not _ true false rfl rfl rfl) ?_; simp only [Act.put, List.setIfInBounds_toArray, List.set_cons_zero, List.set_cons_succ])
            | (refine wk_skip (wanted_not _ false true rfl rfl rfl) ?_; simp only [Act.put, List.setIfInBounds_toArray, List.set_cons_zero, List.set_cons_succ])
            | (refine wk_skip (wanted_undef _ _ rfl rfl) ?_; simp only [Act.put, List.setIfInBounds_toArray, List.set_cons_zero, List.set_cons_succ])
            | (refine wk_not true _ _ (by first | exact wanted_none rfl | exact wanted_yes _ _ rfl rfl) rfl rfl ?_; simp only [Act.put, List.setIfInBounds_toArray, List.set_cons_zero, List.set_cons_succ])
            | (refine wk_not false _ _ (by first | exact wanted_none rfl | exact wanted_yes _ _ rfl rfl) rfl rfl ?_; simp only [Act.put, List.setIfInBounds_toArray, List.set_cons_zero, List.set_cons_succ]))
          refine wk_load_row 33 _ g8 33 (blk y) (0, 0) _ (by kernel_rfl) rfl rfl (fun w' hC => hC.row (R10.out.get (9 - 8) rfl)) Tryd.underlying33 rfl (by rw [HYs.out]; exact sizeB) ?_
          simp only [Act.put, List.setIfInBounds_toArray, List.set_cons_zero, List.set_cons_succ]
          repeat (first
            | (refine wk_move _ (by first | exact wanted_none rfl | exact wanted_yes _ _ rfl rfl) rfl ?_; simp only [Act.put, Act.eval, Array.getD_eq_getD_getElem?, List.getElem?_toArray, List.getElem?_cons_succ, List.getElem?_cons_zero, Option.getD_some, List.setIfInBounds_toArray, List.set_cons_zero, List.set_cons_succ])
            | (refine wk_assign _ (by first | exact wanted_none rfl | exact wanted_yes _ _ rfl rfl) rfl ?_; simp only [Act.put, Act.eval, Array.getD_eq_getD_getElem?, List.getElem?_toArray, List.getElem?_cons_succ, List.getElem?_cons_zero, Option.getD_some, List.setIfInBounds_toArray, List.set_cons_zero, List.set_cons_succ])
            | (refine wk_pickt _ _ _ _ (by first | exact wanted_none rfl | exact wanted_yes _ _ rfl rfl) rfl rfl rfl ?_; simp only [Act.put, Act.eval, Array.getD_eq_getD_getElem?, List.getElem?_toArray, List.getElem?_cons_succ, List.getElem?_cons_zero, Option.getD_some, List.setIfInBounds_toArray, List.set_cons_zero, List.set_cons_succ])
            | (refine wk_pickf _ _ _ _ (by first | exact wanted_none rfl | exact wanted_yes _ _ rfl rfl) rfl rfl rfl ?_; simp only [Act.put, Act.eval, Array.getD_eq_getD_getElem?, List.getElem?_toArray, List.getElem?_cons_succ, List.getElem?_cons_zero, Option.getD_some, List.setIfInBounds_toArray, List.set_cons_zero, List.set_cons_succ])
            | (refine wk_skip (wanted_not _ true false rfl rfl rfl) ?_; simp only [Act.put, List.setIfInBounds_toArray, List.set_cons_zero, List.set_cons_succ])
            | (refine wk_skip (wanted_not _ false true rfl rfl rfl) ?_; simp only [Act.put, List.setIfInBounds_toArray, List.set_cons_zero, List.set_cons_succ])
            | (refine wk_skip (wanted_undef _ _ rfl rfl) ?_; simp only [Act.put, List.setIfInBounds_toArray, List.set_cons_zero, List.set_cons_succ])
            | (refine wk_not true _ _ (by first | exact wanted_none rfl | exact wanted_yes _ _ rfl rfl) rfl rfl ?_; simp only [Act.put, List.setIfInBounds_toArray, List.set_cons_zero, List.set_cons_succ])
            | (refine wk_not false _ _ (by first | exact wanted_none rfl | exact wanted_yes _ _ rfl rfl) rfl rfl ?_; simp only [Act.put, List.setIfInBounds_toArray, List.set_cons_zero, List.set_cons_succ]))
          refine wk_index 62 33 _ _ g2 0 2 2 1 256 .i64 (by first | exact wanted_none rfl | exact wanted_yes _ _ rfl rfl) rfl Tryd.underlying62 sizeB rfl rfl (by omega) ?_
          simp only [Act.put, List.setIfInBounds_toArray, List.set_cons_zero, List.set_cons_succ]
          refine wk_load_mid 33 _ g2 256 (blk y) _ (by first | exact wanted_none rfl | exact wanted_yes _ _ rfl rfl) rfl rfl (fun w' hC => pair_snd HL.out (hC.row (R10.out.get 6 rfl))) Tryd.underlying33 rfl (by rw [HYs.out]; exact sizeB) ?_
          simp only [Act.put, List.setIfInBounds_toArray, List.set_cons_zero, List.set_cons_succ]
          refine wk_eql .neq (false) 33 33 _ _ (by first | exact wanted_none rfl | exact wanted_yes _ _ rfl rfl) rfl _ _ rfl rfl (by kernel_rfl) (fun w => HG.out.eql w) ?_
          simp only [Act.put, List.setIfInBounds_toArray, List.set_cons_zero, List.set_cons_succ]
          repeat (first
            | (refine wk_move _ (by first | exact wanted_none rfl | exact wanted_yes _ _ rfl rfl) rfl ?_; simp only [Act.put, Act.eval, Array.getD_eq_getD_getElem?, List.getElem?_toArray, List.getElem?_cons_succ, List.getElem?_cons_zero, Option.getD_some, List.setIfInBounds_toArray, List.set_cons_zero, List.set_cons_succ])
            | (refine wk_assign _ (by first | exact wanted_none rfl | exact wanted_yes _ _ rfl rfl) rfl ?_; simp only [Act.put, Act.eval, Array.getD_eq_getD_getElem?, List.getElem?_toArray, List.getElem?_cons_succ, List.getElem?_cons_zero, Option.getD_some, List.setIfInBounds_toArray, List.set_cons_zero, List.set_cons_succ])
            | (refine wk_pickt _ _ _ _ (by first | exact wanted_none rfl | exact wanted_yes _ _ rfl rfl) rfl rfl rfl ?_; simp only [Act.put, Act.eval, Array.getD_eq_getD_getElem?, List.getElem?_toArray, List.getElem?_cons_succ, List.getElem?_cons_zero, Option.getD_some, List.setIfInBounds_toArray, List.set_cons_zero, List.set_cons_succ])
            | (refine wk_pickf _ _ _ _ (by first | exact wanted_none rfl | exact wanted_yes _ _ rfl rfl) rfl rfl rfl ?_; simp only [Act.put, Act.eval, Array.getD_eq_getD_getElem?, List.getElem?_toArray, List.getElem?_cons_succ, List.getElem?_cons_zero, Option.getD_some, List.setIfInBounds_toArray, List.set_cons_zero, List.set_cons_succ])
            | (refine wk_skip (wanted_not _ true false rfl rfl rfl) ?_; simp only [Act.put, List.setIfInBounds_toArray, List.set_cons_zero, List.set_cons_succ])
            | (refine wk_skip (wanted_not _ false true rfl rfl rfl) ?_; simp only [Act.put, List.setIfInBounds_toArray, List.set_cons_zero, List.set_cons_succ])
            | (refine wk_skip (wanted_undef _ _ rfl rfl) ?_; simp only [Act.put, List.setIfInBounds_toArray, List.set_cons_zero, List.set_cons_succ])
            | (refine wk_not true _ _ (by first | exact wanted_none rfl | exact wanted_yes _ _ rfl rfl) rfl rfl ?_; simp only [Act.put, List.setIfInBounds_toArray, List.set_cons_zero, List.set_cons_succ])
            | (refine wk_not false _ _ (by first | exact wanted_none rfl | exact wanted_yes _ _ rfl rfl) rfl rfl ?_; simp only [Act.put, List.setIfInBounds_toArray, List.set_cons_zero, List.set_cons_succ]))
          refine wk_eql_int false _ _ _ _ _ _ _ (by kernel_rfl) rfl rfl rfl (HGG.out) ?_
          simp only [Act.put, List.setIfInBounds_toArray, List.set_cons_zero, List.set_cons_succ]
          repeat (first
            | (refine wk_move _ (by first | exact wanted_none rfl | exact wanted_yes _ _ rfl rfl) rfl ?_; simp only [Act.put, Act.eval, Array.getD_eq_getD_getElem?, List.getElem?_toArray, List.getElem?_cons_succ, List.getElem?_cons_zero, Option.getD_some, List.setIfInBounds_toArray, List.set_cons_zero, List.set_cons_succ])
            | (refine wk_assign _ (by first | exact wanted_none rfl | exact wanted_yes _ _ rfl rfl) rfl ?_; simp only [Act.put, Act.eval, Array.getD_eq_getD_getElem?, List.getElem?_toArray, List.getElem?_cons_succ, List.getElem?_cons_zero, Option.getD_some, List.setIfInBounds_toArray, List.set_cons_zero, List.set_cons_succ])
            | (refine wk_pickt _ _ _ _ (by first | exact wanted_none rfl | exact wanted_yes _ _ rfl rfl) rfl rfl rfl ?_; simp only [Act.put, Act.eval, Array.getD_eq_getD_getElem?, List.getElem?_toArray, List.getElem?_cons_succ, List.getElem?_cons_zero, Option.getD_some, List.setIfInBounds_toArray, List.set_cons_zero, List.set_cons_succ])
            | (refine wk_pickf _ _ _ _ (by first | exact wanted_none rfl | exact wanted_yes _ _ rfl rfl) rfl rfl rfl ?_; simp only [Act.put, Act.eval, Array.getD_eq_getD_getElem?, List.getElem?_toArray, List.getElem?_cons_succ, List.getElem?_cons_zero, Option.getD_some, List.setIfInBounds_toArray, List.set_cons_zero, List.set_cons_succ])
            | (refine wk_skip (wanted_not _ true false rfl rfl rfl) ?_; simp only [Act.put, List.setIfInBounds_toArray, List.set_cons_zero, List.set_cons_succ])
            | (refine wk_skip (wanted_not _ false true rfl rfl rfl) ?_; simp only [Act.put, List.setIfInBounds_toArray, List.set_cons_zero, List.set_cons_succ])
            | (refine wk_skip (wanted_undef _ _ rfl rfl) ?_; simp only [Act.put, List.setIfInBounds_toArray, List.set_cons_zero, List.set_cons_succ])
            | (refine wk_not true _ _ (by first | exact wanted_none rfl | exact wanted_yes _ _ rfl rfl) rfl rfl ?_; simp only [Act.put, List.setIfInBounds_toArray, List.set_cons_zero, List.set_cons_succ])
            | (refine wk_not false _ _ (by first | exact wanted_none rfl | exact wanted_yes _ _ rfl rfl) rfl rfl ?_; simp only [Act.put, List.setIfInBounds_toArray, List.set_cons_zero, List.set_cons_succ]))
          refine wk_nil ?_
          intro w' hC
          have R11 := Lib.hid ((R10.out.since hC).drop 6)
          clear hC
          go_wp2_with fail
          exact ⟨⟨1 + 1, _, by rfl, by omega, rfl, R11.out⟩, by simp [intOf]⟩
        · skip
          refine wk_region_since (by kernel_rfl) (by kernel_rfl) ?_
          repeat (first
            | (refine wk_move _ (by first | exact wanted_none rfl | exact wanted_yes _ _ rfl rfl) rfl ?_; simp only [Act.put, Act.eval, Array.getD_eq_getD_getElem?, List.getElem?_toArray, List.getElem?_cons_succ, List.getElem?_cons_zero, Option.getD_some, List.setIfInBounds_toArray, List.set_cons_zero, List.set_cons_succ])
            | (refine wk_assign _ (by first | exact wanted_none rfl | exact wanted_yes _ _ rfl rfl) rfl ?_; simp only [Act.put, Act.eval, Array.getD_eq_getD_getElem?, List.getElem?_toArray, List.getElem?_cons_succ, List.getElem?_cons_zero, Option.getD_some, List.setIfInBounds_toArray, List.set_cons_zero, List.set_cons_succ])
            | (refine wk_pickt _ _ _ _ (by first | exact wanted_none rfl | exact wanted_yes _ _ rfl rfl) rfl rfl rfl ?_; simp only [Act.put, Act.eval, Array.getD_eq_getD_getElem?, List.getElem?_toArray, List.getElem?_cons_succ, List.getElem?_cons_zero, Option.getD_some, List.setIfInBounds_toArray, List.set_cons_zero, List.set_cons_succ])
            | (refine wk_pickf _ _ _ _ (by first | exact wanted_none rfl | exact wanted_yes _ _ rfl rfl) rfl rfl rfl ?_; simp only [Act.put, Act.eval, Array.getD_eq_getD_getElem?, List.getElem?_toArray, List.getElem?_cons_succ, List.getElem?_cons_zero, Option.getD_some, List.setIfInBounds_toArray, List.set_cons_zero, List.set_cons_succ])
            | (refine wk_skip (wanted_not _ true false rfl rfl rfl) ?_; simp only [Act.put, List.setIfInBounds_toArray, List.set_cons_zero, List.set_cons_succ])
            | (refine wk_skip (wanted_not _ false true rfl rfl rfl) ?_; simp only [Act.put, List.setIfInBounds_toArray, List.set_cons_zero, List.set_cons_succ])
            | (refine wk_skip (wanted_undef _ _ rfl rfl) ?_; simp only [Act.put, List.setIfInBounds_toArray, List.set_cons_zero, List.set_cons_succ])
            | (refine wk_not true _ _ (by first | exact wanted_none rfl | exact wanted_yes _ _ rfl rfl) rfl rfl ?_; simp only [Act.put, List.setIfInBounds_toArray, List.set_cons_zero, List.set_cons_succ])
            | (refine wk_not false _ _ (by first | exact wanted_none rfl | exact wanted_yes _ _ rfl rfl) rfl rfl ?_; simp only [Act.put, List.setIfInBounds_toArray, List.set_cons_zero, List.set_cons_succ]))
          refine wk_index 62 33 _ _ g2 0 2 2 1 256 .i64 (by first | exact wanted_none rfl | exact wanted_yes _ _ rfl rfl) rfl Tryd.underlying62 sizeB rfl rfl (by omega) ?_
          simp only [Act.put, List.setIfInBounds_toArray, List.set_cons_zero, List.set_cons_succ]
          refine wk_load_mid 33 _ g2 256 (blk y) _ (by first | exact wanted_none rfl | exact wanted_yes _ _ rfl rfl) rfl rfl (fun w' hC => pair_snd HL.out (hC.row (R10.out.get 6 rfl))) Tryd.underlying33 rfl (by rw [HYs.out]; exact sizeB) ?_
          simp only [Act.put, List.setIfInBounds_toArray, List.set_cons_zero, List.set_cons_succ]
          refine wk_call 57 _ _ _ _ _ (by kernel_rfl) rfl Tryd.func57 rfl (by kernel_rfl) (fun w' hC => hC.call (HG.out.zero w')) ?_
          simp only [Act.put, List.setIfInBounds_toArray, List.set_cons_zero, List.set_cons_succ]
          repeat (first
            | (refine wk_move _ (by first | exact wanted_none rfl | exact wanted_yes _ _ rfl rfl) rfl ?_; simp only [Act.put, Act.eval, Array.getD_eq_getD_getElem?, List.getElem?_toArray, List.getElem?_cons_succ, List.getElem?_cons_zero, Option.getD_some, List.setIfInBounds_toArray, List.set_cons_zero, List.set_cons_succ])
            | (refine wk_assign _ (by first | exact wanted_none rfl | exact wanted_yes _ _ rfl rfl) rfl ?_; simp only [Act.put, Act.eval, Array.getD_eq_getD_getElem?, List.getElem?_toArray, List.getElem?_cons_succ, List.getElem?_cons_zero, Option.getD_some, List.setIfInBounds_toArray, List.set_cons_zero, List.set_cons_succ])
            | (refine wk_pickt _ _ _ _ (by first | exact wanted_none rfl | exact wanted_yes _ _ rfl rfl) rfl rfl rfl ?_; simp only [Act.put, Act.eval, Array.getD_eq_getD_getElem?, List.getElem?_toArray, List.getElem?_cons_succ, List.getElem?_cons_zero, Option.getD_some, List.setIfInBounds_toArray, List.set_cons_zero, List.set_cons_succ])
            | (refine wk_pickf _ _ _ _ (by first | exact wanted_none rfl | exact wanted_yes _ _ rfl rfl) rfl rfl rfl ?_; simp only [Act.put, Act.eval, Array.getD_eq_getD_getElem?, List.getElem?_toArray, List.getElem?_cons_succ, List.getElem?_cons_zero, Option.getD_some, List.setIfInBounds_toArray, List.set_cons_zero, List.set_cons_succ])
            | (refine wk_skip (wanted_not _ true false rfl rfl rfl) ?_; simp only [Act.put, List.setIfInBounds_toArray, List.set_cons_zero, List.set_cons_succ])
            | (refine wk_skip (wanted_not _ false true rfl rfl rfl) ?_; simp only [Act.put, List.setIfInBounds_toArray, List.set_cons_zero, List.set_cons_succ])
            | (refine wk_skip (wanted_undef _ _ rfl rfl) ?_; simp only [Act.put, List.setIfInBounds_toArray, List.set_cons_zero, List.set_cons_succ])
            | (refine wk_not true _ _ (by first | exact wanted_none rfl | exact wanted_yes _ _ rfl rfl) rfl rfl ?_; simp only [Act.put, List.setIfInBounds_toArray, List.set_cons_zero, List.set_cons_succ])
            | (refine wk_not false _ _ (by first | exact wanted_none rfl | exact wanted_yes _ _ rfl rfl) rfl rfl ?_; simp only [Act.put, List.setIfInBounds_toArray, List.set_cons_zero, List.set_cons_succ]))
          refine wk_eql_int true _ _ _ _ _ _ _ (by kernel_rfl) rfl rfl rfl (HE.out) ?_
          simp only [Act.put, List.setIfInBounds_toArray, List.set_cons_zero, List.set_cons_succ]
          repeat (first
            | (refine wk_move _ (by first | exact wanted_none rfl | exact wanted_yes _ _ rfl rfl) rfl ?_; simp only [Act.put, Act.eval, Array.getD_eq_getD_getElem?, List.getElem?_toArray, List.getElem?_cons_succ, List.getElem?_cons_zero, Option.getD_some, List.setIfInBounds_toArray, List.set_cons_zero, List.set_cons_succ])
            | (refine wk_assign _ (by first | exact wanted_none rfl | exact wanted_yes _ _ rfl rfl) rfl ?_; simp only [Act.put, Act.eval, Array.getD_eq_getD_getElem?, List.getElem?_toArray, List.getElem?_cons_succ, List.getElem?_cons_zero, Option.getD_some, List.setIfInBounds_toArray, List.set_cons_zero, List.set_cons_succ])
            | (refine wk_pickt _ _ _ _ (by first | exact wanted_none rfl | exact wanted_yes _ _ rfl rfl) rfl rfl rfl ?_; simp only [Act.put, Act.eval, Array.getD_eq_getD_getElem?, List.getElem?_toArray, List.getElem?_cons_succ, List.getElem?_cons_zero, Option.getD_some, List.setIfInBounds_toArray, List.set_cons_zero, List.set_cons_succ])
            | (refine wk_pickf _ _ _ _ (by first | exact wanted_none rfl | exact wanted_yes _ _ rfl rfl) rfl rfl rfl ?_; simp only [Act.put, Act.eval, Array.getD_eq_getD_getElem?, List.getElem?_toArray, List.getElem?_cons_succ, List.getElem?_cons_zero, Option.getD_some, List.setIfInBounds_toArray, List.set_cons_zero, List.set_cons_succ])
            | (refine wk_skip (wanted_not _ true false rfl rfl rfl) ?_; simp only [Act.put, List.setIfInBounds_toArray, List.set_cons_zero, List.set_cons_succ])
            | (refine wk_skip (wanted_not _ false true rfl rfl rfl) ?_; simp only [Act.put, List.setIfInBounds_toArray, List.set_cons_zero, List.set_cons_succ])
            | (refine wk_skip (wanted_undef _ _ rfl rfl) ?_; simp only [Act.put, List.setIfInBounds_toArray, List.set_cons_zero, List.set_cons_succ])
            | (refine wk_not true _ _ (by first | exact wanted_none rfl | exact wanted_yes _ _ rfl rfl) rfl rfl ?_; simp only [Act.put, List.setIfInBounds_toArray, List.set_cons_zero, List.set_cons_succ])
            | (refine wk_not false _ _ (by first | exact wanted_none rfl | exact wanted_yes _ _ rfl rfl) rfl rfl ?_; simp only [Act.put, List.setIfInBounds_toArray, List.set_cons_zero, List.set_cons_succ]))
          refine wk_load_row 33 _ g8 33 (blk y) (0, 0) _ (by kernel_rfl) rfl rfl (fun w' hC => hC.row (R10.out.get (9 - 8) rfl)) Tryd.underlying33 rfl (by rw [HYs.out]; exact sizeB) ?_
          simp only [Act.put, List.setIfInBounds_toArray, List.set_cons_zero, List.set_cons_succ]
          repeat (first
            | (refine wk_move _ (by first | exact wanted_none rfl | exact wanted_yes _ _ rfl rfl) rfl ?_; simp only [Act.put, Act.eval, Array.getD_eq_getD_getElem?, List.getElem?_toArray, List.getElem?_cons_succ, List.getElem?_cons_zero, Option.getD_some, List.setIfInBounds_toArray, List.set_cons_zero, List.set_cons_succ])
            | (refine wk_assign _ (by first | exact wanted_none rfl | exact wanted_yes _ _ rfl rfl) rfl ?_; simp only [Act.put, Act.eval, Array.getD_eq_getD_getElem?, List.getElem?_toArray, List.getElem?_cons_succ, List.getElem?_cons_zero, Option.getD_some, List.setIfInBounds_toArray, List.set_cons_zero, List.set_cons_succ])
            | (refine wk_pickt _ _ _ _ (by first | exact wanted_none rfl | exact wanted_yes _ _ rfl rfl) rfl rfl rfl ?_; simp only [Act.put, Act.eval, Array.getD_eq_getD_getElem?, List.getElem?_toArray, List.getElem?_cons_succ, List.getElem?_cons_zero, Option.getD_some, List.setIfInBounds_toArray, List.set_cons_zero, List.set_cons_succ])
            | (refine wk_pickf _ _ _ _ (by first | exact wanted_none rfl | exact wanted_yes _ _ rfl rfl) rfl rfl rfl ?_; simp only [Act.put, Act.eval, Array.getD_eq_getD_getElem?, List.getElem?_toArray, List.getElem?_cons_succ, List.getElem?_cons_zero, Option.getD_some, List.setIfInBounds_toArray, List.set_cons_zero, List.set_cons_succ])
            | (refine wk_skip (wanted_not _ true false rfl rfl rfl) ?_; simp only [Act.put, List.setIfInBounds_toArray, List.set_cons_zero, List.set_cons_succ])
            | (refine wk_skip (wanted_not _ false true rfl rfl rfl) ?_; simp only [Act.put, List.setIfInBounds_toArray, List.set_cons_zero, List.set_cons_succ])
            | (refine wk_skip (wanted_undef _ _ rfl rfl) ?_; simp only [Act.put, List.setIfInBounds_toArray, List.set_cons_zero, List.set_cons_succ])
            | (refine wk_not true _ _ (by first | exact wanted_none rfl | exact wanted_yes _ _ rfl rfl) rfl rfl ?_; simp only [Act.put, List.setIfInBounds_toArray, List.set_cons_zero, List.set_cons_succ])
            | (refine wk_not false _ _ (by first | exact wanted_none rfl | exact wanted_yes _ _ rfl rfl) rfl rfl ?_; simp only [Act.put, List.setIfInBounds_toArray, List.set_cons_zero, List.set_cons_succ]))
          refine wk_index 62 33 _ _ g2 0 2 2 1 256 .i64 (by first | exact wanted_none rfl | exact wanted_yes _ _ rfl rfl) rfl Tryd.underlying62 sizeB rfl rfl (by omega) ?_
          simp only [Act.put, List.setIfInBounds_toArray, List.set_cons_zero, List.set_cons_succ]
          refine wk_load_mid 33 _ g2 256 (blk y) _ (by first | exact wanted_none rfl | exact wanted_yes _ _ rfl rfl) rfl rfl (fun w' hC => pair_snd HL.out (hC.row (R10.out.get 6 rfl))) Tryd.underlying33 rfl (by rw [HYs.out]; exact sizeB) ?_
          simp only [Act.put, List.setIfInBounds_toArray, List.set_cons_zero, List.set_cons_succ]
          refine wk_eql .neq (false) 33 33 _ _ (by first | exact wanted_none rfl | exact wanted_yes _ _ rfl rfl) rfl _ _ rfl rfl (by kernel_rfl) (fun w => HG.out.eql w) ?_
          simp only [Act.put, List.setIfInBounds_toArray, List.set_cons_zero, List.set_cons_succ]
          repeat (first
            | (refine wk_move _ (by first | exact wanted_none rfl | exact wanted_yes _ _ rfl rfl) rfl ?_; simp only [Act.put, Act.eval, Array.getD_eq_getD_getElem?, List.getElem?_toArray, List.getElem?_cons_succ, List.getElem?_cons_zero, Option.getD_some, List.setIfInBounds_toArray, List.set_cons_zero, List.set_cons_succ])
            | (refine wk_assign _ (by first | exact wanted_none rfl | exact wanted_yes _ _ rfl rfl) rfl ?_; simp only [Act.put, Act.eval, Array.getD_eq_getD_getElem?, List.getElem?_toArray, List.getElem?_cons_succ, List.getElem?_cons_zero, Option.getD_some, List.setIfInBounds_toArray, List.set_cons_zero, List.set_cons_succ])
            | (refine wk_pickt _ _ _ _ (by first | exact wanted_none rfl | exact wanted_yes _ _ rfl rfl) rfl rfl rfl ?_; simp only [Act.put, Act.eval, Array.getD_eq_getD_getElem?, List.getElem?_toArray, List.getElem?_cons_succ, List.getElem?_cons_zero, Option.getD_some, List.setIfInBounds_toArray, List.set_cons_zero, List.set_cons_succ])
            | (refine wk_pickf _ _ _ _ (by first | exact wanted_none rfl | exact wanted_yes _ _ rfl rfl) rfl rfl rfl ?_; simp only [Act.put, Act.eval, Array.getD_eq_getD_getElem?, List.getElem?_toArray, List.getElem?_cons_succ, List.getElem?_cons_zero, Option.getD_some, List.setIfInBounds_toArray, List.set_cons_zero, List.set_cons_succ])
            | (refine wk_skip (wanted_not _ true false rfl rfl rfl) ?_; simp only [Act.put, List.setIfInBounds_toArray, List.set_cons_zero, List.set_cons_succ])
            | (refine wk_skip (wanted_not _ false true rfl rfl rfl) ?_; simp only [Act.put, List.setIfInBounds_toArray, List.set_cons_zero, List.set_cons_succ])
            | (refine wk_skip (wanted_undef _ _ rfl rfl) ?_; simp only [Act.put, List.setIfInBounds_toArray, List.set_cons_zero, List.set_cons_succ])
            | (refine wk_not true _ _ (by first | exact wanted_none rfl | exact wanted_yes _ _ rfl rfl) rfl rfl ?_; simp only [Act.put, List.setIfInBounds_toArray, List.set_cons_zero, List.set_cons_succ])
            | (refine wk_not false _ _ (by first | exact wanted_none rfl | exact wanted_yes _ _ rfl rfl) rfl rfl ?_; simp only [Act.put, List.setIfInBounds_toArray, List.set_cons_zero, List.set_cons_succ]))
          refine wk_eql_int true _ _ _ _ _ _ _ (by kernel_rfl) rfl rfl rfl (HGG.out) ?_
          simp only [Act.put, List.setIfInBounds_toArray, List.set_cons_zero, List.set_cons_succ]
          repeat (first
            | (refine wk_move _ (by first | exact wanted_none rfl | exact wanted_yes _ _ rfl rfl) rfl ?_; simp only [Act.put, Act.eval, Array.getD_eq_getD_getElem?, List.getElem?_toArray, List.getElem?_cons_succ, List.getElem?_cons_zero, Option.getD_some, List.setIfInBounds_toArray, List.set_cons_zero, List.set_cons_succ])
            | (refine wk_assign _ (by first | exact wanted_none rfl | exact wanted_yes _ _ rfl rfl) rfl ?_; simp only [Act.put, Act.eval, Array.getD_eq_getD_getElem?, List.getElem?_toArray, List.getElem?_cons_succ, List.getElem?_cons_zero, Option.getD_some, List.setIfInBounds_toArray, List.set_cons_zero, List.set_cons_succ])
            | (refine wk_pickt _ _ _ _ (by first | exact wanted_none rfl | exact wanted_yes _ _ rfl rfl) rfl rfl rfl ?_; simp only [Act.put, Act.eval, Array.getD_eq_getD_getElem?, List.getElem?_toArray, List.getElem?_cons_succ, List.getElem?_cons_zero, Option.getD_some, List.setIfInBounds_toArray, List.set_cons_zero, List.set_cons_succ])
            | (refine wk_pickf _ _ _ _ (by first | exact wanted_none rfl | exact wanted_yes _ _ rfl rfl) rfl rfl rfl ?_; simp only [Act.put, Act.eval, Array.getD_eq_getD_getElem?, List.getElem?_toArray, List.getElem?_cons_succ, List.getElem?_cons_zero, Option.getD_some, List.setIfInBounds_toArray, List.set_cons_zero, List.set_cons_succ])
            | (refine wk_skip (wanted_not _ true false rfl rfl rfl) ?_; simp only [Act.put, List.setIfInBounds_toArray, List.set_cons_zero, List.set_cons_succ])
            | (refine wk_skip (wanted_not _ false true rfl rfl rfl) ?_; simp only [Act.put, List.setIfInBounds_toArray, List.set_cons_zero, List.set_cons_succ])
            | (refine wk_skip (wanted_undef _ _ rfl rfl) ?_; simp only [Act.put, List.setIfInBounds_toArray, List.set_cons_zero, List.set_cons_succ])
            | (refine wk_not true _ _ (by first | exact wanted_none rfl | exact wanted_yes _ _ rfl rfl) rfl rfl ?_; simp only [Act.put, List.setIfInBounds_toArray, List.set_cons_zero, List.set_cons_succ])
            | (refine wk_not false _ _ (by first | exact wanted_none rfl | exact wanted_yes _ _ rfl rfl) rfl rfl ?_; simp only [Act.put, List.setIfInBounds_toArray, List.set_cons_zero, List.set_cons_succ]))
          refine wk_load_row 33 _ g9 33 (blk y) (0, 0) _ (by kernel_rfl) rfl rfl (fun w' hC => hC.row (R10.out.get (9 - 9) rfl)) Tryd.underlying33 rfl (by rw [HYs.out]; exact sizeB) ?_
          simp only [Act.put, List.setIfInBounds_toArray, List.set_cons_zero, List.set_cons_succ]
          repeat (first
            | (refine wk_move _ (by first | exact wanted_none rfl | exact wanted_yes _ _ rfl rfl) rfl ?_; simp only [Act.put, Act.eval, Array.getD_eq_getD_getElem?, List.getElem?_toArray, List.getElem?_cons_succ, List.getElem?_cons_zero, Option.getD_some, List.setIfInBounds_toArray, List.set_cons_zero, List.set_cons_succ])
            | (refine wk_assign _ (by first | exact wanted_none rfl | exact wanted_yes _ _ rfl rfl) rfl ?_; simp only [Act.put, Act.eval, Array.getD_eq_getD_getElem?, List.getElem?_toArray, List.getElem?_cons_succ, List.getElem?_cons_zero, Option.getD_some, List.setIfInBounds_toArray, List.set_cons_zero, List.set_cons_succ])
            | (refine wk_pickt _ _ _ _ (by first | exact wanted_none rfl | exact wanted_yes _ _ rfl rfl) rfl rfl rfl ?_; simp only [Act.put, Act.eval, Array.getD_eq_getD_getElem?, List.getElem?_toArray, List.getElem?_cons_succ, List.getElem?_cons_zero, Option.getD_some, List.setIfInBounds_toArray, List.set_cons_zero, List.set_cons_succ])
            | (refine wk_pickf _ _ _ _ (by first | exact wanted_none rfl | exact wanted_yes _ _ rfl rfl) rfl rfl rfl ?_; simp only [Act.put, Act.eval, Array.getD_eq_getD_getElem?, List.getElem?_toArray, List.getElem?_cons_succ, List.getElem?_cons_zero, Option.getD_some, List.setIfInBounds_toArray, List.set_cons_zero, List.set_cons_succ])
            | (refine wk_skip (wanted_not _ true false rfl rfl rfl) ?_; simp only [Act.put, List.setIfInBounds_toArray, List.set_cons_zero, List.set_cons_succ])
            | (refine wk_skip (wanted_not _ false true rfl rfl rfl) ?_; simp only [Act.put, List.setIfInBounds_toArray, List.set_cons_zero, List.set_cons_succ])
            | (refine wk_skip (wanted_undef _ _ rfl rfl) ?_; simp only [Act.put, List.setIfInBounds_toArray, List.set_cons_zero, List.set_cons_succ])
            | (refine wk_not true _ _ (by first | exact wanted_none rfl | exact wanted_yes _ _ rfl rfl) rfl rfl ?_; simp only [Act.put, List.setIfInBounds_toArray, List.set_cons_zero, List.set_cons_succ])
            | (refine wk_not false _ _ (by first | exact wanted_none rfl | exact wanted_yes _ _ rfl rfl) rfl rfl ?_; simp only [Act.put, List.setIfInBounds_toArray, List.set_cons_zero, List.set_cons_succ]))
          refine wk_index 62 33 _ _ g2 0 2 2 1 256 .i64 (by first | exact wanted_none rfl | exact wanted_yes _ _ rfl rfl) rfl Tryd.underlying62 sizeB rfl rfl (by omega) ?_
          simp only [Act.put, List.setIfInBounds_toArray, List.set_cons_zero, List.set_cons_succ]
          refine wk_load_mid 33 _ g2 256 (blk y) _ (by first | exact wanted_none rfl | exact wanted_yes _ _ rfl rfl) rfl rfl (fun w' hC => pair_snd HL.out (hC.row (R10.out.get 6 rfl))) Tryd.underlying33 rfl (by rw [HYs.out]; exact sizeB) ?_
          simp only [Act.put, List.setIfInBounds_toArray, List.set_cons_zero, List.set_cons_succ]
          refine wk_eql .neq (false) 33 33 _ _ (by first | exact wanted_none rfl | exact wanted_yes _ _ rfl rfl) rfl _ _ rfl rfl (by kernel_rfl) (fun w => HG.out.eql w) ?_
          simp only [Act.put, List.setIfInBounds_toArray, List.set_cons_zero, List.set_cons_succ]
          repeat (first
            | (refine wk_move _ (by first | exact wanted_none rfl | exact wanted_yes _ _ rfl rfl) rfl ?_; simp only [Act.put, Act.eval, Array.getD_eq_getD_getElem?, List.getElem?_toArray, List.getElem?_cons_succ, List.getElem?_cons_zero, Option.getD_some, List.setIfInBounds_toArray, List.set_cons_zero, List.set_cons_succ])
            | (refine wk_assign _ (by first | exact wanted_none rfl | exact wanted_yes _ _ rfl rfl) rfl ?_; simp only [Act.put, Act.eval, Array.getD_eq_getD_getElem?, List.getElem?_toArray, List.getElem?_cons_succ, List.getElem?_cons_zero, Option.getD_some, List.setIfInBounds_toArray, List.set_cons_zero, List.set_cons_succ])
            | (refine wk_pickt _ _ _ _ (by first | exact wanted_none rfl | exact wanted_yes _ _ rfl rfl) rfl rfl rfl ?_; simp only [Act.put, Act.eval, Array.getD_eq_getD_getElem?, List.getElem?_toArray, List.getElem?_cons_succ, List.getElem?_cons_zero, Option.getD_some, List.setIfInBounds_toArray, List.set_cons_zero, List.set_cons_succ])
            | (refine wk_pickf _ _ _ _ (by first | exact wanted_none rfl | exact wanted_yes _ _ rfl rfl) rfl rfl rfl ?_; simp only [Act.put, Act.eval, Array.getD_eq_getD_getElem?, List.getElem?_toArray, List.getElem?_cons_succ, List.getElem?_cons_zero, Option.getD_some, List.setIfInBounds_toArray, List.set_cons_zero, List.set_cons_succ])
            | (refine wk_skip (wanted_not _ true false rfl rfl rfl) ?_; simp only [Act.put, List.setIfInBounds_toArray, List.set_cons_zero, List.set_cons_succ])
            | (refine wk_skip (wanted_not _ false true rfl rfl rfl) ?_; simp only [Act.put, List.setIfInBounds_toArray, List.set_cons_zero, List.set_cons_succ])
            | (refine wk_skip (wanted_undef _ _ rfl rfl) ?_; simp only [Act.put, List.setIfInBounds_toArray, List.set_cons_zero, List.set_cons_succ])
            | (refine wk_not true _ _ (by first | exact wanted_none rfl | exact wanted_yes _ _ rfl rfl) rfl rfl ?_; simp only [Act.put, List.setIfInBounds_toArray, List.set_cons_zero, List.set_cons_succ])
            | (refine wk_not false _ _ (by first | exact wanted_none rfl | exact wanted_yes _ _ rfl rfl) rfl rfl ?_; simp only [Act.put, List.setIfInBounds_toArray, List.set_cons_zero, List.set_cons_succ]))
          refine wk_nil ?_
          intro w' hC
          have R11 := Lib.hid ((R10.out.since hC).drop 6)
          clear hC
          go_wp2_with fail
          exact ⟨⟨1 + 1, _, by rfl, by omega, rfl, R11.out⟩, by simp [intOf]⟩
    · clear hz hk
      go_wp2_with fail
      refine (tallyhead_any _).mono ?_
      rintro e w4 ⟨rfl, hb⟩
      have hfin := (R3.out.call hb).below
      go_wp2_with fail
      go_ret
      exact ⟨rfl, hfin⟩
end Go.Proofs.YtnhfkmfmmgaecaaDoor
