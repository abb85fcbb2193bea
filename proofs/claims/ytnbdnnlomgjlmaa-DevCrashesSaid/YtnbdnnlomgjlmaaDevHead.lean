/- The device layer's laws: the law's head holds. -/
import Derived.Test.YtnbdnnlomgjlmaaDevIs
namespace Go.Proofs.Ytnbdnnlomgjlmaa
open Go.RowKit
set_option linter.unusedSimpArgs false
set_option linter.unusedVariables false
set_option maxRecDepth 100000
theorem fullK_get (c : UInt8) (k : Nat) (hk : k < 256) : (fullK c 256)[k]'(by rw [length_fullK c 256 (by omega)]; exact hk) = c := by
  have h : (fullK c 256)[k]? = some c := by
    unfold fullK
    rw [List.getElem?_append_left (by rw [List.length_replicate]; exact hk), List.getElem?_replicate, if_pos hk]
  have := List.getElem?_eq_some_iff.1 h
  exact this.2
def hA : List UInt8 := fullK 97 256
def hB : List UInt8 := fullK 98 256
def hd1 : Dv := ⟨64, fun _ => zeroBlk, [(5, hA)], none, false, 1⟩
def hd2 : Dv := ⟨64, updB (fun _ => zeroBlk) 5 hA, [], none, false, 2⟩
def hd3 : Dv := ⟨64, updB (fun _ => zeroBlk) 5 hA, [(5, hB)], none, false, 3⟩
def hG4 : Nat → List UInt8 := updB (updB (fun _ => zeroBlk) 5 hA) 5 (dtorn hA hB 9)
def hd4 : Dv := ⟨64, hG4, [], none, false, 3⟩
def hd5 : Dv := ⟨64, hG4, [], some 1, false, 3⟩
def hd6 : Dv := ⟨64, hG4, [(6, hA)], some 0, false, 4⟩
def hd7 : Dv := ⟨64, hG4, [(6, hA)], some 0, true, 4⟩
def hd8 : Dv := ⟨64, updB hG4 6 (dtorn zeroBlk hA 15), [], none, false, 4⟩
theorem dtorn_all (x y : List UInt8) (hy : y.length = 256) : dtorn x y 15 = y := by
  apply List.ext_getElem?
  intro i
  by_cases hi : i < 256
  · have h4 : i / 64 < 4 := by omega
    have h1 : 15 / 2 ^ (i / 64) % 2 = 1 := by
      rcases (by omega : i / 64 = 0 ∨ i / 64 = 1 ∨ i / 64 = 2 ∨ i / 64 = 3) with h | h | h | h <;> rw [h] <;> decide
    simp [dtorn, dtornTo, List.getElem?_map, List.getElem?_range hi, h4, h1, List.getElem?_eq_getElem (by omega : i < y.length)]
  · rw [List.getElem?_eq_none (by rw [length_dtorn]; omega), List.getElem?_eq_none (by omega)]
theorem length_hA : hA.length = 256 := length_fullK 97 256 (by omega)
theorem length_hB : hB.length = 256 := length_fullK 98 256 (by omega)
theorem h_1 : (newDv 64).write 5 hA = (hd1, 0) := rfl
theorem h_2 : hd1.flush = (hd2, 0) := rfl
theorem h_3 : hd2.write 5 hB = (hd3, 0) := rfl
theorem h_64 : hd3.write 64 hB = (hd3, 2) := rfl
theorem h_4 : hd3.crash [(0, 9)] = hd4 := rfl
theorem h_5 : hd4.lay 1 = (hd5, 0) := rfl
theorem h_6 : hd5.write 6 hA = (hd6, 0) := rfl
theorem h_7 : hd6.flush = (hd7, 30) := rfl
theorem h_7b : hd7.write 6 hB = (hd7, 30) := rfl
theorem h_8 : hd7.crash [(0, 15)] = hd8 := rfl
theorem hr_1 : readB hd1 5 = hA ∧ readE hd1 5 = 0 := ⟨rfl, rfl⟩
theorem hr_4 : readB hd4 5 = dtorn hA hB 9 ∧ readE hd4 5 = 0 := ⟨rfl, rfl⟩
theorem hr_8 : readB hd8 6 = hA ∧ readE hd8 6 = 0 := ⟨dtorn_all _ _ length_hA, rfl⟩
def hY : List UInt8 := dtorn hA hB 9
theorem length_hY : hY.length = 256 := length_dtorn _ _ _
theorem getD_hA (k : Nat) (hk : k < 256) : hA.getD k 0 = 97 := by
  rw [List.getD_eq_getElem?_getD, List.getElem?_eq_getElem (by rw [length_hA]; exact hk)]
  exact fullK_get 97 k hk
theorem getD_hB (k : Nat) (hk : k < 256) : hB.getD k 0 = 98 := by
  rw [List.getD_eq_getElem?_getD, List.getElem?_eq_getElem (by rw [length_hB]; exact hk)]
  exact fullK_get 98 k hk
theorem hY_get (k : Nat) (hk : k < 256) (v : UInt8) (hv : (if k / 64 < 4 ∧ 9 / 2 ^ (k / 64) % 2 = 1 then (98 : UInt8) else 97) = v) : hY[k]'(by rw [length_hY]; exact hk) = v := by
  have h := get_dtornTo 4 hA hB 9 k hk
  rw [getD_hA k hk, getD_hB k hk, hv] at h
  rw [List.getD_eq_getElem?_getD, List.getElem?_eq_getElem (by rw [length_dtornTo]; exact hk)] at h
  exact h
theorem fullA (w : World) : Calls Try.prog 67 #[.int .u8 97] w fun e w' => e = .returned (.agg (blk hA)) ∧ Below w.heap.size w w' := full_any 97 w
theorem fullB (w : World) : Calls Try.prog 67 #[.int .u8 98] w fun e w' => e = .returned (.agg (blk hB)) ∧ Below w.heap.size w w' := full_any 98 w
theorem pending_is {w : World} {g : Nat} {s : Dv} (h : (dvT g s).at w) (n : Nat) (hn : s.pend.length = n) : Calls Try.prog 49 #[.pointer (some ⟨g, 0, none⟩)] w fun e w' => e = .returned (.int .i64 (n : Int)) ∧ w = w' := by
  have := pending_dev h
  rwa [hn] at this
theorem down_is {w : World} {g : Nat} {s : Dv} (h : (dvT g s).at w) (b : Bool) (hb : s.down = b) : Calls Try.prog 46 #[.pointer (some ⟨g, 0, none⟩)] w fun e w' => e = .returned (.bool b) ∧ w = w' := by
  have := down_dev h
  rwa [hb] at this
theorem read_is {w : World} {g : Nat} {s : Dv} (h : (dvT g s).at w) (a : Nat) (ha : a < 4294967296) (B : List UInt8) (E : Int) (he : readB s a = B ∧ readE s a = E) :
    Calls Try.prog 45 #[.pointer (some ⟨g, 0, none⟩), .int .u32 (a : Int)] w fun e w' => e = .returned (.tuple #[.agg (blk B), .int .i64 E]) ∧ Below w.heap.size w w' := by
  have := read_dev h a ha
  rwa [he.1, he.2] at this
theorem Try.infoKeep : (Try.prog.info? 80).map (fun i => (i.zero, i.size, i.bytes)) = some (some (.agg #[.int .u16 0, .int .u8 0]), 2, 4) := by kernel_rfl
theorem hYc (k : Nat) (hk : k < 256) (v : UInt8) (hv : (if k / 64 < 4 ∧ 9 / 2 ^ (k / 64) % 2 = 1 then (98 : UInt8) else 97) = v) : (blk hY)[k]? = some (.int .u8 (v.toNat : Int)) := by
  have := blk_get hY k (by rw [length_hY]; exact hk)
  rw [hY_get k hk v hv] at this
  exact this
set_option maxHeartbeats 4000000 in
theorem devhead_any (w : World) : Calls Try.prog 40 #[] w fun e w' => e = .returned (.bool true) ∧ Below w.heap.size w w' := by
  obtain ⟨ik, hik, hzk, hsk, hbk⟩ := info_parts Try.infoKeep
  have HIK := Lib.hid hik
  have HZK := Lib.hid hzk
  clear hik hzk
  go_enter Try.func40, Try.ntmps40
  go_upto_region 4 with (go_at_call 38; refine (new_dev _ 64 (by decide) (by decide)).mono ?_; rintro e w1 ⟨g, rfl, hM⟩; have R1 := Lib.hid ((Held.start w).made hM); clear hM)
  go_upto_region 5 with (first
    | (go_at_call 67; refine (fullA _).mono ?_; rintro e w2 ⟨rfl, hb⟩; have R2 := Lib.hid (R1.out.call hb); clear hb R1)
    | (go_at_call 43; refine (write_is R2.out (by decide) 5 hA (by decide) length_hA h_1).mono ?_; rintro e w3 ⟨rfl, hR⟩; have R3 := Lib.hid hR; clear hR R2))
  go_wp2_with fail
  refine (read_is (R3.out.thing 0 rfl) 5 (by decide) _ _ hr_1).mono ?_
  rintro e w4 ⟨rfl, hb⟩
  have q1 := (R3.out.call hb).alloc2 (blk hA) 23
  clear hb
  go_upto_region 6 with (first | refine wpList_alloc_row rfl 23 rfl _ zeroB ?_ | refine wpList_store_new rfl 23 _ _ rfl _ (blk hA) _ rfl rfl (by rw [size_blk, length_hA]; exact sizeB) (by rw [size_blk, length_hA, size_zeros]) (blk_one _) ?_)
  obtain ⟨W4, hW⟩ : ∃ W, W = w4.alloc (.cells (blk hA) 23) := ⟨_, rfl⟩
  rw [← hW] at q1 ⊢
  clear hW
  obtain ⟨g4, hg⟩ : ∃ g, g = w4.heap.size := ⟨_, rfl⟩
  rw [← hg] at q1 ⊢
  clear hg
  have R4 := Lib.hid q1
  clear q1
  go_upto_region 7 with (first
    | (go_at_call 49; refine (pending_is (R4.out.thing 0 rfl) 1 rfl).mono ?_; rintro e wx ⟨rfl, rfl⟩))
  go_upto_region 8 with (first
    | (go_at_call 42; refine (flush_is R4.out h_2).mono ?_; rintro e w5 ⟨rfl, hR⟩; have R5 := Lib.hid hR; clear hR R4)
    | (go_at_call 67; refine (fullB _).mono ?_; rintro e w6 ⟨rfl, hb⟩; have R6 := Lib.hid (R5.out.call hb); clear hb R5)
    | (go_at_call 43; refine (write_is R6.out (by decide) 5 hB (by decide) length_hB h_3).mono ?_; rintro e w7 ⟨rfl, hR⟩; have R7 := Lib.hid hR; clear hR R6))
  go_upto_region 9 with (first
    | (go_at_call 67; refine (fullB _).mono ?_; rintro e w8 ⟨rfl, hb⟩; have R8 := Lib.hid (R7.out.call hb); clear hb R7)
    | (go_at_call 43; refine (write_is R8.out (by decide) 64 hB (by decide) length_hB h_64).mono ?_; rintro e w9 ⟨rfl, hR⟩; have R9 := Lib.hid hR; clear hR R8))
  go_upto_region 10 with (first
    | refine wpList_plain rfl fun K hK' => wp_build_one 61 80 _ rfl (keepV (0, 9)) rfl ik _ Try.underlying61 HIK.out HZK.out (by rw [hsk]; rfl) (by omega) (by omega) (hK' _ _ ?_)
    | (go_at_call 48; refine (crash_own (R9.out.alloc2 (keepV (0, 9)) 80) _ (0, 9) 1 (by decide) (by simp) h_4).mono ?_; rintro e w10 ⟨rfl, hR⟩; have R10 := Lib.hid hR; clear hR R9))
  go_wp2_with fail
  refine (read_is (R10.out.thing 0 rfl) 5 (by decide) _ _ hr_4).mono ?_
  rintro e w11 ⟨rfl, hb⟩
  have q1 := (R10.out.call hb).alloc2 (blk hY) 23
  clear hb
  go_upto_region 11 with (first | refine wpList_alloc_row rfl 23 rfl _ zeroB ?_ | refine wpList_store_new rfl 23 _ _ rfl _ (blk hY) _ rfl rfl (by rw [size_blk, length_hY]; exact sizeB) (by rw [size_blk, length_hY, size_zeros]) (blk_one _) ?_)
  obtain ⟨W11, hW⟩ : ∃ W, W = w11.alloc (.cells (blk hY) 23) := ⟨_, rfl⟩
  rw [← hW] at q1 ⊢
  clear hW
  obtain ⟨g11, hg⟩ : ∃ g, g = w11.heap.size := ⟨_, rfl⟩
  rw [← hg] at q1 ⊢
  clear hg
  have R11 := Lib.hid q1
  clear q1
  go_upto_region 12 with (first
    | (go_at_call 41; refine (fuse_is R11.out 1 (by decide) h_5).mono ?_; rintro e w12 ⟨rfl, hR⟩; have R12 := Lib.hid hR; clear hR R11)
    | (go_at_call 67; refine (fullA _).mono ?_; rintro e w13 ⟨rfl, hb⟩; have R13 := Lib.hid (R12.out.call hb); clear hb R12)
    | (go_at_call 43; refine (write_is R13.out (by decide) 6 hA (by decide) length_hA h_6).mono ?_; rintro e w14 ⟨rfl, hR⟩; have R14 := Lib.hid hR; clear hR R13)
    | (go_at_call 42; refine (flush_is R14.out h_7).mono ?_; rintro e w15 ⟨rfl, hR⟩; have R15 := Lib.hid hR; clear hR R14))
  go_upto_region 13 with (first
    | (go_at_call 46; refine (down_is (R15.out.thing 0 rfl) true rfl).mono ?_; rintro e wx ⟨rfl, rfl⟩)
    | (go_at_call 67; refine (fullB _).mono ?_; rintro e w16 ⟨rfl, hb⟩; have R16 := Lib.hid (R15.out.call hb); clear hb R15)
    | (go_at_call 43; refine (write_is R16.out (by decide) 6 hB (by decide) length_hB h_7b).mono ?_; rintro e w17 ⟨rfl, hR⟩; have R17 := Lib.hid hR; clear hR R16))
  go_upto_region 14 with (first
    | refine wpList_plain rfl fun K hK' => wp_build_one 61 80 _ rfl (keepV (0, 15)) rfl ik _ Try.underlying61 HIK.out HZK.out (by rw [hsk]; rfl) (by omega) (by omega) (hK' _ _ ?_)
    | (go_at_call 48; refine (crash_own (R17.out.alloc2 (keepV (0, 15)) 80) _ (0, 15) 1 (by decide) (by simp) h_8).mono ?_; rintro e w18 ⟨rfl, hR⟩; have R18 := Lib.hid hR; clear hR R17))
  go_wp2_with fail
  refine (read_is (R18.out.thing 0 rfl) 6 (by decide) _ _ hr_8).mono ?_
  rintro e w19 ⟨rfl, hb⟩
  have q1 := (R18.out.call hb).alloc2 (blk hA) 23
  clear hb
  go_upto_region 15 with (first | refine wpList_alloc_row rfl 23 rfl _ zeroB ?_ | refine wpList_store_new rfl 23 _ _ rfl _ (blk hA) _ rfl rfl (by rw [size_blk, length_hA]; exact sizeB) (by rw [size_blk, length_hA, size_zeros]) (blk_one _) ?_)
  obtain ⟨W19, hW⟩ : ∃ W, W = w19.alloc (.cells (blk hA) 23) := ⟨_, rfl⟩
  rw [← hW] at q1 ⊢
  clear hW
  obtain ⟨g18, hg⟩ : ∃ g, g = w19.heap.size := ⟨_, rfl⟩
  rw [← hg] at q1 ⊢
  clear hg
  have R19 := Lib.hid q1
  clear q1
  have HEQ : Hid (∀ w : World, (binOp .eql 23 (.agg (blk hA)) (.agg (blk hA))).run Try.prog w = .ok (.bool true) w) := Lib.hid (fun w => by rw [eqlBlk w hA hA length_hA length_hA]; simp)
  have HSA : Hid ((blk hA).size = 256) := Lib.hid (by rw [size_blk, length_hA])
  refine wk_region_since (by kernel_rfl) (by kernel_rfl) ?_
  repeat (first
    | (refine wk_move _ (by first | exact wanted_none rfl | exact wanted_yes _ _ rfl rfl) rfl ?_; simp only [Act.put, Act.eval, Array.getD_eq_getD_getElem?, List.getElem?_toArray, List.getElem?_cons_succ, List.getElem?_cons_zero, Option.getD_some, List.setIfInBounds_toArray, List.set_cons_zero, List.set_cons_succ])
    | (refine wk_assign _ (by first | exact wanted_none rfl | exact wanted_yes _ _ rfl rfl) rfl ?_; simp only [Act.put, Act.eval, Array.getD_eq_getD_getElem?, List.getElem?_toArray, List.getElem?_cons_succ, List.getElem?_cons_zero, Option.getD_some, List.setIfInBounds_toArray, List.set_cons_zero, List.set_cons_succ])
    | (refine wk_pickt _ _ _ _ (by first | exact wanted_none rfl | exact wanted_yes _ _ rfl rfl) rfl rfl rfl ?_; simp only [Act.put, Act.eval, Array.getD_eq_getD_getElem?, List.getElem?_toArray, List.getElem?_cons_succ, List.getElem?_cons_zero, Option.getD_some, List.setIfInBounds_toArray, List.set_cons_zero, List.set_cons_succ])
    | (refine wk_pickf _ _ _ _ (by first | exact wanted_none rfl | exact wanted_yes _ _ rfl rfl) rfl rfl rfl ?_; simp only [Act.put, Act.eval, Array.getD_eq_getD_getElem?, List.getElem?_toArray, List.getElem?_cons_succ, List.getElem?_cons_zero, Option.getD_some, List.setIfInBounds_toArray, List.set_cons_zero, List.set_cons_succ])
    | (refine wk_skip (wanted_not _ true false rfl rfl rfl) ?_; simp only [Act.put, List.setIfInBounds_toArray, List.set_cons_zero, List.set_cons_succ])
    | (refine wk_skip (wanted_not _ false true rfl rfl rfl) ?_; simp only [Act.put, List.setIfInBounds_toArray, List.set_cons_zero, List.set_cons_succ])
    | (refine wk_skip (wanted_undef _ _ rfl rfl) ?_; simp only [Act.put, List.setIfInBounds_toArray, List.set_cons_zero, List.set_cons_succ])
    | (refine wk_not true _ _ (by first | exact wanted_none rfl | exact wanted_yes _ _ rfl rfl) rfl rfl ?_; simp only [Act.put, List.setIfInBounds_toArray, List.set_cons_zero, List.set_cons_succ])
    | (refine wk_not false _ _ (by first | exact wanted_none rfl | exact wanted_yes _ _ rfl rfl) rfl rfl ?_; simp only [Act.put, List.setIfInBounds_toArray, List.set_cons_zero, List.set_cons_succ]))
  refine wk_eql_int true _ _ _ _ _ _ _ (by kernel_rfl) rfl rfl rfl (by decide) ?_
  simp only [Act.put, List.setIfInBounds_toArray, List.set_cons_zero, List.set_cons_succ]
  repeat (first
    | (refine wk_move _ (by first | exact wanted_none rfl | exact wanted_yes _ _ rfl rfl) rfl ?_; simp only [Act.put, Act.eval, Array.getD_eq_getD_getElem?, List.getElem?_toArray, List.getElem?_cons_succ, List.getElem?_cons_zero, Option.getD_some, List.setIfInBounds_toArray, List.set_cons_zero, List.set_cons_succ])
    | (refine wk_assign _ (by first | exact wanted_none rfl | exact wanted_yes _ _ rfl rfl) rfl ?_; simp only [Act.put, Act.eval, Array.getD_eq_getD_getElem?, List.getElem?_toArray, List.getElem?_cons_succ, List.getElem?_cons_zero, Option.getD_some, List.setIfInBounds_toArray, List.set_cons_zero, List.set_cons_succ])
    | (refine wk_pickt _ _ _ _ (by first | exact wanted_none rfl | exact wanted_yes _ _ rfl rfl) rfl rfl rfl ?_; simp only [Act.put, Act.eval, Array.getD_eq_getD_getElem?, List.getElem?_toArray, List.getElem?_cons_succ, List.getElem?_cons_zero, Option.getD_some, List.setIfInBounds_toArray, List.set_cons_zero, List.set_cons_succ])
    | (refine wk_pickf _ _ _ _ (by first | exact wanted_none rfl | exact wanted_yes _ _ rfl rfl) rfl rfl rfl ?_; simp only [Act.put, Act.eval, Array.getD_eq_getD_getElem?, List.getElem?_toArray, List.getElem?_cons_succ, List.getElem?_cons_zero, Option.getD_some, List.setIfInBounds_toArray, List.set_cons_zero, List.set_cons_succ])
    | (refine wk_skip (wanted_not _ true false rfl rfl rfl) ?_; simp only [Act.put, List.setIfInBounds_toArray, List.set_cons_zero, List.set_cons_succ])
    | (refine wk_skip (wanted_not _ false true rfl rfl rfl) ?_; simp only [Act.put, List.setIfInBounds_toArray, List.set_cons_zero, List.set_cons_succ])
    | (refine wk_skip (wanted_undef _ _ rfl rfl) ?_; simp only [Act.put, List.setIfInBounds_toArray, List.set_cons_zero, List.set_cons_succ])
    | (refine wk_not true _ _ (by first | exact wanted_none rfl | exact wanted_yes _ _ rfl rfl) rfl rfl ?_; simp only [Act.put, List.setIfInBounds_toArray, List.set_cons_zero, List.set_cons_succ])
    | (refine wk_not false _ _ (by first | exact wanted_none rfl | exact wanted_yes _ _ rfl rfl) rfl rfl ?_; simp only [Act.put, List.setIfInBounds_toArray, List.set_cons_zero, List.set_cons_succ]))
  refine wk_load_row 23 _ g4 23 (blk hA) (0, 0) _ (by kernel_rfl) rfl rfl (fun w' hC => hC.row (R19.out.get 5 rfl)) Try.underlying23 rfl (by rw [HSA.out]; exact sizeB) ?_
  simp only [Act.put, List.setIfInBounds_toArray, List.set_cons_zero, List.set_cons_succ]
  refine wk_call 67 _ _ _ _ _ (by kernel_rfl) rfl Try.func67 rfl (by kernel_rfl) (fun w' hC => hC.call (fullA w')) ?_
  simp only [Act.put, List.setIfInBounds_toArray, List.set_cons_zero, List.set_cons_succ]
  refine wk_eql .eql (true) 23 23 _ _ (by first | exact wanted_none rfl | exact wanted_yes _ _ rfl rfl) rfl _ _ rfl rfl (by kernel_rfl) (fun w => HEQ.out w) ?_
  simp only [Act.put, List.setIfInBounds_toArray, List.set_cons_zero, List.set_cons_succ]
  repeat (first
    | (refine wk_move _ (by first | exact wanted_none rfl | exact wanted_yes _ _ rfl rfl) rfl ?_; simp only [Act.put, Act.eval, Array.getD_eq_getD_getElem?, List.getElem?_toArray, List.getElem?_cons_succ, List.getElem?_cons_zero, Option.getD_some, List.setIfInBounds_toArray, List.set_cons_zero, List.set_cons_succ])
    | (refine wk_assign _ (by first | exact wanted_none rfl | exact wanted_yes _ _ rfl rfl) rfl ?_; simp only [Act.put, Act.eval, Array.getD_eq_getD_getElem?, List.getElem?_toArray, List.getElem?_cons_succ, List.getElem?_cons_zero, Option.getD_some, List.setIfInBounds_toArray, List.set_cons_zero, List.set_cons_succ])
    | (refine wk_pickt _ _ _ _ (by first | exact wanted_none rfl | exact wanted_yes _ _ rfl rfl) rfl rfl rfl ?_; simp only [Act.put, Act.eval, Array.getD_eq_getD_getElem?, List.getElem?_toArray, List.getElem?_cons_succ, List.getElem?_cons_zero, Option.getD_some, List.setIfInBounds_toArray, List.set_cons_zero, List.set_cons_succ])
    | (refine wk_pickf _ _ _ _ (by first | exact wanted_none rfl | exact wanted_yes _ _ rfl rfl) rfl rfl rfl ?_; simp only [Act.put, Act.eval, Array.getD_eq_getD_getElem?, List.getElem?_toArray, List.getElem?_cons_succ, List.getElem?_cons_zero, Option.getD_some, List.setIfInBounds_toArray, List.set_cons_zero, List.set_cons_succ])
    | (refine wk_skip (wanted_not _ true false rfl rfl rfl) ?_; simp only [Act.put, List.setIfInBounds_toArray, List.set_cons_zero, List.set_cons_succ])
    | (refine wk_skip (wanted_not _ false true rfl rfl rfl) ?_; simp only [Act.put, List.setIfInBounds_toArray, List.set_cons_zero, List.set_cons_succ])
    | (refine wk_skip (wanted_undef _ _ rfl rfl) ?_; simp only [Act.put, List.setIfInBounds_toArray, List.set_cons_zero, List.set_cons_succ])
    | (refine wk_not true _ _ (by first | exact wanted_none rfl | exact wanted_yes _ _ rfl rfl) rfl rfl ?_; simp only [Act.put, List.setIfInBounds_toArray, List.set_cons_zero, List.set_cons_succ])
    | (refine wk_not false _ _ (by first | exact wanted_none rfl | exact wanted_yes _ _ rfl rfl) rfl rfl ?_; simp only [Act.put, List.setIfInBounds_toArray, List.set_cons_zero, List.set_cons_succ]))
  refine wk_eql_int true _ _ _ _ _ _ _ (by kernel_rfl) rfl rfl rfl (by decide) ?_
  simp only [Act.put, List.setIfInBounds_toArray, List.set_cons_zero, List.set_cons_succ]
  repeat (first
    | (refine wk_move _ (by first | exact wanted_none rfl | exact wanted_yes _ _ rfl rfl) rfl ?_; simp only [Act.put, Act.eval, Array.getD_eq_getD_getElem?, List.getElem?_toArray, List.getElem?_cons_succ, List.getElem?_cons_zero, Option.getD_some, List.setIfInBounds_toArray, List.set_cons_zero, List.set_cons_succ])
    | (refine wk_assign _ (by first | exact wanted_none rfl | exact wanted_yes _ _ rfl rfl) rfl ?_; simp only [Act.put, Act.eval, Array.getD_eq_getD_getElem?, List.getElem?_toArray, List.getElem?_cons_succ, List.getElem?_cons_zero, Option.getD_some, List.setIfInBounds_toArray, List.set_cons_zero, List.set_cons_succ])
    | (refine wk_pickt _ _ _ _ (by first | exact wanted_none rfl | exact wanted_yes _ _ rfl rfl) rfl rfl rfl ?_; simp only [Act.put, Act.eval, Array.getD_eq_getD_getElem?, List.getElem?_toArray, List.getElem?_cons_succ, List.getElem?_cons_zero, Option.getD_some, List.setIfInBounds_toArray, List.set_cons_zero, List.set_cons_succ])
    | (refine wk_pickf _ _ _ _ (by first | exact wanted_none rfl | exact wanted_yes _ _ rfl rfl) rfl rfl rfl ?_; simp only [Act.put, Act.eval, Array.getD_eq_getD_getElem?, List.getElem?_toArray, List.getElem?_cons_succ, List.getElem?_cons_zero, Option.getD_some, List.setIfInBounds_toArray, List.set_cons_zero, List.set_cons_succ])
    | (refine wk_skip (wanted_not _ true false rfl rfl rfl) ?_; simp only [Act.put, List.setIfInBounds_toArray, List.set_cons_zero, List.set_cons_succ])
    | (refine wk_skip (wanted_not _ false true rfl rfl rfl) ?_; simp only [Act.put, List.setIfInBounds_toArray, List.set_cons_zero, List.set_cons_succ])
    | (refine wk_skip (wanted_undef _ _ rfl rfl) ?_; simp only [Act.put, List.setIfInBounds_toArray, List.set_cons_zero, List.set_cons_succ])
    | (refine wk_not true _ _ (by first | exact wanted_none rfl | exact wanted_yes _ _ rfl rfl) rfl rfl ?_; simp only [Act.put, List.setIfInBounds_toArray, List.set_cons_zero, List.set_cons_succ])
    | (refine wk_not false _ _ (by first | exact wanted_none rfl | exact wanted_yes _ _ rfl rfl) rfl rfl ?_; simp only [Act.put, List.setIfInBounds_toArray, List.set_cons_zero, List.set_cons_succ]))
  refine wk_eql_int true _ _ _ _ _ _ _ (by kernel_rfl) rfl rfl rfl (by decide) ?_
  simp only [Act.put, List.setIfInBounds_toArray, List.set_cons_zero, List.set_cons_succ]
  repeat (first
    | (refine wk_move _ (by first | exact wanted_none rfl | exact wanted_yes _ _ rfl rfl) rfl ?_; simp only [Act.put, Act.eval, Array.getD_eq_getD_getElem?, List.getElem?_toArray, List.getElem?_cons_succ, List.getElem?_cons_zero, Option.getD_some, List.setIfInBounds_toArray, List.set_cons_zero, List.set_cons_succ])
    | (refine wk_assign _ (by first | exact wanted_none rfl | exact wanted_yes _ _ rfl rfl) rfl ?_; simp only [Act.put, Act.eval, Array.getD_eq_getD_getElem?, List.getElem?_toArray, List.getElem?_cons_succ, List.getElem?_cons_zero, Option.getD_some, List.setIfInBounds_toArray, List.set_cons_zero, List.set_cons_succ])
    | (refine wk_pickt _ _ _ _ (by first | exact wanted_none rfl | exact wanted_yes _ _ rfl rfl) rfl rfl rfl ?_; simp only [Act.put, Act.eval, Array.getD_eq_getD_getElem?, List.getElem?_toArray, List.getElem?_cons_succ, List.getElem?_cons_zero, Option.getD_some, List.setIfInBounds_toArray, List.set_cons_zero, List.set_cons_succ])
    | (refine wk_pickf _ _ _ _ (by first | exact wanted_none rfl | exact wanted_yes _ _ rfl rfl) rfl rfl rfl ?_; simp only [Act.put, Act.eval, Array.getD_eq_getD_getElem?, List.getElem?_toArray, List.getElem?_cons_succ, List.getElem?_cons_zero, Option.getD_some, List.setIfInBounds_toArray, List.set_cons_zero, List.set_cons_succ])
    | (refine wk_skip (wanted_not _ true false rfl rfl rfl) ?_; simp only [Act.put, List.setIfInBounds_toArray, List.set_cons_zero, List.set_cons_succ])
    | (refine wk_skip (wanted_not _ false true rfl rfl rfl) ?_; simp only [Act.put, List.setIfInBounds_toArray, List.set_cons_zero, List.set_cons_succ])
    | (refine wk_skip (wanted_undef _ _ rfl rfl) ?_; simp only [Act.put, List.setIfInBounds_toArray, List.set_cons_zero, List.set_cons_succ])
    | (refine wk_not true _ _ (by first | exact wanted_none rfl | exact wanted_yes _ _ rfl rfl) rfl rfl ?_; simp only [Act.put, List.setIfInBounds_toArray, List.set_cons_zero, List.set_cons_succ])
    | (refine wk_not false _ _ (by first | exact wanted_none rfl | exact wanted_yes _ _ rfl rfl) rfl rfl ?_; simp only [Act.put, List.setIfInBounds_toArray, List.set_cons_zero, List.set_cons_succ]))
  refine wk_eql_int true _ _ _ _ _ _ _ (by kernel_rfl) rfl rfl rfl (by decide) ?_
  simp only [Act.put, List.setIfInBounds_toArray, List.set_cons_zero, List.set_cons_succ]
  repeat (first
    | (refine wk_move _ (by first | exact wanted_none rfl | exact wanted_yes _ _ rfl rfl) rfl ?_; simp only [Act.put, Act.eval, Array.getD_eq_getD_getElem?, List.getElem?_toArray, List.getElem?_cons_succ, List.getElem?_cons_zero, Option.getD_some, List.setIfInBounds_toArray, List.set_cons_zero, List.set_cons_succ])
    | (refine wk_assign _ (by first | exact wanted_none rfl | exact wanted_yes _ _ rfl rfl) rfl ?_; simp only [Act.put, Act.eval, Array.getD_eq_getD_getElem?, List.getElem?_toArray, List.getElem?_cons_succ, List.getElem?_cons_zero, Option.getD_some, List.setIfInBounds_toArray, List.set_cons_zero, List.set_cons_succ])
    | (refine wk_pickt _ _ _ _ (by first | exact wanted_none rfl | exact wanted_yes _ _ rfl rfl) rfl rfl rfl ?_; simp only [Act.put, Act.eval, Array.getD_eq_getD_getElem?, List.getElem?_toArray, List.getElem?_cons_succ, List.getElem?_cons_zero, Option.getD_some, List.setIfInBounds_toArray, List.set_cons_zero, List.set_cons_succ])
    | (refine wk_pickf _ _ _ _ (by first | exact wanted_none rfl | exact wanted_yes _ _ rfl rfl) rfl rfl rfl ?_; simp only [Act.put, Act.eval, Array.getD_eq_getD_getElem?, List.getElem?_toArray, List.getElem?_cons_succ, List.getElem?_cons_zero, Option.getD_some, List.setIfInBounds_toArray, List.set_cons_zero, List.set_cons_succ])
    | (refine wk_skip (wanted_not _ true false rfl rfl rfl) ?_; simp only [Act.put, List.setIfInBounds_toArray, List.set_cons_zero, List.set_cons_succ])
    | (refine wk_skip (wanted_not _ false true rfl rfl rfl) ?_; simp only [Act.put, List.setIfInBounds_toArray, List.set_cons_zero, List.set_cons_succ])
    | (refine wk_skip (wanted_undef _ _ rfl rfl) ?_; simp only [Act.put, List.setIfInBounds_toArray, List.set_cons_zero, List.set_cons_succ])
    | (refine wk_not true _ _ (by first | exact wanted_none rfl | exact wanted_yes _ _ rfl rfl) rfl rfl ?_; simp only [Act.put, List.setIfInBounds_toArray, List.set_cons_zero, List.set_cons_succ])
    | (refine wk_not false _ _ (by first | exact wanted_none rfl | exact wanted_yes _ _ rfl rfl) rfl rfl ?_; simp only [Act.put, List.setIfInBounds_toArray, List.set_cons_zero, List.set_cons_succ]))
  refine wk_eql_int true _ _ _ _ _ _ _ (by kernel_rfl) rfl rfl rfl (by decide) ?_
  simp only [Act.put, List.setIfInBounds_toArray, List.set_cons_zero, List.set_cons_succ]
  repeat (first
    | (refine wk_move _ (by first | exact wanted_none rfl | exact wanted_yes _ _ rfl rfl) rfl ?_; simp only [Act.put, Act.eval, Array.getD_eq_getD_getElem?, List.getElem?_toArray, List.getElem?_cons_succ, List.getElem?_cons_zero, Option.getD_some, List.setIfInBounds_toArray, List.set_cons_zero, List.set_cons_succ])
    | (refine wk_assign _ (by first | exact wanted_none rfl | exact wanted_yes _ _ rfl rfl) rfl ?_; simp only [Act.put, Act.eval, Array.getD_eq_getD_getElem?, List.getElem?_toArray, List.getElem?_cons_succ, List.getElem?_cons_zero, Option.getD_some, List.setIfInBounds_toArray, List.set_cons_zero, List.set_cons_succ])
    | (refine wk_pickt _ _ _ _ (by first | exact wanted_none rfl | exact wanted_yes _ _ rfl rfl) rfl rfl rfl ?_; simp only [Act.put, Act.eval, Array.getD_eq_getD_getElem?, List.getElem?_toArray, List.getElem?_cons_succ, List.getElem?_cons_zero, Option.getD_some, List.setIfInBounds_toArray, List.set_cons_zero, List.set_cons_succ])
    | (refine wk_pickf _ _ _ _ (by first | exact wanted_none rfl | exact wanted_yes _ _ rfl rfl) rfl rfl rfl ?_; simp only [Act.put, Act.eval, Array.getD_eq_getD_getElem?, List.getElem?_toArray, List.getElem?_cons_succ, List.getElem?_cons_zero, Option.getD_some, List.setIfInBounds_toArray, List.set_cons_zero, List.set_cons_succ])
    | (refine wk_skip (wanted_not _ true false rfl rfl rfl) ?_; simp only [Act.put, List.setIfInBounds_toArray, List.set_cons_zero, List.set_cons_succ])
    | (refine wk_skip (wanted_not _ false true rfl rfl rfl) ?_; simp only [Act.put, List.setIfInBounds_toArray, List.set_cons_zero, List.set_cons_succ])
    | (refine wk_skip (wanted_undef _ _ rfl rfl) ?_; simp only [Act.put, List.setIfInBounds_toArray, List.set_cons_zero, List.set_cons_succ])
    | (refine wk_not true _ _ (by first | exact wanted_none rfl | exact wanted_yes _ _ rfl rfl) rfl rfl ?_; simp only [Act.put, List.setIfInBounds_toArray, List.set_cons_zero, List.set_cons_succ])
    | (refine wk_not false _ _ (by first | exact wanted_none rfl | exact wanted_yes _ _ rfl rfl) rfl rfl ?_; simp only [Act.put, List.setIfInBounds_toArray, List.set_cons_zero, List.set_cons_succ]))
  refine wk_eql_int true _ _ _ _ _ _ _ (by kernel_rfl) rfl rfl rfl (by decide) ?_
  simp only [Act.put, List.setIfInBounds_toArray, List.set_cons_zero, List.set_cons_succ]
  repeat (first
    | (refine wk_move _ (by first | exact wanted_none rfl | exact wanted_yes _ _ rfl rfl) rfl ?_; simp only [Act.put, Act.eval, Array.getD_eq_getD_getElem?, List.getElem?_toArray, List.getElem?_cons_succ, List.getElem?_cons_zero, Option.getD_some, List.setIfInBounds_toArray, List.set_cons_zero, List.set_cons_succ])
    | (refine wk_assign _ (by first | exact wanted_none rfl | exact wanted_yes _ _ rfl rfl) rfl ?_; simp only [Act.put, Act.eval, Array.getD_eq_getD_getElem?, List.getElem?_toArray, List.getElem?_cons_succ, List.getElem?_cons_zero, Option.getD_some, List.setIfInBounds_toArray, List.set_cons_zero, List.set_cons_succ])
    | (refine wk_pickt _ _ _ _ (by first | exact wanted_none rfl | exact wanted_yes _ _ rfl rfl) rfl rfl rfl ?_; simp only [Act.put, Act.eval, Array.getD_eq_getD_getElem?, List.getElem?_toArray, List.getElem?_cons_succ, List.getElem?_cons_zero, Option.getD_some, List.setIfInBounds_toArray, List.set_cons_zero, List.set_cons_succ])
    | (refine wk_pickf _ _ _ _ (by first | exact wanted_none rfl | exact wanted_yes _ _ rfl rfl) rfl rfl rfl ?_; simp only [Act.put, Act.eval, Array.getD_eq_getD_getElem?, List.getElem?_toArray, List.getElem?_cons_succ, List.getElem?_cons_zero, Option.getD_some, List.setIfInBounds_toArray, List.set_cons_zero, List.set_cons_succ])
    | (refine wk_skip (wanted_not _ true false rfl rfl rfl) ?_; simp only [Act.put, List.setIfInBounds_toArray, List.set_cons_zero, List.set_cons_succ])
    | (refine wk_skip (wanted_not _ false true rfl rfl rfl) ?_; simp only [Act.put, List.setIfInBounds_toArray, List.set_cons_zero, List.set_cons_succ])
    | (refine wk_skip (wanted_undef _ _ rfl rfl) ?_; simp only [Act.put, List.setIfInBounds_toArray, List.set_cons_zero, List.set_cons_succ])
    | (refine wk_not true _ _ (by first | exact wanted_none rfl | exact wanted_yes _ _ rfl rfl) rfl rfl ?_; simp only [Act.put, List.setIfInBounds_toArray, List.set_cons_zero, List.set_cons_succ])
    | (refine wk_not false _ _ (by first | exact wanted_none rfl | exact wanted_yes _ _ rfl rfl) rfl rfl ?_; simp only [Act.put, List.setIfInBounds_toArray, List.set_cons_zero, List.set_cons_succ]))
  refine wk_index_arr _ _ _ _ _ (0) (256) .i64 (by kernel_rfl) rfl Try.underlying23 sizeU8 rfl rfl (by omega) ?_
  simp only [Act.put, List.setIfInBounds_toArray, List.set_cons_zero, List.set_cons_succ]
  refine wk_load1 _ _ _ _ _ rfl (by kernel_rfl) rfl rfl (fun w' hC => hC.cell (R19.out.cell 3 0 rfl (hYc 0 (by omega) 98 (by decide)))) Try.underlying5 ?_
  simp only [Act.put, List.setIfInBounds_toArray, List.set_cons_zero, List.set_cons_succ]
  refine wk_eql_int true _ _ _ _ _ _ _ (by kernel_rfl) rfl rfl rfl (by decide) ?_
  simp only [Act.put, List.setIfInBounds_toArray, List.set_cons_zero, List.set_cons_succ]
  repeat (first
    | (refine wk_move _ (by first | exact wanted_none rfl | exact wanted_yes _ _ rfl rfl) rfl ?_; simp only [Act.put, Act.eval, Array.getD_eq_getD_getElem?, List.getElem?_toArray, List.getElem?_cons_succ, List.getElem?_cons_zero, Option.getD_some, List.setIfInBounds_toArray, List.set_cons_zero, List.set_cons_succ])
    | (refine wk_assign _ (by first | exact wanted_none rfl | exact wanted_yes _ _ rfl rfl) rfl ?_; simp only [Act.put, Act.eval, Array.getD_eq_getD_getElem?, List.getElem?_toArray, List.getElem?_cons_succ, List.getElem?_cons_zero, Option.getD_some, List.setIfInBounds_toArray, List.set_cons_zero, List.set_cons_succ])
    | (refine wk_pickt _ _ _ _ (by first | exact wanted_none rfl | exact wanted_yes _ _ rfl rfl) rfl rfl rfl ?_; simp only [Act.put, Act.eval, Array.getD_eq_getD_getElem?, List.getElem?_toArray, List.getElem?_cons_succ, List.getElem?_cons_zero, Option.getD_some, List.setIfInBounds_toArray, List.set_cons_zero, List.set_cons_succ])
    | (refine wk_pickf _ _ _ _ (by first | exact wanted_none rfl | exact wanted_yes _ _ rfl rfl) rfl rfl rfl ?_; simp only [Act.put, Act.eval, Array.getD_eq_getD_getElem?, List.getElem?_toArray, List.getElem?_cons_succ, List.getElem?_cons_zero, Option.getD_some, List.setIfInBounds_toArray, List.set_cons_zero, List.set_cons_succ])
    | (refine wk_skip (wanted_not _ true false rfl rfl rfl) ?_; simp only [Act.put, List.setIfInBounds_toArray, List.set_cons_zero, List.set_cons_succ])
    | (refine wk_skip (wanted_not _ false true rfl rfl rfl) ?_; simp only [Act.put, List.setIfInBounds_toArray, List.set_cons_zero, List.set_cons_succ])
    | (refine wk_skip (wanted_undef _ _ rfl rfl) ?_; simp only [Act.put, List.setIfInBounds_toArray, List.set_cons_zero, List.set_cons_succ])
    | (refine wk_not true _ _ (by first | exact wanted_none rfl | exact wanted_yes _ _ rfl rfl) rfl rfl ?_; simp only [Act.put, List.setIfInBounds_toArray, List.set_cons_zero, List.set_cons_succ])
    | (refine wk_not false _ _ (by first | exact wanted_none rfl | exact wanted_yes _ _ rfl rfl) rfl rfl ?_; simp only [Act.put, List.setIfInBounds_toArray, List.set_cons_zero, List.set_cons_succ]))
  refine wk_index_arr _ _ _ _ _ (63) (256) .i64 (by kernel_rfl) rfl Try.underlying23 sizeU8 rfl rfl (by omega) ?_
  simp only [Act.put, List.setIfInBounds_toArray, List.set_cons_zero, List.set_cons_succ]
  refine wk_load1 _ _ _ _ _ rfl (by kernel_rfl) rfl rfl (fun w' hC => hC.cell (R19.out.cell 3 63 rfl (hYc 63 (by omega) 98 (by decide)))) Try.underlying5 ?_
  simp only [Act.put, List.setIfInBounds_toArray, List.set_cons_zero, List.set_cons_succ]
  refine wk_eql_int true _ _ _ _ _ _ _ (by kernel_rfl) rfl rfl rfl (by decide) ?_
  simp only [Act.put, List.setIfInBounds_toArray, List.set_cons_zero, List.set_cons_succ]
  repeat (first
    | (refine wk_move _ (by first | exact wanted_none rfl | exact wanted_yes _ _ rfl rfl) rfl ?_; simp only [Act.put, Act.eval, Array.getD_eq_getD_getElem?, List.getElem?_toArray, List.getElem?_cons_succ, List.getElem?_cons_zero, Option.getD_some, List.setIfInBounds_toArray, List.set_cons_zero, List.set_cons_succ])
    | (refine wk_assign _ (by first | exact wanted_none rfl | exact wanted_yes _ _ rfl rfl) rfl ?_; simp only [Act.put, Act.eval, Array.getD_eq_getD_getElem?, List.getElem?_toArray, List.getElem?_cons_succ, List.getElem?_cons_zero, Option.getD_some, List.setIfInBounds_toArray, List.set_cons_zero, List.set_cons_succ])
    | (refine wk_pickt _ _ _ _ (by first | exact wanted_none rfl | exact wanted_yes _ _ rfl rfl) rfl rfl rfl ?_; simp only [Act.put, Act.eval, Array.getD_eq_getD_getElem?, List.getElem?_toArray, List.getElem?_cons_succ, List.getElem?_cons_zero, Option.getD_some, List.setIfInBounds_toArray, List.set_cons_zero, List.set_cons_succ])
    | (refine wk_pickf _ _ _ _ (by first | exact wanted_none rfl | exact wanted_yes _ _ rfl rfl) rfl rfl rfl ?_; simp only [Act.put, Act.eval, Array.getD_eq_getD_getElem?, List.getElem?_toArray, List.getElem?_cons_succ, List.getElem?_cons_zero, Option.getD_some, List.setIfInBounds_toArray, List.set_cons_zero, List.set_cons_succ])
    | (refine wk_skip (wanted_not _ true false rfl rfl rfl) ?_; simp only [Act.put, List.setIfInBounds_toArray, List.set_cons_zero, List.set_cons_succ])
    | (refine wk_skip (wanted_not _ false true rfl rfl rfl) ?_; simp only [Act.put, List.setIfInBounds_toArray, List.set_cons_zero, List.set_cons_succ])
    | (refine wk_skip (wanted_undef _ _ rfl rfl) ?_; simp only [Act.put, List.setIfInBounds_toArray, List.set_cons_zero, List.set_cons_succ])
    | (refine wk_not true _ _ (by first | exact wanted_none rfl | exact wanted_yes _ _ rfl rfl) rfl rfl ?_; simp only [Act.put, List.setIfInBounds_toArray, List.set_cons_zero, List.set_cons_succ])
    | (refine wk_not false _ _ (by first | exact wanted_none rfl | exact wanted_yes _ _ rfl rfl) rfl rfl ?_; simp only [Act.put, List.setIfInBounds_toArray, List.set_cons_zero, List.set_cons_succ]))
  refine wk_index_arr _ _ _ _ _ (64) (256) .i64 (by kernel_rfl) rfl Try.underlying23 sizeU8 rfl rfl (by omega) ?_
  simp only [Act.put, List.setIfInBounds_toArray, List.set_cons_zero, List.set_cons_succ]
  refine wk_load1 _ _ _ _ _ rfl (by kernel_rfl) rfl rfl (fun w' hC => hC.cell (R19.out.cell 3 64 rfl (hYc 64 (by omega) 97 (by decide)))) Try.underlying5 ?_
  simp only [Act.put, List.setIfInBounds_toArray, List.set_cons_zero, List.set_cons_succ]
  refine wk_eql_int true _ _ _ _ _ _ _ (by kernel_rfl) rfl rfl rfl (by decide) ?_
  simp only [Act.put, List.setIfInBounds_toArray, List.set_cons_zero, List.set_cons_succ]
  repeat (first
    | (refine wk_move _ (by first | exact wanted_none rfl | exact wanted_yes _ _ rfl rfl) rfl ?_; simp only [Act.put, Act.eval, Array.getD_eq_getD_getElem?, List.getElem?_toArray, List.getElem?_cons_succ, List.getElem?_cons_zero, Option.getD_some, List.setIfInBounds_toArray, List.set_cons_zero, List.set_cons_succ])
    | (refine wk_assign _ (by first | exact wanted_none rfl | exact wanted_yes _ _ rfl rfl) rfl ?_; simp only [Act.put, Act.eval, Array.getD_eq_getD_getElem?, List.getElem?_toArray, List.getElem?_cons_succ, List.getElem?_cons_zero, Option.getD_some, List.setIfInBounds_toArray, List.set_cons_zero, List.set_cons_succ])
    | (refine wk_pickt _ _ _ _ (by first | exact wanted_none rfl | exact wanted_yes _ _ rfl rfl) rfl rfl rfl ?_; simp only [Act.put, Act.eval, Array.getD_eq_getD_getElem?, List.getElem?_toArray, List.getElem?_cons_succ, List.getElem?_cons_zero, Option.getD_some, List.setIfInBounds_toArray, List.set_cons_zero, List.set_cons_succ])
    | (refine wk_pickf _ _ _ _ (by first | exact wanted_none rfl | exact wanted_yes _ _ rfl rfl) rfl rfl rfl ?_; simp only [Act.put, Act.eval, Array.getD_eq_getD_getElem?, List.getElem?_toArray, List.getElem?_cons_succ, List.getElem?_cons_zero, Option.getD_some, List.setIfInBounds_toArray, List.set_cons_zero, List.set_cons_succ])
    | (refine wk_skip (wanted_not _ true false rfl rfl rfl) ?_; simp only [Act.put, List.setIfInBounds_toArray, List.set_cons_zero, List.set_cons_succ])
    | (refine wk_skip (wanted_not _ false true rfl rfl rfl) ?_; simp only [Act.put, List.setIfInBounds_toArray, List.set_cons_zero, List.set_cons_succ])
    | (refine wk_skip (wanted_undef _ _ rfl rfl) ?_; simp only [Act.put, List.setIfInBounds_toArray, List.set_cons_zero, List.set_cons_succ])
    | (refine wk_not true _ _ (by first | exact wanted_none rfl | exact wanted_yes _ _ rfl rfl) rfl rfl ?_; simp only [Act.put, List.setIfInBounds_toArray, List.set_cons_zero, List.set_cons_succ])
    | (refine wk_not false _ _ (by first | exact wanted_none rfl | exact wanted_yes _ _ rfl rfl) rfl rfl ?_; simp only [Act.put, List.setIfInBounds_toArray, List.set_cons_zero, List.set_cons_succ]))
  refine wk_index_arr _ _ _ _ _ (191) (256) .i64 (by kernel_rfl) rfl Try.underlying23 sizeU8 rfl rfl (by omega) ?_
  simp only [Act.put, List.setIfInBounds_toArray, List.set_cons_zero, List.set_cons_succ]
  refine wk_load1 _ _ _ _ _ rfl (by kernel_rfl) rfl rfl (fun w' hC => hC.cell (R19.out.cell 3 191 rfl (hYc 191 (by omega) 97 (by decide)))) Try.underlying5 ?_
  simp only [Act.put, List.setIfInBounds_toArray, List.set_cons_zero, List.set_cons_succ]
  refine wk_eql_int true _ _ _ _ _ _ _ (by kernel_rfl) rfl rfl rfl (by decide) ?_
  simp only [Act.put, List.setIfInBounds_toArray, List.set_cons_zero, List.set_cons_succ]
  repeat (first
    | (refine wk_move _ (by first | exact wanted_none rfl | exact wanted_yes _ _ rfl rfl) rfl ?_; simp only [Act.put, Act.eval, Array.getD_eq_getD_getElem?, List.getElem?_toArray, List.getElem?_cons_succ, List.getElem?_cons_zero, Option.getD_some, List.setIfInBounds_toArray, List.set_cons_zero, List.set_cons_succ])
    | (refine wk_assign _ (by first | exact wanted_none rfl | exact wanted_yes _ _ rfl rfl) rfl ?_; simp only [Act.put, Act.eval, Array.getD_eq_getD_getElem?, List.getElem?_toArray, List.getElem?_cons_succ, List.getElem?_cons_zero, Option.getD_some, List.setIfInBounds_toArray, List.set_cons_zero, List.set_cons_succ])
    | (refine wk_pickt _ _ _ _ (by first | exact wanted_none rfl | exact wanted_yes _ _ rfl rfl) rfl rfl rfl ?_; simp only [Act.put, Act.eval, Array.getD_eq_getD_getElem?, List.getElem?_toArray, List.getElem?_cons_succ, List.getElem?_cons_zero, Option.getD_some, List.setIfInBounds_toArray, List.set_cons_zero, List.set_cons_succ])
    | (refine wk_pickf _ _ _ _ (by first | exact wanted_none rfl | exact wanted_yes _ _ rfl rfl) rfl rfl rfl ?_; simp only [Act.put, Act.eval, Array.getD_eq_getD_getElem?, List.getElem?_toArray, List.getElem?_cons_succ, List.getElem?_cons_zero, Option.getD_some, List.setIfInBounds_toArray, List.set_cons_zero, List.set_cons_succ])
    | (refine wk_skip (wanted_not _ true false rfl rfl rfl) ?_; simp only [Act.put, List.setIfInBounds_toArray, List.set_cons_zero, List.set_cons_succ])
    | (refine wk_skip (wanted_not _ false true rfl rfl rfl) ?_; simp only [Act.put, List.setIfInBounds_toArray, List.set_cons_zero, List.set_cons_succ])
    | (refine wk_skip (wanted_undef _ _ rfl rfl) ?_; simp only [Act.put, List.setIfInBounds_toArray, List.set_cons_zero, List.set_cons_succ])
    | (refine wk_not true _ _ (by first | exact wanted_none rfl | exact wanted_yes _ _ rfl rfl) rfl rfl ?_; simp only [Act.put, List.setIfInBounds_toArray, List.set_cons_zero, List.set_cons_succ])
    | (refine wk_not false _ _ (by first | exact wanted_none rfl | exact wanted_yes _ _ rfl rfl) rfl rfl ?_; simp only [Act.put, List.setIfInBounds_toArray, List.set_cons_zero, List.set_cons_succ]))
  refine wk_index_arr _ _ _ _ _ (192) (256) .i64 (by kernel_rfl) rfl Try.underlying23 sizeU8 rfl rfl (by omega) ?_
  simp only [Act.put, List.setIfInBounds_toArray, List.set_cons_zero, List.set_cons_succ]
  refine wk_load1 _ _ _ _ _ rfl (by kernel_rfl) rfl rfl (fun w' hC => hC.cell (R19.out.cell 3 192 rfl (hYc 192 (by omega) 98 (by decide)))) Try.underlying5 ?_
  simp only [Act.put, List.setIfInBounds_toArray, List.set_cons_zero, List.set_cons_succ]
  refine wk_eql_int true _ _ _ _ _ _ _ (by kernel_rfl) rfl rfl rfl (by decide) ?_
  simp only [Act.put, List.setIfInBounds_toArray, List.set_cons_zero, List.set_cons_succ]
  repeat (first
    | (refine wk_move _ (by first | exact wanted_none rfl | exact wanted_yes _ _ rfl rfl) rfl ?_; simp only [Act.put, Act.eval, Array.getD_eq_getD_getElem?, List.getElem?_toArray, List.getElem?_cons_succ, List.getElem?_cons_zero, Option.getD_some, List.setIfInBounds_toArray, List.set_cons_zero, List.set_cons_succ])
    | (refine wk_assign _ (by first | exact wanted_none rfl | exact wanted_yes _ _ rfl rfl) rfl ?_; simp only [Act.put, Act.eval, Array.getD_eq_getD_getElem?, List.getElem?_toArray, List.getElem?_cons_succ, List.getElem?_cons_zero, Option.getD_some, List.setIfInBounds_toArray, List.set_cons_zero, List.set_cons_succ])
    | (refine wk_pickt _ _ _ _ (by first | exact wanted_none rfl | exact wanted_yes _ _ rfl rfl) rfl rfl rfl ?_; simp only [Act.put, Act.eval, Array.getD_eq_getD_getElem?, List.getElem?_toArray, List.getElem?_cons_succ, List.getElem?_cons_zero, Option.getD_some, List.setIfInBounds_toArray, List.set_cons_zero, List.set_cons_succ])
    | (refine wk_pickf _ _ _ _ (by first | exact wanted_none rfl | exact wanted_yes _ _ rfl rfl) rfl rfl rfl ?_; simp only [Act.put, Act.eval, Array.getD_eq_getD_getElem?, List.getElem?_toArray, List.getElem?_cons_succ, List.getElem?_cons_zero, Option.getD_some, List.setIfInBounds_toArray, List.set_cons_zero, List.set_cons_succ])
    | (refine wk_skip (wanted_not _ true false rfl rfl rfl) ?_; simp only [Act.put, List.setIfInBounds_toArray, List.set_cons_zero, List.set_cons_succ])
    | (refine wk_skip (wanted_not _ false true rfl rfl rfl) ?_; simp only [Act.put, List.setIfInBounds_toArray, List.set_cons_zero, List.set_cons_succ])
    | (refine wk_skip (wanted_undef _ _ rfl rfl) ?_; simp only [Act.put, List.setIfInBounds_toArray, List.set_cons_zero, List.set_cons_succ])
    | (refine wk_not true _ _ (by first | exact wanted_none rfl | exact wanted_yes _ _ rfl rfl) rfl rfl ?_; simp only [Act.put, List.setIfInBounds_toArray, List.set_cons_zero, List.set_cons_succ])
    | (refine wk_not false _ _ (by first | exact wanted_none rfl | exact wanted_yes _ _ rfl rfl) rfl rfl ?_; simp only [Act.put, List.setIfInBounds_toArray, List.set_cons_zero, List.set_cons_succ]))
  refine wk_index_arr _ _ _ _ _ (255) (256) .i64 (by kernel_rfl) rfl Try.underlying23 sizeU8 rfl rfl (by omega) ?_
  simp only [Act.put, List.setIfInBounds_toArray, List.set_cons_zero, List.set_cons_succ]
  refine wk_load1 _ _ _ _ _ rfl (by kernel_rfl) rfl rfl (fun w' hC => hC.cell (R19.out.cell 3 255 rfl (hYc 255 (by omega) 98 (by decide)))) Try.underlying5 ?_
  simp only [Act.put, List.setIfInBounds_toArray, List.set_cons_zero, List.set_cons_succ]
  refine wk_eql_int true _ _ _ _ _ _ _ (by kernel_rfl) rfl rfl rfl (by decide) ?_
  simp only [Act.put, List.setIfInBounds_toArray, List.set_cons_zero, List.set_cons_succ]
  repeat (first
    | (refine wk_move _ (by first | exact wanted_none rfl | exact wanted_yes _ _ rfl rfl) rfl ?_; simp only [Act.put, Act.eval, Array.getD_eq_getD_getElem?, List.getElem?_toArray, List.getElem?_cons_succ, List.getElem?_cons_zero, Option.getD_some, List.setIfInBounds_toArray, List.set_cons_zero, List.set_cons_succ])
    | (refine wk_assign _ (by first | exact wanted_none rfl | exact wanted_yes _ _ rfl rfl) rfl ?_; simp only [Act.put, Act.eval, Array.getD_eq_getD_getElem?, List.getElem?_toArray, List.getElem?_cons_succ, List.getElem?_cons_zero, Option.getD_some, List.setIfInBounds_toArray, List.set_cons_zero, List.set_cons_succ])
    | (refine wk_pickt _ _ _ _ (by first | exact wanted_none rfl | exact wanted_yes _ _ rfl rfl) rfl rfl rfl ?_; simp only [Act.put, Act.eval, Array.getD_eq_getD_getElem?, List.getElem?_toArray, List.getElem?_cons_succ, List.getElem?_cons_zero, Option.getD_some, List.setIfInBounds_toArray, List.set_cons_zero, List.set_cons_succ])
    | (refine wk_pickf _ _ _ _ (by first | exact wanted_none rfl | exact wanted_yes _ _ rfl rfl) rfl rfl rfl ?_; simp only [Act.put, Act.eval, Array.getD_eq_getD_getElem?, List.getElem?_toArray, List.getElem?_cons_succ, List.getElem?_cons_zero, Option.getD_some, List.setIfInBounds_toArray, List.set_cons_zero, List.set_cons_succ])
    | (refine wk_skip (wanted_not _ true false rfl rfl rfl) ?_; simp only [Act.put, List.setIfInBounds_toArray, List.set_cons_zero, List.set_cons_succ])
    | (refine wk_skip (wanted_not _ false true rfl rfl rfl) ?_; simp only [Act.put, List.setIfInBounds_toArray, List.set_cons_zero, List.set_cons_succ])
    | (refine wk_skip (wanted_undef _ _ rfl rfl) ?_; simp only [Act.put, List.setIfInBounds_toArray, List.set_cons_zero, List.set_cons_succ])
    | (refine wk_not true _ _ (by first | exact wanted_none rfl | exact wanted_yes _ _ rfl rfl) rfl rfl ?_; simp only [Act.put, List.setIfInBounds_toArray, List.set_cons_zero, List.set_cons_succ])
    | (refine wk_not false _ _ (by first | exact wanted_none rfl | exact wanted_yes _ _ rfl rfl) rfl rfl ?_; simp only [Act.put, List.setIfInBounds_toArray, List.set_cons_zero, List.set_cons_succ]))
  refine wk_eql_int true _ _ _ _ _ _ _ (by kernel_rfl) rfl rfl rfl (by decide) ?_
  simp only [Act.put, List.setIfInBounds_toArray, List.set_cons_zero, List.set_cons_succ]
  repeat (first
    | (refine wk_move _ (by first | exact wanted_none rfl | exact wanted_yes _ _ rfl rfl) rfl ?_; simp only [Act.put, Act.eval, Array.getD_eq_getD_getElem?, List.getElem?_toArray, List.getElem?_cons_succ, List.getElem?_cons_zero, Option.getD_some, List.setIfInBounds_toArray, List.set_cons_zero, List.set_cons_succ])
    | (refine wk_assign _ (by first | exact wanted_none rfl | exact wanted_yes _ _ rfl rfl) rfl ?_; simp only [Act.put, Act.eval, Array.getD_eq_getD_getElem?, List.getElem?_toArray, List.getElem?_cons_succ, List.getElem?_cons_zero, Option.getD_some, List.setIfInBounds_toArray, List.set_cons_zero, List.set_cons_succ])
    | (refine wk_pickt _ _ _ _ (by first | exact wanted_none rfl | exact wanted_yes _ _ rfl rfl) rfl rfl rfl ?_; simp only [Act.put, Act.eval, Array.getD_eq_getD_getElem?, List.getElem?_toArray, List.getElem?_cons_succ, List.getElem?_cons_zero, Option.getD_some, List.setIfInBounds_toArray, List.set_cons_zero, List.set_cons_succ])
    | (refine wk_pickf _ _ _ _ (by first | exact wanted_none rfl | exact wanted_yes _ _ rfl rfl) rfl rfl rfl ?_; simp only [Act.put, Act.eval, Array.getD_eq_getD_getElem?, List.getElem?_toArray, List.getElem?_cons_succ, List.getElem?_cons_zero, Option.getD_some, List.setIfInBounds_toArray, List.set_cons_zero, List.set_cons_succ])
    | (refine wk_skip (wanted_not _ true false rfl rfl rfl) ?_; simp only [Act.put, List.setIfInBounds_toArray, List.set_cons_zero, List.set_cons_succ])
    | (refine wk_skip (wanted_not _ false true rfl rfl rfl) ?_; simp only [Act.put, List.setIfInBounds_toArray, List.set_cons_zero, List.set_cons_succ])
    | (refine wk_skip (wanted_undef _ _ rfl rfl) ?_; simp only [Act.put, List.setIfInBounds_toArray, List.set_cons_zero, List.set_cons_succ])
    | (refine wk_not true _ _ (by first | exact wanted_none rfl | exact wanted_yes _ _ rfl rfl) rfl rfl ?_; simp only [Act.put, List.setIfInBounds_toArray, List.set_cons_zero, List.set_cons_succ])
    | (refine wk_not false _ _ (by first | exact wanted_none rfl | exact wanted_yes _ _ rfl rfl) rfl rfl ?_; simp only [Act.put, List.setIfInBounds_toArray, List.set_cons_zero, List.set_cons_succ]))
  refine wk_eql_int true _ _ _ _ _ _ _ (by kernel_rfl) rfl rfl rfl (by decide) ?_
  simp only [Act.put, List.setIfInBounds_toArray, List.set_cons_zero, List.set_cons_succ]
  repeat (first
    | (refine wk_move _ (by first | exact wanted_none rfl | exact wanted_yes _ _ rfl rfl) rfl ?_; simp only [Act.put, Act.eval, Array.getD_eq_getD_getElem?, List.getElem?_toArray, List.getElem?_cons_succ, List.getElem?_cons_zero, Option.getD_some, List.setIfInBounds_toArray, List.set_cons_zero, List.set_cons_succ])
    | (refine wk_assign _ (by first | exact wanted_none rfl | exact wanted_yes _ _ rfl rfl) rfl ?_; simp only [Act.put, Act.eval, Array.getD_eq_getD_getElem?, List.getElem?_toArray, List.getElem?_cons_succ, List.getElem?_cons_zero, Option.getD_some, List.setIfInBounds_toArray, List.set_cons_zero, List.set_cons_succ])
    | (refine wk_pickt _ _ _ _ (by first | exact wanted_none rfl | exact wanted_yes _ _ rfl rfl) rfl rfl rfl ?_; simp only [Act.put, Act.eval, Array.getD_eq_getD_getElem?, List.getElem?_toArray, List.getElem?_cons_succ, List.getElem?_cons_zero, Option.getD_some, List.setIfInBounds_toArray, List.set_cons_zero, List.set_cons_succ])
    | (refine wk_pickf _ _ _ _ (by first | exact wanted_none rfl | exact wanted_yes _ _ rfl rfl) rfl rfl rfl ?_; simp only [Act.put, Act.eval, Array.getD_eq_getD_getElem?, List.getElem?_toArray, List.getElem?_cons_succ, List.getElem?_cons_zero, Option.getD_some, List.setIfInBounds_toArray, List.set_cons_zero, List.set_cons_succ])
    | (refine wk_skip (wanted_not _ true false rfl rfl rfl) ?_; simp only [Act.put, List.setIfInBounds_toArray, List.set_cons_zero, List.set_cons_succ])
    | (refine wk_skip (wanted_not _ false true rfl rfl rfl) ?_; simp only [Act.put, List.setIfInBounds_toArray, List.set_cons_zero, List.set_cons_succ])
    | (refine wk_skip (wanted_undef _ _ rfl rfl) ?_; simp only [Act.put, List.setIfInBounds_toArray, List.set_cons_zero, List.set_cons_succ])
    | (refine wk_not true _ _ (by first | exact wanted_none rfl | exact wanted_yes _ _ rfl rfl) rfl rfl ?_; simp only [Act.put, List.setIfInBounds_toArray, List.set_cons_zero, List.set_cons_succ])
    | (refine wk_not false _ _ (by first | exact wanted_none rfl | exact wanted_yes _ _ rfl rfl) rfl rfl ?_; simp only [Act.put, List.setIfInBounds_toArray, List.set_cons_zero, List.set_cons_succ]))
  refine wk_eql_int true _ _ _ _ _ _ _ (by kernel_rfl) rfl rfl rfl (by decide) ?_
  simp only [Act.put, List.setIfInBounds_toArray, List.set_cons_zero, List.set_cons_succ]
  repeat (first
    | (refine wk_move _ (by first | exact wanted_none rfl | exact wanted_yes _ _ rfl rfl) rfl ?_; simp only [Act.put, Act.eval, Array.getD_eq_getD_getElem?, List.getElem?_toArray, List.getElem?_cons_succ, List.getElem?_cons_zero, Option.getD_some, List.setIfInBounds_toArray, List.set_cons_zero, List.set_cons_succ])
    | (refine wk_assign _ (by first | exact wanted_none rfl | exact wanted_yes _ _ rfl rfl) rfl ?_; simp only [Act.put, Act.eval, Array.getD_eq_getD_getElem?, List.getElem?_toArray, List.getElem?_cons_succ, List.getElem?_cons_zero, Option.getD_some, List.setIfInBounds_toArray, List.set_cons_zero, List.set_cons_succ])
    | (refine wk_pickt _ _ _ _ (by first | exact wanted_none rfl | exact wanted_yes _ _ rfl rfl) rfl rfl rfl ?_; simp only [Act.put, Act.eval, Array.getD_eq_getD_getElem?, List.getElem?_toArray, List.getElem?_cons_succ, List.getElem?_cons_zero, Option.getD_some, List.setIfInBounds_toArray, List.set_cons_zero, List.set_cons_succ])
    | (refine wk_pickf _ _ _ _ (by first | exact wanted_none rfl | exact wanted_yes _ _ rfl rfl) rfl rfl rfl ?_; simp only [Act.put, Act.eval, Array.getD_eq_getD_getElem?, List.getElem?_toArray, List.getElem?_cons_succ, List.getElem?_cons_zero, Option.getD_some, List.setIfInBounds_toArray, List.set_cons_zero, List.set_cons_succ])
    | (refine wk_skip (wanted_not _ true false rfl rfl rfl) ?_; simp only [Act.put, List.setIfInBounds_toArray, List.set_cons_zero, List.set_cons_succ])
    | (refine wk_skip (wanted_not _ false true rfl rfl rfl) ?_; simp only [Act.put, List.setIfInBounds_toArray, List.set_cons_zero, List.set_cons_succ])
    | (refine wk_skip (wanted_undef _ _ rfl rfl) ?_; simp only [Act.put, List.setIfInBounds_toArray, List.set_cons_zero, List.set_cons_succ])
    | (refine wk_not true _ _ (by first | exact wanted_none rfl | exact wanted_yes _ _ rfl rfl) rfl rfl ?_; simp only [Act.put, List.setIfInBounds_toArray, List.set_cons_zero, List.set_cons_succ])
    | (refine wk_not false _ _ (by first | exact wanted_none rfl | exact wanted_yes _ _ rfl rfl) rfl rfl ?_; simp only [Act.put, List.setIfInBounds_toArray, List.set_cons_zero, List.set_cons_succ]))
  refine wk_eql_int true _ _ _ _ _ _ _ (by kernel_rfl) rfl rfl rfl (by decide) ?_
  simp only [Act.put, List.setIfInBounds_toArray, List.set_cons_zero, List.set_cons_succ]
  repeat (first
    | (refine wk_move _ (by first | exact wanted_none rfl | exact wanted_yes _ _ rfl rfl) rfl ?_; simp only [Act.put, Act.eval, Array.getD_eq_getD_getElem?, List.getElem?_toArray, List.getElem?_cons_succ, List.getElem?_cons_zero, Option.getD_some, List.setIfInBounds_toArray, List.set_cons_zero, List.set_cons_succ])
    | (refine wk_assign _ (by first | exact wanted_none rfl | exact wanted_yes _ _ rfl rfl) rfl ?_; simp only [Act.put, Act.eval, Array.getD_eq_getD_getElem?, List.getElem?_toArray, List.getElem?_cons_succ, List.getElem?_cons_zero, Option.getD_some, List.setIfInBounds_toArray, List.set_cons_zero, List.set_cons_succ])
    | (refine wk_pickt _ _ _ _ (by first | exact wanted_none rfl | exact wanted_yes _ _ rfl rfl) rfl rfl rfl ?_; simp only [Act.put, Act.eval, Array.getD_eq_getD_getElem?, List.getElem?_toArray, List.getElem?_cons_succ, List.getElem?_cons_zero, Option.getD_some, List.setIfInBounds_toArray, List.set_cons_zero, List.set_cons_succ])
    | (refine wk_pickf _ _ _ _ (by first | exact wanted_none rfl | exact wanted_yes _ _ rfl rfl) rfl rfl rfl ?_; simp only [Act.put, Act.eval, Array.getD_eq_getD_getElem?, List.getElem?_toArray, List.getElem?_cons_succ, List.getElem?_cons_zero, Option.getD_some, List.setIfInBounds_toArray, List.set_cons_zero, List.set_cons_succ])
    | (refine wk_skip (wanted_not _ true false rfl rfl rfl) ?_; simp only [Act.put, List.setIfInBounds_toArray, List.set_cons_zero, List.set_cons_succ])
    | (refine wk_skip (wanted_not _ false true rfl rfl rfl) ?_; simp only [Act.put, List.setIfInBounds_toArray, List.set_cons_zero, List.set_cons_succ])
    | (refine wk_skip (wanted_undef _ _ rfl rfl) ?_; simp only [Act.put, List.setIfInBounds_toArray, List.set_cons_zero, List.set_cons_succ])
    | (refine wk_not true _ _ (by first | exact wanted_none rfl | exact wanted_yes _ _ rfl rfl) rfl rfl ?_; simp only [Act.put, List.setIfInBounds_toArray, List.set_cons_zero, List.set_cons_succ])
    | (refine wk_not false _ _ (by first | exact wanted_none rfl | exact wanted_yes _ _ rfl rfl) rfl rfl ?_; simp only [Act.put, List.setIfInBounds_toArray, List.set_cons_zero, List.set_cons_succ]))
  refine wk_load_row 23 _ g18 23 (blk hA) (0, 0) _ (by kernel_rfl) rfl rfl (fun w' hC => hC.row (R19.out.get 1 rfl)) Try.underlying23 rfl (by rw [HSA.out]; exact sizeB) ?_
  simp only [Act.put, List.setIfInBounds_toArray, List.set_cons_zero, List.set_cons_succ]
  refine wk_call 67 _ _ _ _ _ (by kernel_rfl) rfl Try.func67 rfl (by kernel_rfl) (fun w' hC => hC.call (fullA w')) ?_
  simp only [Act.put, List.setIfInBounds_toArray, List.set_cons_zero, List.set_cons_succ]
  refine wk_eql .eql (true) 23 23 _ _ (by first | exact wanted_none rfl | exact wanted_yes _ _ rfl rfl) rfl _ _ rfl rfl (by kernel_rfl) (fun w => HEQ.out w) ?_
  simp only [Act.put, List.setIfInBounds_toArray, List.set_cons_zero, List.set_cons_succ]
  repeat (first
    | (refine wk_move _ (by first | exact wanted_none rfl | exact wanted_yes _ _ rfl rfl) rfl ?_; simp only [Act.put, Act.eval, Array.getD_eq_getD_getElem?, List.getElem?_toArray, List.getElem?_cons_succ, List.getElem?_cons_zero, Option.getD_some, List.setIfInBounds_toArray, List.set_cons_zero, List.set_cons_succ])
    | (refine wk_assign _ (by first | exact wanted_none rfl | exact wanted_yes _ _ rfl rfl) rfl ?_; simp only [Act.put, Act.eval, Array.getD_eq_getD_getElem?, List.getElem?_toArray, List.getElem?_cons_succ, List.getElem?_cons_zero, Option.getD_some, List.setIfInBounds_toArray, List.set_cons_zero, List.set_cons_succ])
    | (refine wk_pickt _ _ _ _ (by first | exact wanted_none rfl | exact wanted_yes _ _ rfl rfl) rfl rfl rfl ?_; simp only [Act.put, Act.eval, Array.getD_eq_getD_getElem?, List.getElem?_toArray, List.getElem?_cons_succ, List.getElem?_cons_zero, Option.getD_some, List.setIfInBounds_toArray, List.set_cons_zero, List.set_cons_succ])
    | (refine wk_pickf _ _ _ _ (by first | exact wanted_none rfl | exact wanted_yes _ _ rfl rfl) rfl rfl rfl ?_; simp only [Act.put, Act.eval, Array.getD_eq_getD_getElem?, List.getElem?_toArray, List.getElem?_cons_succ, List.getElem?_cons_zero, Option.getD_some, List.setIfInBounds_toArray, List.set_cons_zero, List.set_cons_succ])
    | (refine wk_skip (wanted_not _ true false rfl rfl rfl) ?_; simp only [Act.put, List.setIfInBounds_toArray, List.set_cons_zero, List.set_cons_succ])
    | (refine wk_skip (wanted_not _ false true rfl rfl rfl) ?_; simp only [Act.put, List.setIfInBounds_toArray, List.set_cons_zero, List.set_cons_succ])
    | (refine wk_skip (wanted_undef _ _ rfl rfl) ?_; simp only [Act.put, List.setIfInBounds_toArray, List.set_cons_zero, List.set_cons_succ])
    | (refine wk_not true _ _ (by first | exact wanted_none rfl | exact wanted_yes _ _ rfl rfl) rfl rfl ?_; simp only [Act.put, List.setIfInBounds_toArray, List.set_cons_zero, List.set_cons_succ])
    | (refine wk_not false _ _ (by first | exact wanted_none rfl | exact wanted_yes _ _ rfl rfl) rfl rfl ?_; simp only [Act.put, List.setIfInBounds_toArray, List.set_cons_zero, List.set_cons_succ]))
  refine wk_call 46 _ _ _ _ _ (by kernel_rfl) rfl Try.func46 rfl (by kernel_rfl) (fun w' hC => hC.same (down_is ((R19.out.since hC).thing 0 rfl) false rfl)) ?_
  simp only [Act.put, List.setIfInBounds_toArray, List.set_cons_zero, List.set_cons_succ]
  repeat (first
    | (refine wk_move _ (by first | exact wanted_none rfl | exact wanted_yes _ _ rfl rfl) rfl ?_; simp only [Act.put, Act.eval, Array.getD_eq_getD_getElem?, List.getElem?_toArray, List.getElem?_cons_succ, List.getElem?_cons_zero, Option.getD_some, List.setIfInBounds_toArray, List.set_cons_zero, List.set_cons_succ])
    | (refine wk_assign _ (by first | exact wanted_none rfl | exact wanted_yes _ _ rfl rfl) rfl ?_; simp only [Act.put, Act.eval, Array.getD_eq_getD_getElem?, List.getElem?_toArray, List.getElem?_cons_succ, List.getElem?_cons_zero, Option.getD_some, List.setIfInBounds_toArray, List.set_cons_zero, List.set_cons_succ])
    | (refine wk_pickt _ _ _ _ (by first | exact wanted_none rfl | exact wanted_yes _ _ rfl rfl) rfl rfl rfl ?_; simp only [Act.put, Act.eval, Array.getD_eq_getD_getElem?, List.getElem?_toArray, List.getElem?_cons_succ, List.getElem?_cons_zero, Option.getD_some, List.setIfInBounds_toArray, List.set_cons_zero, List.set_cons_succ])
    | (refine wk_pickf _ _ _ _ (by first | exact wanted_none rfl | exact wanted_yes _ _ rfl rfl) rfl rfl rfl ?_; simp only [Act.put, Act.eval, Array.getD_eq_getD_getElem?, List.getElem?_toArray, List.getElem?_cons_succ, List.getElem?_cons_zero, Option.getD_some, List.setIfInBounds_toArray, List.set_cons_zero, List.set_cons_succ])
    | (refine wk_skip (wanted_not _ true false rfl rfl rfl) ?_; simp only [Act.put, List.setIfInBounds_toArray, List.set_cons_zero, List.set_cons_succ])
    | (refine wk_skip (wanted_not _ false true rfl rfl rfl) ?_; simp only [Act.put, List.setIfInBounds_toArray, List.set_cons_zero, List.set_cons_succ])
    | (refine wk_skip (wanted_undef _ _ rfl rfl) ?_; simp only [Act.put, List.setIfInBounds_toArray, List.set_cons_zero, List.set_cons_succ])
    | (refine wk_not true _ _ (by first | exact wanted_none rfl | exact wanted_yes _ _ rfl rfl) rfl rfl ?_; simp only [Act.put, List.setIfInBounds_toArray, List.set_cons_zero, List.set_cons_succ])
    | (refine wk_not false _ _ (by first | exact wanted_none rfl | exact wanted_yes _ _ rfl rfl) rfl rfl ?_; simp only [Act.put, List.setIfInBounds_toArray, List.set_cons_zero, List.set_cons_succ]))
  refine wk_nil ?_
  intro w' hC
  have hfin : Below w.heap.size w w' := (R19.out.since hC).below
  go_wp2_with fail
  go_ret
  exact ⟨rfl, hfin⟩
end Go.Proofs.Ytnbdnnlomgjlmaa
