/- The card layer: the law CardUnlike holds of every two cards and every burst. -/
import Derived.Test.YtfbafmgclfnigaaDoorCardGets
import Derived.Test.YtfbafmgclfnigaaDoorBurst
namespace Go.Proofs.YtfbafmgclfnigaaDoor
open Go.RowKit
set_option linter.unusedSimpArgs false
set_option linter.unusedVariables false
set_option maxRecDepth 100000
theorem blk_getD (b : List UInt8) (i : Nat) (h : i < b.length) : ∃ c : UInt8, (blk b)[i]? = some (.int .u8 (c.toNat : Int)) ∧ c = b.getD i 0 :=
  ⟨b[i], blk_get b i h, by simp [h]⟩
theorem flip_cells (x : List UInt8) (q : Nat) (c : UInt8) (h : c = x.getD (q / 8) 0) :
    (blk x).setIfInBounds (q / 8) (Value.int .u8 (bits .xor .u8 (c.toNat : Int) ((128 : Int) / 2 ^ (q % 8)))) = blk (flipAt x q) := by
  have hp : 128 / 2 ^ (q % 8) < 256 := Nat.lt_of_le_of_lt (Nat.div_le_self _ _) (by omega)
  have e : ((128 : Int) / 2 ^ (q % 8)) = ((128 / 2 ^ (q % 8) : Nat) : Int) := by rw [Int.natCast_ediv]; congr 1
  rw [e, u8_xor_nat _ _ c.toNat_lt hp, flipAt, ← blk_set, ← h]
  congr 1
  have : c.toNat ^^^ 128 / 2 ^ (q % 8) < 2 ^ 8 := Nat.xor_lt_two_pow c.toNat_lt hp
  simp only [vu8, UInt8.toNat_ofNat', Value.int.injEq, true_and]
  omega
theorem cget_burst (c : Card) (hm : c.may = true) (p bs : Nat) (hp : p + 32 ≤ 2048) (hbs : bs < 2 ^ 32) (h0 : bs ≠ 0) : cgetE (burst (doneB 67 c.bytes) p bs 32) = 250 := by
  have hl : (doneB 67 c.bytes).length = 256 := length_doneB _ _ (by rw [c.length_bytes (may_name hm)]; decide)
  have hs : sealB (doneB 67 c.bytes) = doneB 67 c.bytes := seal_idem _ (length_insideB 67 c.bytes (by rw [c.length_bytes (may_name hm)]; decide))
  have hg := good_burst _ hl hs p bs hp hbs
  unfold cgetE
  rw [if_neg]
  intro h
  have : sealB (burst (doneB 67 c.bytes) p bs 32) = burst (doneB 67 c.bytes) p bs 32 := by
    unfold isCard cardF fineT fineB at h
    simp only [Bool.and_eq_true, decide_eq_true_eq] at h
    exact h.1.1.1
  exact h0 (hg.1 this)
def pairA (x y : Nat) : Array Value := #[.int .u32 (x : Int), .int .u32 (y : Int)]
set_option maxHeartbeats 4000000 in
theorem cardunlike_any (c d : Card) (x y : Nat) (hc : c.Ok) (hd : d.Ok) (hx : x < 4294967296) (hy : y < 4294967296) (w : World) :
    Calls Tryd.prog 5 #[.agg c.cells, .agg d.cells, .agg (pairA x y)] w fun e w' => e = .returned (.bool true) ∧ Below w.heap.size w w' := by
  obtain ⟨C1, hC1⟩ : ∃ C, C = c.cells := ⟨_, rfl⟩
  obtain ⟨C2, hC2⟩ : ∃ C, C = d.cells := ⟨_, rfl⟩
  obtain ⟨D1, hD1⟩ : ∃ D, D = c.putB := ⟨_, rfl⟩
  obtain ⟨D2, hD2⟩ : ∃ D, D = d.putB := ⟨_, rfl⟩
  obtain ⟨E1, hE1⟩ : ∃ E, E = c.putE := ⟨_, rfl⟩
  obtain ⟨E2, hE2⟩ : ∃ E, E = d.putE := ⟨_, rfl⟩
  obtain ⟨m1, hm1⟩ : ∃ m, m = c.may := ⟨_, rfl⟩
  obtain ⟨m2, hm2⟩ : ∃ m, m = d.may := ⟨_, rfl⟩
  obtain ⟨sm, hsm⟩ : ∃ m, m = c.same d := ⟨_, rfl⟩
  have HDL1 : Hid (D1.length = 256) := Lib.hid (by rw [hD1]; exact length_putB c)
  have HDL2 : Hid (D2.length = 256) := Lib.hid (by rw [hD2]; exact length_putB d)
  have HDS1 : Hid ((blk D1).size = 256) := Lib.hid (by rw [size_blk, HDL1.out])
  have HDS2 : Hid ((blk D2).size = 256) := Lib.hid (by rw [size_blk, HDL2.out])
  have HCS1 : Hid (C1.size = 9) := Lib.hid (by rw [hC1]; rfl)
  have HCS2 : Hid (C2.size = 9) := Lib.hid (by rw [hC2]; rfl)
  have HC01 : Hid (C1[0]? = some (.string c.name)) := Lib.hid (by rw [hC1]; rfl)
  have HC02 : Hid (C2[0]? = some (.string d.name)) := Lib.hid (by rw [hC2]; rfl)
  have HP1 : Hid (∀ w, Calls Tryd.prog 11 #[.agg C1] w fun e w' => e = .returned (.tuple #[.agg (blk D1), .int .i64 E1]) ∧ Below w.heap.size w w') := Lib.hid (fun w => by rw [hC1, hD1, hE1]; exact put_all c hc w)
  have HP2 : Hid (∀ w, Calls Tryd.prog 11 #[.agg C2] w fun e w' => e = .returned (.tuple #[.agg (blk D2), .int .i64 E2]) ∧ Below w.heap.size w w') := Lib.hid (fun w => by rw [hC2, hD2, hE2]; exact put_all d hd w)
  have HEB : Hid (∀ w : World, (binOp .eql 29 (.agg (blk D1)) (.agg (blk D2))).run Tryd.prog w = .ok (.bool (decide (D1 = D2))) w) := Lib.hid (fun w =>
    run_eql_blk w 29 5 256 Tryd.underlying29 Tryd.underlying5 sizeU8 D1 D2 HDL1.out HDL2.out)
  have HEN : Hid (∀ w : World, (binOp .eql 26 (.agg C1) (.agg C2)).run Tryd.prog w = .ok (.bool sm) w) := Lib.hid (fun w => by
    rw [hC1, hC2, hsm]; exact run_eql_card w c d)
  have HSAME : Hid (m1 = true → m2 = true → decide (D1 = D2) = sm) := Lib.hid (fun q1 q2 => by
    have e1 : D1 = doneB 67 c.bytes := by rw [hD1]; unfold Card.putB; rw [← hm1, q1]; rfl
    have e2 : D2 = doneB 67 d.bytes := by rw [hD2]; unfold Card.putB; rw [← hm2, q2]; rfl
    rw [Bool.eq_iff_iff, hsm, same_iff, decide_eq_true_iff]
    constructor
    · intro h
      rw [e1, e2] at h
      exact card_inj c d hc hd (by rw [← hm1]; exact q1) (by rw [← hm2]; exact q2) h
    · rintro rfl
      rw [hD1, hD2])
  have HE1 : Hid (E1 = if m1 then 0 else 5) := Lib.hid (by rw [hE1, hm1]; rfl)
  have HE2 : Hid (E2 = if m2 then 0 else 5) := Lib.hid (by rw [hE2, hm2]; rfl)
  have HGET : Hid (m1 = true → ∀ p, p + 32 ≤ 2048 → y ≠ 0 → cgetE (burst D1 p y 32) = 250) := Lib.hid (fun q1 p hp h0 => by
    have e1 : D1 = doneB 67 c.bytes := by rw [hD1]; unfold Card.putB; rw [← hm1, q1]; rfl
    rw [e1]
    exact cget_burst c (by rw [← hm1]; exact q1) p y hp hy h0)
  rw [← hC1, ← hC2]
  clear hC1 hC2 hD1 hD2 hE1 hE2 hm1 hm2 hsm hc hd
  obtain ⟨A, hA⟩ : ∃ A, A = pairA x y := ⟨_, rfl⟩
  have HA0 : Hid (A[0]? = some (.int .u32 (x : Int))) := Lib.hid (by rw [hA]; rfl)
  have HA1 : Hid (A[1]? = some (.int .u32 (y : Int))) := Lib.hid (by rw [hA]; rfl)
  rw [← hA]
  clear hA
  have q1 := (((Rows.start w).alloc C1 26).alloc C2 26).alloc A 45
  obtain ⟨g1, hg1⟩ : ∃ g, g = w.heap.size := ⟨_, rfl⟩
  obtain ⟨g2, hg2⟩ : ∃ g, g = (w.alloc (.cells C1 26)).heap.size := ⟨_, rfl⟩
  obtain ⟨g3, hg3⟩ : ∃ g, g = ((w.alloc (.cells C1 26)).alloc (.cells C2 26)).heap.size := ⟨_, rfl⟩
  rw [← hg3, ← hg2, ← hg1] at q1
  have hg2' : w.heap.size + 1 = g2 := by rw [hg2]; simp
  have hg3' : w.heap.size + 1 + 1 = g3 := by rw [hg3]; simp
  have G1 := Lib.hid hg1
  have G2 := Lib.hid hg2'
  have G3 := Lib.hid hg3'
  have Q1 := Lib.hid q1
  clear hg1 hg2 hg3 hg2' hg3' q1
  go_enter Tryd.func5, Tryd.ntmps5
  go_upto_region 1 with (fail)
  have q1 := Q1.out
  obtain ⟨W1, hW⟩ : ∃ W, W = ((w.alloc (.cells C1 26)).alloc (.cells C2 26)).alloc (.cells A 45) := ⟨_, rfl⟩
  rw [← hW] at q1 ⊢
  rw [G3.out, G2.out, ← G1.out]
  have R1 := Lib.hid q1
  clear hW q1 Q1 G1 G2 G3
  have c1 := R1.out.cell 2 0 rfl HC01.out
  have c2 := R1.out.cell 1 0 rfl HC02.out
  by_cases hs1 : 200 < c.name.size
  · go_wp2_with fail
    refine (cardhead_any _).mono ?_
    rintro e w5 ⟨rfl, hb⟩
    have hfin := (R1.out.call hb).below
    clear hb
    go_wp2_with fail
    go_ret
    exact ⟨rfl, hfin⟩
  by_cases hs2 : 200 < d.name.size
  · go_wp2_with fail
    refine (cardhead_any _).mono ?_
    rintro e w5 ⟨rfl, hb⟩
    have hfin := (R1.out.call hb).below
    clear hb
    go_wp2_with fail
    go_ret
    exact ⟨rfl, hfin⟩
  go_wp2_with (refine wpList_load_row rfl 26 _ rfl g1 rfl 26 C1 (0, 0) _ (R1.out.get 2 rfl) Tryd.underlying26 rfl (by rw [HCS1.out]; exact sizeC) ?_)
  clear c1 c2 hs1 hs2
  refine (HP1.out _).mono ?_
  rintro e w2 ⟨rfl, hb⟩
  have q1 := (R1.out.call hb).alloc (blk D1) 29
  clear hb
  go_upto_region 4 with (first | refine wpList_alloc_row rfl 29 rfl _ zeroB ?_ | refine wpList_store_new rfl 29 _ _ rfl _ (blk D1) _ rfl rfl (by rw [HDS1.out]; exact sizeB) (by rw [HDS1.out, size_zeros]) (blk_one _) ?_)
  obtain ⟨W2, hW⟩ : ∃ W, W = w2.alloc (.cells (blk D1) 29) := ⟨_, rfl⟩
  rw [← hW] at q1 ⊢
  clear hW
  obtain ⟨g4, hg⟩ : ∃ g, g = w2.heap.size := ⟨_, rfl⟩
  rw [← hg] at q1 ⊢
  clear hg
  have R2 := Lib.hid q1
  clear q1
  go_wp2_with (refine wpList_load_row rfl 26 _ rfl g2 rfl 26 C2 (0, 0) _ (R2.out.get 2 rfl) Tryd.underlying26 rfl (by rw [HCS2.out]; exact sizeC) ?_)
  refine (HP2.out _).mono ?_
  rintro e w3 ⟨rfl, hb⟩
  have q1 := (R2.out.call hb).alloc (blk D2) 29
  clear hb
  go_upto_region 5 with (first | refine wpList_alloc_row rfl 29 rfl _ zeroB ?_ | refine wpList_store_new rfl 29 _ _ rfl _ (blk D2) _ rfl rfl (by rw [HDS2.out]; exact sizeB) (by rw [HDS2.out, size_zeros]) (blk_one _) ?_)
  obtain ⟨W3, hW⟩ : ∃ W, W = w3.alloc (.cells (blk D2) 29) := ⟨_, rfl⟩
  rw [← hW] at q1 ⊢
  clear hW
  obtain ⟨g5, hg⟩ : ∃ g, g = w3.heap.size := ⟨_, rfl⟩
  rw [← hg] at q1 ⊢
  clear hg
  have R3 := Lib.hid q1
  clear q1
  clear R1 R2
  cases m1
  · obtain rfl : E1 = 5 := HE1.out
    go_wp2_with fail
    refine (cardhead_any _).mono ?_
    rintro e w4 ⟨rfl, hb⟩
    have hfin := (R3.out.call hb).below
    clear hb
    go_wp2_with fail
    go_ret
    exact ⟨rfl, hfin⟩
  obtain rfl : E1 = 0 := HE1.out
  have HGT := Lib.hid (HGET.out rfl)
  go_upto_region 7 with (fail)
  refine wk_region_since (by kernel_rfl) (by kernel_rfl) ?_
  repeat (first
    | (refine wk_move _ (by first | exact wanted_none rfl | exact wanted_yes _ _ rfl rfl) rfl ?_; simp only [Act.put, Act.eval, Array.getD_eq_getD_getElem?, List.getElem?_toArray, List.getElem?_cons_succ, List.getElem?_cons_zero, Option.getD_some, List.setIfInBounds_toArray, List.set_cons_zero, List.set_cons_succ])
    | (refine wk_assign _ (by first | exact wanted_none rfl | exact wanted_yes _ _ rfl rfl) rfl ?_; simp only [Act.put, Act.eval, Array.getD_eq_getD_getElem?, List.getElem?_toArray, List.getElem?_cons_succ, List.getElem?_cons_zero, Option.getD_some, List.setIfInBounds_toArray, List.set_cons_zero, List.set_cons_succ])
    | (refine wk_pickt _ _ _ _ (by first | exact wanted_none rfl | exact wanted_yes _ _ rfl rfl) rfl rfl rfl ?_; simp only [Act.put, Act.eval, Array.getD_eq_getD_getElem?, List.getElem?_toArray, List.getElem?_cons_succ, List.getElem?_cons_zero, Option.getD_some, List.setIfInBounds_toArray, List.set_cons_zero, List.set_cons_succ])
    | (refine wk_pickf _ _ _ _ (by first | exact wanted_none rfl | exact wanted_yes _ _ rfl rfl) rfl rfl rfl ?_; simp only [Act.put, Act.eval, Array.getD_eq_getD_getElem?, List.getElem?_toArray, List.getElem?_cons_succ, List.getElem?_cons_zero, Option.getD_some, List.setIfInBounds_toArray, List.set_cons_zero, List.set_cons_succ])
    | (refine wk_skip (wanted_not _ true false rfl rfl rfl) ?_; simp only [Act.put, List.setIfInBounds_toArray, List.set_cons_zero, List.set_cons_succ])
    | (refine wk_skip (wanted_not _ false true rfl rfl rfl) ?_; simp only [Act.put, List.setIfInBounds_toArray, List.set_cons_zero, List.set_cons_succ])
    | (refine wk_skip (wanted_undef _ _ rfl rfl) ?_; simp only [Act.put, List.setIfInBounds_toArray, List.set_cons_zero, List.set_cons_succ])
    | (refine wk_not true _ _ (by first | exact wanted_none rfl | exact wanted_yes _ _ rfl rfl) rfl rfl ?_; simp only [Act.put, List.setIfInBounds_toArray, List.set_cons_zero, List.set_cons_succ])
    | (refine wk_not false _ _ (by first | exact wanted_none rfl | exact wanted_yes _ _ rfl rfl) rfl rfl ?_; simp only [Act.put, List.setIfInBounds_toArray, List.set_cons_zero, List.set_cons_succ]))
  cases m2
  · obtain rfl : E2 = 5 := HE2.out
    refine wk_eql_int false _ _ _ _ _ _ _ (by kernel_rfl) rfl rfl rfl (by decide) ?_
    simp only [Act.put, List.setIfInBounds_toArray, List.set_cons_zero, List.set_cons_succ]
    repeat (first
      | (refine wk_move _ (by first | exact wanted_none rfl | exact wanted_yes _ _ rfl rfl) rfl ?_; simp only [Act.put, Act.eval, Array.getD_eq_getD_getElem?, List.getElem?_toArray, List.getElem?_cons_succ, List.getElem?_cons_zero, Option.getD_some, List.setIfInBounds_toArray, List.set_cons_zero, List.set_cons_succ])
      | (refine wk_assign _ (by first | exact wanted_none rfl | exact wanted_yes _ _ rfl rfl) rfl ?_; simp only [Act.put, Act.eval, Array.getD_eq_getD_getElem?, List.getElem?_toArray, List.getElem?_cons_succ, List.getElem?_cons_zero, Option.getD_some, List.setIfInBounds_toArray, List.set_cons_zero, List.set_cons_succ])
      | (refine wk_pickt _ _ _ _ (by first | exact wanted_none rfl | exact wanted_yes _ _ rfl rfl) rfl rfl rfl ?_; simp only [Act.put, Act.eval, Array.getD_eq_getD_getElem?, List.getElem?_toArray, List.getElem?_cons_succ, List.getElem?_cons_zero, Option.getD_some, List.setIfInBounds_toArray, List.set_cons_zero, List.set_cons_succ])
      | (refine wk_pickf _ _ _ _ (by first | exact wanted_none rfl | exact wanted_yes _ _ rfl rfl) rfl rfl rfl ?_; simp only [Act.put, Act.eval, Array.getD_eq_getD_getElem?, List.getElem?_toArray, List.getElem?_cons_succ, List.getElem?_cons_zero, Option.getD_some, List.setIfInBounds_toArray, List.set_cons_zero, List.set_cons_succ])
      | (refine wk_skip (wanted_not _ true false rfl rfl rfl) ?_; simp only [Act.put, List.setIfInBounds_toArray, List.set_cons_zero, List.set_cons_succ])
      | (refine wk_skip (wanted_not _ false true rfl rfl rfl) ?_; simp only [Act.put, List.setIfInBounds_toArray, List.set_cons_zero, List.set_cons_succ])
      | (refine wk_skip (wanted_undef _ _ rfl rfl) ?_; simp only [Act.put, List.setIfInBounds_toArray, List.set_cons_zero, List.set_cons_succ])
      | (refine wk_not true _ _ (by first | exact wanted_none rfl | exact wanted_yes _ _ rfl rfl) rfl rfl ?_; simp only [Act.put, List.setIfInBounds_toArray, List.set_cons_zero, List.set_cons_succ])
      | (refine wk_not false _ _ (by first | exact wanted_none rfl | exact wanted_yes _ _ rfl rfl) rfl rfl ?_; simp only [Act.put, List.setIfInBounds_toArray, List.set_cons_zero, List.set_cons_succ]))
    refine wk_nil ?_
    intro w' hC
    have R4 := Lib.hid (R3.out.since hC)
    clear hC R3 HSAME HEB HEN
    have q1 := R4.out.alloc (blk D1) 29
    go_upto_region 10 with (first | refine wpList_load_row rfl 29 _ rfl g4 rfl 29 (blk D1) (0, 0) _ (R4.out.get 1 rfl) Tryd.underlying29 rfl (by rw [HDS1.out]; exact sizeB) ?_ | refine wpList_alloc_row rfl 29 rfl _ zeroB ?_ | refine wpList_store_new rfl 29 _ _ rfl _ (blk D1) _ rfl rfl (by rw [HDS1.out]; exact sizeB) (by rw [HDS1.out, size_zeros]) (blk_one _) ?_)
    obtain ⟨W5, hW⟩ : ∃ W, W = w'.alloc (.cells (blk D1) 29) := ⟨_, rfl⟩
    rw [← hW] at q1 ⊢
    clear hW
    obtain ⟨g6, hg⟩ : ∃ g, g = w'.heap.size := ⟨_, rfl⟩
    rw [← hg] at q1 ⊢
    clear hg
    have R5 := Lib.hid q1
    clear q1
    have a0 := R5.out.cell 3 0 rfl HA0.out
    go_upto_region 11 with (fail)
    clear a0
    have hp : x % 2017 < 2017 := Nat.mod_lt _ (by omega)
    rw [show ((x : Int) % 2017) = ((x % 2017 : Nat) : Int) from by omega]
    generalize x % 2017 = p at hp ⊢
    have R5b : Hid (Rows w W5 [(g6, blk (burst D1 p y 0), 29), (g3, A, 45)]) := Lib.hid ⟨R5.out.below, fun q hq => R5.out.row q (by revert hq; simp [burst]; rintro (h | h) <;> simp [h]), (R5.out.dist.sublist (by simp [burst]))⟩
    clear R5 R4
    go_wp2_with fail
    go_loopw [13] (fun i wr => ∃ k : Nat, k ≤ 32 ∧ i = .int .i64 (k : Int) ∧ Rows w wr [(g6, blk (burst D1 p y k), 29), (g3, A, 45)]) (fun i _ => 32 - (intOf i).toNat)
    case atStart => exact ⟨0, by omega, rfl, R5b.out⟩
    case round =>
      obtain ⟨k, hk, rfl, hR⟩ := hrel
      have R6 := Lib.hid hR
      clear hR R5b
      have a1 := R6.out.cell 1 1 rfl HA1.out
      by_cases hlt : k < 32
      · have hbit := bit_is y k
        have hq : (p + k) / 8 < (burst D1 p y k).length := by rw [length_burst, HDL1.out]; omega
        obtain ⟨c0, hcell, hcd⟩ := blk_getD (burst D1 p y k) ((p + k) / 8) hq
        have c6 := R6.out.cell 0 ((p + k) / 8) rfl hcell
        have f6 := R6.out.free 0 ((p + k) / 8) rfl
        have HCD := Lib.hid hcd
        clear hq hcd
        have HS := Lib.hid (show burst D1 p y (k + 1) = if y.testBit k then flipAt (burst D1 p y k) (p + k) else burst D1 p y k from rfl)
        have hq2 : (p + k) / 8 < 256 := by omega
        cases hb : y.testBit k with
        | true =>
          rw [hb] at hbit HS
          clear hb hcell
          go_wp2_with fail
          go_roundw
          case rel =>
            refine ⟨k + 1, by omega, by go_num, ?_⟩
            have := R6.out.setCell 0 ((p + k) / 8) (.int .u8 (bits .xor .u8 (c0.toNat : Int) ((128 : Int) / 2 ^ ((p + k) % 8)))) rfl
            rw [flip_cells _ _ _ HCD.out] at this
            rw [HS.out]
            exact this
          case measure => simp [intOf]; omega
        | false =>
          rw [hb] at hbit HS
          clear hb hcell c6 f6
          go_wp2_with fail
          go_roundw
          case rel => exact ⟨k + 1, by omega, by go_num, by rw [HS.out]; exact R6.out⟩
          case measure => simp [intOf]; omega
      · obtain rfl : k = 32 := by omega
        have hlb : (burst D1 p y 32).length = 256 := by rw [length_burst, HDL1.out]
        have HYS : Hid ((blk (burst D1 p y 32)).size = 256) := Lib.hid (by rw [size_blk, hlb])
        have HGG := Lib.hid (cget_any _ hlb)
        have HER := Lib.hid (HGT.out p (by omega))
        have HCZ : Hid ((cgetC (burst D1 p y 32)).size = 9 ∧ (cgetC (burst D1 p y 32)).all (·.oneCell') = true) := Lib.hid (by rw [cgetC_card]; exact ⟨rfl, cells_one _⟩)
        obtain ⟨CC, hCC⟩ : ∃ CC, CC = cgetC (burst D1 p y 32) := ⟨_, rfl⟩
        obtain ⟨EE, hEE⟩ : ∃ EE, EE = cgetE (burst D1 p y 32) := ⟨_, rfl⟩
        rw [← hCC, ← hEE] at HGG
        rw [← hCC] at HCZ
        rw [← hEE] at HER
        generalize burst D1 p y 32 = Y at R6 HGG HYS
        clear hlb hCC hEE a1 hk hlt
        go_wp2_with (refine wpList_load_row rfl 29 _ rfl g6 rfl 29 (blk Y) (0, 0) _ (R6.out.get 0 rfl) Tryd.underlying29 rfl (by rw [HYS.out]; exact sizeB) ?_)
        refine (HGG.out _).mono ?_
        rintro e w7 ⟨rfl, hb⟩
        have q1 := (R6.out.call hb).alloc CC 26
        clear hb
        go_upto_region 17 with (first | refine wpList_alloc_row rfl 26 rfl _ zeroC ?_ | refine wpList_store_new rfl 26 _ _ rfl _ CC _ rfl rfl (by rw [HCZ.out.1]; exact sizeC) (by rw [HCZ.out.1]; rfl) HCZ.out.2 ?_)
        obtain ⟨W7, hW⟩ : ∃ W, W = w7.alloc (.cells CC 26) := ⟨_, rfl⟩
        rw [← hW] at q1 ⊢
        clear hW
        obtain ⟨g7, hg⟩ : ∃ g, g = w7.heap.size := ⟨_, rfl⟩
        rw [← hg] at q1 ⊢
        clear hg
        have R7 := Lib.hid q1
        clear q1
        have a1 := R7.out.cell 2 1 rfl HA1.out
        by_cases hy0 : y = 0
        · have HY0 : Hid (((y : Int) == 0) = true) := Lib.hid (by rw [hy0]; rfl)
          refine wk_plain_since ?_
          refine wk_index_arr _ _ _ _ _ (1) (2) .i64 (by kernel_rfl) rfl Tryd.underlying45 sizeU32 rfl rfl (by omega) ?_
          simp only [Act.put, List.setIfInBounds_toArray, List.set_cons_zero, List.set_cons_succ]
          refine wk_load1 _ _ _ _ _ rfl (by kernel_rfl) rfl rfl (fun w' hC => hC.cell a1) Tryd.underlying22 ?_
          simp only [Act.put, List.setIfInBounds_toArray, List.set_cons_zero, List.set_cons_succ]
          refine wk_eql_int true _ _ _ _ _ _ _ (by kernel_rfl) rfl rfl rfl (HY0.out) ?_
          simp only [Act.put, List.setIfInBounds_toArray, List.set_cons_zero, List.set_cons_succ]
          repeat (first
            | (refine wk_move _ (by first | exact wanted_none rfl | exact wanted_yes _ _ rfl rfl) rfl ?_; simp only [Act.put, Act.eval, Array.getD_eq_getD_getElem?, List.getElem?_toArray, List.getElem?_cons_succ, List.getElem?_cons_zero, Option.getD_some, List.setIfInBounds_toArray, List.set_cons_zero, List.set_cons_succ])
            | (refine wk_assign _ (by first | exact wanted_none rfl | exact wanted_yes _ _ rfl rfl) rfl ?_; simp only [Act.put, Act.eval, Array.getD_eq_getD_getElem?, List.getElem?_toArray, List.getElem?_cons_succ, List.getElem?_cons_zero, Option.getD_some, List.setIfInBounds_toArray, List.set_cons_zero, List.set_cons_succ])
            | (refine wk_pickt _ _ _ _ (by first | exact wanted_none rfl | exact wanted_yes _ _ rfl rfl) rfl rfl rfl ?_; simp only [Act.put, Act.eval, Array.getD_eq_getD_getElem?, List.getElem?_toArray, List.getElem?_cons_succ, List.getElem?_cons_zero, Option.getD_some, List.setIfInBounds_toArray, List.set_cons_zero, List.set_cons_succ])
            | (refine wk_pickf _ _ _ _ (by first | exact wanted_none rfl | exact wanted_yes _ _ rfl rfl) rfl rfl rfl ?_; simp only [Act.put, Act.eval, Array.getD_eq_getD_getElem?, List.getElem?_toArray, List.getElem?_cons_succ, List.getElem?_cons_zero, Option.getD_some, List.setIfInBounds_toArray, List.set_cons_zero, List.set_cons_succ])
            | (refine wk_skip (wanted_not _ true false rfl rfl rfl) ?_; simp only [Act.put, List.setIfInBounds_toArray, List.set_cons_zero, List.set_cons_succ])
            | (refine wk_skip (wanted_not _ false true rfl rfl rfl) ?_; simp only [Act.put, List.setIfInBounds_toArray, List.set_cons_zero, List.set_cons_succ])
            | (refine wk_skip (wanted_undef _ _ rfl rfl) ?_; simp only [Act.put, List.setIfInBounds_toArray, List.set_cons_zero, List.set_cons_succ])
            | (refine wk_not true _ _ (by first | exact wanted_none rfl | exact wanted_yes _ _ rfl rfl) rfl rfl ?_; simp only [Act.put, List.setIfInBounds_toArray, List.set_cons_zero, List.set_cons_succ])
            | (refine wk_not false _ _ (by first | exact wanted_none rfl | exact wanted_yes _ _ rfl rfl) rfl rfl ?_; simp only [Act.put, List.setIfInBounds_toArray, List.set_cons_zero, List.set_cons_succ]))
          refine wk_call 10 _ _ _ _ _ (by kernel_rfl) rfl Tryd.func10 rfl (by kernel_rfl) (fun w' hC => hC.call (cardhead_any w')) ?_
          simp only [Act.put, List.setIfInBounds_toArray, List.set_cons_zero, List.set_cons_succ]
          repeat (first
            | (refine wk_move _ (by first | exact wanted_none rfl | exact wanted_yes _ _ rfl rfl) rfl ?_; simp only [Act.put, Act.eval, Array.getD_eq_getD_getElem?, List.getElem?_toArray, List.getElem?_cons_succ, List.getElem?_cons_zero, Option.getD_some, List.setIfInBounds_toArray, List.set_cons_zero, List.set_cons_succ])
            | (refine wk_assign _ (by first | exact wanted_none rfl | exact wanted_yes _ _ rfl rfl) rfl ?_; simp only [Act.put, Act.eval, Array.getD_eq_getD_getElem?, List.getElem?_toArray, List.getElem?_cons_succ, List.getElem?_cons_zero, Option.getD_some, List.setIfInBounds_toArray, List.set_cons_zero, List.set_cons_succ])
            | (refine wk_pickt _ _ _ _ (by first | exact wanted_none rfl | exact wanted_yes _ _ rfl rfl) rfl rfl rfl ?_; simp only [Act.put, Act.eval, Array.getD_eq_getD_getElem?, List.getElem?_toArray, List.getElem?_cons_succ, List.getElem?_cons_zero, Option.getD_some, List.setIfInBounds_toArray, List.set_cons_zero, List.set_cons_succ])
            | (refine wk_pickf _ _ _ _ (by first | exact wanted_none rfl | exact wanted_yes _ _ rfl rfl) rfl rfl rfl ?_; simp only [Act.put, Act.eval, Array.getD_eq_getD_getElem?, List.getElem?_toArray, List.getElem?_cons_succ, List.getElem?_cons_zero, Option.getD_some, List.setIfInBounds_toArray, List.set_cons_zero, List.set_cons_succ])
            | (refine wk_skip (wanted_not _ true false rfl rfl rfl) ?_; simp only [Act.put, List.setIfInBounds_toArray, List.set_cons_zero, List.set_cons_succ])
            | (refine wk_skip (wanted_not _ false true rfl rfl rfl) ?_; simp only [Act.put, List.setIfInBounds_toArray, List.set_cons_zero, List.set_cons_succ])
            | (refine wk_skip (wanted_undef _ _ rfl rfl) ?_; simp only [Act.put, List.setIfInBounds_toArray, List.set_cons_zero, List.set_cons_succ])
            | (refine wk_not true _ _ (by first | exact wanted_none rfl | exact wanted_yes _ _ rfl rfl) rfl rfl ?_; simp only [Act.put, List.setIfInBounds_toArray, List.set_cons_zero, List.set_cons_succ])
            | (refine wk_not false _ _ (by first | exact wanted_none rfl | exact wanted_yes _ _ rfl rfl) rfl rfl ?_; simp only [Act.put, List.setIfInBounds_toArray, List.set_cons_zero, List.set_cons_succ]))
          refine wk_nil ?_
          intro w' hC
          have hfin : Below w.heap.size w w' := (R7.out.since hC).below
          clear hC
          go_wp2_with fail
          go_ret
          exact ⟨rfl, hfin⟩
        · have HY0 : Hid (((y : Int) == 0) = false) := Lib.hid (by simp; omega)
          obtain rfl : EE = 250 := HER.out hy0
          refine wk_plain_since ?_
          refine wk_index_arr _ _ _ _ _ (1) (2) .i64 (by kernel_rfl) rfl Tryd.underlying45 sizeU32 rfl rfl (by omega) ?_
          simp only [Act.put, List.setIfInBounds_toArray, List.set_cons_zero, List.set_cons_succ]
          refine wk_load1 _ _ _ _ _ rfl (by kernel_rfl) rfl rfl (fun w' hC => hC.cell a1) Tryd.underlying22 ?_
          simp only [Act.put, List.setIfInBounds_toArray, List.set_cons_zero, List.set_cons_succ]
          refine wk_eql_int false _ _ _ _ _ _ _ (by kernel_rfl) rfl rfl rfl (HY0.out) ?_
          simp only [Act.put, List.setIfInBounds_toArray, List.set_cons_zero, List.set_cons_succ]
          repeat (first
            | (refine wk_move _ (by first | exact wanted_none rfl | exact wanted_yes _ _ rfl rfl) rfl ?_; simp only [Act.put, Act.eval, Array.getD_eq_getD_getElem?, List.getElem?_toArray, List.getElem?_cons_succ, List.getElem?_cons_zero, Option.getD_some, List.setIfInBounds_toArray, List.set_cons_zero, List.set_cons_succ])
            | (refine wk_assign _ (by first | exact wanted_none rfl | exact wanted_yes _ _ rfl rfl) rfl ?_; simp only [Act.put, Act.eval, Array.getD_eq_getD_getElem?, List.getElem?_toArray, List.getElem?_cons_succ, List.getElem?_cons_zero, Option.getD_some, List.setIfInBounds_toArray, List.set_cons_zero, List.set_cons_succ])
            | (refine wk_pickt _ _ _ _ (by first | exact wanted_none rfl | exact wanted_yes _ _ rfl rfl) rfl rfl rfl ?_; simp only [Act.put, Act.eval, Array.getD_eq_getD_getElem?, List.getElem?_toArray, List.getElem?_cons_succ, List.getElem?_cons_zero, Option.getD_some, List.setIfInBounds_toArray, List.set_cons_zero, List.set_cons_succ])
            | (refine wk_pickf _ _ _ _ (by first | exact wanted_none rfl | exact wanted_yes _ _ rfl rfl) rfl rfl rfl ?_; simp only [Act.put, Act.eval, Array.getD_eq_getD_getElem?, List.getElem?_toArray, List.getElem?_cons_succ, List.getElem?_cons_zero, Option.getD_some, List.setIfInBounds_toArray, List.set_cons_zero, List.set_cons_succ])
            | (refine wk_skip (wanted_not _ true false rfl rfl rfl) ?_; simp only [Act.put, List.setIfInBounds_toArray, List.set_cons_zero, List.set_cons_succ])
            | (refine wk_skip (wanted_not _ false true rfl rfl rfl) ?_; simp only [Act.put, List.setIfInBounds_toArray, List.set_cons_zero, List.set_cons_succ])
            | (refine wk_skip (wanted_undef _ _ rfl rfl) ?_; simp only [Act.put, List.setIfInBounds_toArray, List.set_cons_zero, List.set_cons_succ])
            | (refine wk_not true _ _ (by first | exact wanted_none rfl | exact wanted_yes _ _ rfl rfl) rfl rfl ?_; simp only [Act.put, List.setIfInBounds_toArray, List.set_cons_zero, List.set_cons_succ])
            | (refine wk_not false _ _ (by first | exact wanted_none rfl | exact wanted_yes _ _ rfl rfl) rfl rfl ?_; simp only [Act.put, List.setIfInBounds_toArray, List.set_cons_zero, List.set_cons_succ]))
          refine wk_eql_int true _ _ _ _ _ _ _ (by kernel_rfl) rfl rfl rfl (by decide) ?_
          simp only [Act.put, List.setIfInBounds_toArray, List.set_cons_zero, List.set_cons_succ]
          repeat (first
            | (refine wk_move _ (by first | exact wanted_none rfl | exact wanted_yes _ _ rfl rfl) rfl ?_; simp only [Act.put, Act.eval, Array.getD_eq_getD_getElem?, List.getElem?_toArray, List.getElem?_cons_succ, List.getElem?_cons_zero, Option.getD_some, List.setIfInBounds_toArray, List.set_cons_zero, List.set_cons_succ])
            | (refine wk_assign _ (by first | exact wanted_none rfl | exact wanted_yes _ _ rfl rfl) rfl ?_; simp only [Act.put, Act.eval, Array.getD_eq_getD_getElem?, List.getElem?_toArray, List.getElem?_cons_succ, List.getElem?_cons_zero, Option.getD_some, List.setIfInBounds_toArray, List.set_cons_zero, List.set_cons_succ])
            | (refine wk_pickt _ _ _ _ (by first | exact wanted_none rfl | exact wanted_yes _ _ rfl rfl) rfl rfl rfl ?_; simp only [Act.put, Act.eval, Array.getD_eq_getD_getElem?, List.getElem?_toArray, List.getElem?_cons_succ, List.getElem?_cons_zero, Option.getD_some, List.setIfInBounds_toArray, List.set_cons_zero, List.set_cons_succ])
            | (refine wk_pickf _ _ _ _ (by first | exact wanted_none rfl | exact wanted_yes _ _ rfl rfl) rfl rfl rfl ?_; simp only [Act.put, Act.eval, Array.getD_eq_getD_getElem?, List.getElem?_toArray, List.getElem?_cons_succ, List.getElem?_cons_zero, Option.getD_some, List.setIfInBounds_toArray, List.set_cons_zero, List.set_cons_succ])
            | (refine wk_skip (wanted_not _ true false rfl rfl rfl) ?_; simp only [Act.put, List.setIfInBounds_toArray, List.set_cons_zero, List.set_cons_succ])
            | (refine wk_skip (wanted_not _ false true rfl rfl rfl) ?_; simp only [Act.put, List.setIfInBounds_toArray, List.set_cons_zero, List.set_cons_succ])
            | (refine wk_skip (wanted_undef _ _ rfl rfl) ?_; simp only [Act.put, List.setIfInBounds_toArray, List.set_cons_zero, List.set_cons_succ])
            | (refine wk_not true _ _ (by first | exact wanted_none rfl | exact wanted_yes _ _ rfl rfl) rfl rfl ?_; simp only [Act.put, List.setIfInBounds_toArray, List.set_cons_zero, List.set_cons_succ])
            | (refine wk_not false _ _ (by first | exact wanted_none rfl | exact wanted_yes _ _ rfl rfl) rfl rfl ?_; simp only [Act.put, List.setIfInBounds_toArray, List.set_cons_zero, List.set_cons_succ]))
          refine wk_call 10 _ _ _ _ _ (by kernel_rfl) rfl Tryd.func10 rfl (by kernel_rfl) (fun w' hC => hC.call (cardhead_any w')) ?_
          simp only [Act.put, List.setIfInBounds_toArray, List.set_cons_zero, List.set_cons_succ]
          repeat (first
            | (refine wk_move _ (by first | exact wanted_none rfl | exact wanted_yes _ _ rfl rfl) rfl ?_; simp only [Act.put, Act.eval, Array.getD_eq_getD_getElem?, List.getElem?_toArray, List.getElem?_cons_succ, List.getElem?_cons_zero, Option.getD_some, List.setIfInBounds_toArray, List.set_cons_zero, List.set_cons_succ])
            | (refine wk_assign _ (by first | exact wanted_none rfl | exact wanted_yes _ _ rfl rfl) rfl ?_; simp only [Act.put, Act.eval, Array.getD_eq_getD_getElem?, List.getElem?_toArray, List.getElem?_cons_succ, List.getElem?_cons_zero, Option.getD_some, List.setIfInBounds_toArray, List.set_cons_zero, List.set_cons_succ])
            | (refine wk_pickt _ _ _ _ (by first | exact wanted_none rfl | exact wanted_yes _ _ rfl rfl) rfl rfl rfl ?_; simp only [Act.put, Act.eval, Array.getD_eq_getD_getElem?, List.getElem?_toArray, List.getElem?_cons_succ, List.getElem?_cons_zero, Option.getD_some, List.setIfInBounds_toArray, List.set_cons_zero, List.set_cons_succ])
            | (refine wk_pickf _ _ _ _ (by first | exact wanted_none rfl | exact wanted_yes _ _ rfl rfl) rfl rfl rfl ?_; simp only [Act.put, Act.eval, Array.getD_eq_getD_getElem?, List.getElem?_toArray, List.getElem?_cons_succ, List.getElem?_cons_zero, Option.getD_some, List.setIfInBounds_toArray, List.set_cons_zero, List.set_cons_succ])
            | (refine wk_skip (wanted_not _ true false rfl rfl rfl) ?_; simp only [Act.put, List.setIfInBounds_toArray, List.set_cons_zero, List.set_cons_succ])
            | (refine wk_skip (wanted_not _ false true rfl rfl rfl) ?_; simp only [Act.put, List.setIfInBounds_toArray, List.set_cons_zero, List.set_cons_succ])
            | (refine wk_skip (wanted_undef _ _ rfl rfl) ?_; simp only [Act.put, List.setIfInBounds_toArray, List.set_cons_zero, List.set_cons_succ])
            | (refine wk_not true _ _ (by first | exact wanted_none rfl | exact wanted_yes _ _ rfl rfl) rfl rfl ?_; simp only [Act.put, List.setIfInBounds_toArray, List.set_cons_zero, List.set_cons_succ])
            | (refine wk_not false _ _ (by first | exact wanted_none rfl | exact wanted_yes _ _ rfl rfl) rfl rfl ?_; simp only [Act.put, List.setIfInBounds_toArray, List.set_cons_zero, List.set_cons_succ]))
          refine wk_nil ?_
          intro w' hC
          have hfin : Below w.heap.size w w' := (R7.out.since hC).below
          clear hC
          go_wp2_with fail
          go_ret
          exact ⟨rfl, hfin⟩
  · obtain rfl : E2 = 0 := HE2.out
    have HSM := Lib.hid (HSAME.out rfl rfl)
    rw [HSM.out] at HEB
    refine wk_eql_int true _ _ _ _ _ _ _ (by kernel_rfl) rfl rfl rfl (by decide) ?_
    simp only [Act.put, List.setIfInBounds_toArray, List.set_cons_zero, List.set_cons_succ]
    repeat (first
      | (refine wk_move _ (by first | exact wanted_none rfl | exact wanted_yes _ _ rfl rfl) rfl ?_; simp only [Act.put, Act.eval, Array.getD_eq_getD_getElem?, List.getElem?_toArray, List.getElem?_cons_succ, List.getElem?_cons_zero, Option.getD_some, List.setIfInBounds_toArray, List.set_cons_zero, List.set_cons_succ])
      | (refine wk_assign _ (by first | exact wanted_none rfl | exact wanted_yes _ _ rfl rfl) rfl ?_; simp only [Act.put, Act.eval, Array.getD_eq_getD_getElem?, List.getElem?_toArray, List.getElem?_cons_succ, List.getElem?_cons_zero, Option.getD_some, List.setIfInBounds_toArray, List.set_cons_zero, List.set_cons_succ])
      | (refine wk_pickt _ _ _ _ (by first | exact wanted_none rfl | exact wanted_yes _ _ rfl rfl) rfl rfl rfl ?_; simp only [Act.put, Act.eval, Array.getD_eq_getD_getElem?, List.getElem?_toArray, List.getElem?_cons_succ, List.getElem?_cons_zero, Option.getD_some, List.setIfInBounds_toArray, List.set_cons_zero, List.set_cons_succ])
      | (refine wk_pickf _ _ _ _ (by first | exact wanted_none rfl | exact wanted_yes _ _ rfl rfl) rfl rfl rfl ?_; simp only [Act.put, Act.eval, Array.getD_eq_getD_getElem?, List.getElem?_toArray, List.getElem?_cons_succ, List.getElem?_cons_zero, Option.getD_some, List.setIfInBounds_toArray, List.set_cons_zero, List.set_cons_succ])
      | (refine wk_skip (wanted_not _ true false rfl rfl rfl) ?_; simp only [Act.put, List.setIfInBounds_toArray, List.set_cons_zero, List.set_cons_succ])
      | (refine wk_skip (wanted_not _ false true rfl rfl rfl) ?_; simp only [Act.put, List.setIfInBounds_toArray, List.set_cons_zero, List.set_cons_succ])
      | (refine wk_skip (wanted_undef _ _ rfl rfl) ?_; simp only [Act.put, List.setIfInBounds_toArray, List.set_cons_zero, List.set_cons_succ])
      | (refine wk_not true _ _ (by first | exact wanted_none rfl | exact wanted_yes _ _ rfl rfl) rfl rfl ?_; simp only [Act.put, List.setIfInBounds_toArray, List.set_cons_zero, List.set_cons_succ])
      | (refine wk_not false _ _ (by first | exact wanted_none rfl | exact wanted_yes _ _ rfl rfl) rfl rfl ?_; simp only [Act.put, List.setIfInBounds_toArray, List.set_cons_zero, List.set_cons_succ]))
    refine wk_load_row 29 _ g4 29 (blk D1) (0, 0) _ (by kernel_rfl) rfl rfl (fun w' hC => hC.row (R3.out.get 1 rfl)) Tryd.underlying29 rfl (by rw [HDS1.out]; exact sizeB) ?_
    simp only [Act.put, List.setIfInBounds_toArray, List.set_cons_zero, List.set_cons_succ]
    refine wk_load_row 29 _ g5 29 (blk D2) (0, 0) _ (by kernel_rfl) rfl rfl (fun w' hC => hC.row (R3.out.get 0 rfl)) Tryd.underlying29 rfl (by rw [HDS2.out]; exact sizeB) ?_
    simp only [Act.put, List.setIfInBounds_toArray, List.set_cons_zero, List.set_cons_succ]
    refine wk_eql .eql (sm) 29 29 _ _ (by first | exact wanted_none rfl | exact wanted_yes _ _ rfl rfl) rfl _ _ rfl rfl (by kernel_rfl) (fun w => HEB.out w) ?_
    simp only [Act.put, List.setIfInBounds_toArray, List.set_cons_zero, List.set_cons_succ]
    refine wk_load_row 26 _ g1 26 C1 (0, 0) _ (by kernel_rfl) rfl rfl (fun w' hC => hC.row (R3.out.get 4 rfl)) Tryd.underlying26 rfl (by rw [HCS1.out]; exact sizeC) ?_
    simp only [Act.put, List.setIfInBounds_toArray, List.set_cons_zero, List.set_cons_succ]
    refine wk_load_row 26 _ g2 26 C2 (0, 0) _ (by kernel_rfl) rfl rfl (fun w' hC => hC.row (R3.out.get 3 rfl)) Tryd.underlying26 rfl (by rw [HCS2.out]; exact sizeC) ?_
    simp only [Act.put, List.setIfInBounds_toArray, List.set_cons_zero, List.set_cons_succ]
    refine wk_eql .eql (sm) 26 26 _ _ (by first | exact wanted_none rfl | exact wanted_yes _ _ rfl rfl) rfl _ _ rfl rfl (by kernel_rfl) (fun w => HEN.out w) ?_
    simp only [Act.put, List.setIfInBounds_toArray, List.set_cons_zero, List.set_cons_succ]
    refine wk_neq_bool false _ _ _ _ _ _ (by kernel_rfl) rfl Tryd.underlying4 rfl rfl (by cases sm <;> rfl) ?_
    simp only [Act.put, List.setIfInBounds_toArray, List.set_cons_zero, List.set_cons_succ]
    repeat (first
      | (refine wk_move _ (by first | exact wanted_none rfl | exact wanted_yes _ _ rfl rfl) rfl ?_; simp only [Act.put, Act.eval, Array.getD_eq_getD_getElem?, List.getElem?_toArray, List.getElem?_cons_succ, List.getElem?_cons_zero, Option.getD_some, List.setIfInBounds_toArray, List.set_cons_zero, List.set_cons_succ])
      | (refine wk_assign _ (by first | exact wanted_none rfl | exact wanted_yes _ _ rfl rfl) rfl ?_; simp only [Act.put, Act.eval, Array.getD_eq_getD_getElem?, List.getElem?_toArray, List.getElem?_cons_succ, List.getElem?_cons_zero, Option.getD_some, List.setIfInBounds_toArray, List.set_cons_zero, List.set_cons_succ])
      | (refine wk_pickt _ _ _ _ (by first | exact wanted_none rfl | exact wanted_yes _ _ rfl rfl) rfl rfl rfl ?_; simp only [Act.put, Act.eval, Array.getD_eq_getD_getElem?, List.getElem?_toArray, List.getElem?_cons_succ, List.getElem?_cons_zero, Option.getD_some, List.setIfInBounds_toArray, List.set_cons_zero, List.set_cons_succ])
      | (refine wk_pickf _ _ _ _ (by first | exact wanted_none rfl | exact wanted_yes _ _ rfl rfl) rfl rfl rfl ?_; simp only [Act.put, Act.eval, Array.getD_eq_getD_getElem?, List.getElem?_toArray, List.getElem?_cons_succ, List.getElem?_cons_zero, Option.getD_some, List.setIfInBounds_toArray, List.set_cons_zero, List.set_cons_succ])
      | (refine wk_skip (wanted_not _ true false rfl rfl rfl) ?_; simp only [Act.put, List.setIfInBounds_toArray, List.set_cons_zero, List.set_cons_succ])
      | (refine wk_skip (wanted_not _ false true rfl rfl rfl) ?_; simp only [Act.put, List.setIfInBounds_toArray, List.set_cons_zero, List.set_cons_succ])
      | (refine wk_skip (wanted_undef _ _ rfl rfl) ?_; simp only [Act.put, List.setIfInBounds_toArray, List.set_cons_zero, List.set_cons_succ])
      | (refine wk_not true _ _ (by first | exact wanted_none rfl | exact wanted_yes _ _ rfl rfl) rfl rfl ?_; simp only [Act.put, List.setIfInBounds_toArray, List.set_cons_zero, List.set_cons_succ])
      | (refine wk_not false _ _ (by first | exact wanted_none rfl | exact wanted_yes _ _ rfl rfl) rfl rfl ?_; simp only [Act.put, List.setIfInBounds_toArray, List.set_cons_zero, List.set_cons_succ]))
    refine wk_nil ?_
    intro w' hC
    have R4 := Lib.hid (R3.out.since hC)
    clear hC R3 HSAME HEB HEN HSM
    have q1 := R4.out.alloc (blk D1) 29
    go_upto_region 10 with (first | refine wpList_load_row rfl 29 _ rfl g4 rfl 29 (blk D1) (0, 0) _ (R4.out.get 1 rfl) Tryd.underlying29 rfl (by rw [HDS1.out]; exact sizeB) ?_ | refine wpList_alloc_row rfl 29 rfl _ zeroB ?_ | refine wpList_store_new rfl 29 _ _ rfl _ (blk D1) _ rfl rfl (by rw [HDS1.out]; exact sizeB) (by rw [HDS1.out, size_zeros]) (blk_one _) ?_)
    obtain ⟨W5, hW⟩ : ∃ W, W = w'.alloc (.cells (blk D1) 29) := ⟨_, rfl⟩
    rw [← hW] at q1 ⊢
    clear hW
    obtain ⟨g6, hg⟩ : ∃ g, g = w'.heap.size := ⟨_, rfl⟩
    rw [← hg] at q1 ⊢
    clear hg
    have R5 := Lib.hid q1
    clear q1
    have a0 := R5.out.cell 3 0 rfl HA0.out
    go_upto_region 11 with (fail)
    clear a0
    have hp : x % 2017 < 2017 := Nat.mod_lt _ (by omega)
    rw [show ((x : Int) % 2017) = ((x % 2017 : Nat) : Int) from by omega]
    generalize x % 2017 = p at hp ⊢
    have R5b : Hid (Rows w W5 [(g6, blk (burst D1 p y 0), 29), (g3, A, 45)]) := Lib.hid ⟨R5.out.below, fun q hq => R5.out.row q (by revert hq; simp [burst]; rintro (h | h) <;> simp [h]), (R5.out.dist.sublist (by simp [burst]))⟩
    clear R5 R4
    go_wp2_with fail
    go_loopw [13] (fun i wr => ∃ k : Nat, k ≤ 32 ∧ i = .int .i64 (k : Int) ∧ Rows w wr [(g6, blk (burst D1 p y k), 29), (g3, A, 45)]) (fun i _ => 32 - (intOf i).toNat)
    case atStart => exact ⟨0, by omega, rfl, R5b.out⟩
    case round =>
      obtain ⟨k, hk, rfl, hR⟩ := hrel
      have R6 := Lib.hid hR
      clear hR R5b
      have a1 := R6.out.cell 1 1 rfl HA1.out
      by_cases hlt : k < 32
      · have hbit := bit_is y k
        have hq : (p + k) / 8 < (burst D1 p y k).length := by rw [length_burst, HDL1.out]; omega
        obtain ⟨c0, hcell, hcd⟩ := blk_getD (burst D1 p y k) ((p + k) / 8) hq
        have c6 := R6.out.cell 0 ((p + k) / 8) rfl hcell
        have f6 := R6.out.free 0 ((p + k) / 8) rfl
        have HCD := Lib.hid hcd
        clear hq hcd
        have HS := Lib.hid (show burst D1 p y (k + 1) = if y.testBit k then flipAt (burst D1 p y k) (p + k) else burst D1 p y k from rfl)
        have hq2 : (p + k) / 8 < 256 := by omega
        cases hb : y.testBit k with
        | true =>
          rw [hb] at hbit HS
          clear hb hcell
          go_wp2_with fail
          go_roundw
          case rel =>
            refine ⟨k + 1, by omega, by go_num, ?_⟩
            have := R6.out.setCell 0 ((p + k) / 8) (.int .u8 (bits .xor .u8 (c0.toNat : Int) ((128 : Int) / 2 ^ ((p + k) % 8)))) rfl
            rw [flip_cells _ _ _ HCD.out] at this
            rw [HS.out]
            exact this
          case measure => simp [intOf]; omega
        | false =>
          rw [hb] at hbit HS
          clear hb hcell c6 f6
          go_wp2_with fail
          go_roundw
          case rel => exact ⟨k + 1, by omega, by go_num, by rw [HS.out]; exact R6.out⟩
          case measure => simp [intOf]; omega
      · obtain rfl : k = 32 := by omega
        have hlb : (burst D1 p y 32).length = 256 := by rw [length_burst, HDL1.out]
        have HYS : Hid ((blk (burst D1 p y 32)).size = 256) := Lib.hid (by rw [size_blk, hlb])
        have HGG := Lib.hid (cget_any _ hlb)
        have HER := Lib.hid (HGT.out p (by omega))
        have HCZ : Hid ((cgetC (burst D1 p y 32)).size = 9 ∧ (cgetC (burst D1 p y 32)).all (·.oneCell') = true) := Lib.hid (by rw [cgetC_card]; exact ⟨rfl, cells_one _⟩)
        obtain ⟨CC, hCC⟩ : ∃ CC, CC = cgetC (burst D1 p y 32) := ⟨_, rfl⟩
        obtain ⟨EE, hEE⟩ : ∃ EE, EE = cgetE (burst D1 p y 32) := ⟨_, rfl⟩
        rw [← hCC, ← hEE] at HGG
        rw [← hCC] at HCZ
        rw [← hEE] at HER
        generalize burst D1 p y 32 = Y at R6 HGG HYS
        clear hlb hCC hEE a1 hk hlt
        go_wp2_with (refine wpList_load_row rfl 29 _ rfl g6 rfl 29 (blk Y) (0, 0) _ (R6.out.get 0 rfl) Tryd.underlying29 rfl (by rw [HYS.out]; exact sizeB) ?_)
        refine (HGG.out _).mono ?_
        rintro e w7 ⟨rfl, hb⟩
        have q1 := (R6.out.call hb).alloc CC 26
        clear hb
        go_upto_region 17 with (first | refine wpList_alloc_row rfl 26 rfl _ zeroC ?_ | refine wpList_store_new rfl 26 _ _ rfl _ CC _ rfl rfl (by rw [HCZ.out.1]; exact sizeC) (by rw [HCZ.out.1]; rfl) HCZ.out.2 ?_)
        obtain ⟨W7, hW⟩ : ∃ W, W = w7.alloc (.cells CC 26) := ⟨_, rfl⟩
        rw [← hW] at q1 ⊢
        clear hW
        obtain ⟨g7, hg⟩ : ∃ g, g = w7.heap.size := ⟨_, rfl⟩
        rw [← hg] at q1 ⊢
        clear hg
        have R7 := Lib.hid q1
        clear q1
        have a1 := R7.out.cell 2 1 rfl HA1.out
        by_cases hy0 : y = 0
        · have HY0 : Hid (((y : Int) == 0) = true) := Lib.hid (by rw [hy0]; rfl)
          refine wk_plain_since ?_
          refine wk_index_arr _ _ _ _ _ (1) (2) .i64 (by kernel_rfl) rfl Tryd.underlying45 sizeU32 rfl rfl (by omega) ?_
          simp only [Act.put, List.setIfInBounds_toArray, List.set_cons_zero, List.set_cons_succ]
          refine wk_load1 _ _ _ _ _ rfl (by kernel_rfl) rfl rfl (fun w' hC => hC.cell a1) Tryd.underlying22 ?_
          simp only [Act.put, List.setIfInBounds_toArray, List.set_cons_zero, List.set_cons_succ]
          refine wk_eql_int true _ _ _ _ _ _ _ (by kernel_rfl) rfl rfl rfl (HY0.out) ?_
          simp only [Act.put, List.setIfInBounds_toArray, List.set_cons_zero, List.set_cons_succ]
          repeat (first
            | (refine wk_move _ (by first | exact wanted_none rfl | exact wanted_yes _ _ rfl rfl) rfl ?_; simp only [Act.put, Act.eval, Array.getD_eq_getD_getElem?, List.getElem?_toArray, List.getElem?_cons_succ, List.getElem?_cons_zero, Option.getD_some, List.setIfInBounds_toArray, List.set_cons_zero, List.set_cons_succ])
            | (refine wk_assign _ (by first | exact wanted_none rfl | exact wanted_yes _ _ rfl rfl) rfl ?_; simp only [Act.put, Act.eval, Array.getD_eq_getD_getElem?, List.getElem?_toArray, List.getElem?_cons_succ, List.getElem?_cons_zero, Option.getD_some, List.setIfInBounds_toArray, List.set_cons_zero, List.set_cons_succ])
            | (refine wk_pickt _ _ _ _ (by first | exact wanted_none rfl | exact wanted_yes _ _ rfl rfl) rfl rfl rfl ?_; simp only [Act.put, Act.eval, Array.getD_eq_getD_getElem?, List.getElem?_toArray, List.getElem?_cons_succ, List.getElem?_cons_zero, Option.getD_some, List.setIfInBounds_toArray, List.set_cons_zero, List.set_cons_succ])
            | (refine wk_pickf _ _ _ _ (by first | exact wanted_none rfl | exact wanted_yes _ _ rfl rfl) rfl rfl rfl ?_; simp only [Act.put, Act.eval, Array.getD_eq_getD_getElem?, List.getElem?_toArray, List.getElem?_cons_succ, List.getElem?_cons_zero, Option.getD_some, List.setIfInBounds_toArray, List.set_cons_zero, List.set_cons_succ])
            | (refine wk_skip (wanted_not _ true false rfl rfl rfl) ?_; simp only [Act.put, List.setIfInBounds_toArray, List.set_cons_zero, List.set_cons_succ])
            | (refine wk_skip (wanted_not _ false true rfl rfl rfl) ?_; simp only [Act.put, List.setIfInBounds_toArray, List.set_cons_zero, List.set_cons_succ])
            | (refine wk_skip (wanted_undef _ _ rfl rfl) ?_; simp only [Act.put, List.setIfInBounds_toArray, List.set_cons_zero, List.set_cons_succ])
            | (refine wk_not true _ _ (by first | exact wanted_none rfl | exact wanted_yes _ _ rfl rfl) rfl rfl ?_; simp only [Act.put, List.setIfInBounds_toArray, List.set_cons_zero, List.set_cons_succ])
            | (refine wk_not false _ _ (by first | exact wanted_none rfl | exact wanted_yes _ _ rfl rfl) rfl rfl ?_; simp only [Act.put, List.setIfInBounds_toArray, List.set_cons_zero, List.set_cons_succ]))
          refine wk_call 10 _ _ _ _ _ (by kernel_rfl) rfl Tryd.func10 rfl (by kernel_rfl) (fun w' hC => hC.call (cardhead_any w')) ?_
          simp only [Act.put, List.setIfInBounds_toArray, List.set_cons_zero, List.set_cons_succ]
          repeat (first
            | (refine wk_move _ (by first | exact wanted_none rfl | exact wanted_yes _ _ rfl rfl) rfl ?_; simp only [Act.put, Act.eval, Array.getD_eq_getD_getElem?, List.getElem?_toArray, List.getElem?_cons_succ, List.getElem?_cons_zero, Option.getD_some, List.setIfInBounds_toArray, List.set_cons_zero, List.set_cons_succ])
            | (refine wk_assign _ (by first | exact wanted_none rfl | exact wanted_yes _ _ rfl rfl) rfl ?_; simp only [Act.put, Act.eval, Array.getD_eq_getD_getElem?, List.getElem?_toArray, List.getElem?_cons_succ, List.getElem?_cons_zero, Option.getD_some, List.setIfInBounds_toArray, List.set_cons_zero, List.set_cons_succ])
            | (refine wk_pickt _ _ _ _ (by first | exact wanted_none rfl | exact wanted_yes _ _ rfl rfl) rfl rfl rfl ?_; simp only [Act.put, Act.eval, Array.getD_eq_getD_getElem?, List.getElem?_toArray, List.getElem?_cons_succ, List.getElem?_cons_zero, Option.getD_some, List.setIfInBounds_toArray, List.set_cons_zero, List.set_cons_succ])
            | (refine wk_pickf _ _ _ _ (by first | exact wanted_none rfl | exact wanted_yes _ _ rfl rfl) rfl rfl rfl ?_; simp only [Act.put, Act.eval, Array.getD_eq_getD_getElem?, List.getElem?_toArray, List.getElem?_cons_succ, List.getElem?_cons_zero, Option.getD_some, List.setIfInBounds_toArray, List.set_cons_zero, List.set_cons_succ])
            | (refine wk_skip (wanted_not _ true false rfl rfl rfl) ?_; simp only [Act.put, List.setIfInBounds_toArray, List.set_cons_zero, List.set_cons_succ])
            | (refine wk_skip (wanted_not _ false true rfl rfl rfl) ?_; simp only [Act.put, List.setIfInBounds_toArray, List.set_cons_zero, List.set_cons_succ])
            | (refine wk_skip (wanted_undef _ _ rfl rfl) ?_; simp only [Act.put, List.setIfInBounds_toArray, List.set_cons_zero, List.set_cons_succ])
            | (refine wk_not true _ _ (by first | exact wanted_none rfl | exact wanted_yes _ _ rfl rfl) rfl rfl ?_; simp only [Act.put, List.setIfInBounds_toArray, List.set_cons_zero, List.set_cons_succ])
            | (refine wk_not false _ _ (by first | exact wanted_none rfl | exact wanted_yes _ _ rfl rfl) rfl rfl ?_; simp only [Act.put, List.setIfInBounds_toArray, List.set_cons_zero, List.set_cons_succ]))
          refine wk_nil ?_
          intro w' hC
          have hfin : Below w.heap.size w w' := (R7.out.since hC).below
          clear hC
          go_wp2_with fail
          go_ret
          exact ⟨rfl, hfin⟩
        · have HY0 : Hid (((y : Int) == 0) = false) := Lib.hid (by simp; omega)
          obtain rfl : EE = 250 := HER.out hy0
          refine wk_plain_since ?_
          refine wk_index_arr _ _ _ _ _ (1) (2) .i64 (by kernel_rfl) rfl Tryd.underlying45 sizeU32 rfl rfl (by omega) ?_
          simp only [Act.put, List.setIfInBounds_toArray, List.set_cons_zero, List.set_cons_succ]
          refine wk_load1 _ _ _ _ _ rfl (by kernel_rfl) rfl rfl (fun w' hC => hC.cell a1) Tryd.underlying22 ?_
          simp only [Act.put, List.setIfInBounds_toArray, List.set_cons_zero, List.set_cons_succ]
          refine wk_eql_int false _ _ _ _ _ _ _ (by kernel_rfl) rfl rfl rfl (HY0.out) ?_
          simp only [Act.put, List.setIfInBounds_toArray, List.set_cons_zero, List.set_cons_succ]
          repeat (first
            | (refine wk_move _ (by first | exact wanted_none rfl | exact wanted_yes _ _ rfl rfl) rfl ?_; simp only [Act.put, Act.eval, Array.getD_eq_getD_getElem?, List.getElem?_toArray, List.getElem?_cons_succ, List.getElem?_cons_zero, Option.getD_some, List.setIfInBounds_toArray, List.set_cons_zero, List.set_cons_succ])
            | (refine wk_assign _ (by first | exact wanted_none rfl | exact wanted_yes _ _ rfl rfl) rfl ?_; simp only [Act.put, Act.eval, Array.getD_eq_getD_getElem?, List.getElem?_toArray, List.getElem?_cons_succ, List.getElem?_cons_zero, Option.getD_some, List.setIfInBounds_toArray, List.set_cons_zero, List.set_cons_succ])
            | (refine wk_pickt _ _ _ _ (by first | exact wanted_none rfl | exact wanted_yes _ _ rfl rfl) rfl rfl rfl ?_; simp only [Act.put, Act.eval, Array.getD_eq_getD_getElem?, List.getElem?_toArray, List.getElem?_cons_succ, List.getElem?_cons_zero, Option.getD_some, List.setIfInBounds_toArray, List.set_cons_zero, List.set_cons_succ])
            | (refine wk_pickf _ _ _ _ (by first | exact wanted_none rfl | exact wanted_yes _ _ rfl rfl) rfl rfl rfl ?_; simp only [Act.put, Act.eval, Array.getD_eq_getD_getElem?, List.getElem?_toArray, List.getElem?_cons_succ, List.getElem?_cons_zero, Option.getD_some, List.setIfInBounds_toArray, List.set_cons_zero, List.set_cons_succ])
            | (refine wk_skip (wanted_not _ true false rfl rfl rfl) ?_; simp only [Act.put, List.setIfInBounds_toArray, List.set_cons_zero, List.set_cons_succ])
            | (refine wk_skip (wanted_not _ false true rfl rfl rfl) ?_; simp only [Act.put, List.setIfInBounds_toArray, List.set_cons_zero, List.set_cons_succ])
            | (refine wk_skip (wanted_undef _ _ rfl rfl) ?_; simp only [Act.put, List.setIfInBounds_toArray, List.set_cons_zero, List.set_cons_succ])
            | (refine wk_not true _ _ (by first | exact wanted_none rfl | exact wanted_yes _ _ rfl rfl) rfl rfl ?_; simp only [Act.put, List.setIfInBounds_toArray, List.set_cons_zero, List.set_cons_succ])
            | (refine wk_not false _ _ (by first | exact wanted_none rfl | exact wanted_yes _ _ rfl rfl) rfl rfl ?_; simp only [Act.put, List.setIfInBounds_toArray, List.set_cons_zero, List.set_cons_succ]))
          refine wk_eql_int true _ _ _ _ _ _ _ (by kernel_rfl) rfl rfl rfl (by decide) ?_
          simp only [Act.put, List.setIfInBounds_toArray, List.set_cons_zero, List.set_cons_succ]
          repeat (first
            | (refine wk_move _ (by first | exact wanted_none rfl | exact wanted_yes _ _ rfl rfl) rfl ?_; simp only [Act.put, Act.eval, Array.getD_eq_getD_getElem?, List.getElem?_toArray, List.getElem?_cons_succ, List.getElem?_cons_zero, Option.getD_some, List.setIfInBounds_toArray, List.set_cons_zero, List.set_cons_succ])
            | (refine wk_assign _ (by first | exact wanted_none rfl | exact wanted_yes _ _ rfl rfl) rfl ?_; simp only [Act.put, Act.eval, Array.getD_eq_getD_getElem?, List.getElem?_toArray, List.getElem?_cons_succ, List.getElem?_cons_zero, Option.getD_some, List.setIfInBounds_toArray, List.set_cons_zero, List.set_cons_succ])
            | (refine wk_pickt _ _ _ _ (by first | exact wanted_none rfl | exact wanted_yes _ _ rfl rfl) rfl rfl rfl ?_; simp only [Act.put, Act.eval, Array.getD_eq_getD_getElem?, List.getElem?_toArray, List.getElem?_cons_succ, List.getElem?_cons_zero, Option.getD_some, List.setIfInBounds_toArray, List.set_cons_zero, List.set_cons_succ])
            | (refine wk_pickf _ _ _ _ (by first | exact wanted_none rfl | exact wanted_yes _ _ rfl rfl) rfl rfl rfl ?_; simp only [Act.put, Act.eval, Array.getD_eq_getD_getElem?, List.getElem?_toArray, List.getElem?_cons_succ, List.getElem?_cons_zero, Option.getD_some, List.setIfInBounds_toArray, List.set_cons_zero, List.set_cons_succ])
            | (refine wk_skip (wanted_not _ true false rfl rfl rfl) ?_; simp only [Act.put, List.setIfInBounds_toArray, List.set_cons_zero, List.set_cons_succ])
            | (refine wk_skip (wanted_not _ false true rfl rfl rfl) ?_; simp only [Act.put, List.setIfInBounds_toArray, List.set_cons_zero, List.set_cons_succ])
            | (refine wk_skip (wanted_undef _ _ rfl rfl) ?_; simp only [Act.put, List.setIfInBounds_toArray, List.set_cons_zero, List.set_cons_succ])
            | (refine wk_not true _ _ (by first | exact wanted_none rfl | exact wanted_yes _ _ rfl rfl) rfl rfl ?_; simp only [Act.put, List.setIfInBounds_toArray, List.set_cons_zero, List.set_cons_succ])
            | (refine wk_not false _ _ (by first | exact wanted_none rfl | exact wanted_yes _ _ rfl rfl) rfl rfl ?_; simp only [Act.put, List.setIfInBounds_toArray, List.set_cons_zero, List.set_cons_succ]))
          refine wk_call 10 _ _ _ _ _ (by kernel_rfl) rfl Tryd.func10 rfl (by kernel_rfl) (fun w' hC => hC.call (cardhead_any w')) ?_
          simp only [Act.put, List.setIfInBounds_toArray, List.set_cons_zero, List.set_cons_succ]
          repeat (first
            | (refine wk_move _ (by first | exact wanted_none rfl | exact wanted_yes _ _ rfl rfl) rfl ?_; simp only [Act.put, Act.eval, Array.getD_eq_getD_getElem?, List.getElem?_toArray, List.getElem?_cons_succ, List.getElem?_cons_zero, Option.getD_some, List.setIfInBounds_toArray, List.set_cons_zero, List.set_cons_succ])
            | (refine wk_assign _ (by first | exact wanted_none rfl | exact wanted_yes _ _ rfl rfl) rfl ?_; simp only [Act.put, Act.eval, Array.getD_eq_getD_getElem?, List.getElem?_toArray, List.getElem?_cons_succ, List.getElem?_cons_zero, Option.getD_some, List.setIfInBounds_toArray, List.set_cons_zero, List.set_cons_succ])
            | (refine wk_pickt _ _ _ _ (by first | exact wanted_none rfl | exact wanted_yes _ _ rfl rfl) rfl rfl rfl ?_; simp only [Act.put, Act.eval, Array.getD_eq_getD_getElem?, List.getElem?_toArray, List.getElem?_cons_succ, List.getElem?_cons_zero, Option.getD_some, List.setIfInBounds_toArray, List.set_cons_zero, List.set_cons_succ])
            | (refine wk_pickf _ _ _ _ (by first | exact wanted_none rfl | exact wanted_yes _ _ rfl rfl) rfl rfl rfl ?_; simp only [Act.put, Act.eval, Array.getD_eq_getD_getElem?, List.getElem?_toArray, List.getElem?_cons_succ, List.getElem?_cons_zero, Option.getD_some, List.setIfInBounds_toArray, List.set_cons_zero, List.set_cons_succ])
            | (refine wk_skip (wanted_not _ true false rfl rfl rfl) ?_; simp only [Act.put, List.setIfInBounds_toArray, List.set_cons_zero, List.set_cons_succ])
            | (refine wk_skip (wanted_not _ false true rfl rfl rfl) ?_; simp only [Act.put, List.setIfInBounds_toArray, List.set_cons_zero, List.set_cons_succ])
            | (refine wk_skip (wanted_undef _ _ rfl rfl) ?_; simp only [Act.put, List.setIfInBounds_toArray, List.set_cons_zero, List.set_cons_succ])
            | (refine wk_not true _ _ (by first | exact wanted_none rfl | exact wanted_yes _ _ rfl rfl) rfl rfl ?_; simp only [Act.put, List.setIfInBounds_toArray, List.set_cons_zero, List.set_cons_succ])
            | (refine wk_not false _ _ (by first | exact wanted_none rfl | exact wanted_yes _ _ rfl rfl) rfl rfl ?_; simp only [Act.put, List.setIfInBounds_toArray, List.set_cons_zero, List.set_cons_succ]))
          refine wk_nil ?_
          intro w' hC
          have hfin : Below w.heap.size w w' := (R7.out.since hC).below
          clear hC
          go_wp2_with fail
          go_ret
          exact ⟨rfl, hfin⟩
end Go.Proofs.YtfbafmgclfnigaaDoor
