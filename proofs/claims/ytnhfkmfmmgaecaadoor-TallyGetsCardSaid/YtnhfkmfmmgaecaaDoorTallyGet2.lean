/- The tally layer: Get and GetPick. Written by mktallyget.py. -/
import Derived.Test.YtnhfkmfmmgaecaaDoorTallyGet
import Derived.Test.YtnhfkmfmmgaecaaDoorRef05
namespace Go.Proofs.YtnhfkmfmmgaecaaDoor
open Go.RowKit
set_option linter.unusedSimpArgs false
set_option maxRecDepth 100000
/-- No numbers. -/
def ta0 : List Nat := List.replicate 64 0
def tazero : Array Value := pcells .u32 .u16 0 ta0
theorem zero_ta : (Tryd.prog.info? 90).bind (·.zero) = some (.agg tazero) := by kernel_rfl
theorem tazero_one : tazero.all (·.oneCell') = true := pcells_one _ _ _ _
theorem tazero_size : tazero.size = 65 := by unfold tazero ta0; rw [size_pcells, List.length_replicate]
/-- What Get answers. -/
def taGetN (b : List UInt8) (x : Nat) : Nat × List Nat := if x < 16384 then (if b = zeroBlk then (x, ta0) else if isTa b x then (x, rest b 5 2 64) else (0, ta0)) else (0, ta0)
def taGetE (b : List UInt8) (x : Nat) : Int := if x < 16384 then tagetE b x else 2
set_option maxHeartbeats 2000000 in
theorem taGet_any (b : List UInt8) (hb : b.length = 256) (x : Nat) (hx : x < 4294967296) (w : World) :
    Calls Tryd.prog 52 #[.agg (blk b), .int .u32 (x : Int)] w fun e w' => e = .returned (.tuple #[.agg (pcells .u32 .u16 (taGetN b x).1 (taGetN b x).2), .int .i64 (taGetE b x)]) ∧ Below w.heap.size w w' := by
  have HBs : Hid ((blk b).size = 256) := Lib.hid (by rw [size_blk, hb])
  obtain ⟨E, hE⟩ : ∃ E, E = taGetE b x := ⟨_, rfl⟩
  have HGET : Hid (∀ (W : World) (g c : Nat) (l : List (Nat × Array Value × TypeId)), Rows w W ((g, pcells .u32 .u16 x ta0, 90) :: l) → Calls Tryd.prog 81 #[.agg (blk b), .int .u8 84, .int .u32 (x : Int), .int .u32 16384, .slice (some ⟨g, 1, none⟩) 64 c, .int .i64 2] W fun e w' => e = .returned (.int .i64 E) ∧ ∃ L, Rows w w' ((g, pcells .u32 .u16 x L, 90) :: l) ∧ L.length = 64 ∧ (E = 0 → pcells .u32 .u16 x L = pcells .u32 .u16 (taGetN b x).1 (taGetN b x).2)) := Lib.hid (by
    intro W g c l R
    rw [hE]
    unfold taGetE
    by_cases hm : x < 16384
    · rw [if_pos hm]
      refine (taget_yes w W b hb g c x 16384 hx hm l R).mono ?_
      rintro e w' ⟨rfl, hR⟩
      refine ⟨rfl, _, hR, ?_, ?_⟩
      · unfold tagetL
        split
        · exact List.length_replicate
        · exact length_updT _ _ _ _ _
      · intro h0
        unfold tagetE at h0
        unfold tagetL taGetN
        rw [if_pos hm]
        by_cases hz : b = zeroBlk
        · rw [if_pos hz, if_pos hz]; rfl
        · rw [if_neg hz] at h0 ⊢
          rw [if_neg hz]
          by_cases hi : isTa b x = true
          · have hf : fineB b 84 = true := by
              unfold isTa at hi
              simp only [Bool.and_eq_true] at hi
              exact hi.1
            rw [if_pos hi, hf, updT_full]
          · rw [if_neg hi] at h0
            exact absurd h0 (by decide)
    · rw [if_neg hm]
      refine (taget_no w W b _ x 16384 hm _ R).mono ?_
      rintro e w' ⟨rfl, hR⟩
      exact ⟨rfl, _, hR, List.length_replicate, fun h => absurd h (by decide)⟩)
  have HNZ : Hid (E ≠ 0 → pcells .u32 .u16 (taGetN b x).1 (taGetN b x).2 = tazero) := Lib.hid (by
    rw [hE]
    unfold taGetE taGetN tagetE tazero
    by_cases hm : x < 16384
    · rw [if_pos hm, if_pos hm]
      by_cases hz : b = zeroBlk
      · rw [if_pos hz, if_pos hz]; intro h; exact absurd rfl h
      · rw [if_neg hz, if_neg hz]
        by_cases hi : isTa b x = true
        · rw [if_pos hi]; intro h; exact absurd rfl h
        · rw [if_neg hi, if_neg hi]; intro _; rfl
    · rw [if_neg hm, if_neg hm]; intro _; rfl)
  have HEE : Hid (E = 0 ∨ E = 2 ∨ E = 250) := Lib.hid (by
    rw [hE]; unfold taGetE tagetE
    split
    · split
      · exact Or.inl rfl
      · split
        · exact Or.inl rfl
        · exact Or.inr (Or.inr rfl)
    · exact Or.inr (Or.inl rfl))
  rw [← hE]
  obtain ⟨D, hD⟩ : ∃ D, D = pcells .u32 .u16 (taGetN b x).1 (taGetN b x).2 := ⟨_, rfl⟩
  rw [← hD] at HGET HNZ ⊢
  clear hb hD hE
  have q1 := ((Rows.start w).alloc (blk b) 33).alloc tazero 90
  obtain ⟨g1, hg1⟩ : ∃ g, g = w.heap.size := ⟨_, rfl⟩
  obtain ⟨g2, hg2⟩ : ∃ g, g = (w.alloc (.cells (blk b) 33)).heap.size := ⟨_, rfl⟩
  rw [← hg2, ← hg1] at q1
  have hg2' : w.heap.size + 1 = g2 := by rw [hg2]; simp
  have G1 := Lib.hid hg1
  have G2 := Lib.hid hg2'
  have Q1 := Lib.hid q1
  clear hg1 hg2 hg2' q1
  go_enter Tryd.func52, Tryd.ntmps52
  go_upto_region 1 with (refine wpList_alloc_row rfl 90 rfl _ zero_ta ?_)
  have q1 := Q1.out
  obtain ⟨W1, hW⟩ : ∃ W, W = (w.alloc (.cells (blk b) 33)).alloc (.cells tazero 90) := ⟨_, rfl⟩
  rw [← hW] at q1 ⊢
  rw [G2.out, ← G1.out]
  have R1 := Lib.hid q1
  clear hW q1 Q1 G1 G2
  have HCO : Hid ((pcells .u32 .u16 x ta0).all (·.oneCell') = true) := Lib.hid (pcells_one _ _ _ _)
  have q1 := R1.out.alloc (pcells .u32 .u16 x ta0) 90
  go_upto_region 2 with (first
    | refine wpList_alloc_row rfl 90 rfl _ zero_ta ?_
    | refine wpList_store_new rfl 90 _ _ rfl _ (pcells .u32 .u16 x ta0) _ rfl rfl sizeTally rfl HCO.out ?_)
  obtain ⟨W2, hW⟩ : ∃ W, W = W1.alloc (.cells (pcells .u32 .u16 x ta0) 90) := ⟨_, rfl⟩
  rw [← hW] at q1 ⊢
  clear hW
  obtain ⟨g5, hg⟩ : ∃ g, g = W1.heap.size := ⟨_, rfl⟩
  rw [← hg] at q1 ⊢
  clear hg
  have R2 := Lib.hid q1
  clear q1
  refine wk_region_tail 4 (by kernel_rfl) (by kernel_rfl) ?_
  simp only [List.take_succ_cons, List.take_zero, List.drop_succ_cons, List.drop_zero]
  refine wk_load_row 33 _ g1 33 (blk b) (0, 0) _ (by kernel_rfl) rfl rfl (fun w' hC => hC.row (R2.out.get 2 rfl)) Tryd.underlying33 rfl (by rw [HBs.out]; exact sizeB) ?_
  simp only [Act.put, List.setIfInBounds_toArray, List.set_cons_zero, List.set_cons_succ]
  repeat (first
    | (refine wk_move _ (by first | exact wanted_none rfl | exact wanted_yes _ _ rfl rfl) rfl ?_; simp only [Act.put, Act.eval, Array.getD_eq_getD_getElem?, List.getElem?_toArray, List.getElem?_cons_succ, List.getElem?_cons_zero, Option.getD_some, List.setIfInBounds_toArray, List.set_cons_zero, List.set_cons_succ])
    | (refine wk_assign _ (by first | exact wanted_none rfl | exact wanted_yes _ _ rfl rfl) rfl ?_; simp only [Act.put, Act.eval, Array.getD_eq_getD_getElem?, List.getElem?_toArray, List.getElem?_cons_succ, List.getElem?_cons_zero, Option.getD_some, List.setIfInBounds_toArray, List.set_cons_zero, List.set_cons_succ])
    | (refine wk_pickt _ _ _ _ (by first | exact wanted_none rfl | exact wanted_yes _ _ rfl rfl) rfl rfl rfl ?_; simp only [Act.put, Act.eval, Array.getD_eq_getD_getElem?, List.getElem?_toArray, List.getElem?_cons_succ, List.getElem?_cons_zero, Option.getD_some, List.setIfInBounds_toArray, List.set_cons_zero, List.set_cons_succ])
    | (refine wk_pickf _ _ _ _ (by first | exact wanted_none rfl | exact wanted_yes _ _ rfl rfl) rfl rfl rfl ?_; simp only [Act.put, Act.eval, Array.getD_eq_getD_getElem?, List.getElem?_toArray, List.getElem?_cons_succ, List.getElem?_cons_zero, Option.getD_some, List.setIfInBounds_toArray, List.set_cons_zero, List.set_cons_succ])
    | (refine wk_skip (wanted_not _ true false rfl rfl rfl) ?_; simp only [Act.put, List.setIfInBounds_toArray, List.set_cons_zero, List.set_cons_succ])
    | (refine wk_skip (wanted_not _ false true rfl rfl rfl) ?_; simp only [Act.put, List.setIfInBounds_toArray, List.set_cons_zero, List.set_cons_succ])
    | (refine wk_skip (wanted_undef _ _ rfl rfl) ?_; simp only [Act.put, List.setIfInBounds_toArray, List.set_cons_zero, List.set_cons_succ])
    | (refine wk_not true _ _ (by first | exact wanted_none rfl | exact wanted_yes _ _ rfl rfl) rfl rfl ?_; simp only [Act.put, List.setIfInBounds_toArray, List.set_cons_zero, List.set_cons_succ])
    | (refine wk_not false _ _ (by first | exact wanted_none rfl | exact wanted_yes _ _ rfl rfl) rfl rfl ?_; simp only [Act.put, List.setIfInBounds_toArray, List.set_cons_zero, List.set_cons_succ]))
  refine wk_field 90 _ 88 1 63 _ g5 0 (by kernel_rfl) rfl (by kernel_rfl) (by kernel_rfl) (by kernel_rfl) rfl ?_
  simp only [Act.put, List.setIfInBounds_toArray, List.set_cons_zero, List.set_cons_succ]
  refine wk_slice_whole 64 88 87 _ g5 1 (by kernel_rfl) rfl Tryd.underlying88 taelem rfl (by omega) ?_
  simp only [Act.put, List.setIfInBounds_toArray, List.set_cons_zero, List.set_cons_succ]
  refine wk_nil ?_
  intro w' hC
  have R3 := Lib.hid (R2.out.since hC)
  clear hC
  go_wp2_with fail
  refine (HGET.out _ _ _ _ R3.out).mono ?_
  rintro e w4 ⟨rfl, L, hR, hL, hLE⟩
  have R4 := Lib.hid hR
  have HLE := Lib.hid hLE
  have HPS : Hid ((pcells .u32 .u16 x L).size = 65) := Lib.hid (by rw [size_pcells, hL])
  have HPO : Hid ((pcells .u32 .u16 x L).all (·.oneCell') = true) := Lib.hid (pcells_one _ _ _ _)
  obtain ⟨F, hF⟩ : ∃ F, F = pcells .u32 .u16 x L := ⟨_, rfl⟩
  rw [← hF] at R4 HLE HPS HPO
  clear hR hLE hL hF
  by_cases h0 : E = 0
  · have hFD : F = D := HLE.out h0
    subst h0
    subst hFD
    clear HLE HNZ HEE
    go_wp2_with (first
      | refine wpList_load_row rfl 90 _ rfl g5 rfl 90 F (0, 0) _ (R4.out.get 0 rfl) Tryd.underlying90 rfl (by rw [HPS.out]; exact sizeTally) ?_
      | refine wpList_store_row rfl 90 _ _ rfl g2 F rfl rfl 90 _ (R4.out.get 1 rfl) (by rw [HPS.out]; exact sizeTally) (by rw [HPS.out, tazero_size]) HPO.out ?_)
    refine bodyPost_ret (v := .tuple #[.agg F, .int .i64 0]) (results_cell_slot rfl _ _ g2 90 _ (0, 0) _ _ rfl rfl (setRow_heap _ _ _ _ _ _ (R4.out.get 1 rfl)) Tryd.underlying90 rfl (by rw [HPS.out]; exact sizeTally)) rfl ⟨rfl, ?_⟩
    exact (R4.out.setRow 1 F rfl).below
  · have hDz : D = tazero := HNZ.out h0
    have HDZ := Lib.hid hDz
    have h0' : ¬ E = 0 := h0
    clear HLE HNZ hDz
    rcases HEE.out with rfl | rfl | rfl
    · exact absurd rfl h0
    all_goals
      clear h0 h0' HEE
      go_wp2_with (first
        | refine wpList_build_none rfl 90 rfl _ zero_ta Tryd.underlying90 rfl ?_
        | refine wpList_store_row rfl 90 _ _ rfl g2 tazero rfl rfl 90 _ (R4.out.get 1 rfl) sizeTally rfl tazero_one ?_)
      rw [HDZ.out]
      refine bodyPost_ret (results_cell_slot rfl _ _ g2 90 _ (0, 0) _ _ rfl rfl (setRow_heap _ _ _ _ _ _ (R4.out.get 1 rfl)) Tryd.underlying90 rfl sizeTally) rfl ⟨rfl, ?_⟩
      exact (R4.out.setRow 1 _ rfl).below
/-- No numbers. -/
def ti0 : List Nat := List.replicate 16 0
def tizero : Array Value := pcells .u32 .u64 0 ti0
theorem zero_ti : (Tryd.prog.info? 93).bind (·.zero) = some (.agg tizero) := by kernel_rfl
theorem tizero_one : tizero.all (·.oneCell') = true := pcells_one _ _ _ _
theorem tizero_size : tizero.size = 17 := by unfold tizero ti0; rw [size_pcells, List.length_replicate]
/-- What Get answers. -/
def tiGetN (b : List UInt8) (x : Nat) : Nat × List Nat := if x < 16 then (if b = zeroBlk then (x, ti0) else if isTi b x then (x, rest b 5 8 16) else (0, ti0)) else (0, ti0)
def tiGetE (b : List UInt8) (x : Nat) : Int := if x < 16 then tigetE b x else 2
set_option maxHeartbeats 2000000 in
theorem tiGet_any (b : List UInt8) (hb : b.length = 256) (x : Nat) (hx : x < 4294967296) (w : World) :
    Calls Tryd.prog 53 #[.agg (blk b), .int .u32 (x : Int)] w fun e w' => e = .returned (.tuple #[.agg (pcells .u32 .u64 (tiGetN b x).1 (tiGetN b x).2), .int .i64 (tiGetE b x)]) ∧ Below w.heap.size w w' := by
  have HBs : Hid ((blk b).size = 256) := Lib.hid (by rw [size_blk, hb])
  obtain ⟨E, hE⟩ : ∃ E, E = tiGetE b x := ⟨_, rfl⟩
  have HGET : Hid (∀ (W : World) (g c : Nat) (l : List (Nat × Array Value × TypeId)), Rows w W ((g, pcells .u32 .u64 x ti0, 93) :: l) → Calls Tryd.prog 82 #[.agg (blk b), .int .u8 80, .int .u32 (x : Int), .int .u32 16, .slice (some ⟨g, 1, none⟩) 16 c, .int .i64 8] W fun e w' => e = .returned (.int .i64 E) ∧ ∃ L, Rows w w' ((g, pcells .u32 .u64 x L, 93) :: l) ∧ L.length = 16 ∧ (E = 0 → pcells .u32 .u64 x L = pcells .u32 .u64 (tiGetN b x).1 (tiGetN b x).2)) := Lib.hid (by
    intro W g c l R
    rw [hE]
    unfold tiGetE
    by_cases hm : x < 16
    · rw [if_pos hm]
      refine (tiget_yes w W b hb g c x 16 hx hm l R).mono ?_
      rintro e w' ⟨rfl, hR⟩
      refine ⟨rfl, _, hR, ?_, ?_⟩
      · unfold tigetL
        split
        · exact List.length_replicate
        · exact length_updT _ _ _ _ _
      · intro h0
        unfold tigetE at h0
        unfold tigetL tiGetN
        rw [if_pos hm]
        by_cases hz : b = zeroBlk
        · rw [if_pos hz, if_pos hz]; rfl
        · rw [if_neg hz] at h0 ⊢
          rw [if_neg hz]
          by_cases hi : isTi b x = true
          · have hf : fineB b 80 = true := by
              unfold isTi at hi
              simp only [Bool.and_eq_true] at hi
              exact hi.1
            rw [if_pos hi, hf, updT_full]
          · rw [if_neg hi] at h0
            exact absurd h0 (by decide)
    · rw [if_neg hm]
      refine (tiget_no w W b _ x 16 hm _ R).mono ?_
      rintro e w' ⟨rfl, hR⟩
      exact ⟨rfl, _, hR, List.length_replicate, fun h => absurd h (by decide)⟩)
  have HNZ : Hid (E ≠ 0 → pcells .u32 .u64 (tiGetN b x).1 (tiGetN b x).2 = tizero) := Lib.hid (by
    rw [hE]
    unfold tiGetE tiGetN tigetE tizero
    by_cases hm : x < 16
    · rw [if_pos hm, if_pos hm]
      by_cases hz : b = zeroBlk
      · rw [if_pos hz, if_pos hz]; intro h; exact absurd rfl h
      · rw [if_neg hz, if_neg hz]
        by_cases hi : isTi b x = true
        · rw [if_pos hi]; intro h; exact absurd rfl h
        · rw [if_neg hi, if_neg hi]; intro _; rfl
    · rw [if_neg hm, if_neg hm]; intro _; rfl)
  have HEE : Hid (E = 0 ∨ E = 2 ∨ E = 250) := Lib.hid (by
    rw [hE]; unfold tiGetE tigetE
    split
    · split
      · exact Or.inl rfl
      · split
        · exact Or.inl rfl
        · exact Or.inr (Or.inr rfl)
    · exact Or.inr (Or.inl rfl))
  rw [← hE]
  obtain ⟨D, hD⟩ : ∃ D, D = pcells .u32 .u64 (tiGetN b x).1 (tiGetN b x).2 := ⟨_, rfl⟩
  rw [← hD] at HGET HNZ ⊢
  clear hb hD hE
  have q1 := ((Rows.start w).alloc (blk b) 33).alloc tizero 93
  obtain ⟨g1, hg1⟩ : ∃ g, g = w.heap.size := ⟨_, rfl⟩
  obtain ⟨g2, hg2⟩ : ∃ g, g = (w.alloc (.cells (blk b) 33)).heap.size := ⟨_, rfl⟩
  rw [← hg2, ← hg1] at q1
  have hg2' : w.heap.size + 1 = g2 := by rw [hg2]; simp
  have G1 := Lib.hid hg1
  have G2 := Lib.hid hg2'
  have Q1 := Lib.hid q1
  clear hg1 hg2 hg2' q1
  go_enter Tryd.func53, Tryd.ntmps53
  go_upto_region 1 with (refine wpList_alloc_row rfl 93 rfl _ zero_ti ?_)
  have q1 := Q1.out
  obtain ⟨W1, hW⟩ : ∃ W, W = (w.alloc (.cells (blk b) 33)).alloc (.cells tizero 93) := ⟨_, rfl⟩
  rw [← hW] at q1 ⊢
  rw [G2.out, ← G1.out]
  have R1 := Lib.hid q1
  clear hW q1 Q1 G1 G2
  have HCO : Hid ((pcells .u32 .u64 x ti0).all (·.oneCell') = true) := Lib.hid (pcells_one _ _ _ _)
  have q1 := R1.out.alloc (pcells .u32 .u64 x ti0) 93
  go_upto_region 2 with (first
    | refine wpList_alloc_row rfl 93 rfl _ zero_ti ?_
    | refine wpList_store_new rfl 93 _ _ rfl _ (pcells .u32 .u64 x ti0) _ rfl rfl sizePick rfl HCO.out ?_)
  obtain ⟨W2, hW⟩ : ∃ W, W = W1.alloc (.cells (pcells .u32 .u64 x ti0) 93) := ⟨_, rfl⟩
  rw [← hW] at q1 ⊢
  clear hW
  obtain ⟨g5, hg⟩ : ∃ g, g = W1.heap.size := ⟨_, rfl⟩
  rw [← hg] at q1 ⊢
  clear hg
  have R2 := Lib.hid q1
  clear q1
  refine wk_region_tail 4 (by kernel_rfl) (by kernel_rfl) ?_
  simp only [List.take_succ_cons, List.take_zero, List.drop_succ_cons, List.drop_zero]
  refine wk_load_row 33 _ g1 33 (blk b) (0, 0) _ (by kernel_rfl) rfl rfl (fun w' hC => hC.row (R2.out.get 2 rfl)) Tryd.underlying33 rfl (by rw [HBs.out]; exact sizeB) ?_
  simp only [Act.put, List.setIfInBounds_toArray, List.set_cons_zero, List.set_cons_succ]
  repeat (first
    | (refine wk_move _ (by first | exact wanted_none rfl | exact wanted_yes _ _ rfl rfl) rfl ?_; simp only [Act.put, Act.eval, Array.getD_eq_getD_getElem?, List.getElem?_toArray, List.getElem?_cons_succ, List.getElem?_cons_zero, Option.getD_some, List.setIfInBounds_toArray, List.set_cons_zero, List.set_cons_succ])
    | (refine wk_assign _ (by first | exact wanted_none rfl | exact wanted_yes _ _ rfl rfl) rfl ?_; simp only [Act.put, Act.eval, Array.getD_eq_getD_getElem?, List.getElem?_toArray, List.getElem?_cons_succ, List.getElem?_cons_zero, Option.getD_some, List.setIfInBounds_toArray, List.set_cons_zero, List.set_cons_succ])
    | (refine wk_pickt _ _ _ _ (by first | exact wanted_none rfl | exact wanted_yes _ _ rfl rfl) rfl rfl rfl ?_; simp only [Act.put, Act.eval, Array.getD_eq_getD_getElem?, List.getElem?_toArray, List.getElem?_cons_succ, List.getElem?_cons_zero, Option.getD_some, List.setIfInBounds_toArray, List.set_cons_zero, List.set_cons_succ])
    | (refine wk_pickf _ _ _ _ (by first | exact wanted_none rfl | exact wanted_yes _ _ rfl rfl) rfl rfl rfl ?_; simp only [Act.put, Act.eval, Array.getD_eq_getD_getElem?, List.getElem?_toArray, List.getElem?_cons_succ, List.getElem?_cons_zero, Option.getD_some, List.setIfInBounds_toArray, List.set_cons_zero, List.set_cons_succ])
    | (refine wk_skip (wanted_not _ true false rfl rfl rfl) ?_; simp only [Act.put, List.setIfInBounds_toArray, List.set_cons_zero, List.set_cons_succ])
    | (refine wk_skip (wanted_not _ false true rfl rfl rfl) ?_; simp only [Act.put, List.setIfInBounds_toArray, List.set_cons_zero, List.set_cons_succ])
    | (refine wk_skip (wanted_undef _ _ rfl rfl) ?_; simp only [Act.put, List.setIfInBounds_toArray, List.set_cons_zero, List.set_cons_succ])
    | (refine wk_not true _ _ (by first | exact wanted_none rfl | exact wanted_yes _ _ rfl rfl) rfl rfl ?_; simp only [Act.put, List.setIfInBounds_toArray, List.set_cons_zero, List.set_cons_succ])
    | (refine wk_not false _ _ (by first | exact wanted_none rfl | exact wanted_yes _ _ rfl rfl) rfl rfl ?_; simp only [Act.put, List.setIfInBounds_toArray, List.set_cons_zero, List.set_cons_succ]))
  refine wk_field 93 _ 91 1 15 _ g5 0 (by kernel_rfl) rfl (by kernel_rfl) (by kernel_rfl) (by kernel_rfl) rfl ?_
  simp only [Act.put, List.setIfInBounds_toArray, List.set_cons_zero, List.set_cons_succ]
  refine wk_slice_whole 16 91 29 _ g5 1 (by kernel_rfl) rfl Tryd.underlying91 tielem rfl (by omega) ?_
  simp only [Act.put, List.setIfInBounds_toArray, List.set_cons_zero, List.set_cons_succ]
  refine wk_nil ?_
  intro w' hC
  have R3 := Lib.hid (R2.out.since hC)
  clear hC
  go_wp2_with fail
  refine (HGET.out _ _ _ _ R3.out).mono ?_
  rintro e w4 ⟨rfl, L, hR, hL, hLE⟩
  have R4 := Lib.hid hR
  have HLE := Lib.hid hLE
  have HPS : Hid ((pcells .u32 .u64 x L).size = 17) := Lib.hid (by rw [size_pcells, hL])
  have HPO : Hid ((pcells .u32 .u64 x L).all (·.oneCell') = true) := Lib.hid (pcells_one _ _ _ _)
  obtain ⟨F, hF⟩ : ∃ F, F = pcells .u32 .u64 x L := ⟨_, rfl⟩
  rw [← hF] at R4 HLE HPS HPO
  clear hR hLE hL hF
  by_cases h0 : E = 0
  · have hFD : F = D := HLE.out h0
    subst h0
    subst hFD
    clear HLE HNZ HEE
    go_wp2_with (first
      | refine wpList_load_row rfl 93 _ rfl g5 rfl 93 F (0, 0) _ (R4.out.get 0 rfl) Tryd.underlying93 rfl (by rw [HPS.out]; exact sizePick) ?_
      | refine wpList_store_row rfl 93 _ _ rfl g2 F rfl rfl 93 _ (R4.out.get 1 rfl) (by rw [HPS.out]; exact sizePick) (by rw [HPS.out, tizero_size]) HPO.out ?_)
    refine bodyPost_ret (v := .tuple #[.agg F, .int .i64 0]) (results_cell_slot rfl _ _ g2 93 _ (0, 0) _ _ rfl rfl (setRow_heap _ _ _ _ _ _ (R4.out.get 1 rfl)) Tryd.underlying93 rfl (by rw [HPS.out]; exact sizePick)) rfl ⟨rfl, ?_⟩
    exact (R4.out.setRow 1 F rfl).below
  · have hDz : D = tizero := HNZ.out h0
    have HDZ := Lib.hid hDz
    have h0' : ¬ E = 0 := h0
    clear HLE HNZ hDz
    rcases HEE.out with rfl | rfl | rfl
    · exact absurd rfl h0
    all_goals
      clear h0 h0' HEE
      go_wp2_with (first
        | refine wpList_build_none rfl 93 rfl _ zero_ti Tryd.underlying93 rfl ?_
        | refine wpList_store_row rfl 93 _ _ rfl g2 tizero rfl rfl 93 _ (R4.out.get 1 rfl) sizePick rfl tizero_one ?_)
      rw [HDZ.out]
      refine bodyPost_ret (results_cell_slot rfl _ _ g2 93 _ (0, 0) _ _ rfl rfl (setRow_heap _ _ _ _ _ _ (R4.out.get 1 rfl)) Tryd.underlying93 rfl sizePick) rfl ⟨rfl, ?_⟩
      exact (R4.out.setRow 1 _ rfl).below
end Go.Proofs.YtnhfkmfmmgaecaaDoor
