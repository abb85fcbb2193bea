/- The node layer: the law NodeUnlike holds of every two nodes and place. -/
import Derived.Test.YtnhfkmfmmgaecaaDoorNodeHead
import Derived.Test.YtnhfkmfmmgaecaaDoorPageD
namespace Go.Proofs.YtnhfkmfmmgaecaaDoor
open Go.RowKit
set_option linter.unusedSimpArgs false
set_option maxRecDepth 100000
theorem set_ok {h h' : Nat} {l l' : List Nat} (p : NOk h l) (q : NOk h' l') (k : Nat) (hk : k < 32) : NOk h (l.set k (l'.getD k 0)) := by
  refine ⟨by rw [List.length_set, p.len], p.head, fun x hx => ?_⟩
  rcases List.mem_or_eq_of_mem_set hx with h1 | rfl
  · exact p.all x h1
  · have : k < l'.length := by rw [q.len]; exact hk
    rw [List.getD_eq_getElem?_getD, List.getElem?_eq_getElem this]
    exact q.all _ (List.getElem_mem this)
theorem set_may {h h' : Nat} {l l' : List Nat} (q : NOk h' l') (hm : nmay h l = true) (hm' : nmay h' l' = true) (k : Nat) (hk : k < 32) : nmay h (l.set k (l'.getD k 0)) = true := by
  rw [nmay_all] at hm hm' ⊢
  simp only [Bool.and_eq_true, decide_eq_true_eq] at hm hm' ⊢
  refine ⟨hm.1, hm.2.1, fun x hx => ?_⟩
  rcases List.mem_or_eq_of_mem_set hx with h1 | rfl
  · exact hm.2.2 x h1
  · have : k < l'.length := by rw [q.len]; exact hk
    rw [List.getD_eq_getElem?_getD, List.getElem?_eq_getElem this]
    exact hm'.2.2 _ (List.getElem_mem this)
set_option maxHeartbeats 8000000 in
theorem nodeunlike_any (a b : Nat × List Nat) (n : Nat) (ha : NOk a.1 a.2) (hb : NOk b.1 b.2) (hn : n < 256) (w : World) :
    Calls Tryd.prog 11 #[.agg (ncells a.1 a.2), .agg (ncells b.1 b.2), .int .u8 (n : Int)] w fun e w' => e = .returned (.bool true) ∧ Below w.heap.size w w' := by
  obtain ⟨h1, l1⟩ := a
  obtain ⟨h2, l2⟩ := b
  simp only at ha hb ⊢
  obtain ⟨K, hK⟩ : ∃ K, K = n % 32 := ⟨_, rfl⟩
  have hK32 : K < 32 := by omega
  obtain ⟨C1, hC1⟩ : ∃ C, C = ncells h1 l1 := ⟨_, rfl⟩
  obtain ⟨C2, hC2⟩ : ∃ C, C = ncells h2 l2 := ⟨_, rfl⟩
  obtain ⟨D1, hD1⟩ : ∃ D, D = nputB h1 l1 := ⟨_, rfl⟩
  obtain ⟨D2, hD2⟩ : ∃ D, D = nputB h2 l2 := ⟨_, rfl⟩
  obtain ⟨E1, hE1⟩ : ∃ E, E = nputE h1 l1 := ⟨_, rfl⟩
  obtain ⟨E2, hE2⟩ : ∃ E, E = nputE h2 l2 := ⟨_, rfl⟩
  obtain ⟨m1, hm1⟩ : ∃ m, m = nmay h1 l1 := ⟨_, rfl⟩
  obtain ⟨m2, hm2⟩ : ∃ m, m = nmay h2 l2 := ⟨_, rfl⟩
  obtain ⟨y, hy⟩ : ∃ y, y = l2.getD K 0 := ⟨_, rfl⟩
  obtain ⟨l3, hl3⟩ : ∃ l, l = l1.set K y := ⟨_, rfl⟩
  have hc : NOk h1 l3 := by rw [hl3, hy]; exact set_ok ha hb K hK32
  obtain ⟨C3, hC3⟩ : ∃ C, C = ncells h1 l3 := ⟨_, rfl⟩
  obtain ⟨D3, hD3⟩ : ∃ D, D = nputB h1 l3 := ⟨_, rfl⟩
  have HDL1 : Hid (D1.length = 256) := Lib.hid (by rw [hD1]; exact length_nputB ha)
  have HDL2 : Hid (D2.length = 256) := Lib.hid (by rw [hD2]; exact length_nputB hb)
  have HDL3 : Hid (D3.length = 256) := Lib.hid (by rw [hD3]; exact length_nputB hc)
  have HDS1 : Hid ((blk D1).size = 256) := Lib.hid (by rw [size_blk, HDL1.out])
  have HDS2 : Hid ((blk D2).size = 256) := Lib.hid (by rw [size_blk, HDL2.out])
  have HDS3 : Hid ((blk D3).size = 256) := Lib.hid (by rw [size_blk, HDL3.out])
  have HCS1 : Hid (C1.size = 33) := Lib.hid (by rw [hC1]; exact size_ncells ha)
  have HCS2 : Hid (C2.size = 33) := Lib.hid (by rw [hC2]; exact size_ncells hb)
  have HCS3 : Hid (C3.size = 33) := Lib.hid (by rw [hC3]; exact size_ncells hc)
  have HCO1 : Hid (C1.all (·.oneCell') = true) := Lib.hid (by rw [hC1]; exact pcells_one _ _ _ _)
  have HP1 : Hid (∀ w, Calls Tryd.prog 36 #[.agg C1] w fun e w' => e = .returned (.tuple #[.agg (blk D1), .int .i64 E1]) ∧ Below w.heap.size w w') := Lib.hid (fun w => by rw [hC1, hD1, hE1]; exact nput_all h1 l1 ha w)
  have HP2 : Hid (∀ w, Calls Tryd.prog 36 #[.agg C2] w fun e w' => e = .returned (.tuple #[.agg (blk D2), .int .i64 E2]) ∧ Below w.heap.size w w') := Lib.hid (fun w => by rw [hC2, hD2, hE2]; exact nput_all h2 l2 hb w)
  have HP3 : Hid (m1 = true → m2 = true → ∀ w, Calls Tryd.prog 36 #[.agg C3] w fun e w' => e = .returned (.tuple #[.agg (blk D3), .int .i64 0]) ∧ Below w.heap.size w w') := Lib.hid (fun q1 q2 w => by
    have hm : nmay h1 l3 = true := by rw [hl3, hy]; exact set_may hb (by rw [← hm1]; exact q1) (by rw [← hm2]; exact q2) K hK32
    have := nput_all h1 l3 hc w
    rw [hC3, hD3]
    have e0 : nputE h1 l3 = 0 := by unfold nputE; rw [hm]; rfl
    rw [e0] at this
    exact this)
  have HDIFF : Hid (m1 = true → m2 = true → ∀ i, i < 252 → D1.getD i 0 ≠ D3.getD i 0 → 2 + 4 * K ≤ i ∧ i < 6 + 4 * K) := Lib.hid (fun q1 q2 i hi hne => by
    have hm : nmay h1 l3 = true := by rw [hl3, hy]; exact set_may hb (by rw [← hm1]; exact q1) (by rw [← hm2]; exact q2) K hK32
    have e1 : D1 = doneB 78 (pbytes 1 4 h1 l1) := by rw [hD1]; unfold nputB; rw [← hm1, q1]; rfl
    have e3 : D3 = doneB 78 (pbytes 1 4 h1 (l1.set K y)) := by rw [hD3]; unfold nputB; rw [hm, hl3]; rfl
    apply Classical.byContradiction
    intro hcon
    apply hne
    have := page_differ 78 1 4 h1 32 l1 K y i ha.len hK32 (by decide) hi (by omega)
    rw [← e1, ← e3] at this
    rw [List.getD_eq_getElem?_getD, List.getD_eq_getElem?_getD, this])
  have HSAME : Hid (m1 = true → m2 = true → decide (D1 = D2) = (decide (h1 = h2) && decide (l1 = l2))) := Lib.hid (fun q1 q2 => by
    have e1 : D1 = doneB 78 (pbytes 1 4 h1 l1) := by rw [hD1]; unfold nputB; rw [← hm1, q1]; rfl
    have e2 : D2 = doneB 78 (pbytes 1 4 h2 l2) := by rw [hD2]; unfold nputB; rw [← hm2, q2]; rfl
    rw [Bool.eq_iff_iff]
    simp only [Bool.and_eq_true, decide_eq_true_eq]
    constructor
    · intro h
      rw [e1, e2] at h
      exact page_inj ha hb 78 (by decide) h
    · rintro ⟨rfl, rfl⟩
      rw [e1, e2])
  have HEB : Hid (∀ w : World, (binOp .eql 33 (.agg (blk D1)) (.agg (blk D2))).run Tryd.prog w = .ok (.bool (decide (D1 = D2))) w) := Lib.hid (fun w =>
    run_eql_blk w 33 5 256 Tryd.underlying33 Tryd.underlying5 sizeU8 D1 D2 HDL1.out HDL2.out)
  have HEN : Hid (∀ w : World, (binOp .eql 70 (.agg C1) (.agg C2)).run Tryd.prog w = .ok (.bool (decide (h1 = h2) && decide (l1 = l2))) w) := Lib.hid (fun w => by
    rw [hC1, hC2]; exact run_eql_node w h1 h2 l1 l2 ha.len hb.len)
  have HY : Hid (C2[1 + K]? = some (.int .u32 (y : Int))) := Lib.hid (by
    have : K < l2.length := by rw [hb.len]; exact hK32
    rw [hC2, Nat.add_comm, ncells, pcells_get _ _ _ _ K this, hy, List.getD_eq_getElem?_getD, List.getElem?_eq_getElem this]; rfl)
  have HX : Hid (∃ x : Nat, C1[1 + K]? = some (.int .u32 (x : Int))) := Lib.hid (by
    have : K < l1.length := by rw [ha.len]; exact hK32
    exact ⟨l1[K], by rw [hC1, Nat.add_comm, ncells, pcells_get _ _ _ _ K this]⟩)
  have HSET : Hid (C1.setIfInBounds (1 + K) (.int .u32 (y : Int)) = C3) := Lib.hid (by rw [hC1, hC3, hl3, Nat.add_comm, ncells, pcells_set]; rfl)
  have HCK : Hid (∀ k, (hk : k < l1.length) → C1[k + 1]? = some (.int .u32 (l1[k] : Int))) := Lib.hid (fun k hk => by rw [hC1]; exact pcells_get _ _ _ _ k hk)
  have HALL : Hid (∀ k, (hk : k < l1.length) → l1[k] < 4294967296) := Lib.hid (fun k hk => ha.all _ (List.getElem_mem hk))
  have HLEN := Lib.hid ha.len
  have HNS := Lib.hid (fun k (hk : k < l1.length) => notZero_succ l1 k hk)
  have HNL := Lib.hid (fun k => Nat.le_trans (notZero_len (l1.take k)) (List.length_take_le k l1))
  have HKIDS : Hid (∀ w, Calls Tryd.prog 39 #[.agg C1] w fun e w' => ∃ v, e = .returned v ∧ NumsAt w' v (notZero l1) ∧ Below w.heap.size w w') := Lib.hid (fun w => by rw [hC1]; exact nkids_any h1 l1 ha w)
  have HM1 : Hid (E1 = if m1 then 0 else 2) := Lib.hid (by rw [hE1, hm1]; rfl)
  have HM2 : Hid (E2 = if m2 then 0 else 2) := Lib.hid (by rw [hE2, hm2]; rfl)
  have HKM : Hid ((n : Int) % 32 = (K : Int)) := Lib.hid (by omega)
  rw [← hC1, ← hC2]
  clear hC1 hC2 hC3 hD1 hD2 hD3 hE1 hE2 hm1 hm2 hy hl3 hc ha hb hK
  obtain ⟨g1, hg1⟩ : ∃ g, g = w.heap.size := ⟨_, rfl⟩
  have q1 := ((Rows.start w).alloc C1 70).alloc C2 70
  obtain ⟨g2, hg2⟩ : ∃ g, g = (w.alloc (.cells C1 70)).heap.size := ⟨_, rfl⟩
  rw [← hg2, ← hg1] at q1
  have hg2' : w.heap.size + 1 = g2 := by rw [hg2]; simp
  have G1 := Lib.hid hg1
  have G2 := Lib.hid hg2'
  have Q1 := Lib.hid q1
  clear hg1 hg2 hg2' q1
  go_enter Tryd.func11, Tryd.ntmps11
  go_upto_region 1 with (fail)
  have q1 := Q1.out
  obtain ⟨W1, hW⟩ : ∃ W, W = (w.alloc (.cells C1 70)).alloc (.cells C2 70) := ⟨_, rfl⟩
  rw [← hW] at q1 ⊢
  rw [G2.out, ← G1.out]
  have R1 := Lib.hid q1
  clear hW q1 Q1 G1 G2
  go_wp2_with (refine wpList_load_row rfl 70 _ rfl g1 rfl 70 C1 (0, 0) _ (R1.out.get 1 rfl) Tryd.underlying70 rfl (by rw [HCS1.out]; exact sizeN) ?_)
  refine (HP1.out _).mono ?_
  rintro e w2 ⟨rfl, hb⟩
  have q1 := (R1.out.call hb).alloc (blk D1) 33
  clear hb
  go_upto_region 2 with (first | refine wpList_alloc_row rfl 33 rfl _ zeroB ?_ | refine wpList_store_new rfl 33 _ _ rfl _ (blk D1) _ rfl rfl (by rw [HDS1.out]; exact sizeB) (by rw [HDS1.out, size_zeros]) (blk_one _) ?_)
  obtain ⟨W2, hW⟩ : ∃ W, W = w2.alloc (.cells (blk D1) 33) := ⟨_, rfl⟩
  rw [← hW] at q1 ⊢
  clear hW
  obtain ⟨g3, hg⟩ : ∃ g, g = w2.heap.size := ⟨_, rfl⟩
  rw [← hg] at q1 ⊢
  clear hg
  have R2 := Lib.hid q1
  clear q1
  go_wp2_with (refine wpList_load_row rfl 70 _ rfl g2 rfl 70 C2 (0, 0) _ (R2.out.get 1 rfl) Tryd.underlying70 rfl (by rw [HCS2.out]; exact sizeN) ?_)
  refine (HP2.out _).mono ?_
  rintro e w3 ⟨rfl, hb⟩
  have q1 := (R2.out.call hb).alloc (blk D2) 33
  clear hb
  go_upto_region 3 with (first | refine wpList_alloc_row rfl 33 rfl _ zeroB ?_ | refine wpList_store_new rfl 33 _ _ rfl _ (blk D2) _ rfl rfl (by rw [HDS2.out]; exact sizeB) (by rw [HDS2.out, size_zeros]) (blk_one _) ?_)
  obtain ⟨W3, hW⟩ : ∃ W, W = w3.alloc (.cells (blk D2) 33) := ⟨_, rfl⟩
  rw [← hW] at q1 ⊢
  clear hW
  obtain ⟨g4, hg⟩ : ∃ g, g = w3.heap.size := ⟨_, rfl⟩
  rw [← hg] at q1 ⊢
  clear hg
  have R3 := Lib.hid q1
  clear q1
  cases m1
  · obtain rfl : E1 = 2 := HM1.out
    go_wp2_with fail
    refine (nodehead_any _).mono ?_
    rintro e w4 ⟨rfl, hb⟩
    have hfin := (R3.out.call hb).below
    clear hb
    go_wp2_with fail
    go_ret
    exact ⟨rfl, hfin⟩
  obtain rfl : E1 = 0 := HM1.out
  cases m2
  · obtain rfl : E2 = 2 := HM2.out
    go_wp2_with fail
    refine (nodehead_any _).mono ?_
    rintro e w4 ⟨rfl, hb⟩
    have hfin := (R3.out.call hb).below
    clear hb
    go_wp2_with fail
    go_ret
    exact ⟨rfl, hfin⟩
  obtain rfl : E2 = 0 := HM2.out
  have HP := Lib.hid (HP3.out rfl rfl)
  have HDF := Lib.hid (HDIFF.out rfl rfl)
  have hS := HSAME.out rfl rfl
  rw [← hS] at HEN
  obtain ⟨s, hs⟩ : ∃ s, s = decide (D1 = D2) := ⟨_, rfl⟩
  rw [← hs] at HEN HEB
  clear hS hs HSAME HP3 HDIFF HM1 HM2
  go_upto_region 5 with (fail)
  refine wk_region_since (by kernel_rfl) (by kernel_rfl) ?_
  refine wk_load_row 33 _ g3 33 (blk D1) (0, 0) _ (by kernel_rfl) rfl rfl (fun w' hC => hC.row (R3.out.get 1 rfl)) Tryd.underlying33 rfl (by rw [HDS1.out]; exact sizeB) ?_
  simp only [Act.put, List.setIfInBounds_toArray, List.set_cons_zero, List.set_cons_succ]
  refine wk_load_row 33 _ g4 33 (blk D2) (0, 0) _ (by kernel_rfl) rfl rfl (fun w' hC => hC.row (R3.out.get 0 rfl)) Tryd.underlying33 rfl (by rw [HDS2.out]; exact sizeB) ?_
  simp only [Act.put, List.setIfInBounds_toArray, List.set_cons_zero, List.set_cons_succ]
  refine wk_eql .eql (s) 33 33 _ _ (by first | exact wanted_none rfl | exact wanted_yes _ _ rfl rfl) rfl _ _ rfl rfl (by kernel_rfl) (fun w => HEB.out w) ?_
  simp only [Act.put, List.setIfInBounds_toArray, List.set_cons_zero, List.set_cons_succ]
  refine wk_load_row 70 _ g1 70 C1 (0, 0) _ (by kernel_rfl) rfl rfl (fun w' hC => hC.row (R3.out.get 3 rfl)) Tryd.underlying70 rfl (by rw [HCS1.out]; exact sizeN) ?_
  simp only [Act.put, List.setIfInBounds_toArray, List.set_cons_zero, List.set_cons_succ]
  refine wk_load_row 70 _ g2 70 C2 (0, 0) _ (by kernel_rfl) rfl rfl (fun w' hC => hC.row (R3.out.get 2 rfl)) Tryd.underlying70 rfl (by rw [HCS2.out]; exact sizeN) ?_
  simp only [Act.put, List.setIfInBounds_toArray, List.set_cons_zero, List.set_cons_succ]
  refine wk_eql .eql (s) 70 70 _ _ (by first | exact wanted_none rfl | exact wanted_yes _ _ rfl rfl) rfl _ _ rfl rfl (by kernel_rfl) (fun w => HEN.out w) ?_
  simp only [Act.put, List.setIfInBounds_toArray, List.set_cons_zero, List.set_cons_succ]
  refine wk_neq_bool false _ _ _ _ _ _ (by kernel_rfl) rfl Tryd.underlying4 rfl rfl (by cases s <;> rfl) ?_
  simp only [Act.put, List.setIfInBounds_toArray, List.set_cons_zero, List.set_cons_succ]
  refine wk_nil ?_
  intro w' hC
  have R4 := Lib.hid (R3.out.since hC)
  clear hC
  have q1 := Lib.hid (R4.out.alloc C1 70)
  go_upto_region 8 with (first
    | refine wpList_load_row rfl 70 _ rfl g1 rfl 70 C1 (0, 0) _ (R4.out.get 3 rfl) Tryd.underlying70 rfl (by rw [HCS1.out]; exact sizeN) ?_
    | refine wpList_alloc_row rfl 70 rfl _ zeroN ?_
    | refine wpList_store_new rfl 70 _ _ rfl _ C1 _ rfl rfl (by rw [HCS1.out]; exact sizeN) (by rw [HCS1.out]; rfl) HCO1.out ?_)
  have q1 := q1.out
  obtain ⟨W5, hW⟩ : ∃ W, W = w'.alloc (.cells C1 70) := ⟨_, rfl⟩
  rw [← hW] at q1 ⊢
  clear hW
  obtain ⟨g5, hg⟩ : ∃ g, g = w'.heap.size := ⟨_, rfl⟩
  rw [← hg] at q1 ⊢
  clear hg
  have R5 := Lib.hid q1
  clear q1
  go_upto_region 9 with (fail)
  rw [HKM.out]
  obtain ⟨x, hx⟩ := HX.out
  have k1 : W5.cell? ⟨g2, 1 + K, none⟩ = some (.int .u32 (y : Int)) := R5.out.cell 3 (1 + K) rfl HY.out
  have hc := R5.out.cell 0 (1 + K) rfl (hx)
  have hf := R5.out.free 0 (1 + K) rfl
  have q0 := Lib.hid (R5.out.setCell 0 (1 + K) (.int .u32 (y : Int)) rfl)
  go_upto_region 10 with (fail)
  have q1 := q0.out
  clear q0 hc hf
  obtain ⟨W6, hW⟩ : ∃ W, W = W5.setCell ⟨g5, (1 + K), none⟩ (.int .u32 (y : Int)) := ⟨_, rfl⟩
  rw [← hW] at q1 ⊢
  clear hW
  simp only [List.set_cons_zero, List.set_cons_succ] at q1
  have R6 := Lib.hid q1
  clear q1
  clear k1 hx
  rw [HSET.out] at R6
  go_wp2_with (refine wpList_load_row rfl 70 _ rfl g5 rfl 70 C3 (0, 0) _ (R6.out.get 0 rfl) Tryd.underlying70 rfl (by rw [HCS3.out]; exact sizeN) ?_)
  refine (HP.out _).mono ?_
  rintro e w7 ⟨rfl, hb⟩
  have q1 := (R6.out.call hb).alloc (blk D3) 33
  clear hb
  go_upto_region 11 with (first | refine wpList_alloc_row rfl 33 rfl _ zeroB ?_ | refine wpList_store_new rfl 33 _ _ rfl _ (blk D3) _ rfl rfl (by rw [HDS3.out]; exact sizeB) (by rw [HDS3.out, size_zeros]) (blk_one _) ?_)
  obtain ⟨W7, hW⟩ : ∃ W, W = w7.alloc (.cells (blk D3) 33) := ⟨_, rfl⟩
  rw [← hW] at q1 ⊢
  clear hW
  obtain ⟨g6, hg⟩ : ∃ g, g = w7.heap.size := ⟨_, rfl⟩
  rw [← hg] at q1 ⊢
  clear hg
  have R7 := Lib.hid q1
  clear q1
  have HD1G : Hid (∀ k, k < 252 → (blk D1)[k]? = some (.int .u8 ((D1.getD k 0).toNat : Int))) := Lib.hid (fun k hk => blk_at _ _ (by rw [HDL1.out]; omega))
  have HD3G : Hid (∀ k, k < 252 → (blk D3)[k]? = some (.int .u8 ((D3.getD k 0).toNat : Int))) := Lib.hid (fun k hk => blk_at _ _ (by rw [HDL3.out]; omega))
  go_wp2_with fail
  go_loopw [15] (fun i wr => ∃ k : Nat, k ≤ 252 ∧ i = .int .i64 k ∧ Rows w wr [(g6, blk D3, 33), (g5, C3, 70), (g4, blk D2, 33), (g3, blk D1, 33), (g2, C2, 70), (g1, C1, 70)]) (fun i _ => 252 - (intOf i).toNat)
  case atStart => exact ⟨0, by omega, rfl, R7.out⟩
  case round =>
    obtain ⟨k, hk, rfl, hR⟩ := hrel
    have R8 := Lib.hid hR
    clear hR
    by_cases hlt : k < 252
    · have ka := R8.out.cell 3 k rfl (HD1G.out k hlt)
      have kb := R8.out.cell 0 k rfl (HD3G.out k hlt)
      have hdf := HDF.out k hlt
      obtain ⟨p, hp⟩ : ∃ p, p = D1.getD k 0 := ⟨_, rfl⟩
      obtain ⟨q, hq⟩ : ∃ q, q = D3.getD k 0 := ⟨_, rfl⟩
      rw [← hp] at ka hdf
      rw [← hq] at kb hdf
      have KA := Lib.hid ka
      have KB := Lib.hid kb
      clear hp hq ka kb
      by_cases hpq : p = q
      · subst hpq
        clear hdf
        go_wp2_with fail
        refine wk_region_since (by kernel_rfl) (by kernel_rfl) ?_
        repeat (first
          | (refine wk_move _ (by first | exact wanted_none rfl | exact wanted_yes _ _ rfl rfl) rfl ?_; simp only [Act.put, Act.eval, Array.getD_eq_getD_getElem?, List.getElem?_toArray, List.getElem?_cons_succ, List.getElem?_cons_zero, Option.getD_some, List.setIfInBounds_toArray, List.set_cons_zero, List.set_cons_succ])
          | (refine wk_assign _ (by first | exact wanted_none rfl | exact wanted_yes _ _ rfl rfl) rfl ?_; simp only [Act.put, Act.eval, Array.getD_eq_getD_getElem?, List.getElem?_toArray, List.getElem?_cons_succ, List.getElem?_cons_zero, Option.getD_some, List.setIfInBounds_toArray, List.set_cons_zero, List.set_cons_succ])
          | (refine wk_pickt _ _ _ _ (by first | exact wanted_none rfl | exact wanted_yes _ _ rfl rfl) rfl rfl rfl ?_; simp only [Act.put, Act.eval, Array.getD_eq_getD_getElem?, List.getElem?_toArray, List.getElem?_cons_succ, List.getElem?_cons_zero, Option.getD_some, List.setIfInBounds_toArray, List.set_cons_zero, List.set_cons_succ])
          | (refine wk_pickf _ _ _ _ (by first | exact wanted_none rfl | exact wanted_yes _ _ rfl rfl) rfl rfl rfl ?_; simp only [Act.put, Act.eval, Array.getD_eq_getD_getElem?, List.getElem?_toArray, List.getElem?_cons_succ, List.getElem?_cons_zero, Option.getD_some, List.setIfInBounds_toArray, List.set_cons_zero, List.set_cons_succ])
          | (refine wk_skip (wanted_not _ true false rfl rfl rfl) ?_; simp only [Act.put, List.setIfInBounds_toArray, List.set_cons_zero, List.set_cons_succ])
          | (refine wk_skip (wanted_not _ false true rfl rfl rfl) ?_; simp only [Act.put, List.setIfInBounds_toArray, List.set_cons_zero, List.set_cons_succ])
          | (refine wk_skip (wanted_undef _ _ rfl rfl) ?_; simp only [Act.put, List.setIfInBounds_toArray, List.set_cons_zero, List.set_cons_succ])
          | (refine wk_not true _ _ (by first | exact wanted_none rfl | exact wanted_yes _ _ rfl rfl) rfl rfl ?_; simp only [Act.put, List.setIfInBounds_toArray, List.set_cons_zero, List.set_cons_succ])
          | (refine wk_not false _ _ (by first | exact wanted_none rfl | exact wanted_yes _ _ rfl rfl) rfl rfl ?_; simp only [Act.put, List.setIfInBounds_toArray, List.set_cons_zero, List.set_cons_succ]))
        refine wk_index_arr _ _ _ _ _ (k) (256) .i64 (by kernel_rfl) rfl Tryd.underlying33 sizeU8 rfl rfl (by omega) ?_
        simp only [Act.put, List.setIfInBounds_toArray, List.set_cons_zero, List.set_cons_succ]
        refine wk_load1 _ _ _ _ _ rfl (by kernel_rfl) rfl rfl (fun w' hC => hC.cell KA.out) Tryd.underlying5 ?_
        simp only [Act.put, List.setIfInBounds_toArray, List.set_cons_zero, List.set_cons_succ]
        repeat (first
          | (refine wk_move _ (by first | exact wanted_none rfl | exact wanted_yes _ _ rfl rfl) rfl ?_; simp only [Act.put, Act.eval, Array.getD_eq_getD_getElem?, List.getElem?_toArray, List.getElem?_cons_succ, List.getElem?_cons_zero, Option.getD_some, List.setIfInBounds_toArray, List.set_cons_zero, List.set_cons_succ])
          | (refine wk_assign _ (by first | exact wanted_none rfl | exact wanted_yes _ _ rfl rfl) rfl ?_; simp only [Act.put, Act.eval, Array.getD_eq_getD_getElem?, List.getElem?_toArray, List.getElem?_cons_succ, List.getElem?_cons_zero, Option.getD_some, List.setIfInBounds_toArray, List.set_cons_zero, List.set_cons_succ])
          | (refine wk_pickt _ _ _ _ (by first | exact wanted_none rfl | exact wanted_yes _ _ rfl rfl) rfl rfl rfl ?_; simp only [Act.put, Act.eval, Array.getD_eq_getD_getElem?, List.getElem?_toArray, List.getElem?_cons_succ, List.getElem?_cons_zero, Option.getD_some, List.setIfInBounds_toArray, List.set_cons_zero, List.set_cons_succ])
          | (refine wk_pickf _ _ _ _ (by first | exact wanted_none rfl | exact wanted_yes _ _ rfl rfl) rfl rfl rfl ?_; simp only [Act.put, Act.eval, Array.getD_eq_getD_getElem?, List.getElem?_toArray, List.getElem?_cons_succ, List.getElem?_cons_zero, Option.getD_some, List.setIfInBounds_toArray, List.set_cons_zero, List.set_cons_succ])
          | (refine wk_skip (wanted_not _ true false rfl rfl rfl) ?_; simp only [Act.put, List.setIfInBounds_toArray, List.set_cons_zero, List.set_cons_succ])
          | (refine wk_skip (wanted_not _ false true rfl rfl rfl) ?_; simp only [Act.put, List.setIfInBounds_toArray, List.set_cons_zero, List.set_cons_succ])
          | (refine wk_skip (wanted_undef _ _ rfl rfl) ?_; simp only [Act.put, List.setIfInBounds_toArray, List.set_cons_zero, List.set_cons_succ])
          | (refine wk_not true _ _ (by first | exact wanted_none rfl | exact wanted_yes _ _ rfl rfl) rfl rfl ?_; simp only [Act.put, List.setIfInBounds_toArray, List.set_cons_zero, List.set_cons_succ])
          | (refine wk_not false _ _ (by first | exact wanted_none rfl | exact wanted_yes _ _ rfl rfl) rfl rfl ?_; simp only [Act.put, List.setIfInBounds_toArray, List.set_cons_zero, List.set_cons_succ]))
        refine wk_index_arr _ _ _ _ _ (k) (256) .i64 (by kernel_rfl) rfl Tryd.underlying33 sizeU8 rfl rfl (by omega) ?_
        simp only [Act.put, List.setIfInBounds_toArray, List.set_cons_zero, List.set_cons_succ]
        refine wk_load1 _ _ _ _ _ rfl (by kernel_rfl) rfl rfl (fun w' hC => hC.cell KB.out) Tryd.underlying5 ?_
        simp only [Act.put, List.setIfInBounds_toArray, List.set_cons_zero, List.set_cons_succ]
        refine wk_cmp_int .neq (false) _ _ _ _ _ _ _ (by kernel_rfl) rfl rfl rfl (by simp [cmpInt]) ?_
        simp only [Act.put, List.setIfInBounds_toArray, List.set_cons_zero, List.set_cons_succ]
        repeat (first
          | (refine wk_move _ (by first | exact wanted_none rfl | exact wanted_yes _ _ rfl rfl) rfl ?_; simp only [Act.put, Act.eval, Array.getD_eq_getD_getElem?, List.getElem?_toArray, List.getElem?_cons_succ, List.getElem?_cons_zero, Option.getD_some, List.setIfInBounds_toArray, List.set_cons_zero, List.set_cons_succ])
          | (refine wk_assign _ (by first | exact wanted_none rfl | exact wanted_yes _ _ rfl rfl) rfl ?_; simp only [Act.put, Act.eval, Array.getD_eq_getD_getElem?, List.getElem?_toArray, List.getElem?_cons_succ, List.getElem?_cons_zero, Option.getD_some, List.setIfInBounds_toArray, List.set_cons_zero, List.set_cons_succ])
          | (refine wk_pickt _ _ _ _ (by first | exact wanted_none rfl | exact wanted_yes _ _ rfl rfl) rfl rfl rfl ?_; simp only [Act.put, Act.eval, Array.getD_eq_getD_getElem?, List.getElem?_toArray, List.getElem?_cons_succ, List.getElem?_cons_zero, Option.getD_some, List.setIfInBounds_toArray, List.set_cons_zero, List.set_cons_succ])
          | (refine wk_pickf _ _ _ _ (by first | exact wanted_none rfl | exact wanted_yes _ _ rfl rfl) rfl rfl rfl ?_; simp only [Act.put, Act.eval, Array.getD_eq_getD_getElem?, List.getElem?_toArray, List.getElem?_cons_succ, List.getElem?_cons_zero, Option.getD_some, List.setIfInBounds_toArray, List.set_cons_zero, List.set_cons_succ])
          | (refine wk_skip (wanted_not _ true false rfl rfl rfl) ?_; simp only [Act.put, List.setIfInBounds_toArray, List.set_cons_zero, List.set_cons_succ])
          | (refine wk_skip (wanted_not _ false true rfl rfl rfl) ?_; simp only [Act.put, List.setIfInBounds_toArray, List.set_cons_zero, List.set_cons_succ])
          | (refine wk_skip (wanted_undef _ _ rfl rfl) ?_; simp only [Act.put, List.setIfInBounds_toArray, List.set_cons_zero, List.set_cons_succ])
          | (refine wk_not true _ _ (by first | exact wanted_none rfl | exact wanted_yes _ _ rfl rfl) rfl rfl ?_; simp only [Act.put, List.setIfInBounds_toArray, List.set_cons_zero, List.set_cons_succ])
          | (refine wk_not false _ _ (by first | exact wanted_none rfl | exact wanted_yes _ _ rfl rfl) rfl rfl ?_; simp only [Act.put, List.setIfInBounds_toArray, List.set_cons_zero, List.set_cons_succ]))
        repeat (first
          | (refine wk_move _ (by first | exact wanted_none rfl | exact wanted_yes _ _ rfl rfl) rfl ?_; simp only [Act.put, Act.eval, Array.getD_eq_getD_getElem?, List.getElem?_toArray, List.getElem?_cons_succ, List.getElem?_cons_zero, Option.getD_some, List.setIfInBounds_toArray, List.set_cons_zero, List.set_cons_succ])
          | (refine wk_assign _ (by first | exact wanted_none rfl | exact wanted_yes _ _ rfl rfl) rfl ?_; simp only [Act.put, Act.eval, Array.getD_eq_getD_getElem?, List.getElem?_toArray, List.getElem?_cons_succ, List.getElem?_cons_zero, Option.getD_some, List.setIfInBounds_toArray, List.set_cons_zero, List.set_cons_succ])
          | (refine wk_pickt _ _ _ _ (by first | exact wanted_none rfl | exact wanted_yes _ _ rfl rfl) rfl rfl rfl ?_; simp only [Act.put, Act.eval, Array.getD_eq_getD_getElem?, List.getElem?_toArray, List.getElem?_cons_succ, List.getElem?_cons_zero, Option.getD_some, List.setIfInBounds_toArray, List.set_cons_zero, List.set_cons_succ])
          | (refine wk_pickf _ _ _ _ (by first | exact wanted_none rfl | exact wanted_yes _ _ rfl rfl) rfl rfl rfl ?_; simp only [Act.put, Act.eval, Array.getD_eq_getD_getElem?, List.getElem?_toArray, List.getElem?_cons_succ, List.getElem?_cons_zero, Option.getD_some, List.setIfInBounds_toArray, List.set_cons_zero, List.set_cons_succ])
          | (refine wk_skip (wanted_not _ true false rfl rfl rfl) ?_; simp only [Act.put, List.setIfInBounds_toArray, List.set_cons_zero, List.set_cons_succ])
          | (refine wk_skip (wanted_not _ false true rfl rfl rfl) ?_; simp only [Act.put, List.setIfInBounds_toArray, List.set_cons_zero, List.set_cons_succ])
          | (refine wk_skip (wanted_undef _ _ rfl rfl) ?_; simp only [Act.put, List.setIfInBounds_toArray, List.set_cons_zero, List.set_cons_succ])
          | (refine wk_not true _ _ (by first | exact wanted_none rfl | exact wanted_yes _ _ rfl rfl) rfl rfl ?_; simp only [Act.put, List.setIfInBounds_toArray, List.set_cons_zero, List.set_cons_succ])
          | (refine wk_not false _ _ (by first | exact wanted_none rfl | exact wanted_yes _ _ rfl rfl) rfl rfl ?_; simp only [Act.put, List.setIfInBounds_toArray, List.set_cons_zero, List.set_cons_succ]))
        refine wk_nil ?_
        intro w' hC
        have R9 := Lib.hid (R8.out.since hC)
        clear hC
        go_wp2_with fail
        go_roundw
        case rel => exact ⟨k + 1, by omega, by go_num, R9.out⟩
        case measure => simp [intOf]; omega
      · obtain ⟨d1, d2⟩ := hdf hpq
        have HNE : Hid (cmpInt .neq (p.toNat : Int) (q.toNat : Int) = some true) := Lib.hid (by
          have : ¬ (p.toNat : Int) = (q.toNat : Int) := fun e => hpq (UInt8.toNat_inj.1 (by omega))
          simp [cmpInt, this])
        have HM4 : Hid (IntKind.i64.wrap (4 * (K : Int)) = ((4 * K : Nat) : Int)) := Lib.hid (by rw [IntKind.wrap_i64]; omega)
        have HA2 : Hid (IntKind.i64.wrap (2 + ((4 * K : Nat) : Int)) = ((2 + 4 * K : Nat) : Int)) := Lib.hid (by rw [IntKind.wrap_i64]; omega)
        have HA6 : Hid (IntKind.i64.wrap (6 + ((4 * K : Nat) : Int)) = ((6 + 4 * K : Nat) : Int)) := Lib.hid (by rw [IntKind.wrap_i64]; omega)
        have H1 : Hid (cmpInt .lss (k : Int) ((2 + 4 * K : Nat) : Int) = some false) := Lib.hid (by simp only [cmpInt]; congr 1; apply decide_eq_false; omega)
        have H2 : Hid (cmpInt .geq (k : Int) ((6 + 4 * K : Nat) : Int) = some false) := Lib.hid (by simp only [cmpInt]; congr 1; apply decide_eq_false; omega)
        clear hdf hpq d1 d2
        go_wp2_with fail
        refine wk_region_since (by kernel_rfl) (by kernel_rfl) ?_
        repeat (first
          | (refine wk_move _ (by first | exact wanted_none rfl | exact wanted_yes _ _ rfl rfl) rfl ?_; simp only [Act.put, Act.eval, Array.getD_eq_getD_getElem?, List.getElem?_toArray, List.getElem?_cons_succ, List.getElem?_cons_zero, Option.getD_some, List.setIfInBounds_toArray, List.set_cons_zero, List.set_cons_succ])
          | (refine wk_assign _ (by first | exact wanted_none rfl | exact wanted_yes _ _ rfl rfl) rfl ?_; simp only [Act.put, Act.eval, Array.getD_eq_getD_getElem?, List.getElem?_toArray, List.getElem?_cons_succ, List.getElem?_cons_zero, Option.getD_some, List.setIfInBounds_toArray, List.set_cons_zero, List.set_cons_succ])
          | (refine wk_pickt _ _ _ _ (by first | exact wanted_none rfl | exact wanted_yes _ _ rfl rfl) rfl rfl rfl ?_; simp only [Act.put, Act.eval, Array.getD_eq_getD_getElem?, List.getElem?_toArray, List.getElem?_cons_succ, List.getElem?_cons_zero, Option.getD_some, List.setIfInBounds_toArray, List.set_cons_zero, List.set_cons_succ])
          | (refine wk_pickf _ _ _ _ (by first | exact wanted_none rfl | exact wanted_yes _ _ rfl rfl) rfl rfl rfl ?_; simp only [Act.put, Act.eval, Array.getD_eq_getD_getElem?, List.getElem?_toArray, List.getElem?_cons_succ, List.getElem?_cons_zero, Option.getD_some, List.setIfInBounds_toArray, List.set_cons_zero, List.set_cons_succ])
          | (refine wk_skip (wanted_not _ true false rfl rfl rfl) ?_; simp only [Act.put, List.setIfInBounds_toArray, List.set_cons_zero, List.set_cons_succ])
          | (refine wk_skip (wanted_not _ false true rfl rfl rfl) ?_; simp only [Act.put, List.setIfInBounds_toArray, List.set_cons_zero, List.set_cons_succ])
          | (refine wk_skip (wanted_undef _ _ rfl rfl) ?_; simp only [Act.put, List.setIfInBounds_toArray, List.set_cons_zero, List.set_cons_succ])
          | (refine wk_not true _ _ (by first | exact wanted_none rfl | exact wanted_yes _ _ rfl rfl) rfl rfl ?_; simp only [Act.put, List.setIfInBounds_toArray, List.set_cons_zero, List.set_cons_succ])
          | (refine wk_not false _ _ (by first | exact wanted_none rfl | exact wanted_yes _ _ rfl rfl) rfl rfl ?_; simp only [Act.put, List.setIfInBounds_toArray, List.set_cons_zero, List.set_cons_succ]))
        refine wk_index_arr _ _ _ _ _ (k) (256) .i64 (by kernel_rfl) rfl Tryd.underlying33 sizeU8 rfl rfl (by omega) ?_
        simp only [Act.put, List.setIfInBounds_toArray, List.set_cons_zero, List.set_cons_succ]
        refine wk_load1 _ _ _ _ _ rfl (by kernel_rfl) rfl rfl (fun w' hC => hC.cell KA.out) Tryd.underlying5 ?_
        simp only [Act.put, List.setIfInBounds_toArray, List.set_cons_zero, List.set_cons_succ]
        repeat (first
          | (refine wk_move _ (by first | exact wanted_none rfl | exact wanted_yes _ _ rfl rfl) rfl ?_; simp only [Act.put, Act.eval, Array.getD_eq_getD_getElem?, List.getElem?_toArray, List.getElem?_cons_succ, List.getElem?_cons_zero, Option.getD_some, List.setIfInBounds_toArray, List.set_cons_zero, List.set_cons_succ])
          | (refine wk_assign _ (by first | exact wanted_none rfl | exact wanted_yes _ _ rfl rfl) rfl ?_; simp only [Act.put, Act.eval, Array.getD_eq_getD_getElem?, List.getElem?_toArray, List.getElem?_cons_succ, List.getElem?_cons_zero, Option.getD_some, List.setIfInBounds_toArray, List.set_cons_zero, List.set_cons_succ])
          | (refine wk_pickt _ _ _ _ (by first | exact wanted_none rfl | exact wanted_yes _ _ rfl rfl) rfl rfl rfl ?_; simp only [Act.put, Act.eval, Array.getD_eq_getD_getElem?, List.getElem?_toArray, List.getElem?_cons_succ, List.getElem?_cons_zero, Option.getD_some, List.setIfInBounds_toArray, List.set_cons_zero, List.set_cons_succ])
          | (refine wk_pickf _ _ _ _ (by first | exact wanted_none rfl | exact wanted_yes _ _ rfl rfl) rfl rfl rfl ?_; simp only [Act.put, Act.eval, Array.getD_eq_getD_getElem?, List.getElem?_toArray, List.getElem?_cons_succ, List.getElem?_cons_zero, Option.getD_some, List.setIfInBounds_toArray, List.set_cons_zero, List.set_cons_succ])
          | (refine wk_skip (wanted_not _ true false rfl rfl rfl) ?_; simp only [Act.put, List.setIfInBounds_toArray, List.set_cons_zero, List.set_cons_succ])
          | (refine wk_skip (wanted_not _ false true rfl rfl rfl) ?_; simp only [Act.put, List.setIfInBounds_toArray, List.set_cons_zero, List.set_cons_succ])
          | (refine wk_skip (wanted_undef _ _ rfl rfl) ?_; simp only [Act.put, List.setIfInBounds_toArray, List.set_cons_zero, List.set_cons_succ])
          | (refine wk_not true _ _ (by first | exact wanted_none rfl | exact wanted_yes _ _ rfl rfl) rfl rfl ?_; simp only [Act.put, List.setIfInBounds_toArray, List.set_cons_zero, List.set_cons_succ])
          | (refine wk_not false _ _ (by first | exact wanted_none rfl | exact wanted_yes _ _ rfl rfl) rfl rfl ?_; simp only [Act.put, List.setIfInBounds_toArray, List.set_cons_zero, List.set_cons_succ]))
        refine wk_index_arr _ _ _ _ _ (k) (256) .i64 (by kernel_rfl) rfl Tryd.underlying33 sizeU8 rfl rfl (by omega) ?_
        simp only [Act.put, List.setIfInBounds_toArray, List.set_cons_zero, List.set_cons_succ]
        refine wk_load1 _ _ _ _ _ rfl (by kernel_rfl) rfl rfl (fun w' hC => hC.cell KB.out) Tryd.underlying5 ?_
        simp only [Act.put, List.setIfInBounds_toArray, List.set_cons_zero, List.set_cons_succ]
        refine wk_cmp_int .neq (true) _ _ _ _ _ _ _ (by kernel_rfl) rfl rfl rfl (HNE.out) ?_
        simp only [Act.put, List.setIfInBounds_toArray, List.set_cons_zero, List.set_cons_succ]
        repeat (first
          | (refine wk_move _ (by first | exact wanted_none rfl | exact wanted_yes _ _ rfl rfl) rfl ?_; simp only [Act.put, Act.eval, Array.getD_eq_getD_getElem?, List.getElem?_toArray, List.getElem?_cons_succ, List.getElem?_cons_zero, Option.getD_some, List.setIfInBounds_toArray, List.set_cons_zero, List.set_cons_succ])
          | (refine wk_assign _ (by first | exact wanted_none rfl | exact wanted_yes _ _ rfl rfl) rfl ?_; simp only [Act.put, Act.eval, Array.getD_eq_getD_getElem?, List.getElem?_toArray, List.getElem?_cons_succ, List.getElem?_cons_zero, Option.getD_some, List.setIfInBounds_toArray, List.set_cons_zero, List.set_cons_succ])
          | (refine wk_pickt _ _ _ _ (by first | exact wanted_none rfl | exact wanted_yes _ _ rfl rfl) rfl rfl rfl ?_; simp only [Act.put, Act.eval, Array.getD_eq_getD_getElem?, List.getElem?_toArray, List.getElem?_cons_succ, List.getElem?_cons_zero, Option.getD_some, List.setIfInBounds_toArray, List.set_cons_zero, List.set_cons_succ])
          | (refine wk_pickf _ _ _ _ (by first | exact wanted_none rfl | exact wanted_yes _ _ rfl rfl) rfl rfl rfl ?_; simp only [Act.put, Act.eval, Array.getD_eq_getD_getElem?, List.getElem?_toArray, List.getElem?_cons_succ, List.getElem?_cons_zero, Option.getD_some, List.setIfInBounds_toArray, List.set_cons_zero, List.set_cons_succ])
          | (refine wk_skip (wanted_not _ true false rfl rfl rfl) ?_; simp only [Act.put, List.setIfInBounds_toArray, List.set_cons_zero, List.set_cons_succ])
          | (refine wk_skip (wanted_not _ false true rfl rfl rfl) ?_; simp only [Act.put, List.setIfInBounds_toArray, List.set_cons_zero, List.set_cons_succ])
          | (refine wk_skip (wanted_undef _ _ rfl rfl) ?_; simp only [Act.put, List.setIfInBounds_toArray, List.set_cons_zero, List.set_cons_succ])
          | (refine wk_not true _ _ (by first | exact wanted_none rfl | exact wanted_yes _ _ rfl rfl) rfl rfl ?_; simp only [Act.put, List.setIfInBounds_toArray, List.set_cons_zero, List.set_cons_succ])
          | (refine wk_not false _ _ (by first | exact wanted_none rfl | exact wanted_yes _ _ rfl rfl) rfl rfl ?_; simp only [Act.put, List.setIfInBounds_toArray, List.set_cons_zero, List.set_cons_succ]))
        refine wk_mulk .i64 _ _ _ _ _ _ _ (wanted_yes _ _ rfl rfl) rfl rfl rfl (HM4.out) ?_
        simp only [Act.put, List.setIfInBounds_toArray, List.set_cons_zero, List.set_cons_succ]
        refine wk_addk .i64 _ _ _ _ _ _ _ (wanted_yes _ _ rfl rfl) rfl rfl rfl (HA2.out) ?_
        simp only [Act.put, List.setIfInBounds_toArray, List.set_cons_zero, List.set_cons_succ]
        refine wk_cmp_int .lss false _ _ _ _ _ _ _ (wanted_yes _ _ rfl rfl) rfl rfl rfl (H1.out) ?_
        simp only [Act.put, List.setIfInBounds_toArray, List.set_cons_zero, List.set_cons_succ]
        repeat (first
          | (refine wk_move _ (by first | exact wanted_none rfl | exact wanted_yes _ _ rfl rfl) rfl ?_; simp only [Act.put, Act.eval, Array.getD_eq_getD_getElem?, List.getElem?_toArray, List.getElem?_cons_succ, List.getElem?_cons_zero, Option.getD_some, List.setIfInBounds_toArray, List.set_cons_zero, List.set_cons_succ])
          | (refine wk_assign _ (by first | exact wanted_none rfl | exact wanted_yes _ _ rfl rfl) rfl ?_; simp only [Act.put, Act.eval, Array.getD_eq_getD_getElem?, List.getElem?_toArray, List.getElem?_cons_succ, List.getElem?_cons_zero, Option.getD_some, List.setIfInBounds_toArray, List.set_cons_zero, List.set_cons_succ])
          | (refine wk_pickt _ _ _ _ (by first | exact wanted_none rfl | exact wanted_yes _ _ rfl rfl) rfl rfl rfl ?_; simp only [Act.put, Act.eval, Array.getD_eq_getD_getElem?, List.getElem?_toArray, List.getElem?_cons_succ, List.getElem?_cons_zero, Option.getD_some, List.setIfInBounds_toArray, List.set_cons_zero, List.set_cons_succ])
          | (refine wk_pickf _ _ _ _ (by first | exact wanted_none rfl | exact wanted_yes _ _ rfl rfl) rfl rfl rfl ?_; simp only [Act.put, Act.eval, Array.getD_eq_getD_getElem?, List.getElem?_toArray, List.getElem?_cons_succ, List.getElem?_cons_zero, Option.getD_some, List.setIfInBounds_toArray, List.set_cons_zero, List.set_cons_succ])
          | (refine wk_skip (wanted_not _ true false rfl rfl rfl) ?_; simp only [Act.put, List.setIfInBounds_toArray, List.set_cons_zero, List.set_cons_succ])
          | (refine wk_skip (wanted_not _ false true rfl rfl rfl) ?_; simp only [Act.put, List.setIfInBounds_toArray, List.set_cons_zero, List.set_cons_succ])
          | (refine wk_skip (wanted_undef _ _ rfl rfl) ?_; simp only [Act.put, List.setIfInBounds_toArray, List.set_cons_zero, List.set_cons_succ])
          | (refine wk_not true _ _ (by first | exact wanted_none rfl | exact wanted_yes _ _ rfl rfl) rfl rfl ?_; simp only [Act.put, List.setIfInBounds_toArray, List.set_cons_zero, List.set_cons_succ])
          | (refine wk_not false _ _ (by first | exact wanted_none rfl | exact wanted_yes _ _ rfl rfl) rfl rfl ?_; simp only [Act.put, List.setIfInBounds_toArray, List.set_cons_zero, List.set_cons_succ]))
        refine wk_mulk .i64 _ _ _ _ _ _ _ (wanted_yes _ _ rfl rfl) rfl rfl rfl (HM4.out) ?_
        simp only [Act.put, List.setIfInBounds_toArray, List.set_cons_zero, List.set_cons_succ]
        refine wk_addk .i64 _ _ _ _ _ _ _ (wanted_yes _ _ rfl rfl) rfl rfl rfl (HA6.out) ?_
        simp only [Act.put, List.setIfInBounds_toArray, List.set_cons_zero, List.set_cons_succ]
        refine wk_cmp_int .geq false _ _ _ _ _ _ _ (wanted_yes _ _ rfl rfl) rfl rfl rfl (H2.out) ?_
        simp only [Act.put, List.setIfInBounds_toArray, List.set_cons_zero, List.set_cons_succ]
        repeat (first
          | (refine wk_move _ (by first | exact wanted_none rfl | exact wanted_yes _ _ rfl rfl) rfl ?_; simp only [Act.put, Act.eval, Array.getD_eq_getD_getElem?, List.getElem?_toArray, List.getElem?_cons_succ, List.getElem?_cons_zero, Option.getD_some, List.setIfInBounds_toArray, List.set_cons_zero, List.set_cons_succ])
          | (refine wk_assign _ (by first | exact wanted_none rfl | exact wanted_yes _ _ rfl rfl) rfl ?_; simp only [Act.put, Act.eval, Array.getD_eq_getD_getElem?, List.getElem?_toArray, List.getElem?_cons_succ, List.getElem?_cons_zero, Option.getD_some, List.setIfInBounds_toArray, List.set_cons_zero, List.set_cons_succ])
          | (refine wk_pickt _ _ _ _ (by first | exact wanted_none rfl | exact wanted_yes _ _ rfl rfl) rfl rfl rfl ?_; simp only [Act.put, Act.eval, Array.getD_eq_getD_getElem?, List.getElem?_toArray, List.getElem?_cons_succ, List.getElem?_cons_zero, Option.getD_some, List.setIfInBounds_toArray, List.set_cons_zero, List.set_cons_succ])
          | (refine wk_pickf _ _ _ _ (by first | exact wanted_none rfl | exact wanted_yes _ _ rfl rfl) rfl rfl rfl ?_; simp only [Act.put, Act.eval, Array.getD_eq_getD_getElem?, List.getElem?_toArray, List.getElem?_cons_succ, List.getElem?_cons_zero, Option.getD_some, List.setIfInBounds_toArray, List.set_cons_zero, List.set_cons_succ])
          | (refine wk_skip (wanted_not _ true false rfl rfl rfl) ?_; simp only [Act.put, List.setIfInBounds_toArray, List.set_cons_zero, List.set_cons_succ])
          | (refine wk_skip (wanted_not _ false true rfl rfl rfl) ?_; simp only [Act.put, List.setIfInBounds_toArray, List.set_cons_zero, List.set_cons_succ])
          | (refine wk_skip (wanted_undef _ _ rfl rfl) ?_; simp only [Act.put, List.setIfInBounds_toArray, List.set_cons_zero, List.set_cons_succ])
          | (refine wk_not true _ _ (by first | exact wanted_none rfl | exact wanted_yes _ _ rfl rfl) rfl rfl ?_; simp only [Act.put, List.setIfInBounds_toArray, List.set_cons_zero, List.set_cons_succ])
          | (refine wk_not false _ _ (by first | exact wanted_none rfl | exact wanted_yes _ _ rfl rfl) rfl rfl ?_; simp only [Act.put, List.setIfInBounds_toArray, List.set_cons_zero, List.set_cons_succ]))
        refine wk_nil ?_
        intro w' hC
        have R9 := Lib.hid (R8.out.since hC)
        clear hC
        go_wp2_with fail
        go_roundw
        case rel => exact ⟨k + 1, by omega, by go_num, R9.out⟩
        case measure => simp [intOf]; omega
    · obtain rfl : k = 252 := by omega
      obtain ⟨wo, rfl⟩ : ∃ wo : World, wo = wr := ⟨_, rfl⟩
      go_wp2_with fail
      go_loopw [16, 17] (fun m i wr => ∃ k : Nat, k ≤ 32 ∧ i = .int .i64 k ∧ m = .int .i64 ((notZero (l1.take k)).length : Nat) ∧ Rows w wr [(g6, blk D3, 33), (g5, C3, 70), (g4, blk D2, 33), (g3, blk D1, 33), (g2, C2, 70), (g1, C1, 70)]) (fun _ i _ => 32 - (intOf i).toNat)
      case atStart => exact ⟨0, by omega, rfl, rfl, R8.out⟩
      case round =>
        obtain ⟨k, hk, rfl, rfl, hR⟩ := hrel
        have R9 := Lib.hid hR
        clear hR
        by_cases hlt : k < 32
        · have hkl : k < l1.length := by rw [HLEN.out]; exact hlt
          have c1 : wr.cell? ⟨g1, 1 + k, none⟩ = some (.int .u32 (l1[k] : Int)) := R9.out.cell 5 (1 + k) rfl (by rw [Nat.add_comm]; exact HCK.out k hkl)
          have H4 := Lib.hid (HNS.out k hkl)
          have hx := HALL.out k hkl
          have hsl := HNL.out k
          obtain ⟨x, hxe⟩ : ∃ x, x = l1[k] := ⟨_, rfl⟩
          rw [← hxe] at c1 H4 hx
          clear hxe hkl
          by_cases hx0 : x = 0
          · subst hx0
            have HE : Hid ((notZero (l1.take (k + 1))).length = (notZero (l1.take k)).length) := Lib.hid (by rw [H4.out]; simp)
            go_wp2_with fail
            exact ⟨⟨k + 1, by omega, by go_num, by rw [HE.out], R9.out⟩, by simp [intOf]; omega⟩
          · have hx1 : 0 < x := by omega
            have HE : Hid ((notZero (l1.take (k + 1))).length = (notZero (l1.take k)).length + 1) := Lib.hid (by rw [H4.out]; simp [hx0])
            obtain ⟨m, hm⟩ : ∃ m, m = (notZero (l1.take k)).length := ⟨_, rfl⟩
            rw [← hm] at HE hsl ⊢
            clear hm
            go_wp2_with fail
            exact ⟨⟨k + 1, by omega, by go_num, by rw [HE.out]; go_num, R9.out⟩, by simp [intOf]; omega⟩
        · obtain rfl : k = 32 := by omega
          have HT : Hid (l1.take 32 = l1) := Lib.hid (List.take_of_length_le (by rw [HLEN.out]; exact Nat.le_refl _))
          rw [HT.out]
          obtain ⟨w8, rfl⟩ : ∃ w8 : World, w8 = wr := ⟨_, rfl⟩
          go_wp2_with (refine wpList_load_row rfl 70 _ rfl g1 rfl 70 C1 (0, 0) _ (R9.out.get 5 rfl) Tryd.underlying70 rfl (by rw [HCS1.out]; exact sizeN) ?_)
          refine (HKIDS.out _).mono ?_
          rintro e w9 ⟨v, rfl, ⟨av, cv, rfl, _⟩, hb⟩
          have R10 := Lib.hid (R9.out.call hb)
          clear hb
          go_wp2_with fail
          refine (nodehead_any _).mono ?_
          rintro e w10 ⟨rfl, hb⟩
          have hfin := (R10.out.call hb).below
          clear hb
          go_wp2_with fail
          go_ret
          exact ⟨rfl, hfin⟩
end Go.Proofs.YtnhfkmfmmgaecaaDoor
