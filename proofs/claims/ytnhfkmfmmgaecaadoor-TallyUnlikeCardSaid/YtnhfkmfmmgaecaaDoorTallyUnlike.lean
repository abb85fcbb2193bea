/- The tally layer: the law TallyUnlike holds of every two tallies and pick. -/
import Derived.Test.YtnhfkmfmmgaecaaDoorTallyPuts
import Derived.Test.YtnhfkmfmmgaecaaDoorPageD
namespace Go.Proofs.YtnhfkmfmmgaecaaDoor
open Go.RowKit
set_option linter.unusedSimpArgs false
set_option maxRecDepth 100000
theorem done_magic {m m' : UInt8} {L L' : List UInt8} (h : L.length ≤ 251) (h' : L'.length ≤ 251) (e : doneB m L = doneB m' L') : m = m' := by
  have h1 := congrArg (List.take 1) (take_doneB m L h)
  have h2 := congrArg (List.take 1) (take_doneB m' L' h')
  rw [List.take_take, List.take_take, e] at h1
  rw [List.take_take, List.take_take, h1] at h2
  simpa [insideB] using h2
theorem noughts_set (l : List Nat) (k y : Nat) (hk : k < l.length) : noughts (l.set k y) + (if l[k] = 0 then 1 else 0) = noughts l + (if y = 0 then 1 else 0) := by
  unfold noughts
  induction l generalizing k with
  | nil => simp at hk
  | cons x l ih =>
    cases k with
    | zero =>
      simp only [List.set_cons_zero, List.getElem_cons_zero, List.filter_cons]
      by_cases hx : x = 0 <;> by_cases hy : y = 0 <;> simp [hx, hy]
    | succ k =>
      have hk' : k < l.length := by simpa using hk
      have := ih k hk'
      simp only [List.set_cons_succ, List.getElem_cons_succ, List.filter_cons]
      by_cases hx : x = 0 <;> simp [hx] <;> omega
theorem setT_ok {h h' : Nat} {l l' : List Nat} (p : POk 4 2 64 h l) (q : POk 4 2 64 h' l') (k : Nat) (hk : k < 64) : POk 4 2 64 h (l.set k (l'.getD k 0)) := by
  refine ⟨by rw [List.length_set, p.len], p.head, fun x hx => ?_⟩
  rcases List.mem_or_eq_of_mem_set hx with h1 | rfl
  · exact p.all x h1
  · have : k < l'.length := by rw [q.len]; exact hk
    rw [List.getD_eq_getElem?_getD, List.getElem?_eq_getElem this]
    exact q.all _ (List.getElem_mem this)
/-- A tally's block is no pick's. -/
theorem tiGet_tally {h : Nat} {l : List Nat} (p : POk 4 2 64 h l) (x : Nat) (hx : x < 16) : tiGetN (doneB 84 (pbytes 4 2 h l)) x = (0, ti0) ∧ tiGetE (doneB 84 (pbytes 4 2 h l)) x = 250 := by
  have hl : (doneB 84 (pbytes 4 2 h l)).length = 256 := length_doneB _ _ (tabytes_le p)
  have hz := done_ne_zero 84 (by decide) _ (tabytes_le p)
  have hi : ¬ isTi (doneB 84 (pbytes 4 2 h l)) x = true := by
    intro hi
    have := (isTi_iff _ hl x (by omega)).2 hi
    exact absurd (done_magic (tibytes_le (pOk_i _ hl x (by omega))) (tabytes_le p) this) (by decide)
  constructor
  · unfold tiGetN; rw [if_pos hx, if_neg hz, if_neg hi]
  · unfold tiGetE tigetE; rw [if_pos hx, if_neg hz, if_neg hi]
theorem taGet_pick {h : Nat} {l : List Nat} (p : POk 4 8 16 h l) (x : Nat) (hx : x < 16384) : taGetN (doneB 80 (pbytes 4 8 h l)) x = (0, ta0) ∧ taGetE (doneB 80 (pbytes 4 8 h l)) x = 250 := by
  have hl : (doneB 80 (pbytes 4 8 h l)).length = 256 := length_doneB _ _ (tibytes_le p)
  have hz := done_ne_zero 80 (by decide) _ (tibytes_le p)
  have hi : ¬ isTa (doneB 80 (pbytes 4 8 h l)) x = true := by
    intro hi
    have := (isTa_iff _ hl x (by omega)).2 hi
    exact absurd (done_magic (tabytes_le (pOk_a _ hl x (by omega))) (tibytes_le p) this) (by decide)
  constructor
  · unfold taGetN; rw [if_pos hx, if_neg hz, if_neg hi]
  · unfold taGetE tagetE; rw [if_pos hx, if_neg hz, if_neg hi]
set_option maxHeartbeats 8000000 in
theorem tallyunlike_any (a b p : Nat × List Nat) (ha : POk 4 2 64 a.1 a.2) (hb : POk 4 2 64 b.1 b.2) (hp : POk 4 8 16 p.1 p.2) (w : World) :
    Calls Tryd.prog 14 #[.agg (pcells .u32 .u16 a.1 a.2), .agg (pcells .u32 .u16 b.1 b.2), .agg (pcells .u32 .u64 p.1 p.2)] w fun e w' => e = .returned (.bool true) ∧ Below w.heap.size w w' := by
  obtain ⟨h1, l1⟩ := a
  obtain ⟨h2, l2⟩ := b
  obtain ⟨h3, l3⟩ := p
  simp only at ha hb hp ⊢
  obtain ⟨K, hK⟩ : ∃ K, K = h2 % 64 := ⟨_, rfl⟩
  have hK64 : K < 64 := by omega
  obtain ⟨x, hx⟩ : ∃ x, x = l1.getD K 0 := ⟨_, rfl⟩
  obtain ⟨y, hy⟩ : ∃ y, y = l2.getD K 0 := ⟨_, rfl⟩
  have hkl1 : K < l1.length := by rw [ha.len]; exact hK64
  have hkl2 : K < l2.length := by rw [hb.len]; exact hK64
  have hx1 : l1[K] = x := by rw [hx, List.getD_eq_getElem?_getD, List.getElem?_eq_getElem hkl1]; rfl
  have hy1 : l2[K] = y := by rw [hy, List.getD_eq_getElem?_getD, List.getElem?_eq_getElem hkl2]; rfl
  obtain ⟨l4, hl4⟩ : ∃ l, l = l1.set K y := ⟨_, rfl⟩
  have hc : POk 4 2 64 h1 l4 := by rw [hl4, hy]; exact setT_ok ha hb K hK64
  obtain ⟨C1, hC1⟩ : ∃ C, C = pcells .u32 .u16 h1 l1 := ⟨_, rfl⟩
  obtain ⟨C2, hC2⟩ : ∃ C, C = pcells .u32 .u16 h2 l2 := ⟨_, rfl⟩
  obtain ⟨P, hP⟩ : ∃ C, C = pcells .u32 .u64 h3 l3 := ⟨_, rfl⟩
  obtain ⟨C4, hC4⟩ : ∃ C, C = pcells .u32 .u16 h1 l4 := ⟨_, rfl⟩
  obtain ⟨D1, hD1⟩ : ∃ D, D = taputB h1 l1 := ⟨_, rfl⟩
  obtain ⟨D2, hD2⟩ : ∃ D, D = taputB h2 l2 := ⟨_, rfl⟩
  obtain ⟨D3, hD3⟩ : ∃ D, D = tiputB h3 l3 := ⟨_, rfl⟩
  obtain ⟨D4, hD4⟩ : ∃ D, D = taputB h1 l4 := ⟨_, rfl⟩
  obtain ⟨E1, hE1⟩ : ∃ E, E = taputE h1 := ⟨_, rfl⟩
  obtain ⟨E2, hE2⟩ : ∃ E, E = taputE h2 := ⟨_, rfl⟩
  obtain ⟨E3, hE3⟩ : ∃ E, E = tiputE h3 := ⟨_, rfl⟩
  have HL1 : Hid (D1.length = 256) := Lib.hid (by rw [hD1]; exact length_taputB ha)
  have HL2 : Hid (D2.length = 256) := Lib.hid (by rw [hD2]; exact length_taputB hb)
  have HL3 : Hid (D3.length = 256) := Lib.hid (by rw [hD3]; exact length_tiputB hp)
  have HL4 : Hid (D4.length = 256) := Lib.hid (by rw [hD4]; exact length_taputB hc)
  have HS1 : Hid ((blk D1).size = 256) := Lib.hid (by rw [size_blk, HL1.out])
  have HS2 : Hid ((blk D2).size = 256) := Lib.hid (by rw [size_blk, HL2.out])
  have HS3 : Hid ((blk D3).size = 256) := Lib.hid (by rw [size_blk, HL3.out])
  have HS4 : Hid ((blk D4).size = 256) := Lib.hid (by rw [size_blk, HL4.out])
  have HC1 : Hid (C1.size = 65) := Lib.hid (by rw [hC1]; exact size_tacells ha)
  have HC2 : Hid (C2.size = 65) := Lib.hid (by rw [hC2]; exact size_tacells hb)
  have HC4 : Hid (C4.size = 65) := Lib.hid (by rw [hC4]; exact size_tacells hc)
  have HPS : Hid (P.size = 17) := Lib.hid (by rw [hP]; exact size_ticells hp)
  have HO1 : Hid (C1.all (·.oneCell') = true) := Lib.hid (by rw [hC1]; exact pcells_one _ _ _ _)
  have HZ17 : Hid (tizero.size = 17) := Lib.hid tizero_size
  have HZ65 : Hid (tazero.size = 65) := Lib.hid tazero_size
  have HZO7 := Lib.hid tizero_one
  have HZO5 := Lib.hid tazero_one
  have K1 : Hid (∀ w, Calls Tryd.prog 46 #[.agg C1] w fun e w' => e = .returned (.tuple #[.agg (blk D1), .int .i64 E1]) ∧ Below w.heap.size w w') := Lib.hid (fun w => by rw [hC1, hD1, hE1]; exact taPut_any h1 l1 ha w)
  have K2 : Hid (∀ w, Calls Tryd.prog 46 #[.agg C2] w fun e w' => e = .returned (.tuple #[.agg (blk D2), .int .i64 E2]) ∧ Below w.heap.size w w') := Lib.hid (fun w => by rw [hC2, hD2, hE2]; exact taPut_any h2 l2 hb w)
  have K3 : Hid (∀ w, Calls Tryd.prog 48 #[.agg P] w fun e w' => e = .returned (.tuple #[.agg (blk D3), .int .i64 E3]) ∧ Below w.heap.size w w') := Lib.hid (fun w => by rw [hP, hD3, hE3]; exact tiPut_any h3 l3 hp w)
  have K4 : Hid (E1 = 0 → ∀ w, Calls Tryd.prog 46 #[.agg C4] w fun e w' => e = .returned (.tuple #[.agg (blk D4), .int .i64 0]) ∧ Below w.heap.size w w') := Lib.hid (fun e0 w => by
    have := taPut_any h1 l4 hc w
    rw [← hE1, e0] at this
    rw [hC4, hD4]; exact this)
  have T1 : Hid (E1 = 2 ∨ (E1 = 0 ∧ h1 < 16384)) := Lib.hid (by
    by_cases hm : h1 < 16384
    · right; exact ⟨by rw [hE1]; unfold taputE; rw [if_pos hm], hm⟩
    · left; rw [hE1]; unfold taputE; rw [if_neg hm])
  have T2 : Hid (E2 = 2 ∨ (E2 = 0 ∧ h2 < 16384)) := Lib.hid (by
    by_cases hm : h2 < 16384
    · right; exact ⟨by rw [hE2]; unfold taputE; rw [if_pos hm], hm⟩
    · left; rw [hE2]; unfold taputE; rw [if_neg hm])
  have T3 : Hid (E3 = 2 ∨ (E3 = 0 ∧ h3 < 16)) := Lib.hid (by
    by_cases hm : h3 < 16
    · right; exact ⟨by rw [hE3]; unfold tiputE; rw [if_pos hm], hm⟩
    · left; rw [hE3]; unfold tiputE; rw [if_neg hm])
  have KA : Hid (h1 < 16384 → h3 < 16 → ∀ w, Calls Tryd.prog 53 #[.agg (blk D1), .int .u32 (h3 : Int)] w fun e w' => e = .returned (.tuple #[.agg tizero, .int .i64 250]) ∧ Below w.heap.size w w') := Lib.hid (fun m1 m3 w => by
    have := tiGet_any D1 HL1.out h3 hp.head w
    have hD : D1 = doneB 84 (pbytes 4 2 h1 l1) := by rw [hD1]; unfold taputB; rw [if_pos m1]
    have hg := tiGet_tally ha h3 m3
    rw [← hD] at hg
    rw [hg.1, hg.2] at this
    exact this)
  have KB : Hid (h1 < 16384 → h3 < 16 → ∀ w, Calls Tryd.prog 52 #[.agg (blk D3), .int .u32 (h1 : Int)] w fun e w' => e = .returned (.tuple #[.agg tazero, .int .i64 250]) ∧ Below w.heap.size w w') := Lib.hid (fun m1 m3 w => by
    have := taGet_any D3 HL3.out h1 ha.head w
    have hD : D3 = doneB 80 (pbytes 4 8 h3 l3) := by rw [hD3]; unfold tiputB; rw [if_pos m3]
    have hg := taGet_pick hp h1 m1
    rw [← hD] at hg
    rw [hg.1, hg.2] at this
    exact this)
  have HDIFF : Hid (h1 < 16384 → ∀ i, i < 252 → D1.getD i 0 ≠ D4.getD i 0 → i = 5 + 2 * K ∨ i = 6 + 2 * K) := Lib.hid (fun m1 i hi hne => by
    have e1 : D1 = doneB 84 (pbytes 4 2 h1 l1) := by rw [hD1]; unfold taputB; rw [if_pos m1]
    have e4 : D4 = doneB 84 (pbytes 4 2 h1 (l1.set K y)) := by rw [hD4]; unfold taputB; rw [if_pos m1, hl4]
    apply Classical.byContradiction
    intro hcon
    apply hne
    have := page_differ 84 4 2 h1 64 l1 K y i ha.len hK64 (by decide) hi (by omega)
    rw [← e1, ← e4] at this
    rw [List.getD_eq_getElem?_getD, List.getD_eq_getElem?_getD, this])
  have HSAME : Hid (h1 < 16384 → h2 < 16384 → decide (D1 = D2) = (decide (h1 = h2) && decide (l1 = l2))) := Lib.hid (fun m1 m2 => by
    have e1 : D1 = doneB 84 (pbytes 4 2 h1 l1) := by rw [hD1]; unfold taputB; rw [if_pos m1]
    have e2 : D2 = doneB 84 (pbytes 4 2 h2 l2) := by rw [hD2]; unfold taputB; rw [if_pos m2]
    rw [Bool.eq_iff_iff]
    simp only [Bool.and_eq_true, decide_eq_true_eq]
    constructor
    · intro h
      rw [e1, e2] at h
      exact page_inj ha hb 84 (by decide) h
    · rintro ⟨rfl, rfl⟩
      rw [e1, e2])
  have HEB : Hid (∀ w : World, (binOp .eql 33 (.agg (blk D1)) (.agg (blk D2))).run Tryd.prog w = .ok (.bool (decide (D1 = D2))) w) := Lib.hid (fun w =>
    run_eql_blk w 33 5 256 Tryd.underlying33 Tryd.underlying5 sizeU8 D1 D2 HL1.out HL2.out)
  have HEN : Hid (∀ w : World, (binOp .eql 90 (.agg C1) (.agg C2)).run Tryd.prog w = .ok (.bool (decide (h1 = h2) && decide (l1 = l2))) w) := Lib.hid (fun w => by
    rw [hC1, hC2]; exact run_eql_tally w h1 h2 l1 l2 ha.len hb.len)
  have HY : Hid (C2[1 + K]? = some (.int .u16 (y : Int))) := Lib.hid (by rw [hC2, Nat.add_comm, pcells_get _ _ _ _ K hkl2, hy1])
  have HX : Hid (C1[1 + K]? = some (.int .u16 (x : Int))) := Lib.hid (by rw [hC1, Nat.add_comm, pcells_get _ _ _ _ K hkl1, hx1])
  have HY4 : Hid (C4[1 + K]? = some (.int .u16 (y : Int))) := Lib.hid (by
    have : K < l4.length := by rw [hc.len]; exact hK64
    rw [hC4, Nat.add_comm, pcells_get _ _ _ _ K this]
    congr 3
    simp [hl4])
  have HSET : Hid (C1.setIfInBounds (1 + K) (.int .u16 (y : Int)) = C4) := Lib.hid (by rw [hC1, hC4, hl4, Nat.add_comm, pcells_set])
  have HXB : Hid (x < 65536) := Lib.hid (by rw [← hx1]; exact ha.all _ (List.getElem_mem hkl1))
  have HYB : Hid (y < 65536) := Lib.hid (by rw [← hy1]; exact hb.all _ (List.getElem_mem hkl2))
  have H10 : Hid (C1[0]? = some (.int .u32 (h1 : Int))) := Lib.hid (by rw [hC1]; rfl)
  have H20 : Hid (C2[0]? = some (.int .u32 (h2 : Int))) := Lib.hid (by rw [hC2]; rfl)
  have H30 : Hid (P[0]? = some (.int .u32 (h3 : Int))) := Lib.hid (by rw [hP]; rfl)
  obtain ⟨n1, hn1⟩ : ∃ n, n = noughts l1 := ⟨_, rfl⟩
  obtain ⟨n4, hn4⟩ : ∃ n, n = noughts l4 := ⟨_, rfl⟩
  have HNN : Hid (n4 + (if x = 0 then 1 else 0) = n1 + (if y = 0 then 1 else 0)) := Lib.hid (by
    have := noughts_set l1 K y hkl1
    rw [hx1] at this
    rw [hn4, hn1, hl4]; exact this)
  have HNB : Hid (n1 ≤ 64) := Lib.hid (by rw [hn1, ← ha.len]; exact noughts_le l1)
  have HN4 : Hid (n4 ≤ 64) := Lib.hid (by rw [hn4, ← hc.len]; exact noughts_le l4)
  have Z1 : Hid (∀ w, Calls Tryd.prog 50 #[.agg C1] w fun e w' => e = .returned (.int .i64 (n1 : Nat)) ∧ Below w.heap.size w w') := Lib.hid (fun w => by rw [hC1, hn1]; exact zeros_any h1 l1 ha w)
  have Z4 : Hid (∀ w, Calls Tryd.prog 50 #[.agg C4] w fun e w' => e = .returned (.int .i64 (n4 : Nat)) ∧ Below w.heap.size w w') := Lib.hid (fun w => by rw [hC4, hn4]; exact zeros_any h1 l4 hc w)
  have HKM : Hid ((h2 : Int) % 64 = (K : Int)) := Lib.hid (by omega)
  have HH2 : Hid (h2 < 4294967296) := Lib.hid hb.head
  rw [← hC1, ← hC2, ← hP]
  clear hC1 hC2 hP hC4 hD1 hD2 hD3 hD4 hE1 hE2 hE3 hx hy hl4 hc ha hb hp hK hn1 hn4 hx1 hy1 hkl1 hkl2
  have q1 := (((Rows.start w).alloc C1 90).alloc C2 90).alloc P 93
  obtain ⟨g1, hg1⟩ : ∃ g, g = w.heap.size := ⟨_, rfl⟩
  obtain ⟨g2, hg2⟩ : ∃ g, g = (w.alloc (.cells C1 90)).heap.size := ⟨_, rfl⟩
  obtain ⟨g3, hg3⟩ : ∃ g, g = ((w.alloc (.cells C1 90)).alloc (.cells C2 90)).heap.size := ⟨_, rfl⟩
  rw [← hg3, ← hg2, ← hg1] at q1
  have hg2' : w.heap.size + 1 = g2 := by rw [hg2]; simp
  have hg3' : w.heap.size + 2 = g3 := by rw [hg3]; simp
  have G1 := Lib.hid hg1
  have G2 := Lib.hid hg2'
  have G3 := Lib.hid hg3'
  have Q1 := Lib.hid q1
  clear hg1 hg2 hg3 hg2' hg3' q1
  go_enter Tryd.func14, Tryd.ntmps14
  go_upto_region 1 with (fail)
  have q1 := Q1.out
  obtain ⟨W1, hW⟩ : ∃ W, W = ((w.alloc (.cells C1 90)).alloc (.cells C2 90)).alloc (.cells P 93) := ⟨_, rfl⟩
  rw [← hW] at q1 ⊢
  rw [G3.out, G2.out, ← G1.out]
  have R1 := Lib.hid q1
  clear hW q1 Q1 G1 G2 G3
  go_wp2_with (refine wpList_load_row rfl 90 _ rfl g1 rfl 90 C1 (0, 0) _ (R1.out.get 2 rfl) Tryd.underlying90 rfl (by rw [HC1.out]; exact sizeTally) ?_)
  refine (K1.out _).mono ?_
  rintro e w2 ⟨rfl, hb⟩
  have q1 := (R1.out.call hb).alloc (blk D1) 33
  clear hb
  go_upto_region 2 with (first | refine wpList_alloc_row rfl 33 rfl _ zeroB ?_ | refine wpList_store_new rfl 33 _ _ rfl _ (blk D1) _ rfl rfl (by rw [HS1.out]; exact sizeB) (by rw [HS1.out, size_zeros]) (blk_one _) ?_)
  obtain ⟨W2, hW⟩ : ∃ W, W = w2.alloc (.cells (blk D1) 33) := ⟨_, rfl⟩
  rw [← hW] at q1 ⊢
  clear hW
  obtain ⟨g4, hg⟩ : ∃ g, g = w2.heap.size := ⟨_, rfl⟩
  rw [← hg] at q1 ⊢
  clear hg
  have R2 := Lib.hid q1
  clear q1
  go_wp2_with (refine wpList_load_row rfl 90 _ rfl g2 rfl 90 C2 (0, 0) _ (R2.out.get 2 rfl) Tryd.underlying90 rfl (by rw [HC2.out]; exact sizeTally) ?_)
  refine (K2.out _).mono ?_
  rintro e w3 ⟨rfl, hb⟩
  have q1 := (R2.out.call hb).alloc (blk D2) 33
  clear hb
  go_upto_region 3 with (first | refine wpList_alloc_row rfl 33 rfl _ zeroB ?_ | refine wpList_store_new rfl 33 _ _ rfl _ (blk D2) _ rfl rfl (by rw [HS2.out]; exact sizeB) (by rw [HS2.out, size_zeros]) (blk_one _) ?_)
  obtain ⟨W3, hW⟩ : ∃ W, W = w3.alloc (.cells (blk D2) 33) := ⟨_, rfl⟩
  rw [← hW] at q1 ⊢
  clear hW
  obtain ⟨g5, hg⟩ : ∃ g, g = w3.heap.size := ⟨_, rfl⟩
  rw [← hg] at q1 ⊢
  clear hg
  have R3 := Lib.hid q1
  clear q1
  go_wp2_with (refine wpList_load_row rfl 93 _ rfl g3 rfl 93 P (0, 0) _ (R3.out.get 2 rfl) Tryd.underlying93 rfl (by rw [HPS.out]; exact sizePick) ?_)
  refine (K3.out _).mono ?_
  rintro e w4 ⟨rfl, hb⟩
  have q1 := (R3.out.call hb).alloc (blk D3) 33
  clear hb
  go_upto_region 4 with (first | refine wpList_alloc_row rfl 33 rfl _ zeroB ?_ | refine wpList_store_new rfl 33 _ _ rfl _ (blk D3) _ rfl rfl (by rw [HS3.out]; exact sizeB) (by rw [HS3.out, size_zeros]) (blk_one _) ?_)
  obtain ⟨W4, hW⟩ : ∃ W, W = w4.alloc (.cells (blk D3) 33) := ⟨_, rfl⟩
  rw [← hW] at q1 ⊢
  clear hW
  obtain ⟨g6, hg⟩ : ∃ g, g = w4.heap.size := ⟨_, rfl⟩
  rw [← hg] at q1 ⊢
  clear hg
  have R4 := Lib.hid q1
  clear q1
  rcases T1.out with t1 | ⟨t1, m1⟩
  · obtain rfl : E1 = 2 := t1
    go_wp2_with fail
    refine (tallyhead_any _).mono ?_
    rintro e w12 ⟨rfl, hb⟩
    have hfin := (R4.out.call hb).below
    clear hb
    go_wp2_with fail
    go_ret
    exact ⟨rfl, hfin⟩
  obtain rfl : E1 = 0 := t1
  rcases T2.out with t2 | ⟨t2, m2⟩
  · obtain rfl : E2 = 2 := t2
    clear m1
    go_wp2_with fail
    refine (tallyhead_any _).mono ?_
    rintro e w12 ⟨rfl, hb⟩
    have hfin := (R4.out.call hb).below
    clear hb
    go_wp2_with fail
    go_ret
    exact ⟨rfl, hfin⟩
  obtain rfl : E2 = 0 := t2
  rcases T3.out with t3 | ⟨t3, m3⟩
  · obtain rfl : E3 = 2 := t3
    clear m1 m2
    go_wp2_with fail
    refine (tallyhead_any _).mono ?_
    rintro e w12 ⟨rfl, hb⟩
    have hfin := (R4.out.call hb).below
    clear hb
    go_wp2_with fail
    go_ret
    exact ⟨rfl, hfin⟩
  obtain rfl : E3 = 0 := t3
  have KAA := Lib.hid (KA.out m1 m3)
  have KBB := Lib.hid (KB.out m1 m3)
  have HDF := Lib.hid (HDIFF.out m1)
  have HKK := Lib.hid (K4.out rfl)
  have hS := HSAME.out m1 m2
  rw [← hS] at HEN
  obtain ⟨s, hs⟩ : ∃ s, s = decide (D1 = D2) := ⟨_, rfl⟩
  rw [← hs] at HEN HEB
  clear hS hs HSAME HDIFF KA KB K4 m1 m2 m3 T1 T2 T3
  obtain ⟨TI, hTI⟩ : ∃ T, T = tizero := ⟨_, rfl⟩
  obtain ⟨TA, hTA⟩ : ∃ T, T = tazero := ⟨_, rfl⟩
  rw [← hTI] at KAA HZ17 HZO7
  rw [← hTA] at KBB HZ65 HZO5
  clear hTI hTA
  have c3 := R4.out.cell 3 0 rfl H30.out
  go_wp2_with (refine wpList_load_row rfl 33 _ rfl g4 rfl 33 (blk D1) (0, 0) _ (R4.out.get 2 rfl) Tryd.underlying33 rfl (by rw [HS1.out]; exact sizeB) ?_)
  refine (KAA.out _).mono ?_
  rintro e w5 ⟨rfl, hb⟩
  have q1 := (R4.out.call hb).alloc TI 93
  clear hb
  go_upto_region 7 with (first | refine wpList_alloc_row rfl 93 rfl _ zero_ti ?_ | refine wpList_store_new rfl 93 _ _ rfl _ TI _ rfl rfl (by rw [HZ17.out]; exact sizePick) (by rw [HZ17.out]; first | rfl | exact tizero_size.symm | exact tazero_size.symm) HZO7.out ?_)
  obtain ⟨W5, hW⟩ : ∃ W, W = w5.alloc (.cells TI 93) := ⟨_, rfl⟩
  rw [← hW] at q1 ⊢
  clear hW
  obtain ⟨g7, hg⟩ : ∃ g, g = w5.heap.size := ⟨_, rfl⟩
  rw [← hg] at q1 ⊢
  clear hg
  have R5 := Lib.hid q1
  clear q1
  clear c3
  have c1 := R5.out.cell 6 0 rfl H10.out
  go_wp2_with (refine wpList_load_row rfl 33 _ rfl g6 rfl 33 (blk D3) (0, 0) _ (R5.out.get 1 rfl) Tryd.underlying33 rfl (by rw [HS3.out]; exact sizeB) ?_)
  refine (KBB.out _).mono ?_
  rintro e w6 ⟨rfl, hb⟩
  have q1 := (R5.out.call hb).alloc TA 90
  clear hb
  go_upto_region 8 with (first | refine wpList_alloc_row rfl 90 rfl _ zero_ta ?_ | refine wpList_store_new rfl 90 _ _ rfl _ TA _ rfl rfl (by rw [HZ65.out]; exact sizeTally) (by rw [HZ65.out]; first | rfl | exact tizero_size.symm | exact tazero_size.symm) HZO5.out ?_)
  obtain ⟨W6, hW⟩ : ∃ W, W = w6.alloc (.cells TA 90) := ⟨_, rfl⟩
  rw [← hW] at q1 ⊢
  clear hW
  obtain ⟨g8, hg⟩ : ∃ g, g = w6.heap.size := ⟨_, rfl⟩
  rw [← hg] at q1 ⊢
  clear hg
  have R6 := Lib.hid q1
  clear q1
  clear c1
  refine wk_region_since (by kernel_rfl) (by kernel_rfl) ?_
  refine wk_load_row 33 _ g4 33 (blk D1) (0, 0) _ (by kernel_rfl) rfl rfl (fun w' hC => hC.row (R6.out.get 4 rfl)) Tryd.underlying33 rfl (by rw [HS1.out]; exact sizeB) ?_
  simp only [Act.put, List.setIfInBounds_toArray, List.set_cons_zero, List.set_cons_succ]
  refine wk_load_row 33 _ g5 33 (blk D2) (0, 0) _ (by kernel_rfl) rfl rfl (fun w' hC => hC.row (R6.out.get 3 rfl)) Tryd.underlying33 rfl (by rw [HS2.out]; exact sizeB) ?_
  simp only [Act.put, List.setIfInBounds_toArray, List.set_cons_zero, List.set_cons_succ]
  refine wk_eql .eql (s) 33 33 _ _ (by first | exact wanted_none rfl | exact wanted_yes _ _ rfl rfl) rfl _ _ rfl rfl (by kernel_rfl) (fun w => HEB.out w) ?_
  simp only [Act.put, List.setIfInBounds_toArray, List.set_cons_zero, List.set_cons_succ]
  refine wk_load_row 90 _ g1 90 C1 (0, 0) _ (by kernel_rfl) rfl rfl (fun w' hC => hC.row (R6.out.get 7 rfl)) Tryd.underlying90 rfl (by rw [HC1.out]; exact sizeTally) ?_
  simp only [Act.put, List.setIfInBounds_toArray, List.set_cons_zero, List.set_cons_succ]
  refine wk_load_row 90 _ g2 90 C2 (0, 0) _ (by kernel_rfl) rfl rfl (fun w' hC => hC.row (R6.out.get 6 rfl)) Tryd.underlying90 rfl (by rw [HC2.out]; exact sizeTally) ?_
  simp only [Act.put, List.setIfInBounds_toArray, List.set_cons_zero, List.set_cons_succ]
  refine wk_eql .eql (s) 90 90 _ _ (by first | exact wanted_none rfl | exact wanted_yes _ _ rfl rfl) rfl _ _ rfl rfl (by kernel_rfl) (fun w => HEN.out w) ?_
  simp only [Act.put, List.setIfInBounds_toArray, List.set_cons_zero, List.set_cons_succ]
  refine wk_neq_bool false _ _ _ _ _ _ (by kernel_rfl) rfl Tryd.underlying4 rfl rfl (by cases s <;> rfl) ?_
  simp only [Act.put, List.setIfInBounds_toArray, List.set_cons_zero, List.set_cons_succ]
  repeat (first
    | (refine wk_move _ (by first | exact wanted_none rfl | exact wanted_yes _ _ rfl rfl) rfl ?_; simp only [Act.put, Act.eval, Array.getD_eq_getD_getElem?, List.getElem?_toArray, List.getElem?_cons_succ, List.getElem?_cons_zero, Option.getD_some, List.setIfInBounds_toArray, List.set_cons_zero, List.set_cons_succ])
    | (refine wk_assign _ (by first | exact wanted_none rfl | exact wanted_yes _ _ rfl rfl) rfl ?_; simp only [Act.put, Act.eval, Array.getD_eq_getD_getElem?, List.getElem?_toArray, List.getElem?_cons_succ, List.getElem?_cons_zero, Option.getD_some, List.setIfInBounds_toArray, List.set_cons_zero, List.set_cons_succ])
    | (refine wk_pickt _ _ _ _ (by first | exact wanted_none rfl | exact wanted_yes _ _ rfl rfl) rfl rfl rfl ?_; simp only [Act.put, Act.eval, Array.getD_eq_getD_getElem?, List.getElem?_toArray, List.getElem?_cons_succ, List.getElem?_cons_zero, Option.getD_some, List.setIfInBounds_toArray, List.set_cons_zero, List.set_cons_succ])
    | (refine wk_pickf _ _ _ _ (by first | exact wanted_none rfl | exact wanted_yes _ _ rfl rfl) rfl rfl rfl ?_; simp only [Act.put, Act.eval, Array.getD_eq_getD_getElem?, List.getElem?_toArray, List.getElem?_cons_succ, List.getElem?_cons_zero, Option.getD_some, List.setIfInBounds_toArray, List.set_cons_zero, List.set_cons_succ])
    | (refine wk_skip (wanted_not _ true false rfl rfl rfl) ?_; simp only [Act.put, List.setIfInBounds_toArray, List.set_cons_zero, List.set_cons_succ])
    | (refine wk_skip (wanted_not _ false true rfl rfl rfl) ?_; simp only [Act.put, List.setIfInBounds_toArray, List.set_cons_zero, List.set_cons_succ])
    | (refine wk_skip (wanted_undef _ _ rfl rfl) ?_; simp only [Act.put, List.setIfInBounds_toArray, List.set_cons_zero, List.set_cons_succ])
    | (refine wk_not true _ _ (by first | exact wanted_none rfl | exact wanted_yes _ _ rfl rfl) rfl rfl ?_; simp only [Act.put, List.setIfInBounds_toArray, List.set_cons_zero, List.set_cons_succ])
    | (refine wk_not false _ _ (by first | exact wanted_none rfl | exact wanted_yes _ _ rfl rfl) rfl rfl ?_; simp only [Act.put, List.setIfInBounds_toArray, List.set_cons_zero, List.set_cons_succ]))
  refine wk_cmp_int .neq (false) _ _ _ _ _ _ _ (by kernel_rfl) rfl rfl rfl (rfl) ?_
  simp only [Act.put, List.setIfInBounds_toArray, List.set_cons_zero, List.set_cons_succ]
  repeat (first
    | (refine wk_move _ (by first | exact wanted_none rfl | exact wanted_yes _ _ rfl rfl) rfl ?_; simp only [Act.put, Act.eval, Array.getD_eq_getD_getElem?, List.getElem?_toArray, List.getElem?_cons_succ, List.getElem?_cons_zero, Option.getD_some, List.setIfInBounds_toArray, List.set_cons_zero, List.set_cons_succ])
    | (refine wk_assign _ (by first | exact wanted_none rfl | exact wanted_yes _ _ rfl rfl) rfl ?_; simp only [Act.put, Act.eval, Array.getD_eq_getD_getElem?, List.getElem?_toArray, List.getElem?_cons_succ, List.getElem?_cons_zero, Option.getD_some, List.setIfInBounds_toArray, List.set_cons_zero, List.set_cons_succ])
    | (refine wk_pickt _ _ _ _ (by first | exact wanted_none rfl | exact wanted_yes _ _ rfl rfl) rfl rfl rfl ?_; simp only [Act.put, Act.eval, Array.getD_eq_getD_getElem?, List.getElem?_toArray, List.getElem?_cons_succ, List.getElem?_cons_zero, Option.getD_some, List.setIfInBounds_toArray, List.set_cons_zero, List.set_cons_succ])
    | (refine wk_pickf _ _ _ _ (by first | exact wanted_none rfl | exact wanted_yes _ _ rfl rfl) rfl rfl rfl ?_; simp only [Act.put, Act.eval, Array.getD_eq_getD_getElem?, List.getElem?_toArray, List.getElem?_cons_succ, List.getElem?_cons_zero, Option.getD_some, List.setIfInBounds_toArray, List.set_cons_zero, List.set_cons_succ])
    | (refine wk_skip (wanted_not _ true false rfl rfl rfl) ?_; simp only [Act.put, List.setIfInBounds_toArray, List.set_cons_zero, List.set_cons_succ])
    | (refine wk_skip (wanted_not _ false true rfl rfl rfl) ?_; simp only [Act.put, List.setIfInBounds_toArray, List.set_cons_zero, List.set_cons_succ])
    | (refine wk_skip (wanted_undef _ _ rfl rfl) ?_; simp only [Act.put, List.setIfInBounds_toArray, List.set_cons_zero, List.set_cons_succ])
    | (refine wk_not true _ _ (by first | exact wanted_none rfl | exact wanted_yes _ _ rfl rfl) rfl rfl ?_; simp only [Act.put, List.setIfInBounds_toArray, List.set_cons_zero, List.set_cons_succ])
    | (refine wk_not false _ _ (by first | exact wanted_none rfl | exact wanted_yes _ _ rfl rfl) rfl rfl ?_; simp only [Act.put, List.setIfInBounds_toArray, List.set_cons_zero, List.set_cons_succ]))
  refine wk_cmp_int .neq (false) _ _ _ _ _ _ _ (by kernel_rfl) rfl rfl rfl (rfl) ?_
  simp only [Act.put, List.setIfInBounds_toArray, List.set_cons_zero, List.set_cons_succ]
  repeat (first
    | (refine wk_move _ (by first | exact wanted_none rfl | exact wanted_yes _ _ rfl rfl) rfl ?_; simp only [Act.put, Act.eval, Array.getD_eq_getD_getElem?, List.getElem?_toArray, List.getElem?_cons_succ, List.getElem?_cons_zero, Option.getD_some, List.setIfInBounds_toArray, List.set_cons_zero, List.set_cons_succ])
    | (refine wk_assign _ (by first | exact wanted_none rfl | exact wanted_yes _ _ rfl rfl) rfl ?_; simp only [Act.put, Act.eval, Array.getD_eq_getD_getElem?, List.getElem?_toArray, List.getElem?_cons_succ, List.getElem?_cons_zero, Option.getD_some, List.setIfInBounds_toArray, List.set_cons_zero, List.set_cons_succ])
    | (refine wk_pickt _ _ _ _ (by first | exact wanted_none rfl | exact wanted_yes _ _ rfl rfl) rfl rfl rfl ?_; simp only [Act.put, Act.eval, Array.getD_eq_getD_getElem?, List.getElem?_toArray, List.getElem?_cons_succ, List.getElem?_cons_zero, Option.getD_some, List.setIfInBounds_toArray, List.set_cons_zero, List.set_cons_succ])
    | (refine wk_pickf _ _ _ _ (by first | exact wanted_none rfl | exact wanted_yes _ _ rfl rfl) rfl rfl rfl ?_; simp only [Act.put, Act.eval, Array.getD_eq_getD_getElem?, List.getElem?_toArray, List.getElem?_cons_succ, List.getElem?_cons_zero, Option.getD_some, List.setIfInBounds_toArray, List.set_cons_zero, List.set_cons_succ])
    | (refine wk_skip (wanted_not _ true false rfl rfl rfl) ?_; simp only [Act.put, List.setIfInBounds_toArray, List.set_cons_zero, List.set_cons_succ])
    | (refine wk_skip (wanted_not _ false true rfl rfl rfl) ?_; simp only [Act.put, List.setIfInBounds_toArray, List.set_cons_zero, List.set_cons_succ])
    | (refine wk_skip (wanted_undef _ _ rfl rfl) ?_; simp only [Act.put, List.setIfInBounds_toArray, List.set_cons_zero, List.set_cons_succ])
    | (refine wk_not true _ _ (by first | exact wanted_none rfl | exact wanted_yes _ _ rfl rfl) rfl rfl ?_; simp only [Act.put, List.setIfInBounds_toArray, List.set_cons_zero, List.set_cons_succ])
    | (refine wk_not false _ _ (by first | exact wanted_none rfl | exact wanted_yes _ _ rfl rfl) rfl rfl ?_; simp only [Act.put, List.setIfInBounds_toArray, List.set_cons_zero, List.set_cons_succ]))
  refine wk_nil ?_
  intro w' hC
  have R7 := Lib.hid (R6.out.since hC)
  clear hC
  have c2 := R7.out.cell 6 0 rfl H20.out
  have hh2 := HH2.out
  have q1 := Lib.hid (R7.out.alloc C1 90)
  go_upto_region 12 with (first
    | refine wpList_load_row rfl 90 _ rfl g1 rfl 90 C1 (0, 0) _ (R7.out.get 7 rfl) Tryd.underlying90 rfl (by rw [HC1.out]; exact sizeTally) ?_
    | refine wpList_alloc_row rfl 90 rfl _ zero_ta ?_
    | refine wpList_store_new rfl 90 _ _ rfl _ C1 _ rfl rfl (by rw [HC1.out]; exact sizeTally) (by rw [HC1.out]; rfl) HO1.out ?_)
  clear c2 hh2
  have q1 := q1.out
  obtain ⟨W8, hW⟩ : ∃ W, W = w'.alloc (.cells C1 90) := ⟨_, rfl⟩
  rw [← hW] at q1 ⊢
  clear hW
  obtain ⟨g9, hg⟩ : ∃ g, g = w'.heap.size := ⟨_, rfl⟩
  rw [← hg] at q1 ⊢
  clear hg
  have R8 := Lib.hid q1
  clear q1
  rw [HKM.out]
  have k1 : W8.cell? ⟨g2, 1 + K, none⟩ = some (.int .u16 (y : Int)) := R8.out.cell 7 (1 + K) rfl HY.out
  have hc := R8.out.cell 0 (1 + K) rfl (HX.out)
  have hf := R8.out.free 0 (1 + K) rfl
  have q0 := Lib.hid (R8.out.setCell 0 (1 + K) (.int .u16 (y : Int)) rfl)
  go_upto_region 13 with (fail)
  have q1 := q0.out
  clear q0 hc hf
  obtain ⟨W9, hW⟩ : ∃ W, W = W8.setCell ⟨g9, (1 + K), none⟩ (.int .u16 (y : Int)) := ⟨_, rfl⟩
  rw [← hW] at q1 ⊢
  clear hW
  simp only [List.set_cons_zero, List.set_cons_succ] at q1
  have R9 := Lib.hid q1
  clear q1
  clear k1
  rw [HSET.out] at R9
  go_wp2_with (refine wpList_load_row rfl 90 _ rfl g9 rfl 90 C4 (0, 0) _ (R9.out.get 0 rfl) Tryd.underlying90 rfl (by rw [HC4.out]; exact sizeTally) ?_)
  refine (HKK.out _).mono ?_
  rintro e w10 ⟨rfl, hb⟩
  have q1 := (R9.out.call hb).alloc (blk D4) 33
  clear hb
  go_upto_region 14 with (first | refine wpList_alloc_row rfl 33 rfl _ zeroB ?_ | refine wpList_store_new rfl 33 _ _ rfl _ (blk D4) _ rfl rfl (by rw [HS4.out]; exact sizeB) (by rw [HS4.out, size_zeros]) (blk_one _) ?_)
  obtain ⟨W10, hW⟩ : ∃ W, W = w10.alloc (.cells (blk D4) 33) := ⟨_, rfl⟩
  rw [← hW] at q1 ⊢
  clear hW
  obtain ⟨g10, hg⟩ : ∃ g, g = w10.heap.size := ⟨_, rfl⟩
  rw [← hg] at q1 ⊢
  clear hg
  have R10 := Lib.hid q1
  clear q1
  have HD1G : Hid (∀ k, k < 252 → (blk D1)[k]? = some (.int .u8 ((D1.getD k 0).toNat : Int))) := Lib.hid (fun k hk => blk_atT _ _ (by rw [HL1.out]; omega))
  have HD4G : Hid (∀ k, k < 252 → (blk D4)[k]? = some (.int .u8 ((D4.getD k 0).toNat : Int))) := Lib.hid (fun k hk => blk_atT _ _ (by rw [HL4.out]; omega))
  go_wp2_with fail
  go_loopw [21] (fun i wr => ∃ k : Nat, k ≤ 252 ∧ i = .int .i64 k ∧ Rows w wr [(g10, blk D4, 33), (g9, C4, 90), (g8, TA, 90), (g7, TI, 93), (g6, blk D3, 33), (g5, blk D2, 33), (g4, blk D1, 33), (g3, P, 93), (g2, C2, 90), (g1, C1, 90)]) (fun i _ => 252 - (intOf i).toNat)
  case atStart => exact ⟨0, by omega, rfl, R10.out⟩
  case round =>
    obtain ⟨k, hk, rfl, hR⟩ := hrel
    have R11 := Lib.hid hR
    clear hR
    by_cases hlt : k < 252
    · have ka := R11.out.cell 6 k rfl (HD1G.out k hlt)
      have kb := R11.out.cell 0 k rfl (HD4G.out k hlt)
      have hdf := HDF.out k hlt
      obtain ⟨p, hp⟩ : ∃ p, p = D1.getD k 0 := ⟨_, rfl⟩
      obtain ⟨q, hq⟩ : ∃ q, q = D4.getD k 0 := ⟨_, rfl⟩
      rw [← hp] at ka hdf
      rw [← hq] at kb hdf
      have KA := Lib.hid ka
      have KB := Lib.hid kb
      clear hp hq ka kb
      by_cases hpq : p = q
      · subst hpq
        clear hdf
        go_wp2_with fail
        refine wk_region_since (by kernel_rfl) (by kernel_rfl) ?_
        repeat (first
          | (refine wk_move _ (by first | exact wanted_none rfl | exact wanted_yes _ _ rfl rfl) rfl ?_; simp only [Act.put, Act.eval, Array.getD_eq_getD_getElem?, List.getElem?_toArray, List.getElem?_cons_succ, List.getElem?_cons_zero, Option.getD_some, List.setIfInBounds_toArray, List.set_cons_zero, List.set_cons_succ])
          | (refine wk_assign _ (by first | exact wanted_none rfl | exact wanted_yes _ _ rfl rfl) rfl ?_; simp only [Act.put, Act.eval, Array.getD_eq_getD_getElem?, List.getElem?_toArray, List.getElem?_cons_succ, List.getElem?_cons_zero, Option.getD_some, List.setIfInBounds_toArray, List.set_cons_zero, List.set_cons_succ])
          | (refine wk_pickt _ _ _ _ (by first | exact wanted_none rfl | exact wanted_yes _ _ rfl rfl) rfl rfl rfl ?_; simp only [Act.put, Act.eval, Array.getD_eq_getD_getElem?, List.getElem?_toArray, List.getElem?_cons_succ, List.getElem?_cons_zero, Option.getD_some, List.setIfInBounds_toArray, List.set_cons_zero, List.set_cons_succ])
          | (refine wk_pickf _ _ _ _ (by first | exact wanted_none rfl | exact wanted_yes _ _ rfl rfl) rfl rfl rfl ?_; simp only [Act.put, Act.eval, Array.getD_eq_getD_getElem?, List.getElem?_toArray, List.getElem?_cons_succ, List.getElem?_cons_zero, Option.getD_some, List.setIfInBounds_toArray, List.set_cons_zero, List.set_cons_succ])
          | (refine wk_skip (wanted_not _ true false rfl rfl rfl) ?_; simp only [Act.put, List.setIfInBounds_toArray, List.set_cons_zero, List.set_cons_succ])
          | (refine wk_skip (wanted_not _ false true rfl rfl rfl) ?_; simp only [Act.put, List.setIfInBounds_toArray, List.set_cons_zero, List.set_cons_succ])
          | (refine wk_skip (wanted_undef _ _ rfl rfl) ?_; simp only [Act.put, List.setIfInBounds_toArray, List.set_cons_zero, List.set_cons_succ])
          | (refine wk_not true _ _ (by first | exact wanted_none rfl | exact wanted_yes _ _ rfl rfl) rfl rfl ?_; simp only [Act.put, List.setIfInBounds_toArray, List.set_cons_zero, List.set_cons_succ])
          | (refine wk_not false _ _ (by first | exact wanted_none rfl | exact wanted_yes _ _ rfl rfl) rfl rfl ?_; simp only [Act.put, List.setIfInBounds_toArray, List.set_cons_zero, List.set_cons_succ]))
        refine wk_index_arr _ _ _ _ _ (k) (256) .i64 (by kernel_rfl) rfl Tryd.underlying33 sizeU8 rfl rfl (by omega) ?_
        simp only [Act.put, List.setIfInBounds_toArray, List.set_cons_zero, List.set_cons_succ]
        refine wk_load1 _ _ _ _ _ rfl (by kernel_rfl) rfl rfl (fun w' hC => hC.cell KA.out) Tryd.underlying5 ?_
        simp only [Act.put, List.setIfInBounds_toArray, List.set_cons_zero, List.set_cons_succ]
        repeat (first
          | (refine wk_move _ (by first | exact wanted_none rfl | exact wanted_yes _ _ rfl rfl) rfl ?_; simp only [Act.put, Act.eval, Array.getD_eq_getD_getElem?, List.getElem?_toArray, List.getElem?_cons_succ, List.getElem?_cons_zero, Option.getD_some, List.setIfInBounds_toArray, List.set_cons_zero, List.set_cons_succ])
          | (refine wk_assign _ (by first | exact wanted_none rfl | exact wanted_yes _ _ rfl rfl) rfl ?_; simp only [Act.put, Act.eval, Array.getD_eq_getD_getElem?, List.getElem?_toArray, List.getElem?_cons_succ, List.getElem?_cons_zero, Option.getD_some, List.setIfInBounds_toArray, List.set_cons_zero, List.set_cons_succ])
          | (refine wk_pickt _ _ _ _ (by first | exact wanted_none rfl | exact wanted_yes _ _ rfl rfl) rfl rfl rfl ?_; simp only [Act.put, Act.eval, Array.getD_eq_getD_getElem?, List.getElem?_toArray, List.getElem?_cons_succ, List.getElem?_cons_zero, Option.getD_some, List.setIfInBounds_toArray, List.set_cons_zero, List.set_cons_succ])
          | (refine wk_pickf _ _ _ _ (by first | exact wanted_none rfl | exact wanted_yes _ _ rfl rfl) rfl rfl rfl ?_; simp only [Act.put, Act.eval, Array.getD_eq_getD_getElem?, List.getElem?_toArray, List.getElem?_cons_succ, List.getElem?_cons_zero, Option.getD_some, List.setIfInBounds_toArray, List.set_cons_zero, List.set_cons_succ])
          | (refine wk_skip (wanted_not _ true false rfl rfl rfl) ?_; simp only [Act.put, List.setIfInBounds_toArray, List.set_cons_zero, List.set_cons_succ])
          | (refine wk_skip (wanted_not _ false true rfl rfl rfl) ?_; simp only [Act.put, List.setIfInBounds_toArray, List.set_cons_zero, List.set_cons_succ])
          | (refine wk_skip (wanted_undef _ _ rfl rfl) ?_; simp only [Act.put, List.setIfInBounds_toArray, List.set_cons_zero, List.set_cons_succ])
          | (refine wk_not true _ _ (by first | exact wanted_none rfl | exact wanted_yes _ _ rfl rfl) rfl rfl ?_; simp only [Act.put, List.setIfInBounds_toArray, List.set_cons_zero, List.set_cons_succ])
          | (refine wk_not false _ _ (by first | exact wanted_none rfl | exact wanted_yes _ _ rfl rfl) rfl rfl ?_; simp only [Act.put, List.setIfInBounds_toArray, List.set_cons_zero, List.set_cons_succ]))
        refine wk_index_arr _ _ _ _ _ (k) (256) .i64 (by kernel_rfl) rfl Tryd.underlying33 sizeU8 rfl rfl (by omega) ?_
        simp only [Act.put, List.setIfInBounds_toArray, List.set_cons_zero, List.set_cons_succ]
        refine wk_load1 _ _ _ _ _ rfl (by kernel_rfl) rfl rfl (fun w' hC => hC.cell KB.out) Tryd.underlying5 ?_
        simp only [Act.put, List.setIfInBounds_toArray, List.set_cons_zero, List.set_cons_succ]
        refine wk_cmp_int .neq (false) _ _ _ _ _ _ _ (by kernel_rfl) rfl rfl rfl (by simp [cmpInt]) ?_
        simp only [Act.put, List.setIfInBounds_toArray, List.set_cons_zero, List.set_cons_succ]
        repeat (first
          | (refine wk_move _ (by first | exact wanted_none rfl | exact wanted_yes _ _ rfl rfl) rfl ?_; simp only [Act.put, Act.eval, Array.getD_eq_getD_getElem?, List.getElem?_toArray, List.getElem?_cons_succ, List.getElem?_cons_zero, Option.getD_some, List.setIfInBounds_toArray, List.set_cons_zero, List.set_cons_succ])
          | (refine wk_assign _ (by first | exact wanted_none rfl | exact wanted_yes _ _ rfl rfl) rfl ?_; simp only [Act.put, Act.eval, Array.getD_eq_getD_getElem?, List.getElem?_toArray, List.getElem?_cons_succ, List.getElem?_cons_zero, Option.getD_some, List.setIfInBounds_toArray, List.set_cons_zero, List.set_cons_succ])
          | (refine wk_pickt _ _ _ _ (by first | exact wanted_none rfl | exact wanted_yes _ _ rfl rfl) rfl rfl rfl ?_; simp only [Act.put, Act.eval, Array.getD_eq_getD_getElem?, List.getElem?_toArray, List.getElem?_cons_succ, List.getElem?_cons_zero, Option.getD_some, List.setIfInBounds_toArray, List.set_cons_zero, List.set_cons_succ])
          | (refine wk_pickf _ _ _ _ (by first | exact wanted_none rfl | exact wanted_yes _ _ rfl rfl) rfl rfl rfl ?_; simp only [Act.put, Act.eval, Array.getD_eq_getD_getElem?, List.getElem?_toArray, List.getElem?_cons_succ, List.getElem?_cons_zero, Option.getD_some, List.setIfInBounds_toArray, List.set_cons_zero, List.set_cons_succ])
          | (refine wk_skip (wanted_not _ true false rfl rfl rfl) ?_; simp only [Act.put, List.setIfInBounds_toArray, List.set_cons_zero, List.set_cons_succ])
          | (refine wk_skip (wanted_not _ false true rfl rfl rfl) ?_; simp only [Act.put, List.setIfInBounds_toArray, List.set_cons_zero, List.set_cons_succ])
          | (refine wk_skip (wanted_undef _ _ rfl rfl) ?_; simp only [Act.put, List.setIfInBounds_toArray, List.set_cons_zero, List.set_cons_succ])
          | (refine wk_not true _ _ (by first | exact wanted_none rfl | exact wanted_yes _ _ rfl rfl) rfl rfl ?_; simp only [Act.put, List.setIfInBounds_toArray, List.set_cons_zero, List.set_cons_succ])
          | (refine wk_not false _ _ (by first | exact wanted_none rfl | exact wanted_yes _ _ rfl rfl) rfl rfl ?_; simp only [Act.put, List.setIfInBounds_toArray, List.set_cons_zero, List.set_cons_succ]))
        repeat (first
          | (refine wk_move _ (by first | exact wanted_none rfl | exact wanted_yes _ _ rfl rfl) rfl ?_; simp only [Act.put, Act.eval, Array.getD_eq_getD_getElem?, List.getElem?_toArray, List.getElem?_cons_succ, List.getElem?_cons_zero, Option.getD_some, List.setIfInBounds_toArray, List.set_cons_zero, List.set_cons_succ])
          | (refine wk_assign _ (by first | exact wanted_none rfl | exact wanted_yes _ _ rfl rfl) rfl ?_; simp only [Act.put, Act.eval, Array.getD_eq_getD_getElem?, List.getElem?_toArray, List.getElem?_cons_succ, List.getElem?_cons_zero, Option.getD_some, List.setIfInBounds_toArray, List.set_cons_zero, List.set_cons_succ])
          | (refine wk_pickt _ _ _ _ (by first | exact wanted_none rfl | exact wanted_yes _ _ rfl rfl) rfl rfl rfl ?_; simp only [Act.put, Act.eval, Array.getD_eq_getD_getElem?, List.getElem?_toArray, List.getElem?_cons_succ, List.getElem?_cons_zero, Option.getD_some, List.setIfInBounds_toArray, List.set_cons_zero, List.set_cons_succ])
          | (refine wk_pickf _ _ _ _ (by first | exact wanted_none rfl | exact wanted_yes _ _ rfl rfl) rfl rfl rfl ?_; simp only [Act.put, Act.eval, Array.getD_eq_getD_getElem?, List.getElem?_toArray, List.getElem?_cons_succ, List.getElem?_cons_zero, Option.getD_some, List.setIfInBounds_toArray, List.set_cons_zero, List.set_cons_succ])
          | (refine wk_skip (wanted_not _ true false rfl rfl rfl) ?_; simp only [Act.put, List.setIfInBounds_toArray, List.set_cons_zero, List.set_cons_succ])
          | (refine wk_skip (wanted_not _ false true rfl rfl rfl) ?_; simp only [Act.put, List.setIfInBounds_toArray, List.set_cons_zero, List.set_cons_succ])
          | (refine wk_skip (wanted_undef _ _ rfl rfl) ?_; simp only [Act.put, List.setIfInBounds_toArray, List.set_cons_zero, List.set_cons_succ])
          | (refine wk_not true _ _ (by first | exact wanted_none rfl | exact wanted_yes _ _ rfl rfl) rfl rfl ?_; simp only [Act.put, List.setIfInBounds_toArray, List.set_cons_zero, List.set_cons_succ])
          | (refine wk_not false _ _ (by first | exact wanted_none rfl | exact wanted_yes _ _ rfl rfl) rfl rfl ?_; simp only [Act.put, List.setIfInBounds_toArray, List.set_cons_zero, List.set_cons_succ]))
        refine wk_nil ?_
        intro w' hC
        have R12 := Lib.hid (R11.out.since hC)
        clear hC
        go_wp2_with fail
        go_roundw
        case rel => exact ⟨k + 1, by omega, by go_num, R12.out⟩
        case measure => simp [intOf]; omega
      · have hd := hdf hpq
        have HNE : Hid (cmpInt .neq (p.toNat : Int) (q.toNat : Int) = some true) := Lib.hid (by
          have : ¬ (p.toNat : Int) = (q.toNat : Int) := fun e => hpq (UInt8.toNat_inj.1 (by omega))
          simp [cmpInt, this])
        have HM2 : Hid (IntKind.i64.wrap (2 * (K : Int)) = ((2 * K : Nat) : Int)) := Lib.hid (by rw [IntKind.wrap_i64]; omega)
        have HA5 : Hid (IntKind.i64.wrap (5 + ((2 * K : Nat) : Int)) = ((5 + 2 * K : Nat) : Int)) := Lib.hid (by rw [IntKind.wrap_i64]; omega)
        have HA6 : Hid (IntKind.i64.wrap (6 + ((2 * K : Nat) : Int)) = ((6 + 2 * K : Nat) : Int)) := Lib.hid (by rw [IntKind.wrap_i64]; omega)
        clear hdf hpq
        rcases hd with hd | hd
        · have H1 : Hid (cmpInt .neq (k : Int) ((5 + 2 * K : Nat) : Int) = some false) := Lib.hid (by simp only [cmpInt]; congr 1; rw [hd]; simp)
          clear hd
          go_wp2_with fail
          refine wk_region_since (by kernel_rfl) (by kernel_rfl) ?_
          repeat (first
            | (refine wk_move _ (by first | exact wanted_none rfl | exact wanted_yes _ _ rfl rfl) rfl ?_; simp only [Act.put, Act.eval, Array.getD_eq_getD_getElem?, List.getElem?_toArray, List.getElem?_cons_succ, List.getElem?_cons_zero, Option.getD_some, List.setIfInBounds_toArray, List.set_cons_zero, List.set_cons_succ])
            | (refine wk_assign _ (by first | exact wanted_none rfl | exact wanted_yes _ _ rfl rfl) rfl ?_; simp only [Act.put, Act.eval, Array.getD_eq_getD_getElem?, List.getElem?_toArray, List.getElem?_cons_succ, List.getElem?_cons_zero, Option.getD_some, List.setIfInBounds_toArray, List.set_cons_zero, List.set_cons_succ])
            | (refine wk_pickt _ _ _ _ (by first | exact wanted_none rfl | exact wanted_yes _ _ rfl rfl) rfl rfl rfl ?_; simp only [Act.put, Act.eval, Array.getD_eq_getD_getElem?, List.getElem?_toArray, List.getElem?_cons_succ, List.getElem?_cons_zero, Option.getD_some, List.setIfInBounds_toArray, List.set_cons_zero, List.set_cons_succ])
            | (refine wk_pickf _ _ _ _ (by first | exact wanted_none rfl | exact wanted_yes _ _ rfl rfl) rfl rfl rfl ?_; simp only [Act.put, Act.eval, Array.getD_eq_getD_getElem?, List.getElem?_toArray, List.getElem?_cons_succ, List.getElem?_cons_zero, Option.getD_some, List.setIfInBounds_toArray, List.set_cons_zero, List.set_cons_succ])
            | (refine wk_skip (wanted_not _ true false rfl rfl rfl) ?_; simp only [Act.put, List.setIfInBounds_toArray, List.set_cons_zero, List.set_cons_succ])
            | (refine wk_skip (wanted_not _ false true rfl rfl rfl) ?_; simp only [Act.put, List.setIfInBounds_toArray, List.set_cons_zero, List.set_cons_succ])
            | (refine wk_skip (wanted_undef _ _ rfl rfl) ?_; simp only [Act.put, List.setIfInBounds_toArray, List.set_cons_zero, List.set_cons_succ])
            | (refine wk_not true _ _ (by first | exact wanted_none rfl | exact wanted_yes _ _ rfl rfl) rfl rfl ?_; simp only [Act.put, List.setIfInBounds_toArray, List.set_cons_zero, List.set_cons_succ])
            | (refine wk_not false _ _ (by first | exact wanted_none rfl | exact wanted_yes _ _ rfl rfl) rfl rfl ?_; simp only [Act.put, List.setIfInBounds_toArray, List.set_cons_zero, List.set_cons_succ]))
          refine wk_index_arr _ _ _ _ _ (k) (256) .i64 (by kernel_rfl) rfl Tryd.underlying33 sizeU8 rfl rfl (by omega) ?_
          simp only [Act.put, List.setIfInBounds_toArray, List.set_cons_zero, List.set_cons_succ]
          refine wk_load1 _ _ _ _ _ rfl (by kernel_rfl) rfl rfl (fun w' hC => hC.cell KA.out) Tryd.underlying5 ?_
          simp only [Act.put, List.setIfInBounds_toArray, List.set_cons_zero, List.set_cons_succ]
          repeat (first
            | (refine wk_move _ (by first | exact wanted_none rfl | exact wanted_yes _ _ rfl rfl) rfl ?_; simp only [Act.put, Act.eval, Array.getD_eq_getD_getElem?, List.getElem?_toArray, List.getElem?_cons_succ, List.getElem?_cons_zero, Option.getD_some, List.setIfInBounds_toArray, List.set_cons_zero, List.set_cons_succ])
            | (refine wk_assign _ (by first | exact wanted_none rfl | exact wanted_yes _ _ rfl rfl) rfl ?_; simp only [Act.put, Act.eval, Array.getD_eq_getD_getElem?, List.getElem?_toArray, List.getElem?_cons_succ, List.getElem?_cons_zero, Option.getD_some, List.setIfInBounds_toArray, List.set_cons_zero, List.set_cons_succ])
            | (refine wk_pickt _ _ _ _ (by first | exact wanted_none rfl | exact wanted_yes _ _ rfl rfl) rfl rfl rfl ?_; simp only [Act.put, Act.eval, Array.getD_eq_getD_getElem?, List.getElem?_toArray, List.getElem?_cons_succ, List.getElem?_cons_zero, Option.getD_some, List.setIfInBounds_toArray, List.set_cons_zero, List.set_cons_succ])
            | (refine wk_pickf _ _ _ _ (by first | exact wanted_none rfl | exact wanted_yes _ _ rfl rfl) rfl rfl rfl ?_; simp only [Act.put, Act.eval, Array.getD_eq_getD_getElem?, List.getElem?_toArray, List.getElem?_cons_succ, List.getElem?_cons_zero, Option.getD_some, List.setIfInBounds_toArray, List.set_cons_zero, List.set_cons_succ])
            | (refine wk_skip (wanted_not _ true false rfl rfl rfl) ?_; simp only [Act.put, List.setIfInBounds_toArray, List.set_cons_zero, List.set_cons_succ])
            | (refine wk_skip (wanted_not _ false true rfl rfl rfl) ?_; simp only [Act.put, List.setIfInBounds_toArray, List.set_cons_zero, List.set_cons_succ])
            | (refine wk_skip (wanted_undef _ _ rfl rfl) ?_; simp only [Act.put, List.setIfInBounds_toArray, List.set_cons_zero, List.set_cons_succ])
            | (refine wk_not true _ _ (by first | exact wanted_none rfl | exact wanted_yes _ _ rfl rfl) rfl rfl ?_; simp only [Act.put, List.setIfInBounds_toArray, List.set_cons_zero, List.set_cons_succ])
            | (refine wk_not false _ _ (by first | exact wanted_none rfl | exact wanted_yes _ _ rfl rfl) rfl rfl ?_; simp only [Act.put, List.setIfInBounds_toArray, List.set_cons_zero, List.set_cons_succ]))
          refine wk_index_arr _ _ _ _ _ (k) (256) .i64 (by kernel_rfl) rfl Tryd.underlying33 sizeU8 rfl rfl (by omega) ?_
          simp only [Act.put, List.setIfInBounds_toArray, List.set_cons_zero, List.set_cons_succ]
          refine wk_load1 _ _ _ _ _ rfl (by kernel_rfl) rfl rfl (fun w' hC => hC.cell KB.out) Tryd.underlying5 ?_
          simp only [Act.put, List.setIfInBounds_toArray, List.set_cons_zero, List.set_cons_succ]
          refine wk_cmp_int .neq (true) _ _ _ _ _ _ _ (by kernel_rfl) rfl rfl rfl (HNE.out) ?_
          simp only [Act.put, List.setIfInBounds_toArray, List.set_cons_zero, List.set_cons_succ]
          repeat (first
            | (refine wk_move _ (by first | exact wanted_none rfl | exact wanted_yes _ _ rfl rfl) rfl ?_; simp only [Act.put, Act.eval, Array.getD_eq_getD_getElem?, List.getElem?_toArray, List.getElem?_cons_succ, List.getElem?_cons_zero, Option.getD_some, List.setIfInBounds_toArray, List.set_cons_zero, List.set_cons_succ])
            | (refine wk_assign _ (by first | exact wanted_none rfl | exact wanted_yes _ _ rfl rfl) rfl ?_; simp only [Act.put, Act.eval, Array.getD_eq_getD_getElem?, List.getElem?_toArray, List.getElem?_cons_succ, List.getElem?_cons_zero, Option.getD_some, List.setIfInBounds_toArray, List.set_cons_zero, List.set_cons_succ])
            | (refine wk_pickt _ _ _ _ (by first | exact wanted_none rfl | exact wanted_yes _ _ rfl rfl) rfl rfl rfl ?_; simp only [Act.put, Act.eval, Array.getD_eq_getD_getElem?, List.getElem?_toArray, List.getElem?_cons_succ, List.getElem?_cons_zero, Option.getD_some, List.setIfInBounds_toArray, List.set_cons_zero, List.set_cons_succ])
            | (refine wk_pickf _ _ _ _ (by first | exact wanted_none rfl | exact wanted_yes _ _ rfl rfl) rfl rfl rfl ?_; simp only [Act.put, Act.eval, Array.getD_eq_getD_getElem?, List.getElem?_toArray, List.getElem?_cons_succ, List.getElem?_cons_zero, Option.getD_some, List.setIfInBounds_toArray, List.set_cons_zero, List.set_cons_succ])
            | (refine wk_skip (wanted_not _ true false rfl rfl rfl) ?_; simp only [Act.put, List.setIfInBounds_toArray, List.set_cons_zero, List.set_cons_succ])
            | (refine wk_skip (wanted_not _ false true rfl rfl rfl) ?_; simp only [Act.put, List.setIfInBounds_toArray, List.set_cons_zero, List.set_cons_succ])
            | (refine wk_skip (wanted_undef _ _ rfl rfl) ?_; simp only [Act.put, List.setIfInBounds_toArray, List.set_cons_zero, List.set_cons_succ])
            | (refine wk_not true _ _ (by first | exact wanted_none rfl | exact wanted_yes _ _ rfl rfl) rfl rfl ?_; simp only [Act.put, List.setIfInBounds_toArray, List.set_cons_zero, List.set_cons_succ])
            | (refine wk_not false _ _ (by first | exact wanted_none rfl | exact wanted_yes _ _ rfl rfl) rfl rfl ?_; simp only [Act.put, List.setIfInBounds_toArray, List.set_cons_zero, List.set_cons_succ]))
          refine wk_mulk .i64 _ _ _ _ _ _ _ (wanted_yes _ _ rfl rfl) rfl rfl rfl (HM2.out) ?_
          simp only [Act.put, List.setIfInBounds_toArray, List.set_cons_zero, List.set_cons_succ]
          refine wk_addk .i64 _ _ _ _ _ _ _ (wanted_yes _ _ rfl rfl) rfl rfl rfl (HA5.out) ?_
          simp only [Act.put, List.setIfInBounds_toArray, List.set_cons_zero, List.set_cons_succ]
          refine wk_cmp_int .neq false _ _ _ _ _ _ _ (wanted_yes _ _ rfl rfl) rfl rfl rfl (H1.out) ?_
          simp only [Act.put, List.setIfInBounds_toArray, List.set_cons_zero, List.set_cons_succ]
          repeat (first
            | (refine wk_move _ (by first | exact wanted_none rfl | exact wanted_yes _ _ rfl rfl) rfl ?_; simp only [Act.put, Act.eval, Array.getD_eq_getD_getElem?, List.getElem?_toArray, List.getElem?_cons_succ, List.getElem?_cons_zero, Option.getD_some, List.setIfInBounds_toArray, List.set_cons_zero, List.set_cons_succ])
            | (refine wk_assign _ (by first | exact wanted_none rfl | exact wanted_yes _ _ rfl rfl) rfl ?_; simp only [Act.put, Act.eval, Array.getD_eq_getD_getElem?, List.getElem?_toArray, List.getElem?_cons_succ, List.getElem?_cons_zero, Option.getD_some, List.setIfInBounds_toArray, List.set_cons_zero, List.set_cons_succ])
            | (refine wk_pickt _ _ _ _ (by first | exact wanted_none rfl | exact wanted_yes _ _ rfl rfl) rfl rfl rfl ?_; simp only [Act.put, Act.eval, Array.getD_eq_getD_getElem?, List.getElem?_toArray, List.getElem?_cons_succ, List.getElem?_cons_zero, Option.getD_some, List.setIfInBounds_toArray, List.set_cons_zero, List.set_cons_succ])
            | (refine wk_pickf _ _ _ _ (by first | exact wanted_none rfl | exact wanted_yes _ _ rfl rfl) rfl rfl rfl ?_; simp only [Act.put, Act.eval, Array.getD_eq_getD_getElem?, List.getElem?_toArray, List.getElem?_cons_succ, List.getElem?_cons_zero, Option.getD_some, List.setIfInBounds_toArray, List.set_cons_zero, List.set_cons_succ])
            | (refine wk_skip (wanted_not _ true false rfl rfl rfl) ?_; simp only [Act.put, List.setIfInBounds_toArray, List.set_cons_zero, List.set_cons_succ])
            | (refine wk_skip (wanted_not _ false true rfl rfl rfl) ?_; simp only [Act.put, List.setIfInBounds_toArray, List.set_cons_zero, List.set_cons_succ])
            | (refine wk_skip (wanted_undef _ _ rfl rfl) ?_; simp only [Act.put, List.setIfInBounds_toArray, List.set_cons_zero, List.set_cons_succ])
            | (refine wk_not true _ _ (by first | exact wanted_none rfl | exact wanted_yes _ _ rfl rfl) rfl rfl ?_; simp only [Act.put, List.setIfInBounds_toArray, List.set_cons_zero, List.set_cons_succ])
            | (refine wk_not false _ _ (by first | exact wanted_none rfl | exact wanted_yes _ _ rfl rfl) rfl rfl ?_; simp only [Act.put, List.setIfInBounds_toArray, List.set_cons_zero, List.set_cons_succ]))
          refine wk_nil ?_
          intro w' hC
          have R12 := Lib.hid (R11.out.since hC)
          clear hC
          go_wp2_with fail
          go_roundw
          case rel => exact ⟨k + 1, by omega, by go_num, R12.out⟩
          case measure => simp [intOf]; omega
        · have H1 : Hid (cmpInt .neq (k : Int) ((5 + 2 * K : Nat) : Int) = some true) := Lib.hid (by
            have : ¬ (k : Int) = ((5 + 2 * K : Nat) : Int) := by omega
            simp only [cmpInt]; congr 1; simpa using by omega)
          have H2 : Hid (cmpInt .neq (k : Int) ((6 + 2 * K : Nat) : Int) = some false) := Lib.hid (by simp only [cmpInt]; congr 1; rw [hd]; simp)
          clear hd
          go_wp2_with fail
          refine wk_region_since (by kernel_rfl) (by kernel_rfl) ?_
          repeat (first
            | (refine wk_move _ (by first | exact wanted_none rfl | exact wanted_yes _ _ rfl rfl) rfl ?_; simp only [Act.put, Act.eval, Array.getD_eq_getD_getElem?, List.getElem?_toArray, List.getElem?_cons_succ, List.getElem?_cons_zero, Option.getD_some, List.setIfInBounds_toArray, List.set_cons_zero, List.set_cons_succ])
            | (refine wk_assign _ (by first | exact wanted_none rfl | exact wanted_yes _ _ rfl rfl) rfl ?_; simp only [Act.put, Act.eval, Array.getD_eq_getD_getElem?, List.getElem?_toArray, List.getElem?_cons_succ, List.getElem?_cons_zero, Option.getD_some, List.setIfInBounds_toArray, List.set_cons_zero, List.set_cons_succ])
            | (refine wk_pickt _ _ _ _ (by first | exact wanted_none rfl | exact wanted_yes _ _ rfl rfl) rfl rfl rfl ?_; simp only [Act.put, Act.eval, Array.getD_eq_getD_getElem?, List.getElem?_toArray, List.getElem?_cons_succ, List.getElem?_cons_zero, Option.getD_some, List.setIfInBounds_toArray, List.set_cons_zero, List.set_cons_succ])
            | (refine wk_pickf _ _ _ _ (by first | exact wanted_none rfl | exact wanted_yes _ _ rfl rfl) rfl rfl rfl ?_; simp only [Act.put, Act.eval, Array.getD_eq_getD_getElem?, List.getElem?_toArray, List.getElem?_cons_succ, List.getElem?_cons_zero, Option.getD_some, List.setIfInBounds_toArray, List.set_cons_zero, List.set_cons_succ])
            | (refine wk_skip (wanted_not _ true false rfl rfl rfl) ?_; simp only [Act.put, List.setIfInBounds_toArray, List.set_cons_zero, List.set_cons_succ])
            | (refine wk_skip (wanted_not _ false true rfl rfl rfl) ?_; simp only [Act.put, List.setIfInBounds_toArray, List.set_cons_zero, List.set_cons_succ])
            | (refine wk_skip (wanted_undef _ _ rfl rfl) ?_; simp only [Act.put, List.setIfInBounds_toArray, List.set_cons_zero, List.set_cons_succ])
            | (refine wk_not true _ _ (by first | exact wanted_none rfl | exact wanted_yes _ _ rfl rfl) rfl rfl ?_; simp only [Act.put, List.setIfInBounds_toArray, List.set_cons_zero, List.set_cons_succ])
            | (refine wk_not false _ _ (by first | exact wanted_none rfl | exact wanted_yes _ _ rfl rfl) rfl rfl ?_; simp only [Act.put, List.setIfInBounds_toArray, List.set_cons_zero, List.set_cons_succ]))
          refine wk_index_arr _ _ _ _ _ (k) (256) .i64 (by kernel_rfl) rfl Tryd.underlying33 sizeU8 rfl rfl (by omega) ?_
          simp only [Act.put, List.setIfInBounds_toArray, List.set_cons_zero, List.set_cons_succ]
          refine wk_load1 _ _ _ _ _ rfl (by kernel_rfl) rfl rfl (fun w' hC => hC.cell KA.out) Tryd.underlying5 ?_
          simp only [Act.put, List.setIfInBounds_toArray, List.set_cons_zero, List.set_cons_succ]
          repeat (first
            | (refine wk_move _ (by first | exact wanted_none rfl | exact wanted_yes _ _ rfl rfl) rfl ?_; simp only [Act.put, Act.eval, Array.getD_eq_getD_getElem?, List.getElem?_toArray, List.getElem?_cons_succ, List.getElem?_cons_zero, Option.getD_some, List.setIfInBounds_toArray, List.set_cons_zero, List.set_cons_succ])
            | (refine wk_assign _ (by first | exact wanted_none rfl | exact wanted_yes _ _ rfl rfl) rfl ?_; simp only [Act.put, Act.eval, Array.getD_eq_getD_getElem?, List.getElem?_toArray, List.getElem?_cons_succ, List.getElem?_cons_zero, Option.getD_some, List.setIfInBounds_toArray, List.set_cons_zero, List.set_cons_succ])
            | (refine wk_pickt _ _ _ _ (by first | exact wanted_none rfl | exact wanted_yes _ _ rfl rfl) rfl rfl rfl ?_; simp only [Act.put, Act.eval, Array.getD_eq_getD_getElem?, List.getElem?_toArray, List.getElem?_cons_succ, List.getElem?_cons_zero, Option.getD_some, List.setIfInBounds_toArray, List.set_cons_zero, List.set_cons_succ])
            | (refine wk_pickf _ _ _ _ (by first | exact wanted_none rfl | exact wanted_yes _ _ rfl rfl) rfl rfl rfl ?_; simp only [Act.put, Act.eval, Array.getD_eq_getD_getElem?, List.getElem?_toArray, List.getElem?_cons_succ, List.getElem?_cons_zero, Option.getD_some, List.setIfInBounds_toArray, List.set_cons_zero, List.set_cons_succ])
            | (refine wk_skip (wanted_not _ true false rfl rfl rfl) ?_; simp only [Act.put, List.setIfInBounds_toArray, List.set_cons_zero, List.set_cons_succ])
            | (refine wk_skip (wanted_not _ false true rfl rfl rfl) ?_; simp only [Act.put, List.setIfInBounds_toArray, List.set_cons_zero, List.set_cons_succ])
            | (refine wk_skip (wanted_undef _ _ rfl rfl) ?_; simp only [Act.put, List.setIfInBounds_toArray, List.set_cons_zero, List.set_cons_succ])
            | (refine wk_not true _ _ (by first | exact wanted_none rfl | exact wanted_yes _ _ rfl rfl) rfl rfl ?_; simp only [Act.put, List.setIfInBounds_toArray, List.set_cons_zero, List.set_cons_succ])
            | (refine wk_not false _ _ (by first | exact wanted_none rfl | exact wanted_yes _ _ rfl rfl) rfl rfl ?_; simp only [Act.put, List.setIfInBounds_toArray, List.set_cons_zero, List.set_cons_succ]))
          refine wk_index_arr _ _ _ _ _ (k) (256) .i64 (by kernel_rfl) rfl Tryd.underlying33 sizeU8 rfl rfl (by omega) ?_
          simp only [Act.put, List.setIfInBounds_toArray, List.set_cons_zero, List.set_cons_succ]
          refine wk_load1 _ _ _ _ _ rfl (by kernel_rfl) rfl rfl (fun w' hC => hC.cell KB.out) Tryd.underlying5 ?_
          simp only [Act.put, List.setIfInBounds_toArray, List.set_cons_zero, List.set_cons_succ]
          refine wk_cmp_int .neq (true) _ _ _ _ _ _ _ (by kernel_rfl) rfl rfl rfl (HNE.out) ?_
          simp only [Act.put, List.setIfInBounds_toArray, List.set_cons_zero, List.set_cons_succ]
          repeat (first
            | (refine wk_move _ (by first | exact wanted_none rfl | exact wanted_yes _ _ rfl rfl) rfl ?_; simp only [Act.put, Act.eval, Array.getD_eq_getD_getElem?, List.getElem?_toArray, List.getElem?_cons_succ, List.getElem?_cons_zero, Option.getD_some, List.setIfInBounds_toArray, List.set_cons_zero, List.set_cons_succ])
            | (refine wk_assign _ (by first | exact wanted_none rfl | exact wanted_yes _ _ rfl rfl) rfl ?_; simp only [Act.put, Act.eval, Array.getD_eq_getD_getElem?, List.getElem?_toArray, List.getElem?_cons_succ, List.getElem?_cons_zero, Option.getD_some, List.setIfInBounds_toArray, List.set_cons_zero, List.set_cons_succ])
            | (refine wk_pickt _ _ _ _ (by first | exact wanted_none rfl | exact wanted_yes _ _ rfl rfl) rfl rfl rfl ?_; simp only [Act.put, Act.eval, Array.getD_eq_getD_getElem?, List.getElem?_toArray, List.getElem?_cons_succ, List.getElem?_cons_zero, Option.getD_some, List.setIfInBounds_toArray, List.set_cons_zero, List.set_cons_succ])
            | (refine wk_pickf _ _ _ _ (by first | exact wanted_none rfl | exact wanted_yes _ _ rfl rfl) rfl rfl rfl ?_; simp only [Act.put, Act.eval, Array.getD_eq_getD_getElem?, List.getElem?_toArray, List.getElem?_cons_succ, List.getElem?_cons_zero, Option.getD_some, List.setIfInBounds_toArray, List.set_cons_zero, List.set_cons_succ])
            | (refine wk_skip (wanted_not _ true false rfl rfl rfl) ?_; simp only [Act.put, List.setIfInBounds_toArray, List.set_cons_zero, List.set_cons_succ])
            | (refine wk_skip (wanted_not _ false true rfl rfl rfl) ?_; simp only [Act.put, List.setIfInBounds_toArray, List.set_cons_zero, List.set_cons_succ])
            | (refine wk_skip (wanted_undef _ _ rfl rfl) ?_; simp only [Act.put, List.setIfInBounds_toArray, List.set_cons_zero, List.set_cons_succ])
            | (refine wk_not true _ _ (by first | exact wanted_none rfl | exact wanted_yes _ _ rfl rfl) rfl rfl ?_; simp only [Act.put, List.setIfInBounds_toArray, List.set_cons_zero, List.set_cons_succ])
            | (refine wk_not false _ _ (by first | exact wanted_none rfl | exact wanted_yes _ _ rfl rfl) rfl rfl ?_; simp only [Act.put, List.setIfInBounds_toArray, List.set_cons_zero, List.set_cons_succ]))
          refine wk_mulk .i64 _ _ _ _ _ _ _ (wanted_yes _ _ rfl rfl) rfl rfl rfl (HM2.out) ?_
          simp only [Act.put, List.setIfInBounds_toArray, List.set_cons_zero, List.set_cons_succ]
          refine wk_addk .i64 _ _ _ _ _ _ _ (wanted_yes _ _ rfl rfl) rfl rfl rfl (HA5.out) ?_
          simp only [Act.put, List.setIfInBounds_toArray, List.set_cons_zero, List.set_cons_succ]
          refine wk_cmp_int .neq true _ _ _ _ _ _ _ (wanted_yes _ _ rfl rfl) rfl rfl rfl (H1.out) ?_
          simp only [Act.put, List.setIfInBounds_toArray, List.set_cons_zero, List.set_cons_succ]
          repeat (first
            | (refine wk_move _ (by first | exact wanted_none rfl | exact wanted_yes _ _ rfl rfl) rfl ?_; simp only [Act.put, Act.eval, Array.getD_eq_getD_getElem?, List.getElem?_toArray, List.getElem?_cons_succ, List.getElem?_cons_zero, Option.getD_some, List.setIfInBounds_toArray, List.set_cons_zero, List.set_cons_succ])
            | (refine wk_assign _ (by first | exact wanted_none rfl | exact wanted_yes _ _ rfl rfl) rfl ?_; simp only [Act.put, Act.eval, Array.getD_eq_getD_getElem?, List.getElem?_toArray, List.getElem?_cons_succ, List.getElem?_cons_zero, Option.getD_some, List.setIfInBounds_toArray, List.set_cons_zero, List.set_cons_succ])
            | (refine wk_pickt _ _ _ _ (by first | exact wanted_none rfl | exact wanted_yes _ _ rfl rfl) rfl rfl rfl ?_; simp only [Act.put, Act.eval, Array.getD_eq_getD_getElem?, List.getElem?_toArray, List.getElem?_cons_succ, List.getElem?_cons_zero, Option.getD_some, List.setIfInBounds_toArray, List.set_cons_zero, List.set_cons_succ])
            | (refine wk_pickf _ _ _ _ (by first | exact wanted_none rfl | exact wanted_yes _ _ rfl rfl) rfl rfl rfl ?_; simp only [Act.put, Act.eval, Array.getD_eq_getD_getElem?, List.getElem?_toArray, List.getElem?_cons_succ, List.getElem?_cons_zero, Option.getD_some, List.setIfInBounds_toArray, List.set_cons_zero, List.set_cons_succ])
            | (refine wk_skip (wanted_not _ true false rfl rfl rfl) ?_; simp only [Act.put, List.setIfInBounds_toArray, List.set_cons_zero, List.set_cons_succ])
            | (refine wk_skip (wanted_not _ false true rfl rfl rfl) ?_; simp only [Act.put, List.setIfInBounds_toArray, List.set_cons_zero, List.set_cons_succ])
            | (refine wk_skip (wanted_undef _ _ rfl rfl) ?_; simp only [Act.put, List.setIfInBounds_toArray, List.set_cons_zero, List.set_cons_succ])
            | (refine wk_not true _ _ (by first | exact wanted_none rfl | exact wanted_yes _ _ rfl rfl) rfl rfl ?_; simp only [Act.put, List.setIfInBounds_toArray, List.set_cons_zero, List.set_cons_succ])
            | (refine wk_not false _ _ (by first | exact wanted_none rfl | exact wanted_yes _ _ rfl rfl) rfl rfl ?_; simp only [Act.put, List.setIfInBounds_toArray, List.set_cons_zero, List.set_cons_succ]))
          refine wk_mulk .i64 _ _ _ _ _ _ _ (wanted_yes _ _ rfl rfl) rfl rfl rfl (HM2.out) ?_
          simp only [Act.put, List.setIfInBounds_toArray, List.set_cons_zero, List.set_cons_succ]
          refine wk_addk .i64 _ _ _ _ _ _ _ (wanted_yes _ _ rfl rfl) rfl rfl rfl (HA6.out) ?_
          simp only [Act.put, List.setIfInBounds_toArray, List.set_cons_zero, List.set_cons_succ]
          refine wk_cmp_int .neq false _ _ _ _ _ _ _ (wanted_yes _ _ rfl rfl) rfl rfl rfl (H2.out) ?_
          simp only [Act.put, List.setIfInBounds_toArray, List.set_cons_zero, List.set_cons_succ]
          repeat (first
            | (refine wk_move _ (by first | exact wanted_none rfl | exact wanted_yes _ _ rfl rfl) rfl ?_; simp only [Act.put, Act.eval, Array.getD_eq_getD_getElem?, List.getElem?_toArray, List.getElem?_cons_succ, List.getElem?_cons_zero, Option.getD_some, List.setIfInBounds_toArray, List.set_cons_zero, List.set_cons_succ])
            | (refine wk_assign _ (by first | exact wanted_none rfl | exact wanted_yes _ _ rfl rfl) rfl ?_; simp only [Act.put, Act.eval, Array.getD_eq_getD_getElem?, List.getElem?_toArray, List.getElem?_cons_succ, List.getElem?_cons_zero, Option.getD_some, List.setIfInBounds_toArray, List.set_cons_zero, List.set_cons_succ])
            | (refine wk_pickt _ _ _ _ (by first | exact wanted_none rfl | exact wanted_yes _ _ rfl rfl) rfl rfl rfl ?_; simp only [Act.put, Act.eval, Array.getD_eq_getD_getElem?, List.getElem?_toArray, List.getElem?_cons_succ, List.getElem?_cons_zero, Option.getD_some, List.setIfInBounds_toArray, List.set_cons_zero, List.set_cons_succ])
            | (refine wk_pickf _ _ _ _ (by first | exact wanted_none rfl | exact wanted_yes _ _ rfl rfl) rfl rfl rfl ?_; simp only [Act.put, Act.eval, Array.getD_eq_getD_getElem?, List.getElem?_toArray, List.getElem?_cons_succ, List.getElem?_cons_zero, Option.getD_some, List.setIfInBounds_toArray, List.set_cons_zero, List.set_cons_succ])
            | (refine wk_skip (wanted_not _ true false rfl rfl rfl) ?_; simp only [Act.put, List.setIfInBounds_toArray, List.set_cons_zero, List.set_cons_succ])
            | (refine wk_skip (wanted_not _ false true rfl rfl rfl) ?_; simp only [Act.put, List.setIfInBounds_toArray, List.set_cons_zero, List.set_cons_succ])
            | (refine wk_skip (wanted_undef _ _ rfl rfl) ?_; simp only [Act.put, List.setIfInBounds_toArray, List.set_cons_zero, List.set_cons_succ])
            | (refine wk_not true _ _ (by first | exact wanted_none rfl | exact wanted_yes _ _ rfl rfl) rfl rfl ?_; simp only [Act.put, List.setIfInBounds_toArray, List.set_cons_zero, List.set_cons_succ])
            | (refine wk_not false _ _ (by first | exact wanted_none rfl | exact wanted_yes _ _ rfl rfl) rfl rfl ?_; simp only [Act.put, List.setIfInBounds_toArray, List.set_cons_zero, List.set_cons_succ]))
          refine wk_nil ?_
          intro w' hC
          have R12 := Lib.hid (R11.out.since hC)
          clear hC
          go_wp2_with fail
          go_roundw
          case rel => exact ⟨k + 1, by omega, by go_num, R12.out⟩
          case measure => simp [intOf]; omega
    · obtain rfl : k = 252 := by omega
      obtain ⟨wo, rfl⟩ : ∃ wo : World, wo = wr := ⟨_, rfl⟩
      go_wp2_with (refine wpList_load_row rfl 90 _ rfl g1 rfl 90 C1 (0, 0) _ (R11.out.get 9 rfl) Tryd.underlying90 rfl (by rw [HC1.out]; exact sizeTally) ?_)
      refine (Z1.out _).mono ?_
      rintro e w13 ⟨rfl, hb⟩
      have R12 := Lib.hid (R11.out.call hb)
      clear hb
      have cx := R12.out.cell 9 (1 + K) rfl HX.out
      have cy := R12.out.cell 1 (1 + K) rfl HY4.out
      have hxb := HXB.out
      have hyb := HYB.out
      have hnb := HNB.out
      have hn4 := HN4.out
      have hnn := HNN.out
      by_cases hx0 : x = 0
      all_goals by_cases hy0 : y = 0
      all_goals
        first
        | (subst hx0; subst hy0; have hne : (n4 : Int) = (n1 : Int) := by simp at hnn; omega)
        | (subst hx0; have hy1 : 0 < y := by omega
           have hne : (n4 : Int) = (n1 : Int) - 1 := by simp [hy0] at hnn; omega)
        | (subst hy0; have hx1 : 0 < x := by omega
           have hne : (n4 : Int) = (n1 : Int) + 1 := by simp [hx0] at hnn; omega)
        | (have hx1 : 0 < x := by omega
           have hy1 : 0 < y := by omega
           have hne : (n4 : Int) = (n1 : Int) := by simp [hx0, hy0] at hnn; omega)
        have HNE := Lib.hid hne
        clear hnn hne
        go_wp2_with (refine wpList_load_row rfl 90 _ rfl g9 rfl 90 C4 (0, 0) _ (R12.out.get 1 rfl) Tryd.underlying90 rfl (by rw [HC4.out]; exact sizeTally) ?_)
        refine (Z4.out _).mono ?_
        rintro e w14 ⟨rfl, hb⟩
        have R13 := Lib.hid (R12.out.call hb)
        clear hb cx cy
        rw [HNE.out]
        go_wp2_with fail
        refine (tallyhead_any _).mono ?_
        rintro e w15 ⟨rfl, hb⟩
        have hfin := (R13.out.call hb).below
        clear hb
        go_wp2_with fail
        go_ret
        exact ⟨rfl, hfin⟩
end Go.Proofs.YtnhfkmfmmgaecaaDoor
