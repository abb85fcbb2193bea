/- The tally layer: the document's Put and PutPick. Written by mkref05p.py. -/
import Derived.Test.YtnhfkmfmmgaecaaDoorTally
import Derived.Test.YtnhfkmfmmgaecaaDoorRef02
import Derived.Test.YtnhfkmfmmgaecaaDoorRef02D
namespace Go.Proofs.YtnhfkmfmmgaecaaDoor
open Go.RowKit
set_option linter.unusedSimpArgs false
set_option maxRecDepth 100000
theorem sizeTally : (Tryd.prog.info? 90).map (·.size) = some 65 := by kernel_rfl
theorem size_tacells {h : Nat} {l : List Nat} (hn : POk 4 2 64 h l) : (pcells .u32 .u16 h l).size = 65 := by rw [size_pcells, hn.len]
/-- The text of a page's first k numbers. -/
def tatext (h : Nat) (l : List Nat) (k : Nat) : ByteArray := ⟨(pupto 4 2 h l k).toArray⟩
set_option maxHeartbeats 2000000 in
theorem reftaput_yes (h : Nat) (l : List Nat) (hn : POk 4 2 64 h l) (hm : h < 16384) (w : World) :
    Calls Tryd.prog 47 #[.agg (pcells .u32 .u16 h l)] w fun e w' => e = .returned (.tuple #[.agg (blk (doneB 84 (pbytes 4 2 h l))), .int .i64 0]) ∧ Below w.heap.size w w' := by
  obtain ⟨C, hC⟩ : ∃ C, C = pcells .u32 .u16 h l := ⟨_, rfl⟩
  obtain ⟨z, hz⟩ : ∃ z : Int, z = (h : Int) := ⟨_, rfl⟩
  have HC0 : Hid (C[0]? = some (.int .u32 z)) := Lib.hid (by rw [hC, hz]; rfl)
  have HCK : Hid (∀ k, (hk : k < l.length) → C[1 + k]? = some (.int .u16 (l[k] : Int))) := Lib.hid (fun k hk => by rw [hC, Nat.add_comm]; exact pcells_get _ _ _ _ k hk)
  have HLEN := Lib.hid hn.len
  have HALL : Hid (∀ k, (hk : k < l.length) → l[k] < 65536) := Lib.hid (fun k hk => hn.all _ (List.getElem_mem hk))
  have z0 : 0 ≤ z := by omega
  have z1 : z < 16384 := by omega
  have HU0 : Hid (lowsS h 4 = tatext h l 0) := Lib.hid (by unfold tatext; rw [pupto_zero]; rfl)
  have HNH : Hid (∀ w : World, Calls Tryd.prog 61 #[.int .u64 z, .int .i64 4] w fun e w' => e = .returned (.string (lowsS h 4)) ∧ Below w.heap.size w w') := Lib.hid (fun w => by
    rw [hz]; exact refnum_any 4 (by omega) h (by omega) w)
  have HUS : Hid (∀ k, (hk : k < l.length) → tatext h l k ++ lowsS l[k] 2 = tatext h l (k + 1)) := Lib.hid (fun k hk => by
    unfold tatext
    rw [← pupto_succ 4 2 h l k hk]
    apply ByteArray.ext
    apply Array.toList_inj.1
    simp [lowsS])
  have HUL : Hid (∀ k, k ≤ 64 → (tatext h l k).size = 4 + 2 * k) := Lib.hid (fun k hk => by
    show (pupto 4 2 h l k).toArray.size = _
    simp [length_pupto 4 2 h l k (by rw [hn.len]; exact hk)])
  have HDONE : Hid (∀ w : World, Calls Tryd.prog 71 #[.int .u8 84, .string (tatext h l 64)] w fun e w' => e = .returned (.tuple #[.agg (blk (doneB 84 (pbytes 4 2 h l))), .int .i64 0]) ∧ Below w.heap.size w w') := Lib.hid (fun w => by
    have := refdone_any 84 (pbytes 4 2 h l) (tabytes_le hn) w
    have e : tatext h l 64 = ⟨(pbytes 4 2 h l).toArray⟩ := by unfold tatext pbytes; rw [hn.len]
    rw [e]; exact this)
  obtain ⟨D, hD⟩ : ∃ D, D = blk (doneB 84 (pbytes 4 2 h l)) := ⟨_, rfl⟩
  have HDS : Hid (D.size = 256) := Lib.hid (by rw [hD, size_blk, length_doneB _ _ (tabytes_le hn)])
  have HDO : Hid (D.all (·.oneCell') = true) := Lib.hid (by rw [hD]; exact blk_one _)
  rw [← hD] at HDONE ⊢
  obtain ⟨US, hUS⟩ : ∃ US, US = tatext h l := ⟨_, rfl⟩
  rw [← hUS] at HU0 HUS HUL HDONE
  rw [← hC]
  clear hC hn hm hD hUS hz
  have q1 := ((Rows.start w).alloc C 90).alloc (zeros 256 (.int .u8 0)) 33
  obtain ⟨g1, hg1⟩ : ∃ g, g = w.heap.size := ⟨_, rfl⟩
  obtain ⟨g2, hg2⟩ : ∃ g, g = (w.alloc (.cells C 90)).heap.size := ⟨_, rfl⟩
  rw [← hg2, ← hg1] at q1
  have hg2' : w.heap.size + 1 = g2 := by rw [hg2]; simp
  have G1 := Lib.hid hg1
  have G2 := Lib.hid hg2'
  have Q1 := Lib.hid q1
  clear hg1 hg2 hg2' q1
  go_enter Tryd.func47, Tryd.ntmps47
  go_upto_region 1 with (refine wpList_alloc_row rfl 33 rfl _ zeroB ?_)
  have q1 := Q1.out
  obtain ⟨W1, hW⟩ : ∃ W, W = (w.alloc (.cells C 90)).alloc (.cells (zeros 256 (.int .u8 0)) 33) := ⟨_, rfl⟩
  rw [← hW] at q1 ⊢
  rw [G2.out, ← G1.out]
  have R1 := Lib.hid q1
  clear hW q1 Q1
  have h0 : W1.cell? ⟨g1, 0, none⟩ = some (.int .u32 z) := R1.out.cell 1 0 rfl HC0.out
  have e0 : IntKind.u64.wrap z = z := by rw [IntKind.wrap_u64]; omega
  go_wp2_with fail
  refine (HNH.out _).mono ?_
  rintro e w2 ⟨rfl, hb⟩
  have R3 := Lib.hid (R1.out.call hb)
  clear hb h0 e0
  rw [HU0.out]
  go_wp2_with fail
  go_loopw [4, 5] (fun s i wr => ∃ k : Nat, k ≤ 64 ∧ i = .int .i64 k ∧ s = .string (US k) ∧ Rows w wr [(g2, zeros 256 (.int .u8 0), 33), (g1, C, 90)]) (fun _ i _ => 64 - (intOf i).toNat)
  case atStart => exact ⟨0, by omega, rfl, rfl, R3.out⟩
  case round =>
    obtain ⟨k, hk, rfl, rfl, hR⟩ := hrel
    have R4 := Lib.hid hR
    clear hR
    by_cases hlt : k < 64
    · have hkl : k < l.length := by rw [HLEN.out]; exact hlt
      have c1 : wr.cell? ⟨g1, 1 + k, none⟩ = some (.int .u16 (l[k] : Int)) := R4.out.cell 1 (1 + k) rfl (HCK.out k hkl)
      have hx := HALL.out k hkl
      have hcat := HUS.out k hkl
      obtain ⟨x, hxe⟩ : ∃ x, x = l[k] := ⟨_, rfl⟩
      rw [← hxe] at c1 hx hcat
      have hsz : ¬ 9223372036854775807 < (US k).size + (lowsS x 2).size := by
        rw [HUL.out k hk]
        show ¬ _ < 4 + 2 * k + (lows x 2).toArray.size
        simp [length_lows]; omega
      have e1 : IntKind.u64.wrap (x : Int) = (x : Int) := by rw [IntKind.wrap_u64]; omega
      have HN := Lib.hid (refnum_any 2 (by omega) x (by omega) wr)
      clear hxe hkl
      go_wp2_with fail
      refine HN.out.mono ?_
      rintro e w5 ⟨rfl, hb⟩
      have R5 := Lib.hid (R4.out.call hb)
      clear hb HN c1 e1
      go_wp2_with fail
      exact ⟨⟨k + 1, by omega, by go_num, rfl, R5.out⟩, by simp [intOf]; omega⟩
    · obtain rfl : k = 64 := by omega
      go_wp2_with fail
      refine (HDONE.out _).mono ?_
      rintro e w6 ⟨rfl, hb⟩
      have q1 := (R4.out.call hb).alloc D 33
      clear hb
      go_upto_region 9 with (first | refine wpList_alloc_row rfl 33 rfl _ zeroB ?_ | refine wpList_store_new rfl 33 _ _ rfl _ D _ rfl rfl (by rw [HDS.out]; exact sizeB) (by rw [HDS.out, size_zeros]) HDO.out ?_)
      obtain ⟨W6, hW⟩ : ∃ W, W = w6.alloc (.cells D 33) := ⟨_, rfl⟩
      rw [← hW] at q1 ⊢
      clear hW
      obtain ⟨g3, hg⟩ : ∃ g, g = w6.heap.size := ⟨_, rfl⟩
      rw [← hg] at q1 ⊢
      clear hg
      have R6 := Lib.hid q1
      clear q1
      go_wp2_with (first
        | refine wpList_load_row rfl 33 _ rfl g3 rfl 33 D (0, 0) _ (R6.out.get 0 rfl) Tryd.underlying33 rfl (by rw [HDS.out]; exact sizeB) ?_
        | refine wpList_store_row rfl 33 _ _ rfl g2 D rfl rfl 33 _ (R6.out.get 1 rfl) (by rw [HDS.out]; exact sizeB) (by rw [HDS.out, size_zeros]) HDO.out ?_)
      refine bodyPost_ret (v := .tuple #[.agg D, .int .i64 0]) (results_cell_slot rfl _ _ g2 33 _ (0, 0) _ _ rfl rfl (setRow_heap _ _ _ _ _ _ (R6.out.get 1 rfl)) Tryd.underlying33 rfl (by rw [HDS.out]; exact sizeB)) rfl ⟨rfl, ?_⟩
      exact (R6.out.setRow 1 D rfl).below
set_option maxHeartbeats 1000000 in
theorem reftaput_no (h : Nat) (l : List Nat) (hm : ¬ h < 16384) (w : World) :
    Calls Tryd.prog 47 #[.agg (pcells .u32 .u16 h l)] w fun e w' => e = .returned (.tuple #[.agg (zeros 256 (.int .u8 0)), .int .i64 2]) ∧ Below w.heap.size w w' := by
  obtain ⟨C, hC⟩ : ∃ C, C = pcells .u32 .u16 h l := ⟨_, rfl⟩
  obtain ⟨z, hz⟩ : ∃ z : Int, z = (h : Int) := ⟨_, rfl⟩
  have HC0 : Hid (C[0]? = some (.int .u32 z)) := Lib.hid (by rw [hC, hz]; rfl)
  have z1 : ¬ z < 16384 := by omega
  have z2 : 16384 ≤ z := by omega
  rw [← hC]
  clear hC hm hz
  have q1 := ((Rows.start w).alloc C 90).alloc (zeros 256 (.int .u8 0)) 33
  obtain ⟨g1, hg1⟩ : ∃ g, g = w.heap.size := ⟨_, rfl⟩
  obtain ⟨g2, hg2⟩ : ∃ g, g = (w.alloc (.cells C 90)).heap.size := ⟨_, rfl⟩
  rw [← hg2, ← hg1] at q1
  have hg2' : w.heap.size + 1 = g2 := by rw [hg2]; simp
  have G1 := Lib.hid hg1
  have G2 := Lib.hid hg2'
  have Q1 := Lib.hid q1
  clear hg1 hg2 hg2' q1
  go_enter Tryd.func47, Tryd.ntmps47
  go_upto_region 1 with (refine wpList_alloc_row rfl 33 rfl _ zeroB ?_)
  have q1 := Q1.out
  obtain ⟨W1, hW⟩ : ∃ W, W = (w.alloc (.cells C 90)).alloc (.cells (zeros 256 (.int .u8 0)) 33) := ⟨_, rfl⟩
  rw [← hW] at q1 ⊢
  rw [G2.out, ← G1.out]
  have R1 := Lib.hid q1
  clear hW q1 Q1
  have h0 : W1.cell? ⟨g1, 0, none⟩ = some (.int .u32 z) := R1.out.cell 1 0 rfl HC0.out
  go_wp2_with (first
   | refine wpList_build_none rfl 33 rfl _ zeroB Tryd.underlying33 rfl ?_
   | refine wpList_store_row rfl 33 _ _ rfl g2 (zeros 256 (.int .u8 0)) rfl rfl 33 _ (R1.out.get 0 rfl) (by rw [size_zeros]; exact sizeB) (by rw [size_zeros]) zeros_one ?_)
  refine bodyPost_ret (v := .tuple #[.agg (zeros 256 (.int .u8 0)), .int .i64 2]) (results_cell_slot rfl _ _ g2 33 _ (0, 0) _ _ rfl rfl (setRow_heap _ _ _ _ _ _ (R1.out.get 0 rfl)) Tryd.underlying33 rfl (by rw [size_zeros]; exact sizeB)) rfl ⟨rfl, ?_⟩
  exact (R1.out.setRow 0 _ rfl).below
theorem reftaPut_any (h : Nat) (l : List Nat) (hn : POk 4 2 64 h l) (w : World) : Calls Tryd.prog 47 #[.agg (pcells .u32 .u16 h l)] w fun e w' => e = .returned (.tuple #[.agg (blk (taputB h l)), .int .i64 (taputE h)]) ∧ Below w.heap.size w w' := by
  unfold taputB taputE
  by_cases hm : h < 16384
  · rw [if_pos hm, if_pos hm]; exact reftaput_yes h l hn hm w
  · rw [if_neg hm, if_neg hm, ← zeros_blk]; exact reftaput_no h l hm w
theorem sizePick : (Tryd.prog.info? 93).map (·.size) = some 17 := by kernel_rfl
theorem size_ticells {h : Nat} {l : List Nat} (hn : POk 4 8 16 h l) : (pcells .u32 .u64 h l).size = 17 := by rw [size_pcells, hn.len]
/-- The text of a page's first k numbers. -/
def titext (h : Nat) (l : List Nat) (k : Nat) : ByteArray := ⟨(pupto 4 8 h l k).toArray⟩
set_option maxHeartbeats 2000000 in
theorem reftiput_yes (h : Nat) (l : List Nat) (hn : POk 4 8 16 h l) (hm : h < 16) (w : World) :
    Calls Tryd.prog 49 #[.agg (pcells .u32 .u64 h l)] w fun e w' => e = .returned (.tuple #[.agg (blk (doneB 80 (pbytes 4 8 h l))), .int .i64 0]) ∧ Below w.heap.size w w' := by
  obtain ⟨C, hC⟩ : ∃ C, C = pcells .u32 .u64 h l := ⟨_, rfl⟩
  obtain ⟨z, hz⟩ : ∃ z : Int, z = (h : Int) := ⟨_, rfl⟩
  have HC0 : Hid (C[0]? = some (.int .u32 z)) := Lib.hid (by rw [hC, hz]; rfl)
  have HCK : Hid (∀ k, (hk : k < l.length) → C[1 + k]? = some (.int .u64 (l[k] : Int))) := Lib.hid (fun k hk => by rw [hC, Nat.add_comm]; exact pcells_get _ _ _ _ k hk)
  have HLEN := Lib.hid hn.len
  have HALL : Hid (∀ k, (hk : k < l.length) → l[k] < 18446744073709551616) := Lib.hid (fun k hk => hn.all _ (List.getElem_mem hk))
  have z0 : 0 ≤ z := by omega
  have z1 : z < 16 := by omega
  have HU0 : Hid (lowsS h 4 = titext h l 0) := Lib.hid (by unfold titext; rw [pupto_zero]; rfl)
  have HNH : Hid (∀ w : World, Calls Tryd.prog 61 #[.int .u64 z, .int .i64 4] w fun e w' => e = .returned (.string (lowsS h 4)) ∧ Below w.heap.size w w') := Lib.hid (fun w => by
    rw [hz]; exact refnum_any 4 (by omega) h (by omega) w)
  have HUS : Hid (∀ k, (hk : k < l.length) → titext h l k ++ lowsS l[k] 8 = titext h l (k + 1)) := Lib.hid (fun k hk => by
    unfold titext
    rw [← pupto_succ 4 8 h l k hk]
    apply ByteArray.ext
    apply Array.toList_inj.1
    simp [lowsS])
  have HUL : Hid (∀ k, k ≤ 16 → (titext h l k).size = 4 + 8 * k) := Lib.hid (fun k hk => by
    show (pupto 4 8 h l k).toArray.size = _
    simp [length_pupto 4 8 h l k (by rw [hn.len]; exact hk)])
  have HDONE : Hid (∀ w : World, Calls Tryd.prog 71 #[.int .u8 80, .string (titext h l 16)] w fun e w' => e = .returned (.tuple #[.agg (blk (doneB 80 (pbytes 4 8 h l))), .int .i64 0]) ∧ Below w.heap.size w w') := Lib.hid (fun w => by
    have := refdone_any 80 (pbytes 4 8 h l) (tibytes_le hn) w
    have e : titext h l 16 = ⟨(pbytes 4 8 h l).toArray⟩ := by unfold titext pbytes; rw [hn.len]
    rw [e]; exact this)
  obtain ⟨D, hD⟩ : ∃ D, D = blk (doneB 80 (pbytes 4 8 h l)) := ⟨_, rfl⟩
  have HDS : Hid (D.size = 256) := Lib.hid (by rw [hD, size_blk, length_doneB _ _ (tibytes_le hn)])
  have HDO : Hid (D.all (·.oneCell') = true) := Lib.hid (by rw [hD]; exact blk_one _)
  rw [← hD] at HDONE ⊢
  obtain ⟨US, hUS⟩ : ∃ US, US = titext h l := ⟨_, rfl⟩
  rw [← hUS] at HU0 HUS HUL HDONE
  rw [← hC]
  clear hC hn hm hD hUS hz
  have q1 := ((Rows.start w).alloc C 93).alloc (zeros 256 (.int .u8 0)) 33
  obtain ⟨g1, hg1⟩ : ∃ g, g = w.heap.size := ⟨_, rfl⟩
  obtain ⟨g2, hg2⟩ : ∃ g, g = (w.alloc (.cells C 93)).heap.size := ⟨_, rfl⟩
  rw [← hg2, ← hg1] at q1
  have hg2' : w.heap.size + 1 = g2 := by rw [hg2]; simp
  have G1 := Lib.hid hg1
  have G2 := Lib.hid hg2'
  have Q1 := Lib.hid q1
  clear hg1 hg2 hg2' q1
  go_enter Tryd.func49, Tryd.ntmps49
  go_upto_region 1 with (refine wpList_alloc_row rfl 33 rfl _ zeroB ?_)
  have q1 := Q1.out
  obtain ⟨W1, hW⟩ : ∃ W, W = (w.alloc (.cells C 93)).alloc (.cells (zeros 256 (.int .u8 0)) 33) := ⟨_, rfl⟩
  rw [← hW] at q1 ⊢
  rw [G2.out, ← G1.out]
  have R1 := Lib.hid q1
  clear hW q1 Q1
  have h0 : W1.cell? ⟨g1, 0, none⟩ = some (.int .u32 z) := R1.out.cell 1 0 rfl HC0.out
  have e0 : IntKind.u64.wrap z = z := by rw [IntKind.wrap_u64]; omega
  go_wp2_with fail
  refine (HNH.out _).mono ?_
  rintro e w2 ⟨rfl, hb⟩
  have R3 := Lib.hid (R1.out.call hb)
  clear hb h0 e0
  rw [HU0.out]
  go_wp2_with fail
  go_loopw [4, 5] (fun s i wr => ∃ k : Nat, k ≤ 16 ∧ i = .int .i64 k ∧ s = .string (US k) ∧ Rows w wr [(g2, zeros 256 (.int .u8 0), 33), (g1, C, 93)]) (fun _ i _ => 16 - (intOf i).toNat)
  case atStart => exact ⟨0, by omega, rfl, rfl, R3.out⟩
  case round =>
    obtain ⟨k, hk, rfl, rfl, hR⟩ := hrel
    have R4 := Lib.hid hR
    clear hR
    by_cases hlt : k < 16
    · have hkl : k < l.length := by rw [HLEN.out]; exact hlt
      have c1 : wr.cell? ⟨g1, 1 + k, none⟩ = some (.int .u64 (l[k] : Int)) := R4.out.cell 1 (1 + k) rfl (HCK.out k hkl)
      have hx := HALL.out k hkl
      have hcat := HUS.out k hkl
      obtain ⟨x, hxe⟩ : ∃ x, x = l[k] := ⟨_, rfl⟩
      rw [← hxe] at c1 hx hcat
      have hsz : ¬ 9223372036854775807 < (US k).size + (lowsS x 8).size := by
        rw [HUL.out k hk]
        show ¬ _ < 4 + 8 * k + (lows x 8).toArray.size
        simp [length_lows]; omega
      have e1 : IntKind.u64.wrap (x : Int) = (x : Int) := by rw [IntKind.wrap_u64]; omega
      have HN := Lib.hid (refnum_any 8 (by omega) x (by omega) wr)
      clear hxe hkl
      go_wp2_with fail
      refine HN.out.mono ?_
      rintro e w5 ⟨rfl, hb⟩
      have R5 := Lib.hid (R4.out.call hb)
      clear hb HN c1 e1
      go_wp2_with fail
      exact ⟨⟨k + 1, by omega, by go_num, rfl, R5.out⟩, by simp [intOf]; omega⟩
    · obtain rfl : k = 16 := by omega
      go_wp2_with fail
      refine (HDONE.out _).mono ?_
      rintro e w6 ⟨rfl, hb⟩
      have q1 := (R4.out.call hb).alloc D 33
      clear hb
      go_upto_region 9 with (first | refine wpList_alloc_row rfl 33 rfl _ zeroB ?_ | refine wpList_store_new rfl 33 _ _ rfl _ D _ rfl rfl (by rw [HDS.out]; exact sizeB) (by rw [HDS.out, size_zeros]) HDO.out ?_)
      obtain ⟨W6, hW⟩ : ∃ W, W = w6.alloc (.cells D 33) := ⟨_, rfl⟩
      rw [← hW] at q1 ⊢
      clear hW
      obtain ⟨g3, hg⟩ : ∃ g, g = w6.heap.size := ⟨_, rfl⟩
      rw [← hg] at q1 ⊢
      clear hg
      have R6 := Lib.hid q1
      clear q1
      go_wp2_with (first
        | refine wpList_load_row rfl 33 _ rfl g3 rfl 33 D (0, 0) _ (R6.out.get 0 rfl) Tryd.underlying33 rfl (by rw [HDS.out]; exact sizeB) ?_
        | refine wpList_store_row rfl 33 _ _ rfl g2 D rfl rfl 33 _ (R6.out.get 1 rfl) (by rw [HDS.out]; exact sizeB) (by rw [HDS.out, size_zeros]) HDO.out ?_)
      refine bodyPost_ret (v := .tuple #[.agg D, .int .i64 0]) (results_cell_slot rfl _ _ g2 33 _ (0, 0) _ _ rfl rfl (setRow_heap _ _ _ _ _ _ (R6.out.get 1 rfl)) Tryd.underlying33 rfl (by rw [HDS.out]; exact sizeB)) rfl ⟨rfl, ?_⟩
      exact (R6.out.setRow 1 D rfl).below
set_option maxHeartbeats 1000000 in
theorem reftiput_no (h : Nat) (l : List Nat) (hm : ¬ h < 16) (w : World) :
    Calls Tryd.prog 49 #[.agg (pcells .u32 .u64 h l)] w fun e w' => e = .returned (.tuple #[.agg (zeros 256 (.int .u8 0)), .int .i64 2]) ∧ Below w.heap.size w w' := by
  obtain ⟨C, hC⟩ : ∃ C, C = pcells .u32 .u64 h l := ⟨_, rfl⟩
  obtain ⟨z, hz⟩ : ∃ z : Int, z = (h : Int) := ⟨_, rfl⟩
  have HC0 : Hid (C[0]? = some (.int .u32 z)) := Lib.hid (by rw [hC, hz]; rfl)
  have z1 : ¬ z < 16 := by omega
  have z2 : 16 ≤ z := by omega
  rw [← hC]
  clear hC hm hz
  have q1 := ((Rows.start w).alloc C 93).alloc (zeros 256 (.int .u8 0)) 33
  obtain ⟨g1, hg1⟩ : ∃ g, g = w.heap.size := ⟨_, rfl⟩
  obtain ⟨g2, hg2⟩ : ∃ g, g = (w.alloc (.cells C 93)).heap.size := ⟨_, rfl⟩
  rw [← hg2, ← hg1] at q1
  have hg2' : w.heap.size + 1 = g2 := by rw [hg2]; simp
  have G1 := Lib.hid hg1
  have G2 := Lib.hid hg2'
  have Q1 := Lib.hid q1
  clear hg1 hg2 hg2' q1
  go_enter Tryd.func49, Tryd.ntmps49
  go_upto_region 1 with (refine wpList_alloc_row rfl 33 rfl _ zeroB ?_)
  have q1 := Q1.out
  obtain ⟨W1, hW⟩ : ∃ W, W = (w.alloc (.cells C 93)).alloc (.cells (zeros 256 (.int .u8 0)) 33) := ⟨_, rfl⟩
  rw [← hW] at q1 ⊢
  rw [G2.out, ← G1.out]
  have R1 := Lib.hid q1
  clear hW q1 Q1
  have h0 : W1.cell? ⟨g1, 0, none⟩ = some (.int .u32 z) := R1.out.cell 1 0 rfl HC0.out
  go_wp2_with (first
   | refine wpList_build_none rfl 33 rfl _ zeroB Tryd.underlying33 rfl ?_
   | refine wpList_store_row rfl 33 _ _ rfl g2 (zeros 256 (.int .u8 0)) rfl rfl 33 _ (R1.out.get 0 rfl) (by rw [size_zeros]; exact sizeB) (by rw [size_zeros]) zeros_one ?_)
  refine bodyPost_ret (v := .tuple #[.agg (zeros 256 (.int .u8 0)), .int .i64 2]) (results_cell_slot rfl _ _ g2 33 _ (0, 0) _ _ rfl rfl (setRow_heap _ _ _ _ _ _ (R1.out.get 0 rfl)) Tryd.underlying33 rfl (by rw [size_zeros]; exact sizeB)) rfl ⟨rfl, ?_⟩
  exact (R1.out.setRow 0 _ rfl).below
theorem reftiPut_any (h : Nat) (l : List Nat) (hn : POk 4 8 16 h l) (w : World) : Calls Tryd.prog 49 #[.agg (pcells .u32 .u64 h l)] w fun e w' => e = .returned (.tuple #[.agg (blk (tiputB h l)), .int .i64 (tiputE h)]) ∧ Below w.heap.size w w' := by
  unfold tiputB tiputE
  by_cases hm : h < 16
  · rw [if_pos hm, if_pos hm]; exact reftiput_yes h l hn hm w
  · rw [if_neg hm, if_neg hm, ← zeros_blk]; exact reftiput_no h l hm w
end Go.Proofs.YtnhfkmfmmgaecaaDoor
