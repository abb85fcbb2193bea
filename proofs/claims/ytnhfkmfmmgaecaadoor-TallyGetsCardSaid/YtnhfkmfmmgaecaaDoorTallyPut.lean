/- The tally layer: put, Put and PutPick. Written by mktput.py. -/
import Derived.Test.YtnhfkmfmmgaecaaDoorPage
import Derived.Test.YtnhfkmfmmgaecaaDoorFieldDone
namespace Go.Proofs.YtnhfkmfmmgaecaaDoor
open Go.RowKit
set_option linter.unusedSimpArgs false
set_option maxRecDepth 100000
theorem tabytes_le {h : Nat} {l : List Nat} (hn : POk 4 2 64 h l) : (pbytes 4 2 h l).length ≤ 251 := by rw [length_pbytes hn]; decide
set_option maxHeartbeats 2000000 in
theorem taput_yes (w : World) (g off c h lim : Nat) (l : List Nat) (hn : POk 4 2 64 h l) (hm : h < lim) (_hlim : lim < 4294967296) (hg : g < w.heap.size) (hcell : ∀ k, (hk : k < l.length) → w.cell? ⟨g, off + k, none⟩ = some (.int .u16 (l[k] : Int))) :
    Calls Tryd.prog 78 #[.int .u8 84, .int .u32 (h : Int), .int .u32 (lim : Int), .slice (some ⟨g, off, none⟩) 64 c, .int .i64 2] w fun e w' => e = .returned (.tuple #[.agg (blk (doneB 84 (pbytes 4 2 h l))), .int .i64 0]) ∧ Below w.heap.size w w' := by
  have HC := Lib.hid hcell
  have HLEN := Lib.hid hn.len
  have HALL : Hid (∀ k, (hk : k < l.length) → l[k] < 65536) := Lib.hid (fun k hk => hn.all _ (List.getElem_mem hk))
  have hh : h < 4294967296 := hn.head
  have HU0 : Hid (lows h 4 = pupto 4 2 h l 0) := Lib.hid (pupto_zero 4 2 h l).symm
  have HUS : Hid (∀ k, (hk : k < l.length) → pupto 4 2 h l k ++ lows l[k] 2 = pupto 4 2 h l (k + 1)) := Lib.hid (fun k hk => pupto_succ 4 2 h l k hk)
  have HUL : Hid (∀ k, k ≤ 64 → (pupto 4 2 h l k).length = 4 + 2 * k) := Lib.hid (fun k hk => length_pupto 4 2 h l k (by rw [hn.len]; exact hk))
  have HUA : Hid (pupto 4 2 h l 64 = pbytes 4 2 h l) := Lib.hid (by rw [pbytes, hn.len])
  have HBL := Lib.hid (tabytes_le hn)
  clear hn hcell
  have q1 := (Rows.start w).alloc (zeros 256 (.int .u8 0)) 33
  obtain ⟨g2, hg1⟩ : ∃ g, g = w.heap.size := ⟨_, rfl⟩
  rw [← hg1] at q1
  have G1 := Lib.hid hg1
  have Q1 := Lib.hid q1
  clear hg1 q1
  go_enter Tryd.func78, Tryd.ntmps78
  go_upto_region 1 with (refine wpList_alloc_row rfl 33 rfl _ zeroB ?_)
  have q1 := Q1.out
  obtain ⟨W1, hW⟩ : ∃ W, W = w.alloc (.cells (zeros 256 (.int .u8 0)) 33) := ⟨_, rfl⟩
  rw [← hW] at q1 ⊢
  rw [← G1.out]
  have R1 := Lib.hid q1
  clear hW q1 Q1
  go_wp2_with fail
  refine (new_any _).mono ?_
  rintro e w2 ⟨gw, rfl, hgw, hw2, hb2⟩
  obtain ⟨base, hbase⟩ : ∃ b, b = W1.heap.size := ⟨_, rfl⟩
  have HLTS : Hid (∀ x ∈ [(g2, zeros 256 (.int .u8 0), 33)], x.1 < base) := Lib.hid (by rw [hbase]; exact R1.out.lts)
  have HB0 : Hid (w.heap.size ≤ base) := Lib.hid (by rw [hbase]; exact R1.out.below.size)
  rw [← hbase] at hw2
  have R2 := Lib.hid (R1.out.call hb2)
  have HW2 := Lib.hid hw2
  clear hw2 hb2 hgw hbase
  go_wp2_with fail
  refine (num_any _ _ _ _ _ _ _ 4 (by omega) (by simp) (by omega) HW2.out).mono ?_
  rintro e w3 ⟨rfl, hw3, hl3⟩
  rw [List.nil_append, HU0.out] at hw3
  have R3 := Lib.hid (R2.out.under HB0.out HLTS.out hl3.1)
  have HW3 := Lib.hid hw3
  clear hw3 hl3
  go_wp2_with fail
  go_loopw [26] (fun i wr => ∃ k : Nat, k ≤ 64 ∧ i = .int .i64 k ∧ WriterAt wr base gw [] false (pupto 4 2 h l k) ∧ Rows w wr [(g2, zeros 256 (.int .u8 0), 33)]) (fun i _ => 64 - (intOf i).toNat)
  case atStart => exact ⟨0, by omega, rfl, HW3.out, R3.out⟩
  case round =>
    obtain ⟨k, hk, rfl, hwr, hR⟩ := hrel
    have HWR := Lib.hid hwr
    have R4 := Lib.hid hR
    clear hwr hR
    by_cases hlt : k < 64
    · have hkl : k < l.length := by rw [HLEN.out]; exact hlt
      have h1 : wr.cell? ⟨g, off + k, none⟩ = some (.int .u16 (l[k] : Int)) := by rw [R4.out.below.cell (p := ⟨g, off + k, none⟩) hg]; exact HC.out k hkl
      have hx := HALL.out k hkl
      have hS := HUS.out k hkl
      obtain ⟨x, hxe⟩ : ∃ x, x = l[k] := ⟨_, rfl⟩
      rw [← hxe] at h1 hx hS
      have HS := Lib.hid hS
      have hl := Lib.hid (HUL.out k hk)
      clear hxe hS hkl
      go_wp2_with fail
      refine (num_any _ _ _ _ _ _ _ 2 (by omega) (by rw [hl.out]; omega) (by omega) HWR.out).mono ?_
      rintro e w5 ⟨rfl, hw5, hl5⟩
      rw [HS.out] at hw5
      have HW5 := Lib.hid hw5
      have R5 := Lib.hid (R4.out.under HB0.out HLTS.out hl5.1)
      clear hw5 hl5 h1
      go_wp2_with fail
      exact ⟨⟨k + 1, by omega, by go_num, HW5.out, R5.out⟩, by simp [intOf]; omega⟩
    · obtain rfl : k = 64 := by omega
      have HWD : Hid (WriterAt wr base gw [] false (pbytes 4 2 h l)) := Lib.hid (by rw [← HUA.out]; exact HWR.out)
      go_wp2_with fail
      refine (done_any _ _ _ _ _ 84 HBL.out HWD.out).mono ?_
      rintro e w6 ⟨rfl, hb6⟩
      have R6 := Lib.hid (R4.out.call hb6)
      have HD : Hid ((blk (doneB 84 (pbytes 4 2 h l))).size = 256) := Lib.hid (by rw [size_blk, length_doneB _ _ HBL.out])
      clear hb6
      obtain ⟨D, hD⟩ : ∃ D, D = blk (doneB 84 (pbytes 4 2 h l)) := ⟨_, rfl⟩
      rw [← hD] at HD ⊢
      have HO : Hid (D.all (·.oneCell') = true) := Lib.hid (by rw [hD]; exact blk_one _)
      have HDE := Lib.hid hD
      clear hD
      go_wp2_with (refine wpList_store_row rfl 33 _ _ rfl g2 D rfl rfl 33 _ (R6.out.get 0 rfl) (by rw [HD.out]; exact sizeB) (by rw [HD.out, size_zeros]) HO.out ?_)
      refine bodyPost_ret (v := .tuple #[.agg D, .int .i64 0]) (results_cell_slot rfl _ _ g2 33 _ (0, 0) _ _ rfl rfl (setRow_heap _ _ _ _ _ _ (R6.out.get 0 rfl)) Tryd.underlying33 rfl (by rw [HD.out]; exact sizeB)) rfl ⟨by rw [HDE.out], ?_⟩
      exact (R6.out.setRow 0 D rfl).below
set_option maxHeartbeats 1000000 in
theorem taput_no (w : World) (r : Value) (h lim : Nat) (hm : ¬ h < lim) :
    Calls Tryd.prog 78 #[.int .u8 84, .int .u32 (h : Int), .int .u32 (lim : Int), r, .int .i64 2] w fun e w' => e = .returned (.tuple #[.agg (zeros 256 (.int .u8 0)), .int .i64 2]) ∧ Below w.heap.size w w' := by
  have q1 := (Rows.start w).alloc (zeros 256 (.int .u8 0)) 33
  obtain ⟨g2, hg1⟩ : ∃ g, g = w.heap.size := ⟨_, rfl⟩
  rw [← hg1] at q1
  have G1 := Lib.hid hg1
  have Q1 := Lib.hid q1
  clear hg1 q1
  go_enter Tryd.func78, Tryd.ntmps78
  go_upto_region 1 with (refine wpList_alloc_row rfl 33 rfl _ zeroB ?_)
  have q1 := Q1.out
  obtain ⟨W1, hW⟩ : ∃ W, W = w.alloc (.cells (zeros 256 (.int .u8 0)) 33) := ⟨_, rfl⟩
  rw [← hW] at q1 ⊢
  rw [← G1.out]
  have R1 := Lib.hid q1
  clear hW q1 Q1
  go_wp2_with (first
   | refine wpList_build_none rfl 33 rfl _ zeroB Tryd.underlying33 rfl ?_
   | refine wpList_store_row rfl 33 _ _ rfl g2 (zeros 256 (.int .u8 0)) rfl rfl 33 _ (R1.out.get 0 rfl) (by rw [size_zeros]; exact sizeB) (by rw [size_zeros]) zeros_one ?_)
  refine bodyPost_ret (v := .tuple #[.agg (zeros 256 (.int .u8 0)), .int .i64 2]) (results_cell_slot rfl _ _ g2 33 _ (0, 0) _ _ rfl rfl (setRow_heap _ _ _ _ _ _ (R1.out.get 0 rfl)) Tryd.underlying33 rfl (by rw [size_zeros]; exact sizeB)) rfl ⟨rfl, ?_⟩
  exact (R1.out.setRow 0 _ rfl).below
/-- What Put answers. -/
def taputB (h : Nat) (l : List Nat) : List UInt8 := if h < 16384 then doneB 84 (pbytes 4 2 h l) else List.replicate 256 0
def taputE (h : Nat) : Int := if h < 16384 then 0 else 2
theorem length_taputB {h : Nat} {l : List Nat} (hn : POk 4 2 64 h l) : (taputB h l).length = 256 := by
  unfold taputB
  split
  · exact length_doneB _ _ (tabytes_le hn)
  · exact List.length_replicate
theorem taput_any (w : World) (g off c h : Nat) (l : List Nat) (hn : POk 4 2 64 h l) (hg : g < w.heap.size) (hcell : ∀ k, (hk : k < l.length) → w.cell? ⟨g, off + k, none⟩ = some (.int .u16 (l[k] : Int))) :
    Calls Tryd.prog 78 #[.int .u8 84, .int .u32 (h : Int), .int .u32 16384, .slice (some ⟨g, off, none⟩) 64 c, .int .i64 2] w fun e w' => e = .returned (.tuple #[.agg (blk (taputB h l)), .int .i64 (taputE h)]) ∧ Below w.heap.size w w' := by
  unfold taputB taputE
  by_cases hm : h < 16384
  · rw [if_pos hm, if_pos hm]; exact taput_yes w g off c h 16384 l hn hm (by omega) hg hcell
  · rw [if_neg hm, if_neg hm, ← zeros_blk]; exact taput_no w _ h 16384 hm
theorem tibytes_le {h : Nat} {l : List Nat} (hn : POk 4 8 16 h l) : (pbytes 4 8 h l).length ≤ 251 := by rw [length_pbytes hn]; decide
set_option maxHeartbeats 2000000 in
theorem tiput_yes (w : World) (g off c h lim : Nat) (l : List Nat) (hn : POk 4 8 16 h l) (hm : h < lim) (_hlim : lim < 4294967296) (hg : g < w.heap.size) (hcell : ∀ k, (hk : k < l.length) → w.cell? ⟨g, off + k, none⟩ = some (.int .u64 (l[k] : Int))) :
    Calls Tryd.prog 79 #[.int .u8 80, .int .u32 (h : Int), .int .u32 (lim : Int), .slice (some ⟨g, off, none⟩) 16 c, .int .i64 8] w fun e w' => e = .returned (.tuple #[.agg (blk (doneB 80 (pbytes 4 8 h l))), .int .i64 0]) ∧ Below w.heap.size w w' := by
  have HC := Lib.hid hcell
  have HLEN := Lib.hid hn.len
  have HALL : Hid (∀ k, (hk : k < l.length) → l[k] < 18446744073709551616) := Lib.hid (fun k hk => hn.all _ (List.getElem_mem hk))
  have hh : h < 4294967296 := hn.head
  have HU0 : Hid (lows h 4 = pupto 4 8 h l 0) := Lib.hid (pupto_zero 4 8 h l).symm
  have HUS : Hid (∀ k, (hk : k < l.length) → pupto 4 8 h l k ++ lows l[k] 8 = pupto 4 8 h l (k + 1)) := Lib.hid (fun k hk => pupto_succ 4 8 h l k hk)
  have HUL : Hid (∀ k, k ≤ 16 → (pupto 4 8 h l k).length = 4 + 8 * k) := Lib.hid (fun k hk => length_pupto 4 8 h l k (by rw [hn.len]; exact hk))
  have HUA : Hid (pupto 4 8 h l 16 = pbytes 4 8 h l) := Lib.hid (by rw [pbytes, hn.len])
  have HBL := Lib.hid (tibytes_le hn)
  clear hn hcell
  have q1 := (Rows.start w).alloc (zeros 256 (.int .u8 0)) 33
  obtain ⟨g2, hg1⟩ : ∃ g, g = w.heap.size := ⟨_, rfl⟩
  rw [← hg1] at q1
  have G1 := Lib.hid hg1
  have Q1 := Lib.hid q1
  clear hg1 q1
  go_enter Tryd.func79, Tryd.ntmps79
  go_upto_region 1 with (refine wpList_alloc_row rfl 33 rfl _ zeroB ?_)
  have q1 := Q1.out
  obtain ⟨W1, hW⟩ : ∃ W, W = w.alloc (.cells (zeros 256 (.int .u8 0)) 33) := ⟨_, rfl⟩
  rw [← hW] at q1 ⊢
  rw [← G1.out]
  have R1 := Lib.hid q1
  clear hW q1 Q1
  go_wp2_with fail
  refine (new_any _).mono ?_
  rintro e w2 ⟨gw, rfl, hgw, hw2, hb2⟩
  obtain ⟨base, hbase⟩ : ∃ b, b = W1.heap.size := ⟨_, rfl⟩
  have HLTS : Hid (∀ x ∈ [(g2, zeros 256 (.int .u8 0), 33)], x.1 < base) := Lib.hid (by rw [hbase]; exact R1.out.lts)
  have HB0 : Hid (w.heap.size ≤ base) := Lib.hid (by rw [hbase]; exact R1.out.below.size)
  rw [← hbase] at hw2
  have R2 := Lib.hid (R1.out.call hb2)
  have HW2 := Lib.hid hw2
  clear hw2 hb2 hgw hbase
  go_wp2_with fail
  refine (num_any _ _ _ _ _ _ _ 4 (by omega) (by simp) (by omega) HW2.out).mono ?_
  rintro e w3 ⟨rfl, hw3, hl3⟩
  rw [List.nil_append, HU0.out] at hw3
  have R3 := Lib.hid (R2.out.under HB0.out HLTS.out hl3.1)
  have HW3 := Lib.hid hw3
  clear hw3 hl3
  go_wp2_with fail
  go_loopw [26] (fun i wr => ∃ k : Nat, k ≤ 16 ∧ i = .int .i64 k ∧ WriterAt wr base gw [] false (pupto 4 8 h l k) ∧ Rows w wr [(g2, zeros 256 (.int .u8 0), 33)]) (fun i _ => 16 - (intOf i).toNat)
  case atStart => exact ⟨0, by omega, rfl, HW3.out, R3.out⟩
  case round =>
    obtain ⟨k, hk, rfl, hwr, hR⟩ := hrel
    have HWR := Lib.hid hwr
    have R4 := Lib.hid hR
    clear hwr hR
    by_cases hlt : k < 16
    · have hkl : k < l.length := by rw [HLEN.out]; exact hlt
      have h1 : wr.cell? ⟨g, off + k, none⟩ = some (.int .u64 (l[k] : Int)) := by rw [R4.out.below.cell (p := ⟨g, off + k, none⟩) hg]; exact HC.out k hkl
      have hx := HALL.out k hkl
      have hS := HUS.out k hkl
      obtain ⟨x, hxe⟩ : ∃ x, x = l[k] := ⟨_, rfl⟩
      rw [← hxe] at h1 hx hS
      have HS := Lib.hid hS
      have hl := Lib.hid (HUL.out k hk)
      clear hxe hS hkl
      go_wp2_with fail
      refine (num_any _ _ _ _ _ _ _ 8 (by omega) (by rw [hl.out]; omega) (by omega) HWR.out).mono ?_
      rintro e w5 ⟨rfl, hw5, hl5⟩
      rw [HS.out] at hw5
      have HW5 := Lib.hid hw5
      have R5 := Lib.hid (R4.out.under HB0.out HLTS.out hl5.1)
      clear hw5 hl5 h1
      go_wp2_with fail
      exact ⟨⟨k + 1, by omega, by go_num, HW5.out, R5.out⟩, by simp [intOf]; omega⟩
    · obtain rfl : k = 16 := by omega
      have HWD : Hid (WriterAt wr base gw [] false (pbytes 4 8 h l)) := Lib.hid (by rw [← HUA.out]; exact HWR.out)
      go_wp2_with fail
      refine (done_any _ _ _ _ _ 80 HBL.out HWD.out).mono ?_
      rintro e w6 ⟨rfl, hb6⟩
      have R6 := Lib.hid (R4.out.call hb6)
      have HD : Hid ((blk (doneB 80 (pbytes 4 8 h l))).size = 256) := Lib.hid (by rw [size_blk, length_doneB _ _ HBL.out])
      clear hb6
      obtain ⟨D, hD⟩ : ∃ D, D = blk (doneB 80 (pbytes 4 8 h l)) := ⟨_, rfl⟩
      rw [← hD] at HD ⊢
      have HO : Hid (D.all (·.oneCell') = true) := Lib.hid (by rw [hD]; exact blk_one _)
      have HDE := Lib.hid hD
      clear hD
      go_wp2_with (refine wpList_store_row rfl 33 _ _ rfl g2 D rfl rfl 33 _ (R6.out.get 0 rfl) (by rw [HD.out]; exact sizeB) (by rw [HD.out, size_zeros]) HO.out ?_)
      refine bodyPost_ret (v := .tuple #[.agg D, .int .i64 0]) (results_cell_slot rfl _ _ g2 33 _ (0, 0) _ _ rfl rfl (setRow_heap _ _ _ _ _ _ (R6.out.get 0 rfl)) Tryd.underlying33 rfl (by rw [HD.out]; exact sizeB)) rfl ⟨by rw [HDE.out], ?_⟩
      exact (R6.out.setRow 0 D rfl).below
set_option maxHeartbeats 1000000 in
theorem tiput_no (w : World) (r : Value) (h lim : Nat) (hm : ¬ h < lim) :
    Calls Tryd.prog 79 #[.int .u8 80, .int .u32 (h : Int), .int .u32 (lim : Int), r, .int .i64 8] w fun e w' => e = .returned (.tuple #[.agg (zeros 256 (.int .u8 0)), .int .i64 2]) ∧ Below w.heap.size w w' := by
  have q1 := (Rows.start w).alloc (zeros 256 (.int .u8 0)) 33
  obtain ⟨g2, hg1⟩ : ∃ g, g = w.heap.size := ⟨_, rfl⟩
  rw [← hg1] at q1
  have G1 := Lib.hid hg1
  have Q1 := Lib.hid q1
  clear hg1 q1
  go_enter Tryd.func79, Tryd.ntmps79
  go_upto_region 1 with (refine wpList_alloc_row rfl 33 rfl _ zeroB ?_)
  have q1 := Q1.out
  obtain ⟨W1, hW⟩ : ∃ W, W = w.alloc (.cells (zeros 256 (.int .u8 0)) 33) := ⟨_, rfl⟩
  rw [← hW] at q1 ⊢
  rw [← G1.out]
  have R1 := Lib.hid q1
  clear hW q1 Q1
  go_wp2_with (first
   | refine wpList_build_none rfl 33 rfl _ zeroB Tryd.underlying33 rfl ?_
   | refine wpList_store_row rfl 33 _ _ rfl g2 (zeros 256 (.int .u8 0)) rfl rfl 33 _ (R1.out.get 0 rfl) (by rw [size_zeros]; exact sizeB) (by rw [size_zeros]) zeros_one ?_)
  refine bodyPost_ret (v := .tuple #[.agg (zeros 256 (.int .u8 0)), .int .i64 2]) (results_cell_slot rfl _ _ g2 33 _ (0, 0) _ _ rfl rfl (setRow_heap _ _ _ _ _ _ (R1.out.get 0 rfl)) Tryd.underlying33 rfl (by rw [size_zeros]; exact sizeB)) rfl ⟨rfl, ?_⟩
  exact (R1.out.setRow 0 _ rfl).below
/-- What Put answers. -/
def tiputB (h : Nat) (l : List Nat) : List UInt8 := if h < 16 then doneB 80 (pbytes 4 8 h l) else List.replicate 256 0
def tiputE (h : Nat) : Int := if h < 16 then 0 else 2
theorem length_tiputB {h : Nat} {l : List Nat} (hn : POk 4 8 16 h l) : (tiputB h l).length = 256 := by
  unfold tiputB
  split
  · exact length_doneB _ _ (tibytes_le hn)
  · exact List.length_replicate
theorem tiput_any (w : World) (g off c h : Nat) (l : List Nat) (hn : POk 4 8 16 h l) (hg : g < w.heap.size) (hcell : ∀ k, (hk : k < l.length) → w.cell? ⟨g, off + k, none⟩ = some (.int .u64 (l[k] : Int))) :
    Calls Tryd.prog 79 #[.int .u8 80, .int .u32 (h : Int), .int .u32 16, .slice (some ⟨g, off, none⟩) 16 c, .int .i64 8] w fun e w' => e = .returned (.tuple #[.agg (blk (tiputB h l)), .int .i64 (tiputE h)]) ∧ Below w.heap.size w w' := by
  unfold tiputB tiputE
  by_cases hm : h < 16
  · rw [if_pos hm, if_pos hm]; exact tiput_yes w g off c h 16 l hn hm (by omega) hg hcell
  · rw [if_neg hm, if_neg hm, ← zeros_blk]; exact tiput_no w _ h 16 hm
end Go.Proofs.YtnhfkmfmmgaecaaDoor
