/- The node layer: Put. -/
import Derived.Test.YtnhfkmfmmgaecaaDoorNode
import Derived.Test.YtnhfkmfmmgaecaaDoorFieldDone
namespace Go.Proofs.YtnhfkmfmmgaecaaDoor
open Go.RowKit
set_option linter.unusedSimpArgs false
set_option maxRecDepth 100000
/-- The node of noughts. -/
def z32 : List Nat := List.replicate 32 0
def nzero : Array Value := ncells 0 z32
theorem zeroN : (Tryd.prog.info? 70).bind (·.zero) = some (.agg nzero) := by kernel_rfl
theorem sizeN : (Tryd.prog.info? 70).map (·.size) = some 33 := by kernel_rfl
theorem size_ncells {h : Nat} {l : List Nat} (hn : NOk h l) : (ncells h l).size = 33 := by rw [ncells, size_pcells, hn.len]
theorem nbytes_le {h : Nat} {l : List Nat} (hn : NOk h l) : (pbytes 1 4 h l).length ≤ 251 := by rw [length_pbytes hn]; decide
set_option maxHeartbeats 2000000 in
theorem nput_any (h : Nat) (l : List Nat) (hn : NOk h l) (hm : nmay h l = true) (w : World) :
    Calls Tryd.prog 36 #[.agg (ncells h l)] w fun e w' => e = .returned (.tuple #[.agg (blk (doneB 78 (pbytes 1 4 h l))), .int .i64 0]) ∧ Below w.heap.size w w' := by
  obtain ⟨C, hC⟩ : ∃ C, C = ncells h l := ⟨_, rfl⟩
  have HMAY : Hid (∀ (W : World) (g : Nat), W.heap[g]? = some (.cells C 70 (0, 0)) → Calls Tryd.prog 74 #[.pointer (some ⟨g, 0, none⟩)] W fun e w' => e = .returned (.bool true) ∧ W = w') := Lib.hid (fun W g hg => by
    have := nmay_any W g h l hn (by rw [← hC]; exact hg)
    rwa [hm] at this)
  have HC0 : Hid (C[0]? = some (.int .u8 (h : Int))) := Lib.hid (by rw [hC]; rfl)
  have HCK : Hid (∀ k, (hk : k < l.length) → C[k + 1]? = some (.int .u32 (l[k] : Int))) := Lib.hid (fun k hk => by rw [hC]; exact pcells_get _ _ _ _ k hk)
  have HLEN := Lib.hid hn.len
  have HALL : Hid (∀ k, (hk : k < l.length) → l[k] < 4294967296) := Lib.hid (fun k hk => hn.all _ (List.getElem_mem hk))
  have hh : h < 256 := hn.head
  have HU0 : Hid (lows h 1 = pupto 1 4 h l 0) := Lib.hid (pupto_zero 1 4 h l).symm
  have HUS : Hid (∀ k, (hk : k < l.length) → pupto 1 4 h l k ++ lows l[k] 4 = pupto 1 4 h l (k + 1)) := Lib.hid (fun k hk => pupto_succ 1 4 h l k hk)
  have HUL : Hid (∀ k, k ≤ 32 → (pupto 1 4 h l k).length = 1 + 4 * k) := Lib.hid (fun k hk => length_pupto 1 4 h l k (by rw [hn.len]; exact hk))
  have HUA : Hid (pupto 1 4 h l 32 = pbytes 1 4 h l) := Lib.hid (by rw [pbytes, hn.len])
  have HBL := Lib.hid (nbytes_le hn)
  rw [← hC]
  clear hC hn hm
  have q1 := ((Rows.start w).alloc C 70).alloc (zeros 256 (.int .u8 0)) 33
  obtain ⟨g1, hg1⟩ : ∃ g, g = w.heap.size := ⟨_, rfl⟩
  obtain ⟨g2, hg2⟩ : ∃ g, g = (w.alloc (.cells C 70)).heap.size := ⟨_, rfl⟩
  rw [← hg2, ← hg1] at q1
  have hg2' : w.heap.size + 1 = g2 := by rw [hg2]; simp
  have G1 := Lib.hid hg1
  have G2 := Lib.hid hg2'
  have Q1 := Lib.hid q1
  clear hg1 hg2 hg2' q1
  go_enter Tryd.func36, Tryd.ntmps36
  go_upto_region 1 with (refine wpList_alloc_row rfl 33 rfl _ zeroB ?_)
  have q1 := Q1.out
  obtain ⟨W1, hW⟩ : ∃ W, W = (w.alloc (.cells C 70)).alloc (.cells (zeros 256 (.int .u8 0)) 33) := ⟨_, rfl⟩
  rw [← hW] at q1 ⊢
  rw [G2.out, ← G1.out]
  have R1 := Lib.hid q1
  clear hW q1 Q1
  go_wp2_with (go_at_call 74; refine (HMAY.out _ _ (R1.out.get 1 rfl)).mono ?_; rintro e w1 ⟨rfl, rfl⟩)
  refine (new_any _).mono ?_
  rintro e w2 ⟨g, rfl, hg, hw2, hb2⟩
  have h0 : w2.cell? ⟨g1, 0, none⟩ = some (.int .u8 (h : Int)) := (R1.out.call hb2).cell 1 0 rfl HC0.out
  obtain ⟨base, hbase⟩ : ∃ b, b = W1.heap.size := ⟨_, rfl⟩
  have HLTS : Hid (∀ x ∈ [(g2, zeros 256 (.int .u8 0), 33), (g1, C, 70)], x.1 < base) := Lib.hid (by rw [hbase]; exact R1.out.lts)
  have HB0 : Hid (w.heap.size ≤ base) := Lib.hid (by rw [hbase]; exact R1.out.below.size)
  rw [← hbase] at hw2
  have R2 := Lib.hid (R1.out.call hb2)
  have HW2 := Lib.hid hw2
  clear hw2 hb2 hg hbase
  go_wp2_with fail
  refine (num_any _ _ _ _ _ _ _ 1 (by omega) (by simp) (by omega) HW2.out).mono ?_
  rintro e w3 ⟨rfl, hw3, hl3⟩
  rw [List.nil_append, HU0.out] at hw3
  have R3 := Lib.hid (R2.out.under HB0.out HLTS.out hl3.1)
  have HW3 := Lib.hid hw3
  clear hw3 hl3 h0
  go_wp2_with fail
  go_loopw [15] (fun i wr => ∃ k : Nat, k ≤ 32 ∧ i = .int .i64 k ∧ WriterAt wr base g [] false (pupto 1 4 h l k) ∧ Rows w wr [(g2, zeros 256 (.int .u8 0), 33), (g1, C, 70)]) (fun i _ => 32 - (intOf i).toNat)
  case atStart => exact ⟨0, by omega, rfl, HW3.out, R3.out⟩
  case round =>
    obtain ⟨k, hk, rfl, hwr, hR⟩ := hrel
    have HWR := Lib.hid hwr
    have R4 := Lib.hid hR
    clear hwr hR
    by_cases hlt : k < 32
    · have hkl : k < l.length := by rw [HLEN.out]; exact hlt
      have h1 : wr.cell? ⟨g1, k + 1, none⟩ = some (.int .u32 (l[k] : Int)) := R4.out.cell 1 (k + 1) rfl (HCK.out k hkl)
      have h1' : wr.cell? ⟨g1, 1 + k, none⟩ = some (.int .u32 (l[k] : Int)) := by rw [Nat.add_comm]; exact h1
      have hx := HALL.out k hkl
      have hS := HUS.out k hkl
      obtain ⟨x, hxe⟩ : ∃ x, x = l[k] := ⟨_, rfl⟩
      rw [← hxe] at h1 h1' hx hS
      have HS := Lib.hid hS
      have hl := Lib.hid (HUL.out k hk)
      clear hxe hS hkl
      go_wp2_with fail
      refine (num_any _ _ _ _ _ _ _ 4 (by omega) (by rw [hl.out]; omega) (by omega) HWR.out).mono ?_
      rintro e w5 ⟨rfl, hw5, hl5⟩
      rw [HS.out] at hw5
      have HW5 := Lib.hid hw5
      have R5 := Lib.hid (R4.out.under HB0.out HLTS.out hl5.1)
      clear hw5 hl5 h1 h1'
      go_wp2_with fail
      exact ⟨⟨k + 1, by omega, by go_num, HW5.out, R5.out⟩, by simp [intOf]; omega⟩
    · obtain rfl : k = 32 := by omega
      have HWD : Hid (WriterAt wr base g [] false (pbytes 1 4 h l)) := Lib.hid (by rw [← HUA.out]; exact HWR.out)
      go_wp2_with fail
      refine (done_any _ _ _ _ _ 78 HBL.out HWD.out).mono ?_
      rintro e w6 ⟨rfl, hb6⟩
      have R6 := Lib.hid (R4.out.call hb6)
      have HD : Hid ((blk (doneB 78 (pbytes 1 4 h l))).size = 256) := Lib.hid (by rw [size_blk, length_doneB _ _ HBL.out])
      clear hb6
      obtain ⟨D, hD⟩ : ∃ D, D = blk (doneB 78 (pbytes 1 4 h l)) := ⟨_, rfl⟩
      rw [← hD] at HD ⊢
      have HO : Hid (D.all (·.oneCell') = true) := Lib.hid (by rw [hD]; exact blk_one _)
      have HDE := Lib.hid hD
      clear hD
      go_wp2_with (refine wpList_store_row rfl 33 _ _ rfl g2 D rfl rfl 33 _ (R6.out.get 0 rfl) (by rw [HD.out]; exact sizeB) (by rw [HD.out, size_zeros]) HO.out ?_)
      refine bodyPost_ret (v := .tuple #[.agg D, .int .i64 0]) (results_cell_slot rfl _ _ g2 33 _ (0, 0) _ _ rfl rfl (setRow_heap _ _ _ _ _ _ (R6.out.get 0 rfl)) Tryd.underlying33 rfl (by rw [HD.out]; exact sizeB)) rfl ⟨by rw [HDE.out], ?_⟩
      exact (R6.out.setRow 0 D rfl).below
set_option maxHeartbeats 1000000 in
theorem nput_no (h : Nat) (l : List Nat) (hn : NOk h l) (hm : nmay h l = false) (w : World) :
    Calls Tryd.prog 36 #[.agg (ncells h l)] w fun e w' => e = .returned (.tuple #[.agg (zeros 256 (.int .u8 0)), .int .i64 2]) ∧ Below w.heap.size w w' := by
  obtain ⟨C, hC⟩ : ∃ C, C = ncells h l := ⟨_, rfl⟩
  have HMAY : Hid (∀ (W : World) (g : Nat), W.heap[g]? = some (.cells C 70 (0, 0)) → Calls Tryd.prog 74 #[.pointer (some ⟨g, 0, none⟩)] W fun e w' => e = .returned (.bool false) ∧ W = w') := Lib.hid (fun W g hg => by
    have := nmay_any W g h l hn (by rw [← hC]; exact hg)
    rwa [hm] at this)
  rw [← hC]
  clear hC hn hm
  have q1 := ((Rows.start w).alloc C 70).alloc (zeros 256 (.int .u8 0)) 33
  obtain ⟨g1, hg1⟩ : ∃ g, g = w.heap.size := ⟨_, rfl⟩
  obtain ⟨g2, hg2⟩ : ∃ g, g = (w.alloc (.cells C 70)).heap.size := ⟨_, rfl⟩
  rw [← hg2, ← hg1] at q1
  have hg2' : w.heap.size + 1 = g2 := by rw [hg2]; simp
  have G1 := Lib.hid hg1
  have G2 := Lib.hid hg2'
  have Q1 := Lib.hid q1
  clear hg1 hg2 hg2' q1
  go_enter Tryd.func36, Tryd.ntmps36
  go_upto_region 1 with (refine wpList_alloc_row rfl 33 rfl _ zeroB ?_)
  have q1 := Q1.out
  obtain ⟨W1, hW⟩ : ∃ W, W = (w.alloc (.cells C 70)).alloc (.cells (zeros 256 (.int .u8 0)) 33) := ⟨_, rfl⟩
  rw [← hW] at q1 ⊢
  rw [G2.out, ← G1.out]
  have R1 := Lib.hid q1
  clear hW q1 Q1
  go_wp2_with (first
   | (go_at_call 74; refine (HMAY.out _ _ (R1.out.get 1 rfl)).mono ?_; rintro e w1 ⟨rfl, rfl⟩)
   | refine wpList_build_none rfl 33 rfl _ zeroB Tryd.underlying33 rfl ?_
   | refine wpList_store_row rfl 33 _ _ rfl g2 (zeros 256 (.int .u8 0)) rfl rfl 33 _ (R1.out.get 0 rfl) (by rw [size_zeros]; exact sizeB) (by rw [size_zeros]) zeros_one ?_)
  refine bodyPost_ret (v := .tuple #[.agg (zeros 256 (.int .u8 0)), .int .i64 2]) (results_cell_slot rfl _ _ g2 33 _ (0, 0) _ _ rfl rfl (setRow_heap _ _ _ _ _ _ (R1.out.get 0 rfl)) Tryd.underlying33 rfl (by rw [size_zeros]; exact sizeB)) rfl ⟨rfl, ?_⟩
  exact (R1.out.setRow 0 _ rfl).below
/-- What Put answers. -/
def nputB (h : Nat) (l : List Nat) : List UInt8 := if nmay h l then doneB 78 (pbytes 1 4 h l) else List.replicate 256 0
def nputE (h : Nat) (l : List Nat) : Int := if nmay h l then 0 else 2
theorem length_nputB {h : Nat} {l : List Nat} (hn : NOk h l) : (nputB h l).length = 256 := by
  unfold nputB
  split
  · exact length_doneB _ _ (nbytes_le hn)
  · exact List.length_replicate
theorem nput_all (h : Nat) (l : List Nat) (hn : NOk h l) (w : World) : Calls Tryd.prog 36 #[.agg (ncells h l)] w fun e w' => e = .returned (.tuple #[.agg (blk (nputB h l)), .int .i64 (nputE h l)]) ∧ Below w.heap.size w w' := by
  unfold nputB nputE
  cases hm : nmay h l with
  | true => simp only [if_true]; exact nput_any h l hn hm w
  | false => simp only [Bool.false_eq_true, if_false, ← zeros_blk]; exact nput_no h l hn hm w
end Go.Proofs.YtnhfkmfmmgaecaaDoor
