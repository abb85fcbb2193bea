/- The document's nodes: which may be; Put. -/
import Derived.Test.YtnhfkmfmmgaecaaDoorNodePut
import Derived.Test.YtnhfkmfmmgaecaaDoorRef02D
namespace Go.Proofs.YtnhfkmfmmgaecaaDoor
open Go.RowKit
set_option linter.unusedSimpArgs false
set_option maxRecDepth 100000
theorem nmay_all (h : Nat) (l : List Nat) : nmay h l = (decide (1 ≤ h) && (decide (h ≤ 3) && decide (∀ x ∈ l, x < 1048576))) := by
  unfold nmay
  have e : decide (maxL l < 1048576) = decide (∀ x ∈ l, x < 1048576) := by
    rw [Bool.eq_iff_iff, decide_eq_true_eq, decide_eq_true_eq]
    exact maxL_lt l _ (by decide)
  rw [e]
  congr 1
set_option maxHeartbeats 1000000 in
theorem refnmay_any (h : Nat) (l : List Nat) (hn : NOk h l) (w : World) :
    Calls Tryd.prog 75 #[.agg (ncells h l)] w fun e w' => e = .returned (.bool (nmay h l)) ∧ Below w.heap.size w w' := by
  obtain ⟨C, hC⟩ : ∃ C, C = ncells h l := ⟨_, rfl⟩
  have HC0 : Hid (C[0]? = some (.int .u8 (h : Int))) := Lib.hid (by rw [hC]; rfl)
  have HCK : Hid (∀ k, (hk : k < l.length) → C[k + 1]? = some (.int .u32 (l[k] : Int))) := Lib.hid (fun k hk => by rw [hC]; exact pcells_get _ _ _ _ k hk)
  have HLEN := Lib.hid hn.len
  have HALL : Hid (∀ k, (hk : k < l.length) → l[k] < 4294967296) := Lib.hid (fun k hk => hn.all _ (List.getElem_mem hk))
  have hh : h < 256 := hn.head
  have HM := Lib.hid (nmay_all h l)
  obtain ⟨m, hm⟩ : ∃ m, m = nmay h l := ⟨_, rfl⟩
  rw [← hm] at HM ⊢
  rw [← hC]
  clear hC hn hm
  have q1 := (Rows.start w).alloc C 70
  go_enter Tryd.func75, Tryd.ntmps75
  go_upto_region 1 with (fail)
  obtain ⟨W1, hW⟩ : ∃ W, W = w.alloc (.cells C 70) := ⟨_, rfl⟩
  rw [← hW] at q1 ⊢
  clear hW
  obtain ⟨g1, hg⟩ : ∃ g, g = w.heap.size := ⟨_, rfl⟩
  rw [← hg] at q1 ⊢
  clear hg
  have R1 := Lib.hid q1
  clear q1
  go_wp2_with fail
  go_loop [3] (fun i => ∃ k : Nat, k ≤ 32 ∧ i = .int .i64 k ∧ ∀ x ∈ l.take k, x < 1048576) (fun i => 32 - (intOf i).toNat)
  case atStart => exact ⟨0, by omega, rfl, by simp⟩
  case round =>
    obtain ⟨k, hk, rfl, hall⟩ := hrel
    have HA := Lib.hid hall
    clear hall
    by_cases hlt : k < 32
    · have hkl : k < l.length := by rw [HLEN.out]; exact hlt
      have c1 : W1.cell? ⟨g1, 1 + k, none⟩ = some (.int .u32 (l[k] : Int)) := R1.out.cell 0 (1 + k) rfl (by rw [Nat.add_comm]; exact HCK.out k hkl)
      have hx := HALL.out k hkl
      have HT : Hid (l.take (k + 1) = l.take k ++ [l[k]]) := Lib.hid (List.take_succ_eq_append_getElem hkl)
      have HI : Hid (l[k] ∈ l) := Lib.hid (List.getElem_mem hkl)
      obtain ⟨x, hxe⟩ : ∃ x, x = l[k] := ⟨_, rfl⟩
      rw [← hxe] at c1 hx HT HI
      obtain ⟨z, hz⟩ : ∃ z : Int, z = (x : Int) := ⟨_, rfl⟩
      rw [← hz] at c1
      clear hxe hkl
      by_cases hb : 1048576 ≤ z
      · have HR : Hid (m = false) := Lib.hid (by
          rw [HM.out, Bool.and_eq_false_iff, Bool.and_eq_false_iff]
          right; right
          rw [decide_eq_false_iff_not]
          intro h2
          have := h2 x HI.out
          omega)
        clear hx hz
        go_wp2_with fail
        go_ret
        exact ⟨by rw [HR.out]; rfl, R1.out.below⟩
      · have HXL : Hid (x < 1048576) := Lib.hid (by omega)
        have hb' : z < 1048576 := by omega
        clear hx hz hb
        go_wp2_with fail
        refine ⟨⟨k + 1, by omega, by go_num, ?_⟩, by simp [intOf]; omega⟩
        rw [HT.out]
        intro y hy
        rcases List.mem_append.1 hy with hy | hy
        · exact HA.out y hy
        · rw [List.mem_singleton] at hy
          rw [hy]; exact HXL.out
    · obtain rfl : k = 32 := by omega
      have HAA : Hid (m = (decide (1 ≤ h) && decide (h ≤ 3))) := Lib.hid (by
        rw [HM.out]
        have : (∀ x ∈ l, x < 1048576) := by
          have := HA.out
          rwa [List.take_of_length_le (by rw [HLEN.out]; exact Nat.le_refl _)] at this
        rw [decide_eq_true this, Bool.and_true])
      have c0 : W1.cell? ⟨g1, 0, none⟩ = some (.int .u8 (h : Int)) := R1.out.cell 0 0 rfl HC0.out
      by_cases a1 : 1 ≤ h
      · by_cases a2 : h ≤ 3
        · have HR : Hid (m = decide ((h : Int) ≤ 3)) := Lib.hid (by rw [HAA.out, Bool.eq_iff_iff]; simp; omega)
          go_wp2_with fail
          go_ret
          exact ⟨by rw [HR.out]; rfl, R1.out.below⟩
        · have HR : Hid (m = decide ((h : Int) ≤ 3)) := Lib.hid (by rw [HAA.out, Bool.eq_iff_iff]; simp; omega)
          go_wp2_with fail
          go_ret
          exact ⟨by rw [HR.out]; rfl, R1.out.below⟩
      · have HR : Hid (m = false) := Lib.hid (by rw [HAA.out]; simp [a1])
        go_wp2_with fail
        go_ret
        exact ⟨by rw [HR.out]; rfl, R1.out.below⟩
/-- The text of a node's first k pointers. -/
def ntext (h : Nat) (l : List Nat) (k : Nat) : ByteArray := ⟨(pupto 1 4 h l k).toArray⟩
set_option maxHeartbeats 2000000 in
theorem refnput_any (h : Nat) (l : List Nat) (hn : NOk h l) (hm : nmay h l = true) (w : World) :
    Calls Tryd.prog 37 #[.agg (ncells h l)] w fun e w' => e = .returned (.tuple #[.agg (blk (doneB 78 (pbytes 1 4 h l))), .int .i64 0]) ∧ Below w.heap.size w w' := by
  have HMAY : Hid (∀ W, Calls Tryd.prog 75 #[.agg (ncells h l)] W fun e w' => e = .returned (.bool true) ∧ Below W.heap.size W w') := Lib.hid (fun W => by
    have := refnmay_any h l hn W
    rwa [hm] at this)
  obtain ⟨C, hC⟩ : ∃ C, C = ncells h l := ⟨_, rfl⟩
  rw [← hC] at HMAY
  have HC0 : Hid (C[0]? = some (.int .u8 (h : Int))) := Lib.hid (by rw [hC]; rfl)
  have HCS : Hid (C.size = 33) := Lib.hid (by rw [hC]; exact size_ncells hn)
  have HCK : Hid (∀ k, (hk : k < l.length) → C[k + 1]? = some (.int .u32 (l[k] : Int))) := Lib.hid (fun k hk => by rw [hC]; exact pcells_get _ _ _ _ k hk)
  have HLEN := Lib.hid hn.len
  have HALL : Hid (∀ k, (hk : k < l.length) → l[k] < 4294967296) := Lib.hid (fun k hk => hn.all _ (List.getElem_mem hk))
  have hh : h < 256 := hn.head
  have HU0 : Hid (lowsS h 1 = ntext h l 0) := Lib.hid (by unfold ntext; rw [pupto_zero]; rfl)
  have HUS : Hid (∀ k, (hk : k < l.length) → ntext h l k ++ lowsS l[k] 4 = ntext h l (k + 1)) := Lib.hid (fun k hk => by
    unfold ntext
    rw [← pupto_succ 1 4 h l k hk]
    apply ByteArray.ext
    apply Array.toList_inj.1
    simp [lowsS])
  have HUL : Hid (∀ k, k ≤ 32 → (ntext h l k).size = 1 + 4 * k) := Lib.hid (fun k hk => by
    show (pupto 1 4 h l k).toArray.size = _
    simp [length_pupto 1 4 h l k (by rw [hn.len]; exact hk)])
  have HDONE : Hid (∀ w : World, Calls Tryd.prog 71 #[.int .u8 78, .string (ntext h l 32)] w fun e w' => e = .returned (.tuple #[.agg (blk (doneB 78 (pbytes 1 4 h l))), .int .i64 0]) ∧ Below w.heap.size w w') := Lib.hid (fun w => by
    have := refdone_any 78 (pbytes 1 4 h l) (nbytes_le hn) w
    have e : ntext h l 32 = ⟨(pbytes 1 4 h l).toArray⟩ := by unfold ntext pbytes; rw [hn.len]
    rw [e]; exact this)
  obtain ⟨D, hD⟩ : ∃ D, D = blk (doneB 78 (pbytes 1 4 h l)) := ⟨_, rfl⟩
  have HDS : Hid (D.size = 256) := Lib.hid (by rw [hD, size_blk, length_doneB _ _ (nbytes_le hn)])
  have HDO : Hid (D.all (·.oneCell') = true) := Lib.hid (by rw [hD]; exact blk_one _)
  rw [← hD] at HDONE ⊢
  obtain ⟨US, hUS⟩ : ∃ US, US = ntext h l := ⟨_, rfl⟩
  rw [← hUS] at HU0 HUS HUL HDONE
  rw [← hC]
  clear hC hn hm hD hUS
  have q1 := ((Rows.start w).alloc C 70).alloc (zeros 256 (.int .u8 0)) 33
  obtain ⟨g1, hg1⟩ : ∃ g, g = w.heap.size := ⟨_, rfl⟩
  obtain ⟨g2, hg2⟩ : ∃ g, g = (w.alloc (.cells C 70)).heap.size := ⟨_, rfl⟩
  rw [← hg2, ← hg1] at q1
  have hg2' : w.heap.size + 1 = g2 := by rw [hg2]; simp
  have G1 := Lib.hid hg1
  have G2 := Lib.hid hg2'
  have Q1 := Lib.hid q1
  clear hg1 hg2 hg2' q1
  go_enter Tryd.func37, Tryd.ntmps37
  go_upto_region 1 with (refine wpList_alloc_row rfl 33 rfl _ zeroB ?_)
  have q1 := Q1.out
  obtain ⟨W1, hW⟩ : ∃ W, W = (w.alloc (.cells C 70)).alloc (.cells (zeros 256 (.int .u8 0)) 33) := ⟨_, rfl⟩
  rw [← hW] at q1 ⊢
  rw [G2.out, ← G1.out]
  have R1 := Lib.hid q1
  clear hW q1 Q1
  go_wp2_with (refine wpList_load_row rfl 70 _ rfl g1 rfl 70 C (0, 0) _ (R1.out.get 1 rfl) Tryd.underlying70 rfl (by rw [HCS.out]; exact sizeN) ?_)
  refine (HMAY.out _).mono ?_
  rintro e w1 ⟨rfl, hb⟩
  have R2 := Lib.hid (R1.out.call hb)
  clear hb
  have h0 : w1.cell? ⟨g1, 0, none⟩ = some (.int .u8 (h : Int)) := R2.out.cell 1 0 rfl HC0.out
  go_wp2_with fail
  refine (refnum_any 1 (by omega) h (by omega) _).mono ?_
  rintro e w2 ⟨rfl, hb⟩
  have R3 := Lib.hid (R2.out.call hb)
  clear hb h0
  rw [HU0.out]
  go_wp2_with fail
  go_loopw [4, 5] (fun s i wr => ∃ k : Nat, k ≤ 32 ∧ i = .int .i64 k ∧ s = .string (US k) ∧ Rows w wr [(g2, zeros 256 (.int .u8 0), 33), (g1, C, 70)]) (fun _ i _ => 32 - (intOf i).toNat)
  case atStart => exact ⟨0, by omega, rfl, rfl, R3.out⟩
  case round =>
    obtain ⟨k, hk, rfl, rfl, hR⟩ := hrel
    have R4 := Lib.hid hR
    clear hR
    by_cases hlt : k < 32
    · have hkl : k < l.length := by rw [HLEN.out]; exact hlt
      have c1 : wr.cell? ⟨g1, 1 + k, none⟩ = some (.int .u32 (l[k] : Int)) := R4.out.cell 1 (1 + k) rfl (by rw [Nat.add_comm]; exact HCK.out k hkl)
      have hx := HALL.out k hkl
      have hcat := HUS.out k hkl
      obtain ⟨x, hxe⟩ : ∃ x, x = l[k] := ⟨_, rfl⟩
      rw [← hxe] at c1 hx hcat
      have hsz : ¬ 9223372036854775807 < (US k).size + (lowsS x 4).size := by
        rw [HUL.out k hk]
        show ¬ _ < 1 + 4 * k + (lows x 4).toArray.size
        simp [length_lows]; omega
      have e1 : IntKind.u64.wrap (x : Int) = (x : Int) := by rw [IntKind.wrap_u64]; omega
      have HN := Lib.hid (refnum_any 4 (by omega) x (by omega) wr)
      clear hxe hkl
      go_wp2_with fail
      refine HN.out.mono ?_
      rintro e w5 ⟨rfl, hb⟩
      have R5 := Lib.hid (R4.out.call hb)
      clear hb HN c1 e1
      go_wp2_with fail
      exact ⟨⟨k + 1, by omega, by go_num, rfl, R5.out⟩, by simp [intOf]; omega⟩
    · obtain rfl : k = 32 := by omega
      go_wp2_with fail
      refine (HDONE.out _).mono ?_
      rintro e w6 ⟨rfl, hb⟩
      have q1 := (R4.out.call hb).alloc D 33
      clear hb
      go_upto_region 9 with (first | refine wpList_alloc_row rfl 33 rfl _ zeroB ?_ | refine wpList_store_new rfl 33 _ _ rfl _ D _ rfl rfl (by rw [HDS.out]; exact sizeB) (by rw [HDS.out, size_zeros]) HDO.out ?_)
      obtain ⟨W6, hW⟩ : ∃ W, W = w6.alloc (.cells D 33) := ⟨_, rfl⟩
      rw [← hW] at q1 ⊢
      clear hW
      obtain ⟨g3, hg⟩ : ∃ g, g = w6.heap.size := ⟨_, rfl⟩
      rw [← hg] at q1 ⊢
      clear hg
      have R6 := Lib.hid q1
      clear q1
      go_wp2_with (first
        | refine wpList_load_row rfl 33 _ rfl g3 rfl 33 D (0, 0) _ (R6.out.get 0 rfl) Tryd.underlying33 rfl (by rw [HDS.out]; exact sizeB) ?_
        | refine wpList_store_row rfl 33 _ _ rfl g2 D rfl rfl 33 _ (R6.out.get 1 rfl) (by rw [HDS.out]; exact sizeB) (by rw [HDS.out, size_zeros]) HDO.out ?_)
      refine bodyPost_ret (v := .tuple #[.agg D, .int .i64 0]) (results_cell_slot rfl _ _ g2 33 _ (0, 0) _ _ rfl rfl (setRow_heap _ _ _ _ _ _ (R6.out.get 1 rfl)) Tryd.underlying33 rfl (by rw [HDS.out]; exact sizeB)) rfl ⟨rfl, ?_⟩
      exact (R6.out.setRow 1 D rfl).below
set_option maxHeartbeats 1000000 in
theorem refnput_no (h : Nat) (l : List Nat) (hn : NOk h l) (hm : nmay h l = false) (w : World) :
    Calls Tryd.prog 37 #[.agg (ncells h l)] w fun e w' => e = .returned (.tuple #[.agg (zeros 256 (.int .u8 0)), .int .i64 2]) ∧ Below w.heap.size w w' := by
  have HMAY : Hid (∀ W, Calls Tryd.prog 75 #[.agg (ncells h l)] W fun e w' => e = .returned (.bool false) ∧ Below W.heap.size W w') := Lib.hid (fun W => by
    have := refnmay_any h l hn W
    rwa [hm] at this)
  obtain ⟨C, hC⟩ : ∃ C, C = ncells h l := ⟨_, rfl⟩
  rw [← hC] at HMAY
  have HCS : Hid (C.size = 33) := Lib.hid (by rw [hC]; exact size_ncells hn)
  rw [← hC]
  clear hC hn hm
  have q1 := ((Rows.start w).alloc C 70).alloc (zeros 256 (.int .u8 0)) 33
  obtain ⟨g1, hg1⟩ : ∃ g, g = w.heap.size := ⟨_, rfl⟩
  obtain ⟨g2, hg2⟩ : ∃ g, g = (w.alloc (.cells C 70)).heap.size := ⟨_, rfl⟩
  rw [← hg2, ← hg1] at q1
  have hg2' : w.heap.size + 1 = g2 := by rw [hg2]; simp
  have G1 := Lib.hid hg1
  have G2 := Lib.hid hg2'
  have Q1 := Lib.hid q1
  clear hg1 hg2 hg2' q1
  go_enter Tryd.func37, Tryd.ntmps37
  go_upto_region 1 with (refine wpList_alloc_row rfl 33 rfl _ zeroB ?_)
  have q1 := Q1.out
  obtain ⟨W1, hW⟩ : ∃ W, W = (w.alloc (.cells C 70)).alloc (.cells (zeros 256 (.int .u8 0)) 33) := ⟨_, rfl⟩
  rw [← hW] at q1 ⊢
  rw [G2.out, ← G1.out]
  have R1 := Lib.hid q1
  clear hW q1 Q1
  go_wp2_with (refine wpList_load_row rfl 70 _ rfl g1 rfl 70 C (0, 0) _ (R1.out.get 1 rfl) Tryd.underlying70 rfl (by rw [HCS.out]; exact sizeN) ?_)
  refine (HMAY.out _).mono ?_
  rintro e w1 ⟨rfl, hb⟩
  have R2 := Lib.hid (R1.out.call hb)
  clear hb
  go_wp2_with (first
   | refine wpList_build_none rfl 33 rfl _ zeroB Tryd.underlying33 rfl ?_
   | refine wpList_store_row rfl 33 _ _ rfl g2 (zeros 256 (.int .u8 0)) rfl rfl 33 _ (R2.out.get 0 rfl) (by rw [size_zeros]; exact sizeB) (by rw [size_zeros]) zeros_one ?_)
  refine bodyPost_ret (v := .tuple #[.agg (zeros 256 (.int .u8 0)), .int .i64 2]) (results_cell_slot rfl _ _ g2 33 _ (0, 0) _ _ rfl rfl (setRow_heap _ _ _ _ _ _ (R2.out.get 0 rfl)) Tryd.underlying33 rfl (by rw [size_zeros]; exact sizeB)) rfl ⟨rfl, ?_⟩
  exact (R2.out.setRow 0 _ rfl).below
theorem refnput_all (h : Nat) (l : List Nat) (hn : NOk h l) (w : World) : Calls Tryd.prog 37 #[.agg (ncells h l)] w fun e w' => e = .returned (.tuple #[.agg (blk (nputB h l)), .int .i64 (nputE h l)]) ∧ Below w.heap.size w w' := by
  unfold nputB nputE
  cases hm : nmay h l with
  | true => simp only [if_true]; exact refnput_any h l hn hm w
  | false => simp only [Bool.false_eq_true, if_false, ← zeros_blk]; exact refnput_no h l hn hm w
end Go.Proofs.YtnhfkmfmmgaecaaDoor
