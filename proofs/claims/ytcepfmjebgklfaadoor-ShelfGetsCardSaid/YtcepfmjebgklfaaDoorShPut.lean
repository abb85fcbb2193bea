/- The shelf layer: Put answers the shelf's block. -/
import Derived.Test.YtcepfmjebgklfaaDoorShHead
import Derived.Test.YtcepfmjebgklfaaDoorShMath
import Derived.Test.YtcepfmjebgklfaaDoorWr
namespace Go.Proofs.YtcepfmjebgklfaaDoor
open Go.RowKit
set_option linter.unusedSimpArgs false
set_option linter.unusedVariables false
set_option maxRecDepth 100000
theorem Held.alloc2b {w0 W : World} {l : List Thing} {x : Thing} (R : Held w0 W (x :: l)) (cs : Array Value) (T : TypeId) : Held w0 (W.alloc (.cells cs T)) (x :: rowT W.heap.size cs T :: l) := (R.alloc cs T).perm (.swap _ _ _)
theorem Held.drop2b {w0 W : World} {l : List Thing} {x y : Thing} (R : Held w0 W (x :: y :: l)) : Held w0 W (x :: l) := (R.perm (.swap y x l)).drop 1
section
variable {w : World}
set_option maxHeartbeats 2000000 in
theorem shput_is (hc : ClsAt w) {s : ShL} {v : Value} (hs : ShelfIn w v s) :
    Calls Tryd.prog 19 #[v] w fun e w' => e = .returned (.tuple #[.agg (blk (putB18 s)), .int .i64 (putE18 s)]) ∧ Below w.heap.size w w' := by
  obtain ⟨A, n, c, l, rfl, hs⟩ := hs
  have hR := ((Held.start w).alloc (shV s A n c) 25).alloc (zeros 256 (.int .u8 0)) 52
  obtain ⟨W, hW⟩ : ∃ W, W = (w.alloc (.cells (shV s A n c) 25)).alloc (.cells (zeros 256 (.int .u8 0)) 52) := ⟨_, rfl⟩
  obtain ⟨g, hg⟩ : ∃ g, g = w.heap.size := ⟨_, rfl⟩
  rw [← hW, show (w.alloc (.cells (shV s A n c) 25)).heap.size = g + 1 by rw [hg]; simp, ← hg] at hR
  obtain ⟨g2, hg2⟩ : ∃ g2, g2 = g + 1 := ⟨_, rfl⟩
  rw [← hg2] at hR
  have HW := Lib.hid hW
  have HG := Lib.hid hg
  have HG2 := Lib.hid hg2
  have HC := Lib.hid hc
  have HS := Lib.hid hs
  have R0 := Lib.hid hR
  have HMAY := Lib.hid (may_is (w := W) (hc.below hR.below) ⟨A, n, c, l, rfl, hs.below hR.below⟩)
  have HPB : Hid (putB18 s = if mayL s then doneB 83 (shB s) else List.replicate 256 0) := Lib.hid rfl
  have HPE : Hid (putE18 s = if mayL s then 0 else 5) := Lib.hid rfl
  have HPL := Lib.hid (length_putB18 s)
  obtain ⟨PB, hPB⟩ : ∃ PB, PB = putB18 s := ⟨_, rfl⟩
  obtain ⟨PE, hPE⟩ : ∃ PE, PE = putE18 s := ⟨_, rfl⟩
  rw [← hPB] at HPB HPL ⊢
  rw [← hPE] at HPE ⊢
  unfold shV at HW ⊢
  clear hW hg hg2 hc hs hR hPB hPE
  obtain ⟨⟨e0, e1, e2, e3⟩, _, _, _, _⟩ := R0.out.cells4 1 rfl
  go_enter Tryd.func19, Tryd.ntmps19
  go_upto_region 1 with (refine wpList_alloc_row rfl 52 rfl _ zeroB ?_)
  rw [← HW.out, ← HG.out, ← HG2.out]
  go_wp2_with fail
  refine HMAY.out.mono ?_
  rintro e w1 ⟨rfl, hb⟩
  have R1 := Lib.hid (R0.out.call hb)
  clear hb R0 e0 e1 e2 e3
  cases hm : mayL s with
  | false =>
    rw [hm] at HPB HPE
    have hpe := HPE.out
    rw [if_neg (by simp)] at hpe
    subst hpe
    have HZ : Hid (zeros 256 (.int .u8 0) = blk PB) := Lib.hid (by rw [HPB.out, if_neg (by simp), zeros_blk])
    clear hm
    go_wp2_with (first
      | refine wpList_build_none rfl 52 rfl _ zeroB Tryd.underlying52 rfl ?_
      | refine wpList_store_row rfl 52 _ _ rfl g2 (zeros 256 (.int .u8 0)) rfl rfl 52 _ (R1.out.get 0 rfl) (by rw [size_zeros]; exact sizeB) (by rw [size_zeros]) zeros_one ?_)
    rw [HZ.out]
    have R2 := R1.out.setRow 0 (blk PB) rfl
    exact bodyPost_ret (v := .tuple #[.agg (blk PB), .int .i64 5]) (results_cell_slot rfl _ _ g2 52 _ (0, 0) _ _ rfl rfl (R2.get 0 rfl) Tryd.underlying52 rfl (by rw [size_blk, HPL.out]; exact sizeB)) rfl ⟨rfl, R2.below⟩
  | true =>
    rw [hm, if_pos rfl] at HPB HPE
    have hpe := HPE.out
    subst hpe
    have HM := Lib.hid hm
    clear hm
    have hcl := HS.out.cl
    have hpv := HS.out.prev
    have hnx := HS.out.next
    have hn30 := HS.out.le30
    go_wp2_with fail
    refine (wrnew_is R1.out).mono ?_
    rintro e w2 ⟨gw, rfl, hR⟩
    have R2 := Lib.hid hR
    clear hR R1
    obtain ⟨⟨e0, e1, e2, e3⟩, _, _, _, _⟩ := R2.out.cells4 2 rfl
    go_wp2_with fail
    clear e0 e1 e2 e3
    have N1 := wrnum_is R2.out s.cl 1 (by omega) (by simp) (by omega)
    rw [show ((1 : Nat) : Int) = 1 from rfl] at N1
    refine N1.mono ?_
    clear N1
    rintro e w3 ⟨rfl, hR⟩
    have R3 := Lib.hid hR
    clear hR R2
    obtain ⟨⟨e0, e1, e2, e3⟩, _, _, _, _⟩ := R3.out.cells4 2 rfl
    go_wp2_with fail
    clear e0 e1 e2 e3
    have N1 := wrnum_is R3.out s.prev 2 (by omega) (by simp [length_lows]) (by omega)
    rw [show ((2 : Nat) : Int) = 2 from rfl] at N1
    refine N1.mono ?_
    clear N1
    rintro e w4 ⟨rfl, hR⟩
    have R4 := Lib.hid hR
    clear hR R3
    obtain ⟨⟨e0, e1, e2, e3⟩, _, _, _, _⟩ := R4.out.cells4 2 rfl
    go_wp2_with fail
    clear e0 e1 e2 e3
    have N1 := wrnum_is R4.out s.next 2 (by omega) (by simp [length_lows]) (by omega)
    rw [show ((2 : Nat) : Int) = 2 from rfl] at N1
    refine N1.mono ?_
    clear N1
    rintro e w5 ⟨rfl, hR⟩
    have R5 := Lib.hid hR
    clear hR R4
    obtain ⟨k, hk⟩ : ∃ k, k = s.cl := ⟨_, rfl⟩
    have HK := Lib.hid hk
    have hR : Held w w5 [wrT gw false (headB18 s ++ cellsB k (s.cells.take 0)), rowT g2 (zeros 256 (.int .u8 0)) 52, rowT g (shV s A n c) 25] := by
      have := R5.out
      rw [show [] ++ lows s.cl 1 ++ lows s.prev 2 ++ lows s.next 2 = headB18 s ++ cellsB k (s.cells.take 0) by simp [headB18, cellsB]] at this
      exact this
    have R6 := Lib.hid hR
    clear hR R5 hk
    obtain ⟨⟨e0, e1, e2, e3⟩, _, _, _, _⟩ := R6.out.cells4 2 rfl
    go_wp2_with fail
    clear e0 e1 e2 e3
    go_loopw [32] (fun i wr => ∃ j : Nat, j ≤ n ∧ i = .int .i64 (j : Int) ∧ Held w wr [wrT gw false (headB18 s ++ cellsB k (s.cells.take j)), rowT g2 (zeros 256 (.int .u8 0)) 52, rowT g (shV s A n c) 25]) (fun i _ => n - (intOf i).toNat)
    case atStart => exact ⟨0, by omega, rfl, R6.out⟩
    case round =>
      obtain ⟨j, hj, rfl, hR⟩ := hrel
      have R1 := Lib.hid hR
      clear hR R6
      by_cases hlt : j < n
      · have hjs : j < s.cells.length := by rw [HS.out.len]; exact hlt
        obtain ⟨x, hxl, hxd, hxo, hx4, b, off, rfl, hb, hxr⟩ := HS.out.get j hlt
        have hct := cellsB_take k s.cells j hjs
        rw [List.getD_eq_getElem?_getD, List.getElem?_eq_getElem hjs, Option.getD_some] at hxd
        have hxm := hxd ▸ mayL_le HM.out _ (List.getElem_mem hjs)
        rw [hxd] at hct
        have c0 : wr.cell? ⟨b, off + j * 2, none⟩ = some (.int .u64 (x.ser : Int)) := (R1.out.below.cell hb).trans (hxr 0 _ (show (cellV x).toList[0]? = some (.int .u64 (x.ser : Int)) from rfl))
        have c1 : wr.cell? ⟨b, off + j * 2 + 1, none⟩ = some (.slice x.A x.m x.c) := (R1.out.below.cell hb).trans (hxr 1 _ (show (cellV x).toList[1]? = some (.slice x.A x.m x.c) from rfl))
        have hL0 : (headB18 s ++ cellsB k (s.cells.take j)).length ≤ 13000 := by
          have h1 := length_cellsB_le k (s.cells.take j) (fun c hc => HS.out.small.2 c (List.mem_of_mem_take hc))
          rw [List.length_take] at h1
          rw [List.length_append, length_headB18]
          omega
        obtain ⟨L0, hL⟩ : ∃ L0, L0 = headB18 s ++ cellsB k (s.cells.take j) := ⟨_, rfl⟩
        rw [← hL] at R1 hL0
        have HL := Lib.hid hL
        have HCT := Lib.hid hct
        have hser := hxo.ser
        obtain ⟨ser, XA, m, xc, d⟩ := x
        have hdm : d.length = m := hxo.len
        simp only [CellH.dat] at hxm HCT
        have HXM : Hid (d.length ≤ roomL k) := Lib.hid (by rw [HK.out]; exact hxm)
        have HD : Hid (BytesIn w XA d) := Lib.hid hxo.by_
        have HDM := Lib.hid hdm
        simp only at c0 c1 hx4
        clear hL hct hxd hxm hxl hxo hxr hdm hb
        go_upto_region 10 with (fail)
        have q1 := R1.out.alloc2b #[.int .u64 (ser : Int), .slice XA m xc] 41
        clear c0 c1
        obtain ⟨W5, hW⟩ : ∃ W, W = wr.alloc (.cells #[.int .u64 (ser : Int), .slice XA m xc] 41) := ⟨_, rfl⟩
        rw [← hW] at q1 ⊢
        clear hW
        obtain ⟨g5, hg⟩ : ∃ g, g = wr.heap.size := ⟨_, rfl⟩
        rw [← hg] at q1 ⊢
        clear hg
        have R5 := Lib.hid q1
        clear q1
        have c0 : W5.cell? ⟨g5, 0, none⟩ = some (.int .u64 (ser : Int)) := R5.out.cell 1 0 rfl rfl
        go_wp2_with fail
        clear c0
        have N1 := wrnum_is R5.out ser 8 (by omega) (by omega) (by omega)
        rw [show ((8 : Nat) : Int) = 8 from rfl] at N1
        refine N1.mono ?_
        clear N1
        rintro e w6 ⟨rfl, hR⟩
        have R6 := Lib.hid hR
        clear hR R5
        have c1 : w6.cell? ⟨g5, 1, none⟩ = some (.slice XA m xc) := R6.out.cell 1 1 rfl rfl
        go_wp2_with fail
        clear c1
        have N1 := wrnum_is R6.out m 1 (by omega) (by rw [List.length_append, length_lows]; omega) (by omega)
        rw [show ((1 : Nat) : Int) = 1 from rfl] at N1
        refine N1.mono ?_
        clear N1
        rintro e w7 ⟨rfl, hR⟩
        have R7 := Lib.hid hR
        clear hR R6
        obtain ⟨⟨e0, e1, e2, e3⟩, _, _, _, _⟩ := R7.out.cells4 3 rfl
        go_wp2_with fail
        have N1 := room_is ((HC.out.below R7.out.below)) s.cl hcl
        have hrm := roomL_le k
        obtain ⟨rm, hrm2⟩ : ∃ rm, rm = roomL k := ⟨_, rfl⟩
        rw [← hrm2] at hrm
        rw [show roomL s.cl = rm by rw [hrm2, HK.out]] at N1
        have HRM := Lib.hid hrm2
        clear hrm2
        refine N1.mono ?_
        rintro e w8 ⟨rfl, hb⟩
        have R8 := Lib.hid (R7.out.call hb)
        clear N1 hb R7 e0 e1 e2 e3
        obtain ⟨L1, hL1⟩ : ∃ L1, L1 = L0 ++ lows ser 8 ++ lows m 1 := ⟨_, rfl⟩
        have hL1l : L1.length ≤ 14000 := by rw [hL1]; simp only [List.length_append, length_lows]; omega
        have HL1 := Lib.hid hL1
        have hR : Held w w8 [wrT gw false (L1 ++ (padL k d).take 0), rowT g5 #[.int .u64 (ser : Int), .slice XA m xc] 41, rowT g2 (zeros 256 (.int .u8 0)) 52, rowT g (shV s (some ⟨b, off, none⟩) n c) 25] := by
          rw [List.take_zero, List.append_nil, hL1]; exact R8.out
        have R9 := Lib.hid hR
        clear hR R8 hL1
        go_wp2_with fail
        go_loopw [49] (fun i wr => ∃ q : Nat, q ≤ rm ∧ i = .int .i64 (q : Int) ∧ Held w wr [wrT gw false (L1 ++ (padL k d).take q), rowT g5 #[.int .u64 (ser : Int), .slice XA m xc] 41, rowT g2 (zeros 256 (.int .u8 0)) 52, rowT g (shV s (some ⟨b, off, none⟩) n c) 25]) (fun i _ => rm - (intOf i).toNat)
        case atStart => exact ⟨0, by omega, rfl, R9.out⟩
        case round =>
          obtain ⟨q, hq, rfl, hR⟩ := hrel
          have R1 := Lib.hid hR
          clear hR R9
          by_cases hqr : q < rm
          · have hlt4 : (L1 ++ (padL k d).take q).length ≤ 20000 := by
              have := length_pad_take k d q (by omega)
              rw [List.length_append]; omega
            have HPT := Lib.hid (padL_take k d q (by rw [← HRM.out]; exact hqr))
            have c1 : wr.cell? ⟨g5, 1, none⟩ = some (.slice XA m xc) := R1.out.cell 1 1 rfl rfl
            by_cases hqm : q < m
            · obtain ⟨gd, o, hXA, hgd⟩ : ∃ gd o, XA = some ⟨gd, o, none⟩ ∧ wr.cell? ⟨gd, o + q, none⟩ = some (.int .u8 ((d.getD q 0).toNat : Int)) := by
                rcases HD.out with h | ⟨gd, o, h1, h2, h3⟩
                · have := HDM.out; rw [h] at this; simp at this; omega
                · refine ⟨gd, o, h1, (R1.out.below.cell h2).trans ?_⟩
                  rw [h3 q (by rw [HDM.out]; exact hqm), List.getD_eq_getElem?_getD, List.getElem?_eq_getElem (by rw [HDM.out]; exact hqm)]
                  rfl
              subst hXA
              have hbl := (d.getD q 0).toNat_lt
              obtain ⟨x, hx⟩ : ∃ x, x = (d.getD q 0).toNat := ⟨_, rfl⟩
              rw [← hx] at HPT hgd hbl
              clear hx
              go_wp2_with fail
              clear hgd c1
              have N1 := wrnum_is R1.out x 1 (by omega) (by omega) (by omega)
              rw [show ((1 : Nat) : Int) = 1 from rfl] at N1
              refine N1.mono ?_
              clear N1
              rintro e w2' ⟨rfl, hR⟩
              have R2 := Lib.hid hR
              clear hR R1
              go_wp2_with fail
              go_roundw
              case rel => exact ⟨q + 1, by omega, by go_num, by rw [HPT.out, ← List.append_assoc]; exact R2.out⟩
              case measure => simp [intOf]; omega
            · have hd0 : (d.getD q 0).toNat = 0 := by
                rw [List.getD_eq_getElem?_getD, List.getElem?_eq_none (by rw [HDM.out]; omega)]; rfl
              rw [hd0] at HPT
              clear hd0
              go_wp2_with fail
              clear c1
              have N1 := wrnum_is R1.out 0 1 (by omega) (by omega) (by omega)
              rw [show ((1 : Nat) : Int) = 1 from rfl] at N1
              refine N1.mono ?_
              clear N1
              rintro e w2' ⟨rfl, hR⟩
              have R2 := Lib.hid hR
              clear hR R1
              go_wp2_with fail
              go_roundw
              case rel => exact ⟨q + 1, by omega, by go_num, by rw [HPT.out, ← List.append_assoc]; exact R2.out⟩
              case measure => simp [intOf]; omega
          · obtain rfl : q = rm := by omega
            have hR : Held w wr [wrT gw false (headB18 s ++ cellsB k (s.cells.take (j + 1))), rowT g2 (zeros 256 (.int .u8 0)) 52, rowT g (shV s (some ⟨b, off, none⟩) n c) 25] := by
              have := R1.out.drop2b
              rw [HCT.out, ← List.append_assoc, ← HL.out, cellB_pad, ← List.append_assoc, ← List.append_assoc]
              rw [HL1.out, HRM.out, List.take_of_length_le (by rw [length_padL k d HXM.out]; exact Nat.le_refl _), ← HDM.out] at this
              exact this
            have R2 := Lib.hid hR
            clear hR R1
            go_wp2_with fail
            go_roundw
            case rel => exact ⟨j + 1, by omega, by go_num, R2.out⟩
            case measure => simp [intOf]; omega
      · obtain rfl : j = n := by omega
        have hfin : headB18 s ++ cellsB k (s.cells.take j) = shB s := by
          rw [List.take_of_length_le (by rw [HS.out.len]; exact Nat.le_refl _), HK.out]; rfl
        rw [hfin] at R1
        have HSL := Lib.hid (length_shB HM.out)
        clear hfin
        have N1 := wrdone_is R1.out 83 HSL.out
        rw [← HPB.out] at N1
        go_wp2_with fail
        refine N1.mono ?_
        rintro e w2' ⟨rfl, hb⟩
        have R2 := Lib.hid (R1.out.call hb)
        clear hb R1 N1
        go_wp2_with (refine wpList_store_row rfl 52 _ _ rfl g2 (blk PB) rfl rfl 52 _ (R2.out.get 1 rfl) (by rw [size_blk, HPL.out]; exact sizeB) (by rw [size_zeros, size_blk, HPL.out]) (blk_one _) ?_)
        have R3 := R2.out.setRow 1 (blk PB) rfl
        exact bodyPost_ret (v := .tuple #[.agg (blk PB), .int .i64 0]) (results_cell_slot rfl _ _ g2 52 _ (0, 0) _ _ rfl rfl (R3.get 1 rfl) Tryd.underlying52 rfl (by rw [size_blk, HPL.out]; exact sizeB)) rfl ⟨rfl, R3.below⟩
end
end Go.Proofs.YtcepfmjebgklfaaDoor
