/- The document's shelves (pantileref18): Same. -/
import Derived.Test.YtcepfmjebgklfaaDoorRef18S
namespace Go.Proofs.YtcepfmjebgklfaaDoor
open Go.RowKit
set_option linter.unusedSimpArgs false
set_option linter.unusedVariables false
set_option maxRecDepth 100000
theorem bytes_neq (a b : List UInt8) : (!decide ((⟨a.toArray⟩ : ByteArray) = ⟨b.toArray⟩)) = !decide (a = b) := by rw [bytes_deq]
section
variable {w : World}
set_option maxHeartbeats 4000000 in
theorem refsame18 {s t : ShL} {u v : Value} (hs : ShelfIn w u s) (ht : ShelfIn w v t) :
    Calls Tryd.prog 25 #[u, v] w fun e w' => e = .returned (.bool (sameL s t)) ∧ Below w.heap.size w w' := by
  obtain ⟨A, n, c, l, rfl, hs⟩ := hs
  obtain ⟨B, m, d, k, rfl, ht⟩ := ht
  have hR := ((Rows.start w).alloc (shV s A n c) 25).alloc (shV t B m d) 25
  obtain ⟨W, hW⟩ : ∃ W, W = (w.alloc (.cells (shV s A n c) 25)).alloc (.cells (shV t B m d) 25) := ⟨_, rfl⟩
  obtain ⟨g, hg⟩ : ∃ g, g = w.heap.size := ⟨_, rfl⟩
  rw [← hW, show (w.alloc (.cells (shV s A n c) 25)).heap.size = g + 1 by rw [hg]; simp, ← hg] at hR
  obtain ⟨g3, hg3⟩ : ∃ g3, g3 = g + 1 := ⟨_, rfl⟩
  rw [← hg3] at hR
  have HR := Lib.hid hR
  have HW := Lib.hid hW
  have HG := Lib.hid hg
  have HG3 := Lib.hid hg3
  have HS := Lib.hid hs
  have HT := Lib.hid ht
  have a0 : W.cell? ⟨g, 0, none⟩ = some (.int .u8 (s.cl : Int)) := hR.cell 1 0 rfl rfl
  have a1 : W.cell? ⟨g, 1, none⟩ = some (.int .u16 (s.prev : Int)) := hR.cell 1 1 rfl rfl
  have a2 : W.cell? ⟨g, 2, none⟩ = some (.int .u16 (s.next : Int)) := hR.cell 1 2 rfl rfl
  have a3 : W.cell? ⟨g, 3, none⟩ = some (.slice A n c) := hR.cell 1 3 rfl rfl
  have b0 : W.cell? ⟨g3, 0, none⟩ = some (.int .u8 (t.cl : Int)) := hR.cell 0 0 rfl rfl
  have b1 : W.cell? ⟨g3, 1, none⟩ = some (.int .u16 (t.prev : Int)) := hR.cell 0 1 rfl rfl
  have b2 : W.cell? ⟨g3, 2, none⟩ = some (.int .u16 (t.next : Int)) := hR.cell 0 2 rfl rfl
  have b3 : W.cell? ⟨g3, 3, none⟩ = some (.slice B m d) := hR.cell 0 3 rfl rfl
  have hV0 : sameL s t = (((s.cl : Int) == (t.cl : Int)) && (((s.prev : Int) == (t.prev : Int)) && (((s.next : Int) == (t.next : Int)) && decide (s.cells = t.cells)))) := rfl
  have hV1 := sameL_iff s t
  have hn := hs.le30
  have hm := ht.le30
  have HLS := Lib.hid hs.len
  have HLT := Lib.hid ht.len
  generalize sameL s t = r at hV0 hV1 ⊢
  by_cases h0 : s.cl = t.cl
  · have h0' : ((s.cl : Int) != (t.cl : Int)) = false := by simp; omega
    by_cases h1 : s.prev = t.prev
    · have h1' : ((s.prev : Int) != (t.prev : Int)) = false := by simp; omega
      by_cases h2 : s.next = t.next
      · have h2' : ((s.next : Int) != (t.next : Int)) = false := by simp; omega
        have hV : r = decide (s.cells = t.cells) := by rw [hV0, h0, h1, h2]; simp
        by_cases h3 : n = m
        · subst h3
          have HV := Lib.hid hV
          clear hR hW hg hg3 hs ht hV0 hV1 h0 h1 h2 hV
          go_enter Tryd.func25, Tryd.ntmps25
          go_upto_region 1 with (fail)
          rw [← HW.out, ← HG.out, ← HG3.out]
          go_wp2_with fail
          go_loopw [5] (fun i wr => ∃ j : Nat, j ≤ n ∧ i = .int .i64 (j : Int) ∧ Since W wr ∧ s.cells.take j = t.cells.take j) (fun i _ => n - (intOf i).toNat)
          case atStart => exact ⟨0, by omega, rfl, Below.refl _ _, rfl⟩
          case round =>
            obtain ⟨j, hj, rfl, hS, hall⟩ := hrel
            have HSI := Lib.hid hS
            have HA := Lib.hid hall
            clear a0 a1 a2 b0 b1 b2 hall
            have a3' := hS.cell a3
            have b3' := hS.cell b3
            by_cases hlt : j < n
            · obtain ⟨x, hxl, hxd, hxo, hx4, b, off, rfl, hb, hxr⟩ := HS.out.get j hlt
              obtain ⟨y, hyl, hyd, hyo, hy4, b', off', rfl, hb', hyr⟩ := HT.out.get j hlt
              have hbw : Below w.heap.size w wr := HR.out.below.trans (Below.mono hS HR.out.below.size)
              have hjs : j < s.cells.length := by rw [HLS.out]; exact hlt
              have hjt : j < t.cells.length := by rw [HLT.out]; exact hlt
              have hsj : s.cells[j] = x.dat := by rw [List.getD_eq_getElem?_getD, List.getElem?_eq_getElem hjs] at hxd; exact hxd
              have htj : t.cells[j] = y.dat := by rw [List.getD_eq_getElem?_getD, List.getElem?_eq_getElem hjt] at hyd; exact hyd
              have X0 : Hid (wr.cell? ⟨b, off + j * 2, none⟩ = some (.int .u64 (x.ser : Int))) := Lib.hid ((hbw.cell hb).trans (hxr 0 _ (show (cellV x).toList[0]? = some (.int .u64 (x.ser : Int)) from rfl)))
              have X1 : Hid (wr.cell? ⟨b, off + j * 2 + 1, none⟩ = some (.slice x.A x.m x.c)) := Lib.hid ((hbw.cell hb).trans (hxr 1 _ (show (cellV x).toList[1]? = some (.slice x.A x.m x.c) from rfl)))
              have Y0 : Hid (wr.cell? ⟨b', off' + j * 2, none⟩ = some (.int .u64 (y.ser : Int))) := Lib.hid ((hbw.cell hb').trans (hyr 0 _ (show (cellV y).toList[0]? = some (.int .u64 (y.ser : Int)) from rfl)))
              have Y1 : Hid (wr.cell? ⟨b', off' + j * 2 + 1, none⟩ = some (.slice y.A y.m y.c)) := Lib.hid ((hbw.cell hb').trans (hyr 1 _ (show (cellV y).toList[1]? = some (.slice y.A y.m y.c) from rfl)))
              have HXB : Hid (BytesIn wr x.A x.data) := Lib.hid (hxo.by_.below hbw)
              have HYB : Hid (BytesIn wr y.A y.data) := Lib.hid (hyo.by_.below hbw)
              have HXL : Hid (x.data.length = x.m) := Lib.hid hxo.len
              have HYL : Hid (y.data.length = y.m) := Lib.hid hyo.len
              have A3 := Lib.hid a3'
              have B3 := Lib.hid b3'
              have HFB : Hid (∀ w', Since wr w' → Below w.heap.size w w') := Lib.hid (fun w' h => hbw.trans (Below.mono h hbw.size))
              have HSW : Hid (∀ w', Since wr w' → Since W w') := Lib.hid (fun w' h => Below.trans HSI.out (Below.mono h (Below.size HSI.out)))
              have HNX : Hid (s.cells.take (j + 1) = t.cells.take (j + 1) ↔ x.dat = y.dat) := Lib.hid (by
                rw [List.take_succ_eq_append_getElem hjs, List.take_succ_eq_append_getElem hjt, HA.out, hsj, htj]
                simp)
              have HNE : Hid (x.dat ≠ y.dat → r = false) := Lib.hid (fun h => by
                rw [HV.out]
                refine decide_eq_false (fun e => h ?_)
                rw [← hsj, ← htj]
                simp only [e])
              clear hxl hxd hxo hx4 hb hxr hyl hyd hyo hy4 hb' hyr hbw hjs hjt hsj htj hS a3 b3
              go_wp2_with fail
              clear a3' b3'
              refine wk_region_since (by kernel_rfl) (by kernel_rfl) ?_
              refine wk_field 25 _ 23 3 0 _ _ _ (by first | exact wanted_none rfl | exact wanted_yes _ _ rfl rfl) rfl (by kernel_rfl) (by kernel_rfl) (by kernel_rfl) rfl ?_
              simp only [Act.put, List.setIfInBounds_toArray, List.set_cons_zero, List.set_cons_succ, Nat.zero_add]
              refine wk_load1 _ _ _ _ _ rfl (by kernel_rfl) rfl rfl (fun w' hC => hC.cell A3.out) Tryd.underlying23 ?_
              simp only [Act.put, List.setIfInBounds_toArray, List.set_cons_zero, List.set_cons_succ]
              repeat (first
                | (refine wk_move _ (by first | exact wanted_none rfl | exact wanted_yes _ _ rfl rfl) rfl ?_; simp only [Act.put, Act.eval, Array.getD_eq_getD_getElem?, List.getElem?_toArray, List.getElem?_cons_succ, List.getElem?_cons_zero, Option.getD_some, List.setIfInBounds_toArray, List.set_cons_zero, List.set_cons_succ])
                | (refine wk_assign _ (by first | exact wanted_none rfl | exact wanted_yes _ _ rfl rfl) rfl ?_; simp only [Act.put, Act.eval, Array.getD_eq_getD_getElem?, List.getElem?_toArray, List.getElem?_cons_succ, List.getElem?_cons_zero, Option.getD_some, List.setIfInBounds_toArray, List.set_cons_zero, List.set_cons_succ])
                | (refine wk_pickt _ _ _ _ (by first | exact wanted_none rfl | exact wanted_yes _ _ rfl rfl) rfl rfl rfl ?_; simp only [Act.put, Act.eval, Array.getD_eq_getD_getElem?, List.getElem?_toArray, List.getElem?_cons_succ, List.getElem?_cons_zero, Option.getD_some, List.setIfInBounds_toArray, List.set_cons_zero, List.set_cons_succ])
                | (refine wk_pickf _ _ _ _ (by first | exact wanted_none rfl | exact wanted_yes _ _ rfl rfl) rfl rfl rfl ?_; simp only [Act.put, Act.eval, Array.getD_eq_getD_getElem?, List.getElem?_toArray, List.getElem?_cons_succ, List.getElem?_cons_zero, Option.getD_some, List.setIfInBounds_toArray, List.set_cons_zero, List.set_cons_succ])
                | (refine wk_skip (wanted_not _ true false rfl rfl rfl) ?_; simp only [Act.put, List.setIfInBounds_toArray, List.set_cons_zero, List.set_cons_succ])
                | (refine wk_skip (wanted_not _ false true rfl rfl rfl) ?_; simp only [Act.put, List.setIfInBounds_toArray, List.set_cons_zero, List.set_cons_succ])
                | (refine wk_skip (wanted_undef _ _ rfl rfl) ?_; simp only [Act.put, List.setIfInBounds_toArray, List.set_cons_zero, List.set_cons_succ])
                | (refine wk_not true _ _ (by first | exact wanted_none rfl | exact wanted_yes _ _ rfl rfl) rfl rfl ?_; simp only [Act.put, List.setIfInBounds_toArray, List.set_cons_zero, List.set_cons_succ])
                | (refine wk_not false _ _ (by first | exact wanted_none rfl | exact wanted_yes _ _ rfl rfl) rfl rfl ?_; simp only [Act.put, List.setIfInBounds_toArray, List.set_cons_zero, List.set_cons_succ]))
              refine wk_index _ _ _ _ _ _ (n) _ (j) 2 .i64 (by first | exact wanted_none rfl | exact wanted_yes _ _ rfl rfl) rfl Tryd.underlying23 sizeCell rfl rfl (by omega) ?_
              simp only [Act.put, List.setIfInBounds_toArray, List.set_cons_zero, List.set_cons_succ]
              refine wk_field 41 _ 26 0 0 _ _ _ (by first | exact wanted_none rfl | exact wanted_yes _ _ rfl rfl) rfl (by kernel_rfl) (by kernel_rfl) (by kernel_rfl) rfl ?_
              simp only [Act.put, List.setIfInBounds_toArray, List.set_cons_zero, List.set_cons_succ, Nat.zero_add]
              refine wk_load1 _ _ _ _ _ rfl (by kernel_rfl) rfl rfl (fun w' hC => hC.cell X0.out) Tryd.underlying26 ?_
              simp only [Act.put, List.setIfInBounds_toArray, List.set_cons_zero, List.set_cons_succ]
              refine wk_field 25 _ 23 3 0 _ _ _ (by first | exact wanted_none rfl | exact wanted_yes _ _ rfl rfl) rfl (by kernel_rfl) (by kernel_rfl) (by kernel_rfl) rfl ?_
              simp only [Act.put, List.setIfInBounds_toArray, List.set_cons_zero, List.set_cons_succ, Nat.zero_add]
              refine wk_load1 _ _ _ _ _ rfl (by kernel_rfl) rfl rfl (fun w' hC => hC.cell B3.out) Tryd.underlying23 ?_
              simp only [Act.put, List.setIfInBounds_toArray, List.set_cons_zero, List.set_cons_succ]
              repeat (first
                | (refine wk_move _ (by first | exact wanted_none rfl | exact wanted_yes _ _ rfl rfl) rfl ?_; simp only [Act.put, Act.eval, Array.getD_eq_getD_getElem?, List.getElem?_toArray, List.getElem?_cons_succ, List.getElem?_cons_zero, Option.getD_some, List.setIfInBounds_toArray, List.set_cons_zero, List.set_cons_succ])
                | (refine wk_assign _ (by first | exact wanted_none rfl | exact wanted_yes _ _ rfl rfl) rfl ?_; simp only [Act.put, Act.eval, Array.getD_eq_getD_getElem?, List.getElem?_toArray, List.getElem?_cons_succ, List.getElem?_cons_zero, Option.getD_some, List.setIfInBounds_toArray, List.set_cons_zero, List.set_cons_succ])
                | (refine wk_pickt _ _ _ _ (by first | exact wanted_none rfl | exact wanted_yes _ _ rfl rfl) rfl rfl rfl ?_; simp only [Act.put, Act.eval, Array.getD_eq_getD_getElem?, List.getElem?_toArray, List.getElem?_cons_succ, List.getElem?_cons_zero, Option.getD_some, List.setIfInBounds_toArray, List.set_cons_zero, List.set_cons_succ])
                | (refine wk_pickf _ _ _ _ (by first | exact wanted_none rfl | exact wanted_yes _ _ rfl rfl) rfl rfl rfl ?_; simp only [Act.put, Act.eval, Array.getD_eq_getD_getElem?, List.getElem?_toArray, List.getElem?_cons_succ, List.getElem?_cons_zero, Option.getD_some, List.setIfInBounds_toArray, List.set_cons_zero, List.set_cons_succ])
                | (refine wk_skip (wanted_not _ true false rfl rfl rfl) ?_; simp only [Act.put, List.setIfInBounds_toArray, List.set_cons_zero, List.set_cons_succ])
                | (refine wk_skip (wanted_not _ false true rfl rfl rfl) ?_; simp only [Act.put, List.setIfInBounds_toArray, List.set_cons_zero, List.set_cons_succ])
                | (refine wk_skip (wanted_undef _ _ rfl rfl) ?_; simp only [Act.put, List.setIfInBounds_toArray, List.set_cons_zero, List.set_cons_succ])
                | (refine wk_not true _ _ (by first | exact wanted_none rfl | exact wanted_yes _ _ rfl rfl) rfl rfl ?_; simp only [Act.put, List.setIfInBounds_toArray, List.set_cons_zero, List.set_cons_succ])
                | (refine wk_not false _ _ (by first | exact wanted_none rfl | exact wanted_yes _ _ rfl rfl) rfl rfl ?_; simp only [Act.put, List.setIfInBounds_toArray, List.set_cons_zero, List.set_cons_succ]))
              refine wk_index _ _ _ _ _ _ (n) _ (j) 2 .i64 (by first | exact wanted_none rfl | exact wanted_yes _ _ rfl rfl) rfl Tryd.underlying23 sizeCell rfl rfl (by omega) ?_
              simp only [Act.put, List.setIfInBounds_toArray, List.set_cons_zero, List.set_cons_succ]
              refine wk_field 41 _ 26 0 0 _ _ _ (by first | exact wanted_none rfl | exact wanted_yes _ _ rfl rfl) rfl (by kernel_rfl) (by kernel_rfl) (by kernel_rfl) rfl ?_
              simp only [Act.put, List.setIfInBounds_toArray, List.set_cons_zero, List.set_cons_succ, Nat.zero_add]
              refine wk_load1 _ _ _ _ _ rfl (by kernel_rfl) rfl rfl (fun w' hC => hC.cell Y0.out) Tryd.underlying26 ?_
              simp only [Act.put, List.setIfInBounds_toArray, List.set_cons_zero, List.set_cons_succ]
              by_cases hq : x.ser = y.ser
              · skip
                refine wk_cmp_int .neq (false) _ _ _ _ _ _ _ (by kernel_rfl) rfl rfl rfl (by rw [hq]; simp [cmpInt]) ?_
                simp only [Act.put, List.setIfInBounds_toArray, List.set_cons_zero, List.set_cons_succ]
                repeat (first
                  | (refine wk_move _ (by first | exact wanted_none rfl | exact wanted_yes _ _ rfl rfl) rfl ?_; simp only [Act.put, Act.eval, Array.getD_eq_getD_getElem?, List.getElem?_toArray, List.getElem?_cons_succ, List.getElem?_cons_zero, Option.getD_some, List.setIfInBounds_toArray, List.set_cons_zero, List.set_cons_succ])
                  | (refine wk_assign _ (by first | exact wanted_none rfl | exact wanted_yes _ _ rfl rfl) rfl ?_; simp only [Act.put, Act.eval, Array.getD_eq_getD_getElem?, List.getElem?_toArray, List.getElem?_cons_succ, List.getElem?_cons_zero, Option.getD_some, List.setIfInBounds_toArray, List.set_cons_zero, List.set_cons_succ])
                  | (refine wk_pickt _ _ _ _ (by first | exact wanted_none rfl | exact wanted_yes _ _ rfl rfl) rfl rfl rfl ?_; simp only [Act.put, Act.eval, Array.getD_eq_getD_getElem?, List.getElem?_toArray, List.getElem?_cons_succ, List.getElem?_cons_zero, Option.getD_some, List.setIfInBounds_toArray, List.set_cons_zero, List.set_cons_succ])
                  | (refine wk_pickf _ _ _ _ (by first | exact wanted_none rfl | exact wanted_yes _ _ rfl rfl) rfl rfl rfl ?_; simp only [Act.put, Act.eval, Array.getD_eq_getD_getElem?, List.getElem?_toArray, List.getElem?_cons_succ, List.getElem?_cons_zero, Option.getD_some, List.setIfInBounds_toArray, List.set_cons_zero, List.set_cons_succ])
                  | (refine wk_skip (wanted_not _ true false rfl rfl rfl) ?_; simp only [Act.put, List.setIfInBounds_toArray, List.set_cons_zero, List.set_cons_succ])
                  | (refine wk_skip (wanted_not _ false true rfl rfl rfl) ?_; simp only [Act.put, List.setIfInBounds_toArray, List.set_cons_zero, List.set_cons_succ])
                  | (refine wk_skip (wanted_undef _ _ rfl rfl) ?_; simp only [Act.put, List.setIfInBounds_toArray, List.set_cons_zero, List.set_cons_succ])
                  | (refine wk_not true _ _ (by first | exact wanted_none rfl | exact wanted_yes _ _ rfl rfl) rfl rfl ?_; simp only [Act.put, List.setIfInBounds_toArray, List.set_cons_zero, List.set_cons_succ])
                  | (refine wk_not false _ _ (by first | exact wanted_none rfl | exact wanted_yes _ _ rfl rfl) rfl rfl ?_; simp only [Act.put, List.setIfInBounds_toArray, List.set_cons_zero, List.set_cons_succ]))
                refine wk_field 25 _ 23 3 0 _ _ _ (by first | exact wanted_none rfl | exact wanted_yes _ _ rfl rfl) rfl (by kernel_rfl) (by kernel_rfl) (by kernel_rfl) rfl ?_
                simp only [Act.put, List.setIfInBounds_toArray, List.set_cons_zero, List.set_cons_succ, Nat.zero_add]
                refine wk_load1 _ _ _ _ _ rfl (by kernel_rfl) rfl rfl (fun w' hC => hC.cell A3.out) Tryd.underlying23 ?_
                simp only [Act.put, List.setIfInBounds_toArray, List.set_cons_zero, List.set_cons_succ]
                repeat (first
                  | (refine wk_move _ (by first | exact wanted_none rfl | exact wanted_yes _ _ rfl rfl) rfl ?_; simp only [Act.put, Act.eval, Array.getD_eq_getD_getElem?, List.getElem?_toArray, List.getElem?_cons_succ, List.getElem?_cons_zero, Option.getD_some, List.setIfInBounds_toArray, List.set_cons_zero, List.set_cons_succ])
                  | (refine wk_assign _ (by first | exact wanted_none rfl | exact wanted_yes _ _ rfl rfl) rfl ?_; simp only [Act.put, Act.eval, Array.getD_eq_getD_getElem?, List.getElem?_toArray, List.getElem?_cons_succ, List.getElem?_cons_zero, Option.getD_some, List.setIfInBounds_toArray, List.set_cons_zero, List.set_cons_succ])
                  | (refine wk_pickt _ _ _ _ (by first | exact wanted_none rfl | exact wanted_yes _ _ rfl rfl) rfl rfl rfl ?_; simp only [Act.put, Act.eval, Array.getD_eq_getD_getElem?, List.getElem?_toArray, List.getElem?_cons_succ, List.getElem?_cons_zero, Option.getD_some, List.setIfInBounds_toArray, List.set_cons_zero, List.set_cons_succ])
                  | (refine wk_pickf _ _ _ _ (by first | exact wanted_none rfl | exact wanted_yes _ _ rfl rfl) rfl rfl rfl ?_; simp only [Act.put, Act.eval, Array.getD_eq_getD_getElem?, List.getElem?_toArray, List.getElem?_cons_succ, List.getElem?_cons_zero, Option.getD_some, List.setIfInBounds_toArray, List.set_cons_zero, List.set_cons_succ])
                  | (refine wk_skip (wanted_not _ true false rfl rfl rfl) ?_; simp only [Act.put, List.setIfInBounds_toArray, List.set_cons_zero, List.set_cons_succ])
                  | (refine wk_skip (wanted_not _ false true rfl rfl rfl) ?_; simp only [Act.put, List.setIfInBounds_toArray, List.set_cons_zero, List.set_cons_succ])
                  | (refine wk_skip (wanted_undef _ _ rfl rfl) ?_; simp only [Act.put, List.setIfInBounds_toArray, List.set_cons_zero, List.set_cons_succ])
                  | (refine wk_not true _ _ (by first | exact wanted_none rfl | exact wanted_yes _ _ rfl rfl) rfl rfl ?_; simp only [Act.put, List.setIfInBounds_toArray, List.set_cons_zero, List.set_cons_succ])
                  | (refine wk_not false _ _ (by first | exact wanted_none rfl | exact wanted_yes _ _ rfl rfl) rfl rfl ?_; simp only [Act.put, List.setIfInBounds_toArray, List.set_cons_zero, List.set_cons_succ]))
                refine wk_index _ _ _ _ _ _ (n) _ (j) 2 .i64 (by first | exact wanted_none rfl | exact wanted_yes _ _ rfl rfl) rfl Tryd.underlying23 sizeCell rfl rfl (by omega) ?_
                simp only [Act.put, List.setIfInBounds_toArray, List.set_cons_zero, List.set_cons_succ]
                refine wk_field 41 _ 27 1 0 _ _ _ (by first | exact wanted_none rfl | exact wanted_yes _ _ rfl rfl) rfl (by kernel_rfl) (by kernel_rfl) (by kernel_rfl) rfl ?_
                simp only [Act.put, List.setIfInBounds_toArray, List.set_cons_zero, List.set_cons_succ, Nat.zero_add]
                refine wk_load1 _ _ _ _ _ rfl (by kernel_rfl) rfl rfl (fun w' hC => hC.cell X1.out) Tryd.underlying27 ?_
                simp only [Act.put, List.setIfInBounds_toArray, List.set_cons_zero, List.set_cons_succ]
                refine wk_bytes_in _ _ _ _ _ (x.m) _ (x.data) (⟨x.data.toArray⟩) (by first | exact wanted_none rfl | exact wanted_yes _ _ rfl rfl) rfl rfl Tryd.underlying27 Tryd.underlying5 Tryd.underlying9 (HXL.out) (rfl) (fun w' hC => HXB.out.below hC) ?_
                simp only [Act.put, List.setIfInBounds_toArray, List.set_cons_zero, List.set_cons_succ]
                refine wk_field 25 _ 23 3 0 _ _ _ (by first | exact wanted_none rfl | exact wanted_yes _ _ rfl rfl) rfl (by kernel_rfl) (by kernel_rfl) (by kernel_rfl) rfl ?_
                simp only [Act.put, List.setIfInBounds_toArray, List.set_cons_zero, List.set_cons_succ, Nat.zero_add]
                refine wk_load1 _ _ _ _ _ rfl (by kernel_rfl) rfl rfl (fun w' hC => hC.cell B3.out) Tryd.underlying23 ?_
                simp only [Act.put, List.setIfInBounds_toArray, List.set_cons_zero, List.set_cons_succ]
                repeat (first
                  | (refine wk_move _ (by first | exact wanted_none rfl | exact wanted_yes _ _ rfl rfl) rfl ?_; simp only [Act.put, Act.eval, Array.getD_eq_getD_getElem?, List.getElem?_toArray, List.getElem?_cons_succ, List.getElem?_cons_zero, Option.getD_some, List.setIfInBounds_toArray, List.set_cons_zero, List.set_cons_succ])
                  | (refine wk_assign _ (by first | exact wanted_none rfl | exact wanted_yes _ _ rfl rfl) rfl ?_; simp only [Act.put, Act.eval, Array.getD_eq_getD_getElem?, List.getElem?_toArray, List.getElem?_cons_succ, List.getElem?_cons_zero, Option.getD_some, List.setIfInBounds_toArray, List.set_cons_zero, List.set_cons_succ])
                  | (refine wk_pickt _ _ _ _ (by first | exact wanted_none rfl | exact wanted_yes _ _ rfl rfl) rfl rfl rfl ?_; simp only [Act.put, Act.eval, Array.getD_eq_getD_getElem?, List.getElem?_toArray, List.getElem?_cons_succ, List.getElem?_cons_zero, Option.getD_some, List.setIfInBounds_toArray, List.set_cons_zero, List.set_cons_succ])
                  | (refine wk_pickf _ _ _ _ (by first | exact wanted_none rfl | exact wanted_yes _ _ rfl rfl) rfl rfl rfl ?_; simp only [Act.put, Act.eval, Array.getD_eq_getD_getElem?, List.getElem?_toArray, List.getElem?_cons_succ, List.getElem?_cons_zero, Option.getD_some, List.setIfInBounds_toArray, List.set_cons_zero, List.set_cons_succ])
                  | (refine wk_skip (wanted_not _ true false rfl rfl rfl) ?_; simp only [Act.put, List.setIfInBounds_toArray, List.set_cons_zero, List.set_cons_succ])
                  | (refine wk_skip (wanted_not _ false true rfl rfl rfl) ?_; simp only [Act.put, List.setIfInBounds_toArray, List.set_cons_zero, List.set_cons_succ])
                  | (refine wk_skip (wanted_undef _ _ rfl rfl) ?_; simp only [Act.put, List.setIfInBounds_toArray, List.set_cons_zero, List.set_cons_succ])
                  | (refine wk_not true _ _ (by first | exact wanted_none rfl | exact wanted_yes _ _ rfl rfl) rfl rfl ?_; simp only [Act.put, List.setIfInBounds_toArray, List.set_cons_zero, List.set_cons_succ])
                  | (refine wk_not false _ _ (by first | exact wanted_none rfl | exact wanted_yes _ _ rfl rfl) rfl rfl ?_; simp only [Act.put, List.setIfInBounds_toArray, List.set_cons_zero, List.set_cons_succ]))
                refine wk_index _ _ _ _ _ _ (n) _ (j) 2 .i64 (by first | exact wanted_none rfl | exact wanted_yes _ _ rfl rfl) rfl Tryd.underlying23 sizeCell rfl rfl (by omega) ?_
                simp only [Act.put, List.setIfInBounds_toArray, List.set_cons_zero, List.set_cons_succ]
                refine wk_field 41 _ 27 1 0 _ _ _ (by first | exact wanted_none rfl | exact wanted_yes _ _ rfl rfl) rfl (by kernel_rfl) (by kernel_rfl) (by kernel_rfl) rfl ?_
                simp only [Act.put, List.setIfInBounds_toArray, List.set_cons_zero, List.set_cons_succ, Nat.zero_add]
                refine wk_load1 _ _ _ _ _ rfl (by kernel_rfl) rfl rfl (fun w' hC => hC.cell Y1.out) Tryd.underlying27 ?_
                simp only [Act.put, List.setIfInBounds_toArray, List.set_cons_zero, List.set_cons_succ]
                refine wk_bytes_in _ _ _ _ _ (y.m) _ (y.data) (⟨y.data.toArray⟩) (by first | exact wanted_none rfl | exact wanted_yes _ _ rfl rfl) rfl rfl Tryd.underlying27 Tryd.underlying5 Tryd.underlying9 (HYL.out) (rfl) (fun w' hC => HYB.out.below hC) ?_
                simp only [Act.put, List.setIfInBounds_toArray, List.set_cons_zero, List.set_cons_succ]
                by_cases hd : x.data = y.data
                · have HXY : Hid (s.cells.take (j + 1) = t.cells.take (j + 1)) := Lib.hid (HNX.out.2 (by unfold CellH.dat; rw [hq, hd]))
                  refine wk_neq_str (false) _ _ _ _ _ _ (by kernel_rfl) rfl rfl rfl (by rw [bytes_neq]; simp [hd]) ?_
                  simp only [Act.put, List.setIfInBounds_toArray, List.set_cons_zero, List.set_cons_succ]
                  repeat (first
                    | (refine wk_move _ (by first | exact wanted_none rfl | exact wanted_yes _ _ rfl rfl) rfl ?_; simp only [Act.put, Act.eval, Array.getD_eq_getD_getElem?, List.getElem?_toArray, List.getElem?_cons_succ, List.getElem?_cons_zero, Option.getD_some, List.setIfInBounds_toArray, List.set_cons_zero, List.set_cons_succ])
                    | (refine wk_assign _ (by first | exact wanted_none rfl | exact wanted_yes _ _ rfl rfl) rfl ?_; simp only [Act.put, Act.eval, Array.getD_eq_getD_getElem?, List.getElem?_toArray, List.getElem?_cons_succ, List.getElem?_cons_zero, Option.getD_some, List.setIfInBounds_toArray, List.set_cons_zero, List.set_cons_succ])
                    | (refine wk_pickt _ _ _ _ (by first | exact wanted_none rfl | exact wanted_yes _ _ rfl rfl) rfl rfl rfl ?_; simp only [Act.put, Act.eval, Array.getD_eq_getD_getElem?, List.getElem?_toArray, List.getElem?_cons_succ, List.getElem?_cons_zero, Option.getD_some, List.setIfInBounds_toArray, List.set_cons_zero, List.set_cons_succ])
                    | (refine wk_pickf _ _ _ _ (by first | exact wanted_none rfl | exact wanted_yes _ _ rfl rfl) rfl rfl rfl ?_; simp only [Act.put, Act.eval, Array.getD_eq_getD_getElem?, List.getElem?_toArray, List.getElem?_cons_succ, List.getElem?_cons_zero, Option.getD_some, List.setIfInBounds_toArray, List.set_cons_zero, List.set_cons_succ])
                    | (refine wk_skip (wanted_not _ true false rfl rfl rfl) ?_; simp only [Act.put, List.setIfInBounds_toArray, List.set_cons_zero, List.set_cons_succ])
                    | (refine wk_skip (wanted_not _ false true rfl rfl rfl) ?_; simp only [Act.put, List.setIfInBounds_toArray, List.set_cons_zero, List.set_cons_succ])
                    | (refine wk_skip (wanted_undef _ _ rfl rfl) ?_; simp only [Act.put, List.setIfInBounds_toArray, List.set_cons_zero, List.set_cons_succ])
                    | (refine wk_not true _ _ (by first | exact wanted_none rfl | exact wanted_yes _ _ rfl rfl) rfl rfl ?_; simp only [Act.put, List.setIfInBounds_toArray, List.set_cons_zero, List.set_cons_succ])
                    | (refine wk_not false _ _ (by first | exact wanted_none rfl | exact wanted_yes _ _ rfl rfl) rfl rfl ?_; simp only [Act.put, List.setIfInBounds_toArray, List.set_cons_zero, List.set_cons_succ]))
                  refine wk_nil ?_
                  intro w' hC
                  have HSN := Lib.hid (HSW.out _ hC)
                  clear hC hq hd
                  go_wp2_with fail
                  go_roundw
                  case rel => exact ⟨j + 1, by omega, by go_num, HSN.out, HXY.out⟩
                  case measure => simp [intOf]; omega
                · have HRF : Hid (r = false) := Lib.hid (HNE.out (fun e => hd (by unfold CellH.dat at e; simpa using (congrArg Prod.snd e))))
                  refine wk_neq_str (true) _ _ _ _ _ _ (by kernel_rfl) rfl rfl rfl (by rw [bytes_neq]; simp [hd]) ?_
                  simp only [Act.put, List.setIfInBounds_toArray, List.set_cons_zero, List.set_cons_succ]
                  repeat (first
                    | (refine wk_move _ (by first | exact wanted_none rfl | exact wanted_yes _ _ rfl rfl) rfl ?_; simp only [Act.put, Act.eval, Array.getD_eq_getD_getElem?, List.getElem?_toArray, List.getElem?_cons_succ, List.getElem?_cons_zero, Option.getD_some, List.setIfInBounds_toArray, List.set_cons_zero, List.set_cons_succ])
                    | (refine wk_assign _ (by first | exact wanted_none rfl | exact wanted_yes _ _ rfl rfl) rfl ?_; simp only [Act.put, Act.eval, Array.getD_eq_getD_getElem?, List.getElem?_toArray, List.getElem?_cons_succ, List.getElem?_cons_zero, Option.getD_some, List.setIfInBounds_toArray, List.set_cons_zero, List.set_cons_succ])
                    | (refine wk_pickt _ _ _ _ (by first | exact wanted_none rfl | exact wanted_yes _ _ rfl rfl) rfl rfl rfl ?_; simp only [Act.put, Act.eval, Array.getD_eq_getD_getElem?, List.getElem?_toArray, List.getElem?_cons_succ, List.getElem?_cons_zero, Option.getD_some, List.setIfInBounds_toArray, List.set_cons_zero, List.set_cons_succ])
                    | (refine wk_pickf _ _ _ _ (by first | exact wanted_none rfl | exact wanted_yes _ _ rfl rfl) rfl rfl rfl ?_; simp only [Act.put, Act.eval, Array.getD_eq_getD_getElem?, List.getElem?_toArray, List.getElem?_cons_succ, List.getElem?_cons_zero, Option.getD_some, List.setIfInBounds_toArray, List.set_cons_zero, List.set_cons_succ])
                    | (refine wk_skip (wanted_not _ true false rfl rfl rfl) ?_; simp only [Act.put, List.setIfInBounds_toArray, List.set_cons_zero, List.set_cons_succ])
                    | (refine wk_skip (wanted_not _ false true rfl rfl rfl) ?_; simp only [Act.put, List.setIfInBounds_toArray, List.set_cons_zero, List.set_cons_succ])
                    | (refine wk_skip (wanted_undef _ _ rfl rfl) ?_; simp only [Act.put, List.setIfInBounds_toArray, List.set_cons_zero, List.set_cons_succ])
                    | (refine wk_not true _ _ (by first | exact wanted_none rfl | exact wanted_yes _ _ rfl rfl) rfl rfl ?_; simp only [Act.put, List.setIfInBounds_toArray, List.set_cons_zero, List.set_cons_succ])
                    | (refine wk_not false _ _ (by first | exact wanted_none rfl | exact wanted_yes _ _ rfl rfl) rfl rfl ?_; simp only [Act.put, List.setIfInBounds_toArray, List.set_cons_zero, List.set_cons_succ]))
                  refine wk_nil ?_
                  intro w' hC
                  have HB := Lib.hid (HFB.out _ hC)
                  clear hC hq hd
                  go_wp2_with fail
                  go_ret
                  exact ⟨by rw [HRF.out]; rfl, HB.out⟩
              · have HRF : Hid (r = false) := Lib.hid (HNE.out (fun e => hq (by unfold CellH.dat at e; simpa using (congrArg Prod.fst e))))
                refine wk_cmp_int .neq (true) _ _ _ _ _ _ _ (by kernel_rfl) rfl rfl rfl (by simp [cmpInt]; omega) ?_
                simp only [Act.put, List.setIfInBounds_toArray, List.set_cons_zero, List.set_cons_succ]
                repeat (first
                  | (refine wk_move _ (by first | exact wanted_none rfl | exact wanted_yes _ _ rfl rfl) rfl ?_; simp only [Act.put, Act.eval, Array.getD_eq_getD_getElem?, List.getElem?_toArray, List.getElem?_cons_succ, List.getElem?_cons_zero, Option.getD_some, List.setIfInBounds_toArray, List.set_cons_zero, List.set_cons_succ])
                  | (refine wk_assign _ (by first | exact wanted_none rfl | exact wanted_yes _ _ rfl rfl) rfl ?_; simp only [Act.put, Act.eval, Array.getD_eq_getD_getElem?, List.getElem?_toArray, List.getElem?_cons_succ, List.getElem?_cons_zero, Option.getD_some, List.setIfInBounds_toArray, List.set_cons_zero, List.set_cons_succ])
                  | (refine wk_pickt _ _ _ _ (by first | exact wanted_none rfl | exact wanted_yes _ _ rfl rfl) rfl rfl rfl ?_; simp only [Act.put, Act.eval, Array.getD_eq_getD_getElem?, List.getElem?_toArray, List.getElem?_cons_succ, List.getElem?_cons_zero, Option.getD_some, List.setIfInBounds_toArray, List.set_cons_zero, List.set_cons_succ])
                  | (refine wk_pickf _ _ _ _ (by first | exact wanted_none rfl | exact wanted_yes _ _ rfl rfl) rfl rfl rfl ?_; simp only [Act.put, Act.eval, Array.getD_eq_getD_getElem?, List.getElem?_toArray, List.getElem?_cons_succ, List.getElem?_cons_zero, Option.getD_some, List.setIfInBounds_toArray, List.set_cons_zero, List.set_cons_succ])
                  | (refine wk_skip (wanted_not _ true false rfl rfl rfl) ?_; simp only [Act.put, List.setIfInBounds_toArray, List.set_cons_zero, List.set_cons_succ])
                  | (refine wk_skip (wanted_not _ false true rfl rfl rfl) ?_; simp only [Act.put, List.setIfInBounds_toArray, List.set_cons_zero, List.set_cons_succ])
                  | (refine wk_skip (wanted_undef _ _ rfl rfl) ?_; simp only [Act.put, List.setIfInBounds_toArray, List.set_cons_zero, List.set_cons_succ])
                  | (refine wk_not true _ _ (by first | exact wanted_none rfl | exact wanted_yes _ _ rfl rfl) rfl rfl ?_; simp only [Act.put, List.setIfInBounds_toArray, List.set_cons_zero, List.set_cons_succ])
                  | (refine wk_not false _ _ (by first | exact wanted_none rfl | exact wanted_yes _ _ rfl rfl) rfl rfl ?_; simp only [Act.put, List.setIfInBounds_toArray, List.set_cons_zero, List.set_cons_succ]))
                refine wk_nil ?_
                intro w' hC
                have HB := Lib.hid (HFB.out _ hC)
                clear hC hq
                go_wp2_with fail
                go_ret
                exact ⟨by rw [HRF.out]; rfl, HB.out⟩
            · obtain rfl : j = n := by omega
              have HRT : Hid (r = true) := Lib.hid (by
                rw [HV.out]
                have := HA.out
                rw [List.take_of_length_le (by rw [HLS.out]; exact Nat.le_refl _), List.take_of_length_le (by rw [HLT.out]; exact Nat.le_refl _)] at this
                exact decide_eq_true this)
              have HBW : Hid (Below w.heap.size w wr) := Lib.hid (HR.out.below.trans (Below.mono hS HR.out.below.size))
              clear hS
              go_wp2_with fail
              go_ret
              exact ⟨by rw [HRT.out]; rfl, HBW.out⟩
        · have HV : Hid (r = false) := Lib.hid (by rw [hV]; exact decide_eq_false (fun e => h3 (by rw [← hs.len, ← ht.len, e])))
          have h3' : ((n : Int) != (m : Int)) = true := by simp; omega
          clear hR hW hg hg3 hs ht hV0 hV1 h0 h1 h2 hV h3
          go_enter Tryd.func25, Tryd.ntmps25
          go_upto_region 1 with (fail)
          rw [← HW.out, ← HG.out, ← HG3.out]
          go_wp2_with fail
          go_ret
          exact ⟨by rw [HV.out]; rfl, HR.out.below⟩
      · have HV : Hid (r = false) := Lib.hid (by
          cases hr : r with
          | false => rfl
          | true => rw [hr] at hV1; exact absurd (congrArg ShL.next (hV1.1 rfl)) h2)
        have h2' : ((s.next : Int) != (t.next : Int)) = true := by simp; omega
        clear hR hW hg hg3 hs ht hV0 hV1 h0 h1 h2
        go_enter Tryd.func25, Tryd.ntmps25
        go_upto_region 1 with (fail)
        rw [← HW.out, ← HG.out, ← HG3.out]
        go_wp2_with fail
        go_ret
        exact ⟨by rw [HV.out]; rfl, HR.out.below⟩
    · have HV : Hid (r = false) := Lib.hid (by
        cases hr : r with
        | false => rfl
        | true => rw [hr] at hV1; exact absurd (congrArg ShL.prev (hV1.1 rfl)) h1)
      have h1' : ((s.prev : Int) != (t.prev : Int)) = true := by simp; omega
      clear hR hW hg hg3 hs ht hV0 hV1 h0 h1
      go_enter Tryd.func25, Tryd.ntmps25
      go_upto_region 1 with (fail)
      rw [← HW.out, ← HG.out, ← HG3.out]
      go_wp2_with fail
      go_ret
      exact ⟨by rw [HV.out]; rfl, HR.out.below⟩
  · have HV : Hid (r = false) := Lib.hid (by
      cases hr : r with
      | false => rfl
      | true => rw [hr] at hV1; exact absurd (congrArg ShL.cl (hV1.1 rfl)) h0)
    have h0' : ((s.cl : Int) != (t.cl : Int)) = true := by simp; omega
    clear hR hW hg hg3 hs ht hV0 hV1 h0
    go_enter Tryd.func25, Tryd.ntmps25
    go_upto_region 1 with (fail)
    rw [← HW.out, ← HG.out, ← HG3.out]
    go_wp2_with fail
    go_ret
    exact ⟨by rw [HV.out]; rfl, HR.out.below⟩
end
end Go.Proofs.YtcepfmjebgklfaaDoor
