/- Shelves in memory: Same; Used; great. -/
import Derived.Test.YtcepfmjebgklfaaDoorSh2
namespace Go.Proofs.YtcepfmjebgklfaaDoor
open Go.RowKit
set_option linter.unusedSimpArgs false
set_option linter.unusedVariables false
set_option maxRecDepth 100000
section
variable {P : Program}
theorem run_bytes_in (w : World) (src dst e : TypeId) (A : Option Addr) (n c : Nat) (hs : P.underlying src = some (.slice e)) (he : P.underlying e = some (.int .u8)) (hd : P.underlying dst = some .string)
    (b : List UInt8) (hl : b.length = n) (h : BytesIn w A b) : (convert src dst (.slice A n c)).run P w = .ok (.string ⟨b.toArray⟩) w := by
  rcases h with rfl | ⟨g, off, rfl, h1, h2⟩
  · cases A with
    | some a => exact run_bytes_str w src dst e a n c hs he hd [] hl (fun j v hj => by simp at hj)
    | none =>
      rw [run_convert_bytes_string w src dst e _ _ _ hs he hd]
      rfl
  · refine run_bytes_str w src dst e _ n c hs he hd b hl (fun j v hj => ?_)
    have hjl : j < b.length := by
      apply Classical.byContradiction
      intro hh
      rw [List.getElem?_eq_none (by simp; omega)] at hj
      cases hj
    rw [Addr.add_lit, h2 j hjl]
    simpa using hj
end
theorem bytes_deq (a b : List UInt8) : (decide ((⟨a.toArray⟩ : ByteArray) = ⟨b.toArray⟩)) = decide (a = b) := by
  rw [decide_eq_decide]
  constructor
  · intro h; have := congrArg (fun z : ByteArray => z.data.toList) h; simpa using this
  · intro h; rw [h]
theorem toList_beq (s t : ByteArray) : (s.toList == t.toList) = decide (s = t) := by
  rw [Bool.eq_iff_iff, beq_iff_eq, decide_eq_true_eq]
  simp only [ByteArray.toList_eq]
  exact ⟨fun h => ByteArray.ext (Array.toList_inj.1 h), fun h => by rw [h]⟩
section
variable {w : World}
theorem bytesequal_is (A B : Option Addr) (n c m d : Nat) (a b : List UInt8) (hl : a.length = n) (hm : b.length = m) (ha : BytesIn w A a) (hb : BytesIn w B b) :
    Calls Tryd.prog 35 #[.slice A n c, .slice B m d] w fun e w' => e = .returned (.bool (decide (a = b))) ∧ w = w' := by
  have h1 := run_bytes_in (P := Tryd.prog) w 27 9 5 A n c Tryd.underlying27 Tryd.underlying5 Tryd.underlying9 a hl ha
  have h2 := run_bytes_in (P := Tryd.prog) w 27 9 5 B m d Tryd.underlying27 Tryd.underlying5 Tryd.underlying9 b hm hb
  have he := bytes_deq a b
  generalize (⟨a.toArray⟩ : ByteArray) = s at h1 he
  generalize (⟨b.toArray⟩ : ByteArray) = t at h2 he
  rw [← he]
  clear hl hm ha hb he
  go_enter Tryd.func35, Tryd.ntmps35
  go_wp2_with fail
  go_ret
  exact ⟨by rw [← toList_beq]; rfl, rfl⟩
theorem samecl_is (x y : CellH) (hx : CellOk w x) (hy : CellOk w y) :
    Calls Tryd.prog 34 #[.agg (cellV x), .agg (cellV y)] w fun e w' => e = .returned (.bool (decide (x.dat = y.dat))) ∧ Below w.heap.size w w' := by
  have hR := ((Rows.start w).alloc (cellV x) 41).alloc (cellV y) 41
  obtain ⟨W, hW⟩ : ∃ W, W = (w.alloc (.cells (cellV x) 41)).alloc (.cells (cellV y) 41) := ⟨_, rfl⟩
  obtain ⟨g1, hg1⟩ : ∃ g, g = w.heap.size := ⟨_, rfl⟩
  obtain ⟨g2, hg2⟩ : ∃ g, g = (w.alloc (.cells (cellV x) 41)).heap.size := ⟨_, rfl⟩
  rw [← hW, ← hg1, ← hg2] at hR
  have HR := Lib.hid hR
  have HW := Lib.hid hW
  have HG1 := Lib.hid hg1
  have HG2 := Lib.hid (show g2 = g1 + 1 by rw [hg2, hg1]; simp)
  have HX := Lib.hid (hx.below hR.below)
  have HY := Lib.hid (hy.below hR.below)
  obtain ⟨s, A, n, c, a⟩ := x
  obtain ⟨t, B, m, d, b⟩ := y
  have c0 : W.cell? ⟨g1, 0, none⟩ = some (.int .u64 (s : Int)) := hR.cell 1 0 rfl rfl
  have c1 : W.cell? ⟨g1, 1, none⟩ = some (.slice A n c) := hR.cell 1 1 rfl rfl
  have d0 : W.cell? ⟨g2, 0, none⟩ = some (.int .u64 (t : Int)) := hR.cell 0 0 rfl rfl
  have d1 : W.cell? ⟨g2, 1, none⟩ = some (.slice B m d) := hR.cell 0 1 rfl rfl
  have hd : decide (CellH.dat ⟨s, A, n, c, a⟩ = CellH.dat ⟨t, B, m, d, b⟩) = (((s : Int) == (t : Int)) && decide (a = b)) := by
    unfold CellH.dat
    rw [Bool.eq_iff_iff]
    simp
    intro _
    omega
  rw [hd]
  have HE : Hid (Calls Tryd.prog 35 #[.slice A n c, .slice B m d] W fun e w' => e = .returned (.bool (decide (a = b))) ∧ W = w') := Lib.hid (bytesequal_is A B n c m d a b HX.out.len HY.out.len HX.out.by_ HY.out.by_)
  generalize decide (a = b) = o at HE
  clear hR hW hg1 hg2 hx hy hd HX HY
  go_enter Tryd.func34, Tryd.ntmps34
  go_upto_region 1 with (fail)
  rw [← HW.out, ← HG1.out, ← HG2.out]
  by_cases h0 : ((s : Int) == (t : Int)) = true
  · go_wp2_with fail
    refine HE.out.mono ?_
    rintro e w1 ⟨rfl, rfl⟩
    go_wp2_with fail
    go_ret
    exact ⟨by simp [h0], HR.out.below⟩
  · have h0' : ((s : Int) == (t : Int)) = false := by simpa using h0
    clear h0
    have H0 := Lib.hid h0'
    go_wp2_with fail
    go_ret
    exact ⟨by rw [H0.out]; rfl, HR.out.below⟩
set_option maxHeartbeats 1000000 in
theorem equalfunc_is (A B : Option Addr) (n c m d : Nat) (l k : List CellH) (hl : CellsIn w A n l) (hk : CellsIn w B m k) (hn : n ≤ 30) (hm : m ≤ 30) :
    Calls Tryd.prog 33 #[.slice A n c, .slice B m d, .func (.func 34) #[] #[]] w fun e w' => e = .returned (.bool (decide (l.map CellH.dat = k.map CellH.dat))) ∧ Below w.heap.size w w' := by
  have HL := Lib.hid hl
  have HK := Lib.hid hk
  clear hl hk
  by_cases hnm : n = m
  · subst hnm
    go_enter Tryd.func33, Tryd.ntmps33
    go_wp2_with fail
    go_loopw [7, 8, 9, 17] (fun _ _ _ i wr => ∃ j : Nat, j ≤ n ∧ i = .int .i64 (j : Int) ∧ Rows w wr [] ∧ (l.map CellH.dat).take j = (k.map CellH.dat).take j) (fun _ _ _ i _ => n - (intOf i).toNat)
    case atStart => exact ⟨0, by omega, rfl, Rows.start _, rfl⟩
    case round =>
      obtain ⟨j, hj, rfl, hb, hall⟩ := hrel
      have HB := Lib.hid hb.below
      have HRR := Lib.hid hb
      have HA := Lib.hid hall
      clear hb hall
      by_cases hlt : j < n
      · have hjl : j < l.length := by rw [HL.out.len]; exact hlt
        have hjk : j < k.length := by rw [HK.out.len]; exact hlt
        obtain ⟨b, off, hA, hb, hr⟩ := HL.out.cells j hjl
        obtain ⟨b2, off2, hA2, hb2, hr2⟩ := HK.out.cells j hjk
        subst hA hA2
        have hx := HL.out.ok _ (List.getElem_mem hjl)
        have hy := HK.out.ok _ (List.getElem_mem hjk)
        have hs : (l[j]).dat = (k[j]).dat → (l.map CellH.dat).take (j + 1) = (k.map CellH.dat).take (j + 1) := by
          intro h
          rw [List.take_succ_eq_append_getElem (by rw [List.length_map]; exact hjl), List.take_succ_eq_append_getElem (by rw [List.length_map]; exact hjk), HA.out]
          simp [h]
        have ha : (l[j]).dat ≠ (k[j]).dat → l.map CellH.dat ≠ k.map CellH.dat := by
          intro h e
          apply h
          have := congrArg (·[j]?) e
          simpa [hjl, hjk] using this
        generalize l[j] = x at hr hx hs ha
        generalize k[j] = y at hr2 hy hs ha
        have HS := Lib.hid hs
        have HAL := Lib.hid ha
        have HX := Lib.hid hx
        have HY := Lib.hid hy
        have c0 : wr.cell? ⟨b, off + j * 2, none⟩ = some (.int .u64 (x.ser : Int)) := (HB.out.cell hb).trans (hr 0 _ (show (cellV x).toList[0]? = some (.int .u64 (x.ser : Int)) from rfl))
        have c1 : wr.cell? ⟨b, off + j * 2 + 1, none⟩ = some (.slice x.A x.m x.c) := (HB.out.cell hb).trans (hr 1 _ (show (cellV x).toList[1]? = some (.slice x.A x.m x.c) from rfl))
        have H2 : Hid (b2 < w.heap.size ∧ w.rangeAt b2 (off2 + j * 2) (cellV y).toList) := Lib.hid ⟨hb2, hr2⟩
        clear hr hx hs ha hb hy hr2 hb2
        go_upto_region 6 with (fail)
        have q1 := (HRR.out.alloc #[.int .u64 (x.ser : Int), .slice x.A x.m x.c] 41)
        obtain ⟨W5, hW⟩ : ∃ W, W = wr.alloc (.cells #[.int .u64 (x.ser : Int), .slice x.A x.m x.c] 41) := ⟨_, rfl⟩
        rw [← hW] at q1 ⊢
        clear hW
        obtain ⟨g5, hg⟩ : ∃ g, g = wr.heap.size := ⟨_, rfl⟩
        rw [← hg] at q1 ⊢
        clear hg
        have R5 := Lib.hid q1
        clear q1
        have d0 : W5.cell? ⟨b2, off2 + j * 2, none⟩ = some (.int .u64 (y.ser : Int)) := (R5.out.below.cell H2.out.1).trans (H2.out.2 0 _ (show (cellV y).toList[0]? = some (.int .u64 (y.ser : Int)) from rfl))
        have d1 : W5.cell? ⟨b2, off2 + j * 2 + 1, none⟩ = some (.slice y.A y.m y.c) := (R5.out.below.cell H2.out.1).trans (H2.out.2 1 _ (show (cellV y).toList[1]? = some (.slice y.A y.m y.c) from rfl))
        clear c0 c1
        go_upto_region 7 with (fail)
        have q1 := (R5.out.alloc #[.int .u64 (y.ser : Int), .slice y.A y.m y.c] 41)
        clear d0 d1
        obtain ⟨W6, hW⟩ : ∃ W, W = W5.alloc (.cells #[.int .u64 (y.ser : Int), .slice y.A y.m y.c] 41) := ⟨_, rfl⟩
        rw [← hW] at q1 ⊢
        clear hW
        obtain ⟨g6, hg⟩ : ∃ g, g = W5.heap.size := ⟨_, rfl⟩
        rw [← hg] at q1 ⊢
        clear hg
        have R6 := Lib.hid q1
        clear q1
        have c0 : W6.cell? ⟨g5, 0, none⟩ = some (.int .u64 (x.ser : Int)) := R6.out.cell 1 0 rfl rfl
        have c1 : W6.cell? ⟨g5, 1, none⟩ = some (.slice x.A x.m x.c) := R6.out.cell 1 1 rfl rfl
        have d0 : W6.cell? ⟨g6, 0, none⟩ = some (.int .u64 (y.ser : Int)) := R6.out.cell 0 0 rfl rfl
        have d1 : W6.cell? ⟨g6, 1, none⟩ = some (.slice y.A y.m y.c) := R6.out.cell 0 1 rfl rfl
        go_wp2_with fail
        refine (samecl_is x y (HX.out.below R6.out.below) (HY.out.below R6.out.below)).mono ?_
        rintro e w1 ⟨rfl, hb⟩
        have R7 := Lib.hid ((R6.out.call hb).drop 2)
        clear hb c0 c1 d0 d1
        by_cases ho : x.dat = y.dat
        · have HS2 := Lib.hid (HS.out ho)
          have hd : decide (x.dat = y.dat) = true := decide_eq_true ho
          rw [hd]
          clear ho hd
          go_wp2_with fail
          go_roundw
          case rel => exact ⟨j + 1, by omega, by go_num, R7.out, HS2.out⟩
          case measure => simp [intOf]; omega
        · have HF := Lib.hid (HAL.out ho)
          have hd : decide (x.dat = y.dat) = false := decide_eq_false ho
          rw [hd]
          clear ho hd
          go_wp2_with fail
          go_ret
          exact ⟨by rw [decide_eq_false HF.out]; rfl, R7.out.below⟩
      · obtain rfl : j = n := by omega
        have HF : Hid (l.map CellH.dat = k.map CellH.dat) := Lib.hid (by
          have := HA.out
          rwa [List.take_of_length_le (by rw [List.length_map, HL.out.len]; omega), List.take_of_length_le (by rw [List.length_map, HK.out.len]; omega)] at this)
        go_wp2_with fail
        go_ret
        exact ⟨by rw [HF.out]; simp, HB.out⟩
  · have HF : Hid (decide (l.map CellH.dat = k.map CellH.dat) = false) := Lib.hid (decide_eq_false (fun h => hnm (by
      have := congrArg List.length h
      rwa [List.length_map, List.length_map, HL.out.len, HK.out.len] at this)))
    have hnm' : ((n : Int) == (m : Int)) = false := by simp; omega
    clear hnm
    go_enter Tryd.func33, Tryd.ntmps33
    go_wp2_with fail
    go_ret
    exact ⟨by rw [HF.out]; rfl, Below.refl _ _⟩
def sameL (a b : ShL) : Bool := ((a.cl : Int) == (b.cl : Int)) && (((a.prev : Int) == (b.prev : Int)) && (((a.next : Int) == (b.next : Int)) && decide (a.cells = b.cells)))
theorem sameL_iff (a b : ShL) : sameL a b = true ↔ a = b := by
  obtain ⟨a1, a2, a3, a4⟩ := a
  obtain ⟨b1, b2, b3, b4⟩ := b
  simp only [sameL, Bool.and_eq_true, beq_iff_eq, decide_eq_true_eq, ShL.mk.injEq]
  constructor
  · rintro ⟨h1, h2, h3, h4⟩
    exact ⟨by omega, by omega, by omega, h4⟩
  · rintro ⟨h1, h2, h3, h4⟩
    exact ⟨by omega, by omega, by omega, h4⟩
set_option maxHeartbeats 1000000 in
theorem same_is {s t : ShL} {u v : Value} (hs : ShelfIn w u s) (ht : ShelfIn w v t) :
    Calls Tryd.prog 15 #[u, v] w fun e w' => e = .returned (.bool (sameL s t)) ∧ Below w.heap.size w w' := by
  obtain ⟨A, n, c, l, rfl, hs⟩ := hs
  obtain ⟨B, m, d, k, rfl, ht⟩ := ht
  have hR := ((Rows.start w).alloc (shV s A n c) 25).alloc (shV t B m d) 25
  obtain ⟨W, hW⟩ : ∃ W, W = (w.alloc (.cells (shV s A n c) 25)).alloc (.cells (shV t B m d) 25) := ⟨_, rfl⟩
  obtain ⟨g, hg⟩ : ∃ g, g = w.heap.size := ⟨_, rfl⟩
  rw [← hW, show (w.alloc (.cells (shV s A n c) 25)).heap.size = g + 1 by rw [hg]; simp, ← hg] at hR
  have HR := Lib.hid hR
  have HW := Lib.hid hW
  have HG := Lib.hid hg
  have a0 : W.cell? ⟨g, 0, none⟩ = some (.int .u8 (s.cl : Int)) := hR.cell 1 0 rfl rfl
  have a1 : W.cell? ⟨g, 1, none⟩ = some (.int .u16 (s.prev : Int)) := hR.cell 1 1 rfl rfl
  have a2 : W.cell? ⟨g, 2, none⟩ = some (.int .u16 (s.next : Int)) := hR.cell 1 2 rfl rfl
  have a3 : W.cell? ⟨g, 3, none⟩ = some (.slice A n c) := hR.cell 1 3 rfl rfl
  have b0 : W.cell? ⟨g + 1, 0, none⟩ = some (.int .u8 (t.cl : Int)) := hR.cell 0 0 rfl rfl
  have b1 : W.cell? ⟨g + 1, 1, none⟩ = some (.int .u16 (t.prev : Int)) := hR.cell 0 1 rfl rfl
  have b2 : W.cell? ⟨g + 1, 2, none⟩ = some (.int .u16 (t.next : Int)) := hR.cell 0 2 rfl rfl
  have b3 : W.cell? ⟨g + 1, 3, none⟩ = some (.slice B m d) := hR.cell 0 3 rfl rfl
  have HE : Hid (Calls Tryd.prog 33 #[.slice A n c, .slice B m d, .func (.func 34) #[] #[]] W fun e w' => e = .returned (.bool (decide (s.cells = t.cells))) ∧ Below W.heap.size W w') := Lib.hid (by
    have := equalfunc_is A B n c m d l k (hs.cells.below hR.below) (ht.cells.below hR.below) hs.le30 ht.le30
    rwa [hs.dat, ht.dat] at this)
  unfold sameL
  generalize decide (s.cells = t.cells) = o at HE
  obtain ⟨q0, hq0⟩ : ∃ q, q = ((s.cl : Int) == (t.cl : Int)) := ⟨_, rfl⟩
  obtain ⟨q1, hq1⟩ : ∃ q, q = ((s.prev : Int) == (t.prev : Int)) := ⟨_, rfl⟩
  obtain ⟨q2, hq2⟩ : ∃ q, q = ((s.next : Int) == (t.next : Int)) := ⟨_, rfl⟩
  rw [← hq0, ← hq1, ← hq2]
  generalize (s.cl : Int) = x0 at *
  generalize (s.prev : Int) = x1 at *
  generalize (s.next : Int) = x2 at *
  generalize (t.cl : Int) = y0 at *
  generalize (t.prev : Int) = y1 at *
  generalize (t.next : Int) = y2 at *
  clear hR hW hg hs ht
  go_enter Tryd.func15, Tryd.ntmps15
  go_upto_region 1 with (fail)
  rw [← HW.out, ← HG.out]
  cases q0 with
  | false =>
    have h0 := hq0.symm
    have H0 := Lib.hid h0
    clear hq0 hq1 hq2
    go_wp2_with fail
    go_ret
    exact ⟨rfl, HR.out.below⟩
  | true =>
    have h0 := hq0.symm
    clear hq0
    cases q1 with
    | false =>
      have h1 := hq1.symm
      have H1 := Lib.hid h1
      clear hq1 hq2
      go_wp2_with fail
      go_ret
      exact ⟨rfl, HR.out.below⟩
    | true =>
      have h1 := hq1.symm
      clear hq1
      cases q2 with
      | false =>
        have h2 := hq2.symm
        have H2 := Lib.hid h2
        clear hq2
        go_wp2_with fail
        go_ret
        exact ⟨rfl, HR.out.below⟩
      | true =>
        have h2 := hq2.symm
        clear hq2
        go_wp2_with fail
        refine HE.out.mono ?_
        rintro e w1 ⟨rfl, hb⟩
        have R1 := Lib.hid (HR.out.call hb)
        clear hb a0 a1 a2 a3 b0 b1 b2 b3
        go_wp2_with fail
        go_ret
        exact ⟨by simp, R1.out.below⟩
theorem usedL_take (l : List (Nat × List UInt8)) (j : Nat) (h : j < l.length) : usedL (l.take (j + 1)) = usedL (l.take j) + (if 0 < l[j].1 then 1 else 0) := by
  unfold usedL
  rw [List.take_succ_eq_append_getElem h, List.filter_append, List.length_append]
  congr 1
  by_cases hp : 0 < l[j].1
  · simp [hp]
  · simp [hp]
set_option maxHeartbeats 1000000 in
theorem used_is {s : ShL} {v : Value} (hs : ShelfIn w v s) :
    Calls Tryd.prog 11 #[v] w fun e w' => e = .returned (.int .i64 (usedL s.cells : Int)) ∧ Below w.heap.size w w' := by
  obtain ⟨A, n, c, l, rfl, hs⟩ := hs
  have hR := (Rows.start w).alloc (shV s A n c) 25
  obtain ⟨W, hW⟩ : ∃ W, W = w.alloc (.cells (shV s A n c) 25) := ⟨_, rfl⟩
  obtain ⟨g, hg⟩ : ∃ g, g = w.heap.size := ⟨_, rfl⟩
  rw [← hW, ← hg] at hR
  have HR := Lib.hid hR
  have HW := Lib.hid hW
  have HG := Lib.hid hg
  have HS := Lib.hid hs
  have hn := hs.le30
  have a3 : W.cell? ⟨g, 3, none⟩ = some (.slice A n c) := hR.cell 0 3 rfl rfl
  clear hR hW hg hs
  go_enter Tryd.func11, Tryd.ntmps11
  go_upto_region 1 with (fail)
  rw [← HW.out, ← HG.out]
  go_wp2_with fail
  go_loopw [3, 5, 9] (fun z _ i wr => ∃ j : Nat, j ≤ n ∧ i = .int .i64 (j : Int) ∧ Rows w wr [(g, shV s A n c, 25)] ∧ z = .int .i64 (usedL (s.cells.take j) : Int)) (fun _ _ i _ => n - (intOf i).toNat)
  case atStart => exact ⟨0, by omega, rfl, HR.out, rfl⟩
  case round =>
    obtain ⟨j, hj, rfl, hR, rfl⟩ := hrel
    have R1 := Lib.hid hR
    clear hR
    by_cases hlt : j < n
    · have hjl : j < l.length := by rw [HS.out.cells.len]; exact hlt
      have hjs : j < s.cells.length := by rw [HS.out.len]; exact hlt
      obtain ⟨b, off, hA, hb, hr⟩ := HS.out.cells.cells j hjl
      subst hA
      have hu := usedL_take s.cells j hjs
      have hd : (s.cells[j]).1 = (l[j]).ser := by
        have : s.cells[j]? = some (l[j]).dat := by rw [← HS.out.dat, List.getElem?_map, List.getElem?_eq_getElem hjl]; rfl
        rw [List.getElem?_eq_getElem hjs] at this
        simp only [Option.some.injEq] at this
        rw [this]; rfl
      rw [hd] at hu
      have hule : usedL (s.cells.take j) ≤ 30 := by
        have := List.length_filter_le (fun c : Nat × List UInt8 => decide (0 < c.1)) (s.cells.take j)
        unfold usedL
        rw [List.length_take] at this
        omega
      generalize l[j] = x at hr hu
      have HU := Lib.hid hu
      have c0 : wr.cell? ⟨b, off + j * 2, none⟩ = some (.int .u64 (x.ser : Int)) := (R1.out.below.cell hb).trans (hr 0 _ (show (cellV x).toList[0]? = some (.int .u64 (x.ser : Int)) from rfl))
      have c1 : wr.cell? ⟨b, off + j * 2 + 1, none⟩ = some (.slice x.A x.m x.c) := (R1.out.below.cell hb).trans (hr 1 _ (show (cellV x).toList[1]? = some (.slice x.A x.m x.c) from rfl))
      generalize usedL (s.cells.take j) = k at HU hule ⊢
      clear hr hu hd
      go_upto_region 5 with (fail)
      have q1 := (R1.out.alloc #[.int .u64 (x.ser : Int), .slice x.A x.m x.c] 41)
      clear c0 c1
      obtain ⟨W5, hW⟩ : ∃ W, W = wr.alloc (.cells #[.int .u64 (x.ser : Int), .slice x.A x.m x.c] 41) := ⟨_, rfl⟩
      rw [← hW] at q1 ⊢
      clear hW
      obtain ⟨g5, hg⟩ : ∃ g, g = wr.heap.size := ⟨_, rfl⟩
      rw [← hg] at q1 ⊢
      clear hg
      have R5 := Lib.hid q1
      clear q1
      have c0 : W5.cell? ⟨g5, 0, none⟩ = some (.int .u64 (x.ser : Int)) := R5.out.cell 0 0 rfl rfl
      by_cases hz : 0 < (x.ser : Int)
      · go_wp2_with fail
        go_roundw
        case rel => exact ⟨j + 1, by omega, by go_num, R5.out.drop 1, by rw [HU.out, if_pos (by omega)]; go_num⟩
        case measure => simp [intOf]; omega
      · go_wp2_with fail
        go_roundw
        case rel => exact ⟨j + 1, by omega, by go_num, R5.out.drop 1, by rw [HU.out, if_neg (by omega)]; go_num⟩
        case measure => simp [intOf]; omega
    · obtain rfl : j = n := by omega
      have HF : Hid (s.cells.take j = s.cells) := Lib.hid (List.take_of_length_le (by rw [HS.out.len]; omega))
      rw [HF.out]
      go_wp2_with fail
      go_ret
      exact ⟨rfl, R1.out.below⟩
def GreatSh (n : Nat) (l : List CellH) (w : World) (e : Ending) (w' : World) : Prop := ∃ r, e = .returned (.bool r) ∧ (r = false → n ≤ 30 ∧ ∀ x ∈ l, x.m ≤ 400) ∧ Below w.heap.size w w'
set_option maxHeartbeats 1000000 in
theorem shgreat_is (s : ShL) (A : Option Addr) (n c : Nat) (l : List CellH) (hl : CellsIn w A n l) (hn : n ≤ 9223372036854775807) (hm : ∀ x ∈ l, x.m ≤ 9223372036854775807) :
    Calls Tryd.prog 8 #[.agg (shV s A n c)] w fun e w' => GreatSh n l w e w' := by
  have hR := (Rows.start w).alloc (shV s A n c) 25
  obtain ⟨W, hW⟩ : ∃ W, W = w.alloc (.cells (shV s A n c) 25) := ⟨_, rfl⟩
  obtain ⟨g, hg⟩ : ∃ g, g = w.heap.size := ⟨_, rfl⟩
  rw [← hW, ← hg] at hR
  have HR := Lib.hid hR
  have HW := Lib.hid hW
  have HG := Lib.hid hg
  have HL := Lib.hid hl
  have HM := Lib.hid hm
  have a3 : W.cell? ⟨g, 3, none⟩ = some (.slice A n c) := hR.cell 0 3 rfl rfl
  clear hR hW hg hl hm
  go_enter Tryd.func8, Tryd.ntmps8
  go_upto_region 1 with (fail)
  rw [← HW.out, ← HG.out]
  go_wp2_with fail
  go_loopw [3] (fun i wr => ∃ j : Nat, j ≤ n ∧ j ≤ 40 ∧ i = .int .i64 (j : Int) ∧ wr = W ∧ ∀ x ∈ l.take j, x.m ≤ 400) (fun i _ => 40 - (intOf i).toNat)
  case atStart => exact ⟨0, by omega, by omega, rfl, rfl, by simp⟩
  case round =>
    obtain ⟨j, hj, hj40, rfl, hw, hall⟩ := hrel
    subst hw
    have HA := Lib.hid hall
    clear hall
    by_cases hlt : j < n
    · by_cases h40 : j < 40
      · have hjl : j < l.length := by rw [HL.out.len]; exact hlt
        obtain ⟨b, off, hA, hb, hr⟩ := HL.out.cells j hjl
        subst hA
        have hmx := HM.out _ (List.getElem_mem hjl)
        have hs : (l[j]).m ≤ 400 → ∀ x ∈ l.take (j + 1), x.m ≤ 400 := by
          intro h x hx
          rw [List.take_succ_eq_append_getElem hjl] at hx
          rcases List.mem_append.1 hx with hx | hx
          · exact HA.out x hx
          · simp only [List.mem_cons, List.not_mem_nil, or_false] at hx
            rw [hx]; exact h
        generalize l[j] = x at hr hs hmx
        have HS := Lib.hid hs
        have c1 : wr.cell? ⟨b, off + j * 2 + 1, none⟩ = some (.slice x.A x.m x.c) := (HR.out.below.cell hb).trans (hr 1 _ (show (cellV x).toList[1]? = some (.slice x.A x.m x.c) from rfl))
        clear hr hs
        obtain ⟨xs, xA, xm, xc, xd⟩ := x
        simp only at c1 HS hmx
        by_cases hx : (400 : Int) < (xm : Int)
        · go_wp2_with fail
          go_ret
          exact ⟨true, rfl, by simp, HR.out.below⟩
        · have HS2 := Lib.hid (HS.out (by omega))
          clear HS
          go_wp2_with fail
          go_roundw
          case rel => exact ⟨j + 1, by omega, by omega, by go_num, trivial, HS2.out⟩
          case measure => simp [intOf]; omega
      · obtain rfl : j = 40 := by omega
        have h30 : (30 : Int) < (n : Int) := by omega
        go_wp2_with fail
        go_ret
        exact ⟨true, rfl, by simp, HR.out.below⟩
    · obtain rfl : j = n := by omega
      have HF : Hid (l.take j = l) := Lib.hid (List.take_of_length_le (by rw [HL.out.len]; omega))
      have hz : ¬ ((j : Int) < (j : Int)) := by omega
      by_cases h30 : (30 : Int) < (j : Int)
      · go_wp2_with fail
        go_ret
        exact ⟨true, rfl, by simp, HR.out.below⟩
      · have h30' : j ≤ 30 := by omega
        go_wp2_with fail
        go_ret
        exact ⟨_, rfl, fun _ => ⟨h30', by have := HA.out; rwa [HF.out] at this⟩, HR.out.below⟩
end
end Go.Proofs.YtcepfmjebgklfaaDoor
