/- The document's shelves (pantileref18): There, with, Take, Give, Sized, Resize, Read, Write, Same. -/
import Derived.Test.YtcepfmjebgklfaaDoorRef18
import Derived.Test.YtcepfmjebgklfaaDoorBoxes
namespace Go.Proofs.YtcepfmjebgklfaaDoor
open Go.RowKit
set_option linter.unusedSimpArgs false
set_option linter.unusedVariables false
set_option maxRecDepth 100000
/-- The blocks that a shelf's cells and data stand in. -/
def foot (A : Option Addr) (n : Nat) (l : List CellH) : List Nat := (if n = 0 then [] else (A.map (·.block)).toList) ++ l.flatMap fun x => if x.data = [] then [] else (x.A.map (·.block)).toList
theorem mem_foot {A : Option Addr} {n : Nat} {l : List CellH} {k : Nat} : k ∈ foot A n l ↔ (n ≠ 0 ∧ ∃ a, A = some a ∧ a.block = k) ∨ ∃ x ∈ l, x.data ≠ [] ∧ ∃ a, x.A = some a ∧ a.block = k := by
  unfold foot
  rw [List.mem_append, List.mem_flatMap]
  refine or_congr ?_ (exists_congr fun x => and_congr_right fun _ => ?_)
  · by_cases h : n = 0
    · simp [h]
    · simp [h]
  · by_cases h : x.data = []
    · simp [h]
    · simp [h]
theorem avoids_foot {g : Nat} {A : Option Addr} {n : Nat} {l : List CellH} : Avoids g A n l ↔ g ∉ foot A n l := by
  rw [mem_foot]
  constructor
  · rintro ⟨h1, h2⟩ (⟨h0, a, ha, hk⟩ | ⟨x, hx, h0, a, ha, hk⟩)
    · exact h1 h0 a ha hk
    · exact h2 x hx h0 a ha hk
  · intro h
    exact ⟨fun h0 a ha hk => h (.inl ⟨h0, a, ha, hk⟩), fun x hx h0 a ha hk => h (.inr ⟨x, hx, h0, a, ha, hk⟩)⟩
theorem FreshAt.foot {B : Nat} {A : Option Addr} {n : Nat} {l : List CellH} (h : FreshAt B A n l) : ∀ k ∈ foot A n l, B ≤ k := by
  intro k hk
  rcases mem_foot.1 hk with ⟨h0, a, ha, rfl⟩ | ⟨x, hx, h0, a, ha, rfl⟩
  · exact h.1 h0 a ha
  · exact h.2 x hx h0 a ha
theorem ShelfOf.foot_lt {w : World} {s : ShL} {A : Option Addr} {n c : Nat} {l : List CellH} (h : ShelfOf w s A n c l) : ∀ k ∈ foot A n l, k < w.heap.size := by
  intro k hk
  rcases mem_foot.1 hk with ⟨h0, a, ha, rfl⟩ | ⟨x, hx, h0, a, ha, rfl⟩
  · rcases h.cells.at_ with h1 | ⟨b, off, rfl, h1, _⟩
    · exact absurd h1 h0
    · cases ha; exact h1
  · rcases (h.cells.ok x hx).by_ with h1 | ⟨b, off, hA, h1, _⟩
    · exact absurd h1 h0
    · rw [hA] at ha; cases ha; exact h1
/-- A shelf where its blocks are as they were. -/
theorem ShelfOf.loc {w w' : World} {s : ShL} {A : Option Addr} {n c : Nat} {l : List CellH} (h : ShelfOf w s A n c l) (hk : ∀ k ∈ foot A n l, w'.heap[k]? = w.heap[k]?) : ShelfOf w' s A n c l := by
  have lt : ∀ k ∈ foot A n l, k < w'.heap.size := by
    intro k hk'
    have h1 := h.foot_lt k hk'
    have h2 := hk k hk'
    rw [Array.getElem?_eq_getElem h1] at h2
    exact (Array.getElem?_eq_some_iff.1 h2).1
  refine ⟨⟨h.cells.len, ?_, fun x hx => ?_⟩, h.dat, h.cap, h.cl, h.prev, h.next, h.small⟩
  · rcases h.cells.at_ with h0 | ⟨b, off, rfl, h1, h2⟩
    · exact .inl h0
    · by_cases h0 : n = 0
      · exact .inl h0
      have hm : b ∈ foot (some ⟨b, off, none⟩) n l := mem_foot.2 (.inl ⟨h0, _, rfl, rfl⟩)
      exact .inr ⟨b, off, rfl, lt b hm, fun i hi j v hj => (cell_block (hk b hm)).trans (h2 i hi j v hj)⟩
  · have q := h.cells.ok x hx
    refine ⟨q.len, q.cap, q.ser, ?_⟩
    rcases q.by_ with h0 | ⟨b, off, hA, h1, h2⟩
    · exact .inl h0
    · by_cases h0 : x.data = []
      · exact .inl h0
      have hm : b ∈ foot A n l := mem_foot.2 (.inr ⟨x, hx, h0, _, hA, rfl⟩)
      exact .inr ⟨b, off, hA, lt b hm, fun i hi => (cell_block (hk b hm)).trans (h2 i hi)⟩
/-- A shelf's value whose blocks are some of U, or made since. -/
def ShelfVia (U : List Nat) (B : Nat) (w : World) (v : Value) (s : ShL) : Prop := ∃ A n c l, v = .agg (shV s A n c) ∧ ShelfOf w s A n c l ∧ ∀ k ∈ foot A n l, k ∈ U ∨ B ≤ k
theorem ShelfFr.via {B : Nat} {w : World} {v : Value} {s : ShL} (h : ShelfFr B w v s) (U : List Nat) : ShelfVia U B w v s := by
  obtain ⟨A, n, c, l, e, h1, h2⟩ := h
  exact ⟨A, n, c, l, e, h1, fun k hk => .inr (h2.foot k hk)⟩
def RefPost (w : World) (U : List Nat) (s : ShL) (E : Int) (e : Ending) (w' : World) : Prop := ∃ v, e = .returned (.tuple #[v, .int .i64 E]) ∧ ShelfVia U w.heap.size w' v s ∧ Below w.heap.size w w'
def WithPost (w : World) (s : ShL) (n p : Nat) (x : CellH) (l : List CellH) (e : Ending) (w' : World) : Prop :=
  ∃ gr c2, e = .returned (.agg (shV (putC s p x.dat) (some ⟨gr, 0, none⟩) n c2)) ∧ ShelfOf w' (putC s p x.dat) (some ⟨gr, 0, none⟩) n c2 (l.set p x) ∧ w.heap.size ≤ gr ∧ Below w.heap.size w w'
/-- The blocks of a shelf one of whose cells is another one. -/
theorem foot_with {A : Option Addr} {n p gr B : Nat} {l : List CellH} {x : CellH} (hx : x.data ≠ [] → ∀ a, x.A = some a → a.block ∈ foot A n l ∨ B ≤ a.block) (hB : B ≤ gr) : ∀ k ∈ foot (some ⟨gr, 0, none⟩) n (l.set p x), k ∈ foot A n l ∨ B ≤ k := by
  intro k hk
  rcases mem_foot.1 hk with ⟨_, a, ha, rfl⟩ | ⟨y, hy, h0, a, ha, rfl⟩
  · cases ha; exact .inr hB
  · rcases List.mem_or_eq_of_mem_set hy with h | rfl
    · exact .inl (mem_foot.2 (.inr ⟨y, h, h0, a, ha, rfl⟩))
    · exact hx h0 a ha
section
variable {w : World}
set_option maxHeartbeats 2000000 in
theorem refthere18 {s : ShL} {v : Value} (hs : ShelfIn w v s) (place : Int) (ser : Nat) :
    Calls Tryd.prog 64 #[v, .int .i64 place, .int .u64 (ser : Int)] w fun e w' => e = .returned (.int .i64 (findE s place ser)) ∧ Below w.heap.size w w' := by
  obtain ⟨A, n, c, l, rfl, hs⟩ := hs
  have hR := (Rows.start w).alloc (shV s A n c) 25
  obtain ⟨W, hW⟩ : ∃ W, W = w.alloc (.cells (shV s A n c) 25) := ⟨_, rfl⟩
  obtain ⟨g, hg⟩ : ∃ g, g = w.heap.size := ⟨_, rfl⟩
  rw [← hW, ← hg] at hR
  have HR := Lib.hid hR
  have HW := Lib.hid hW
  have HG := Lib.hid hg
  have HS := Lib.hid hs
  have hlen := hs.len
  have HM := Lib.hid (refmay18 (w := W) ⟨A, n, c, l, rfl, hs.below hR.below⟩)
  have a0 : W.cell? ⟨g, 0, none⟩ = some (.int .u8 (s.cl : Int)) := hR.cell 0 0 rfl rfl
  have a1 : W.cell? ⟨g, 1, none⟩ = some (.int .u16 (s.prev : Int)) := hR.cell 0 1 rfl rfl
  have a2 : W.cell? ⟨g, 2, none⟩ = some (.int .u16 (s.next : Int)) := hR.cell 0 2 rfl rfl
  have a3 : W.cell? ⟨g, 3, none⟩ = some (.slice A n c) := hR.cell 0 3 rfl rfl
  have HF : Hid (findE s place ser = if mayL s then (if 0 ≤ place ∧ place < n ∧ ser ≠ 0 ∧ (s.cells.getD place.toNat (0, [])).1 = ser then 0 else 210) else 5) := Lib.hid (by unfold findE; rw [hlen])
  clear hR hW hg hs hlen
  generalize hmay : mayL s = may at HM HF
  generalize findE s place ser = E at HF ⊢
  go_enter Tryd.func64, Tryd.ntmps64
  go_upto_region 1 with (fail)
  rw [← HW.out, ← HG.out]
  go_wp2_with fail
  refine HM.out.mono ?_
  rintro e w1 ⟨rfl, hb⟩
  have R1 := Lib.hid (HR.out.call hb)
  clear hb a0 a1 a2 a3 HM
  have a3 : w1.cell? ⟨g, 3, none⟩ = some (.slice A n c) := R1.out.cell 0 3 rfl rfl
  cases may with
  | false =>
    have HV := Lib.hid (HF.out.trans (if_neg (by simp)))
    clear HF
    go_wp2_with fail
    go_ret
    exact ⟨by rw [HV.out]; rfl, R1.out.below⟩
  | true =>
    have HF := Lib.hid (HF.out.trans (if_pos rfl))
    by_cases h0 : place < 0
    · skip
      have HV := Lib.hid (HF.out.trans (if_neg (by omega)))
      clear HF
      go_wp2_with fail
      go_ret
      exact ⟨by rw [HV.out]; rfl, R1.out.below⟩
    · by_cases h1 : (n : Int) ≤ place
      · skip
        have HV := Lib.hid (HF.out.trans (if_neg (by omega)))
        clear HF
        go_wp2_with fail
        go_ret
        exact ⟨by rw [HV.out]; rfl, R1.out.below⟩
      · obtain ⟨p, rfl⟩ : ∃ p : Nat, place = (p : Int) := ⟨place.toNat, by omega⟩
        by_cases h2 : ser = 0
        · subst h2
          have HV := Lib.hid (HF.out.trans (if_neg (by simp)))
          clear HF
          go_wp2_with fail
          go_ret
          exact ⟨by rw [HV.out]; rfl, R1.out.below⟩
        · have h2' : ((ser : Int) == 0) = false := by simp; omega
          obtain ⟨x, hx, hd, hok, _, b, off, rfl, hb, hr⟩ := HS.out.get p (by omega)
          have c0 : w1.cell? ⟨b, off + p * 2, none⟩ = some (.int .u64 (x.ser : Int)) := (R1.out.below.cell hb).trans (hr 0 _ (show (cellV x).toList[0]? = some (.int .u64 (x.ser : Int)) from rfl))
          have HD : Hid ((s.cells.getD (p : Int).toNat (0, [])).1 = x.ser) := Lib.hid (by rw [Int.toNat_natCast, hd]; rfl)
          have hpn : p < n := by omega
          have hq0 : decide ((p : Int) < 0) = false := decide_eq_false h0
          have hq1 : decide (n ≤ p) = false := decide_eq_false (by omega)
          clear hx hd hok hb hr
          rw [HD.out] at HF
          by_cases h3 : x.ser = ser
          · have h3' : ((x.ser : Int) != (ser : Int)) = false := by simp; omega
            have HV := Lib.hid (HF.out.trans (if_pos ⟨by omega, by omega, h2, h3⟩))
            have H3 := Lib.hid h3'
            clear h3 h2 HF
            go_wp2_with fail
            go_ret
            exact ⟨by rw [HV.out]; rfl, R1.out.below⟩
          · have h3' : ((x.ser : Int) != (ser : Int)) = true := by simp; omega
            have HV := Lib.hid (HF.out.trans (if_neg (fun h => h3 h.2.2.2)))
            clear h3 h2 HF
            go_wp2_with fail
            go_ret
            exact ⟨by rw [HV.out]; rfl, R1.out.below⟩
set_option maxHeartbeats 2000000 in
theorem with_is {s : ShL} {A : Option Addr} {n c : Nat} {l : List CellH} (hs : ShelfOf w s A n c l) (p : Nat) (hp : p < n) (x : CellH) (hx : CellOk w x) (hx4 : x.data.length ≤ 400) :
    Calls Tryd.prog 63 #[.agg (shV s A n c), .int .i64 (p : Int), .agg (cellV x)] w fun e w' => WithPost w s n p x l e w' := by
  have hn := hs.le30
  obtain ⟨b, off, rfl, hblt⟩ : ∃ b off, A = some ⟨b, off, none⟩ ∧ b < w.heap.size := by
    obtain ⟨x0, _, _, _, _, b, off, h, hb, _⟩ := hs.get p hp
    exact ⟨b, off, h, hb⟩
  have hR := (((Held.start w).alloc (shV s (some ⟨b, off, none⟩) n c) 25).alloc (cellV x) 41).alloc zeroShC 25
  obtain ⟨W, hW⟩ : ∃ W, W = ((w.alloc (.cells (shV s (some ⟨b, off, none⟩) n c) 25)).alloc (.cells (cellV x) 41)).alloc (.cells zeroShC 25) := ⟨_, rfl⟩
  have hz1 : (w.alloc (.cells (shV s (some ⟨b, off, none⟩) n c) 25)).heap.size = w.heap.size + 1 := by simp
  have hz2 : ((w.alloc (.cells (shV s (some ⟨b, off, none⟩) n c) 25)).alloc (.cells (cellV x) 41)).heap.size = w.heap.size + 1 + 1 := by simp
  rw [← hW, hz1, hz2] at hR
  obtain ⟨g, hg⟩ : ∃ g, g = w.heap.size := ⟨_, rfl⟩
  obtain ⟨g5, hg5⟩ : ∃ g5, g5 = g + 1 := ⟨_, rfl⟩
  obtain ⟨g6, hg6⟩ : ∃ g6, g6 = g5 + 1 := ⟨_, rfl⟩
  rw [← hg, ← hg5, ← hg6] at hR
  have HW := Lib.hid hW
  have HG := Lib.hid hg
  have HG5 := Lib.hid hg5
  have HG6 := Lib.hid hg6
  have HS := Lib.hid hs
  have HX := Lib.hid hx
  have HX4 := Lib.hid hx4
  have R0 := Lib.hid hR
  unfold shV cellV zeroShC at HW
  unfold shV cellV
  clear hW hg hg5 hg6 hs hx hx4 hR hz1 hz2
  obtain ⟨⟨e0, e1, e2, e3⟩, o0, o1, o2, o3⟩ := R0.out.cells4 2 rfl
  go_enter Tryd.func63, Tryd.ntmps63
  go_upto_region 1 with (fail)
  rw [← HW.out, ← HG.out, ← HG5.out, ← HG6.out]
  clear e0 e1 e2 e3 o0 o1 o2 o3
  obtain ⟨i, hi, hz, hs2, hby⟩ := info_parts infoCell
  have HI := Lib.hid hi
  have HZ := Lib.hid hz
  have HR18 := Lib.hid (rangeOf_cells (HS.out.cells.below R0.out.below))
  clear hi hz
  have R1 := Lib.hid (R0.out.alloc #[] 41)
  obtain ⟨⟨e0, e1, e2, e3⟩, o0, o1, o2, o3⟩ := R1.out.cells4 3 rfl
  go_wp2_with (at_builtin; refine wpList_append_own _ rfl _ _ 23 rfl W.heap.size 41 i (.agg #[.int .u64 0, .slice none 0 0]) 2 32 Tryd.underlying23 HI.out HZ.out hs2 hby rfl (by decide) _ _ _ rfl (World.ownsRow_made W #[] 0 (Nat.le_refl _) (Nat.zero_le _) (by simp)) ⟨b, off, none⟩ n c (rowOf l) rfl ?qc1 ?qc2 ?qc3 ?qc4 ?qc5 ?qc6 ?_)
  case qc1 => rw [rowOf_length, HS.out.cells.len]
  case qc2 =>
    intro j u hj
    rw [Addr.add_lit]
    refine ((Below.refl W.heap.size W).alloc (Nat.le_refl _) _ |>.cell ?_).trans ?_
    · have := R0.out.below.size; show b < _; omega
    · rcases HR18.out with h | ⟨b', off', e, h⟩
      · omega
      · cases e; exact h j u hj
  case qc3 => exact rowOf_one _
  case qc4 => unfold maxLen; omega
  case qc5 => omega
  case qc6 => simp
  intro v' w1 hown hgrow hnil
  have hb1 : Below W.heap.size W w1 := ((Below.refl _ W).alloc (Nat.le_refl _) _).grown hgrow (by simp) (by intro k hk; simp [Value.ownBlock] at hk; omega)
  obtain ⟨gr, cap, cur, rfl, hgb, hgr, hnc, hcur⟩ : ∃ gr cap cur, v' = .slice (some ⟨gr, 0, none⟩) n cap ∧ W.heap.size ≤ gr ∧ w1.heap[gr]? = some (.cells cur 41 (0, 0)) ∧ n ≤ cap ∧ RowHas cur l := by
    have hown' : w1.ownsRow W.heap.size 41 2 v' n (rowOf l) := by simpa using hown
    rcases hown'.2 with ⟨_, h0⟩ | ⟨gr, cap, cur, rfl, h1, h2, h3, h4, h5, h6⟩
    · omega
    · exact ⟨gr, cap, cur, rfl, h1, h2, h3, rowHas_of_take h6 HS.out.cells.len⟩
  have R2 := Lib.hid (R0.out.more hb1 (x := rowT gr cur 41) (F := [gr]) ⟨rfl, hgr⟩ (by simpa using hgb) (by simp))
  have HGB : Hid (w.heap.size ≤ gr) := Lib.hid (Nat.le_trans R0.out.below.size hgb)
  have HCUR := Lib.hid hcur
  have HNC := Lib.hid hnc
  clear e0 e1 e2 e3 o0 o1 o2 o3 hown hgrow hnil hb1 hgb hgr hcur R0 R1 HR18 HI HZ hs2 hby i
  obtain ⟨⟨e0, e1, e2, e3⟩, o0, o1, o2, o3⟩ := R2.out.cells4 3 rfl
  go_upto_region 2 with (fail)
  have R3 := Lib.hid (R2.out.setCell 3 3 (.slice (some ⟨gr, 0, none⟩) n cap) rfl)
  obtain ⟨W3, hW⟩ : ∃ W, W = w1.setCell ⟨g, 3, none⟩ (.slice (some ⟨gr, 0, none⟩) n cap) := ⟨_, rfl⟩
  rw [← hW] at R3 ⊢
  clear e0 e1 e2 e3 o0 o1 o2 o3 hW R2
  have e3 := R3.out.cell 3 3 rfl rfl
  have d0 : W3.cell? ⟨g5, 0, none⟩ = some (.int .u64 (x.ser : Int)) := R3.out.cell 2 0 rfl rfl
  have d1 : W3.cell? ⟨g5, 1, none⟩ = some (.slice x.A x.m x.c) := R3.out.cell 2 1 rfl rfl
  have hpl : p < l.length := by rw [HS.out.cells.len]; exact hp
  have f0 := R3.out.free 0 (p * 2) rfl
  have f1 := R3.out.free 0 (p * 2 + 1) rfl
  have k0 := R3.out.cell 0 (p * 2) rfl (HCUR.out p hpl).1
  have k1 := R3.out.cell 0 (p * 2 + 1) rfl (HCUR.out p hpl).2
  go_upto_region 3 with (fail)
  have R4 := Lib.hid ((R3.out.setCell 0 (p * 2) (.int .u64 (x.ser : Int)) rfl).setCell 0 (p * 2 + 1) (.slice x.A x.m x.c) rfl)
  obtain ⟨W4, hW⟩ : ∃ W, W = (W3.setCell ⟨gr, p * 2, none⟩ (.int .u64 (x.ser : Int))).setCell ⟨gr, p * 2 + 1, none⟩ (.slice x.A x.m x.c) := ⟨_, rfl⟩
  rw [← hW] at R4 ⊢
  have HCU2 := Lib.hid (HCUR.out.set p hpl x)
  obtain ⟨cu2, hcu⟩ : ∃ cu2, cu2 = (cur.setIfInBounds (p * 2) (.int .u64 (x.ser : Int))).setIfInBounds (p * 2 + 1) (.slice x.A x.m x.c) := ⟨_, rfl⟩
  rw [← hcu] at HCU2
  have hR4 : Held w W4 [rowT gr cu2 41, rowT g6 zeroShC 25, rowT g5 (cellV x) 41, rowT g #[.int .u8 (s.cl : Int), .int .u16 (s.prev : Int), .int .u16 (s.next : Int), .slice (some ⟨gr, 0, none⟩) n cap] 25] := by
    rw [hcu]; exact R4.out
  have R5 := Lib.hid hR4
  clear e3 d0 d1 f0 f1 k0 k1 hW hcu hR4 R4 R3 HCUR
  unfold zeroShC at R5
  obtain ⟨⟨e0, e1, e2, e3⟩, _, _, _, _⟩ := R5.out.cells4 3 rfl
  obtain ⟨⟨z0, z1, z2, z3⟩, o0, o1, o2, o3⟩ := R5.out.cells4 1 rfl
  go_wp2_with fail
  have R6 := R5.out.store4 1 rfl (.int .u8 (s.cl : Int)) (.int .u16 (s.prev : Int)) (.int .u16 (s.next : Int)) (.slice (some ⟨gr, 0, none⟩) n cap)
  refine bodyPost_ret (v := .agg (shV (putC s p x.dat) (some ⟨gr, 0, none⟩) n cap)) (results_cell_row rfl _ _ g6 25 _ (0, 0) _ rfl (R6.get 1 rfl) Tryd.underlying25 rfl sizeShelf) rfl ⟨gr, cap, rfl, ?_, HGB.out, R6.below⟩
  have hpl2 : (l.set p x).length = n := by rw [List.length_set]; exact HS.out.cells.len
  refine ⟨⟨hpl2, .inr ⟨gr, 0, rfl, R6.lt 0 rfl, fun i hi j v hv => ?_⟩, fun y hy => ?_⟩, ?_, HNC.out, HS.out.cl, HS.out.prev, HS.out.next, putC_small HS.out.small _ _ HX4.out⟩
  · obtain ⟨h1, h2⟩ := HCU2.out i hi
    rw [Nat.zero_add]
    match j, hv with
    | 0, hv =>
      rw [Nat.add_zero, cell_of_row _ _ _ _ _ _ (R6.get 0 rfl), h1]
      exact hv
    | 1, hv =>
      rw [cell_of_row _ _ _ _ _ _ (R6.get 0 rfl), h2]
      exact hv
    | j + 2, hv => simp [cellV] at hv
  · rcases List.mem_or_eq_of_mem_set hy with h | rfl
    · exact (HS.out.cells.ok y h).below R6.below
    · exact HX.out.below R6.below
  · rw [List.map_set, HS.out.dat]; rfl
end
theorem infoU8'' : ∃ i, Tryd.prog.info? 5 = some i ∧ i.zero = some (.int .u8 0) ∧ i.size = 1 ∧ i.bytes = 1 := by
  have := infoByte
  cases h : Tryd.prog.info? 5 with
  | none => rw [h] at this; cases this
  | some i =>
    rw [h] at this
    simp only [Option.map_some, Option.some.injEq, Prod.mk.injEq] at this
    exact ⟨i, rfl, this.1, this.2.1, this.2.2⟩
theorem emptySh_via (U : List Nat) (B : Nat) (w : World) : ShelfVia U B w (.agg #[.int .u8 0, .int .u16 0, .int .u16 0, .slice none 0 0]) emptySh := (emptySh_in B w).via U
theorem ShelfVia.only {U : List Nat} {B g : Nat} {w W : World} {v : Value} {s : ShL} (h : ShelfVia U B w v s) (hg : g ∉ U) (hgB : g < B) (ho : Only [g] w W) : ShelfVia U B W v s := by
  obtain ⟨A, n, c, l, e, h1, h2⟩ := h
  refine ⟨A, n, c, l, e, h1.only (avoids_foot.2 fun hk => ?_) ho, h2⟩
  rcases h2 g hk with h | h
  · exact hg h
  · omega
theorem ShelfVia.mono {U : List Nat} {B B' : Nat} {w : World} {v : Value} {s : ShL} (h : ShelfVia U B' w v s) (hB : B ≤ B') : ShelfVia U B w v s := by
  obtain ⟨A, n, c, l, e, h1, h2⟩ := h
  exact ⟨A, n, c, l, e, h1, fun k hk => (h2 k hk).imp id (Nat.le_trans hB)⟩
/-- What with answers, as a shelf made of another one's blocks. -/
theorem WithPost.via {w' W : World} {s : ShL} {A : Option Addr} {n p : Nat} {x : CellH} {l : List CellH} {B gr c2 : Nat} (h : ShelfOf w' (putC s p x.dat) (some ⟨gr, 0, none⟩) n c2 (l.set p x)) (hx : x.data ≠ [] → ∀ a, x.A = some a → a.block ∈ foot A n l ∨ B ≤ a.block) (hB : B ≤ gr) (hb : Below w'.heap.size w' W) :
    ShelfVia (foot A n l) B W (.agg (shV (putC s p x.dat) (some ⟨gr, 0, none⟩) n c2)) (putC s p x.dat) :=
  ⟨_, _, _, _, rfl, h.below hb, foot_with hx hB⟩
section
variable {w : World}
set_option maxHeartbeats 2000000 in
theorem refgive18 {s : ShL} {A : Option Addr} {n c : Nat} {l : List CellH} (hs : ShelfOf w s A n c l) (place : Int) (ser : Nat) :
    Calls Tryd.prog 41 #[.agg (shV s A n c), .int .i64 place, .int .u64 (ser : Int)] w fun e w' => RefPost w (foot A n l) (giveS s place ser) (findE s place ser) e w' := by
  have hR := ((Held.start w).alloc (shV s A n c) 25).alloc #[.int .u8 0, .int .u16 0, .int .u16 0, .slice none 0 0] 25
  obtain ⟨W, hW⟩ : ∃ W, W = (w.alloc (.cells (shV s A n c) 25)).alloc (.cells #[.int .u8 0, .int .u16 0, .int .u16 0, .slice none 0 0] 25) := ⟨_, rfl⟩
  obtain ⟨g, hg⟩ : ∃ g, g = w.heap.size := ⟨_, rfl⟩
  rw [← hW, show (w.alloc (.cells (shV s A n c) 25)).heap.size = g + 1 by rw [hg]; simp, ← hg] at hR
  obtain ⟨g2, hg2⟩ : ∃ g2, g2 = g + 1 := ⟨_, rfl⟩
  rw [← hg2] at hR
  have HW := Lib.hid hW
  have HG := Lib.hid hg
  have HG2 := Lib.hid hg2
  have HS := Lib.hid hs
  have R0 := Lib.hid hR
  have HFN := Lib.hid (refthere18 (w := W) ⟨A, n, c, l, rfl, hs.below hR.below⟩ place ser)
  have HFE : Hid (findE s place ser = 0 → mayL s = true ∧ 0 ≤ place ∧ place < s.cells.length ∧ ser ≠ 0 ∧ (s.cells.getD place.toNat (0, [])).1 = ser) := Lib.hid findE_zero
  have HGV : Hid (giveS s place ser = if findE s place ser = 0 then putC s place.toNat (0, []) else emptySh) := Lib.hid rfl
  generalize giveS s place ser = sg at HGV ⊢
  generalize findE s place ser = E at HFE HFN HGV ⊢
  have HLEN := Lib.hid hs.len
  unfold shV at HW ⊢
  clear hR hW hg hg2 hs
  obtain ⟨⟨e0, e1, e2, e3⟩, _, _, _, _⟩ := R0.out.cells4 1 rfl
  go_enter Tryd.func41, Tryd.ntmps41
  go_upto_region 1 with (fail)
  rw [← HW.out, ← HG.out, ← HG2.out]
  go_wp2_with fail
  refine HFN.out.mono ?_
  rintro e w1 ⟨rfl, hb⟩
  have R1 := Lib.hid (R0.out.call hb)
  clear hb HFN e0 e1 e2 e3 R0
  by_cases hE : E = 0
  · subst hE
    have HGV2 := Lib.hid (HGV.out.trans (if_pos rfl))
    obtain ⟨_, hp0, hp1, _, _⟩ := HFE.out rfl
    obtain ⟨p, rfl⟩ : ∃ p : Nat, place = (p : Int) := ⟨place.toNat, by omega⟩
    have hpn : p < n := by have := HLEN.out; omega
    rw [Int.toNat_natCast] at HGV2
    clear HGV HFE hp0 hp1
    obtain ⟨⟨e0, e1, e2, e3⟩, _, _, _, _⟩ := R1.out.cells4 1 rfl
    go_wp2_with fail
    refine (with_is (w := w1) (HS.out.below R1.out.below) p hpn ⟨0, none, 0, 0, []⟩ ⟨rfl, Nat.le_refl _, by decide, .inl rfl⟩ (by simp)).mono ?_
    rintro e w2 ⟨gr, c2, rfl, hw, hgr, hb⟩
    have R2 := Lib.hid (R1.out.call hb)
    have HWI := Lib.hid hw
    have HGR := Lib.hid hgr
    clear hb hw hgr e0 e1 e2 e3
    unfold shV
    obtain ⟨⟨e0, e1, e2, e3⟩, b0, b1, b2, b3⟩ := R2.out.cells4 0 rfl
    go_wp2_with fail
    have HXF : Hid ((⟨0, none, 0, 0, []⟩ : CellH).data ≠ [] → ∀ a, (⟨0, none, 0, 0, []⟩ : CellH).A = some a → a.block ∈ foot A n l ∨ w1.heap.size ≤ a.block) := Lib.hid (fun h => absurd rfl h)
    have HLE := Lib.hid R1.out.below.size
    have R9 := R2.out.store4 0 rfl (.int .u8 ((putC s p (CellH.dat ⟨0, none, 0, 0, []⟩)).cl : Int)) (.int .u16 ((putC s p (CellH.dat ⟨0, none, 0, 0, []⟩)).prev : Int)) (.int .u16 ((putC s p (CellH.dat ⟨0, none, 0, 0, []⟩)).next : Int)) (.slice (some ⟨gr, 0, none⟩) n c2)
    refine bodyPost_ret (v := .tuple #[.agg (shV (putC s p (CellH.dat ⟨0, none, 0, 0, []⟩)) (some ⟨gr, 0, none⟩) n c2), .int .i64 0]) (results_cell_slot rfl _ _ g2 25 _ (0, 0) _ _ rfl rfl (R9.get 0 rfl) Tryd.underlying25 rfl sizeShelf) rfl ?_
    refine ⟨_, rfl, ?_, R9.below⟩
    rw [HGV2.out]
    have h2 := WithPost.via (A := A) HWI.out HXF.out HGR.out (Below.refl _ _)
    exact (h2.only (fun hk => by have := HS.out.foot_lt _ hk; have := R2.out.ge 0 rfl; omega) (R1.out.lt 0 rfl) (only4 _ _ _ _ _ _)).mono HLE.out
  · have HGV2 := Lib.hid (HGV.out.trans (if_neg hE))
    have hE' : (E != 0) = true := by simpa using hE
    have HV : Hid (E = E ∧ sg = emptySh) := Lib.hid ⟨rfl, HGV2.out⟩
    obtain ⟨⟨y0, y1, y2, y3⟩, b0, b1, b2, b3⟩ := R1.out.cells4 0 rfl
    go_wp2_with fail
    have R9 := R1.out.store4 0 rfl (.int .u8 0) (.int .u16 0) (.int .u16 0) (.slice none 0 0)
    refine bodyPost_ret (v := .tuple #[.agg #[.int .u8 0, .int .u16 0, .int .u16 0, .slice none 0 0], .int .i64 E]) (results_cell_slot rfl _ _ g2 25 _ (0, 0) _ _ rfl rfl (R9.get 0 rfl) Tryd.underlying25 rfl sizeShelf) rfl ?_
    exact ⟨_, rfl, by rw [HV.out.2]; exact emptySh_via _ _ _, R9.below⟩
end
theorem ShelfVia.below {U : List Nat} {B : Nat} {w w' : World} {v : Value} {s : ShL} (h : ShelfVia U B w v s) (hb : Below w.heap.size w w') : ShelfVia U B w' v s := by
  obtain ⟨A, n, c, l, e, h1, h2⟩ := h
  exact ⟨A, n, c, l, e, h1.below hb, h2⟩
theorem foot_set {A : Option Addr} {n p gr : Nat} {l : List CellH} {x : CellH} : ∀ k ∈ foot (some ⟨gr, 0, none⟩) n (l.set p x), k = gr ∨ k ∈ foot A n l ∨ (x.data ≠ [] ∧ ∃ a, x.A = some a ∧ a.block = k) := by
  intro k hk
  rcases mem_foot.1 hk with ⟨_, a, ha, rfl⟩ | ⟨y, hy, h0, a, ha, rfl⟩
  · cases ha; exact .inl rfl
  · rcases List.mem_or_eq_of_mem_set hy with h | rfl
    · exact .inr (.inl (mem_foot.2 (.inr ⟨y, h, h0, a, ha, rfl⟩)))
    · exact .inr (.inr ⟨h0, a, ha, rfl⟩)
/-- A cell of new bytes. -/
def newCell (ser gd m : Nat) (d : List UInt8) : CellH := ⟨ser, some ⟨gd, 0, none⟩, m, m, d⟩
/-- What a slot holds: a value that stands on nothing; a shelf; new bytes; a cell of new bytes. -/
def pV (c v : Value) (F : List Nat) (_ : World) : Prop := F = [] ∧ v = c
def sV (S : ShL) (U : List Nat) (B : Nat) (v : Value) (F : List Nat) (w : World) : Prop := ∃ A n c l, F = foot A n l ∧ v = .agg (shV S A n c) ∧ ShelfOf w S A n c l ∧ ∀ k ∈ F, k ∈ U ∨ B ≤ k
def bV (f : Nat → Value) (d : List UInt8) (B : Nat) (v : Value) (F : List Nat) (w : World) : Prop := ∃ gd, F = [gd] ∧ v = f gd ∧ gd < w.heap.size ∧ BytesIn w (some ⟨gd, 0, none⟩) d ∧ B ≤ gd
theorem pV_lt {c v : Value} {F : List Nat} {w : World} (h : pV c v F w) : ∀ k ∈ F, k < w.heap.size := by rw [h.1]; simp
theorem sV_lt {S : ShL} {U : List Nat} {B : Nat} {v : Value} {F : List Nat} {w : World} (h : sV S U B v F w) : ∀ k ∈ F, k < w.heap.size := by
  obtain ⟨A, n, c, l, rfl, _, h1, _⟩ := h
  exact h1.foot_lt
theorem bV_lt {f : Nat → Value} {d : List UInt8} {B : Nat} {v : Value} {F : List Nat} {w : World} (h : bV f d B v F w) : ∀ k ∈ F, k < w.heap.size := by
  obtain ⟨gd, rfl, _, h1, _⟩ := h
  simpa using h1
theorem sV_loc {S : ShL} {U : List Nat} {B : Nat} {v : Value} {F : List Nat} {w w' : World} (h : sV S U B v F w) (hk : ∀ k ∈ F, w'.heap[k]? = w.heap[k]?) : sV S U B v F w' := by
  obtain ⟨A, n, c, l, rfl, e, h1, h2⟩ := h
  exact ⟨A, n, c, l, rfl, e, h1.loc hk, h2⟩
theorem BytesIn.loc {w w' : World} {g off : Nat} {d : List UInt8} (h : BytesIn w (some ⟨g, off, none⟩) d) (hg : g < w.heap.size) (hk : w'.heap[g]? = w.heap[g]?) : BytesIn w' (some ⟨g, off, none⟩) d := by
  rcases h with h | ⟨g', off', e, h1, h2⟩
  · exact .inl h
  · cases e
    refine .inr ⟨g, off, rfl, ?_, fun i hi => (cell_block hk).trans (h2 i hi)⟩
    rw [Array.getElem?_eq_getElem hg] at hk
    exact (Array.getElem?_eq_some_iff.1 hk).1
theorem bV_loc {f : Nat → Value} {d : List UInt8} {B : Nat} {v : Value} {F : List Nat} {w w' : World} (h : bV f d B v F w) (hk : ∀ k ∈ F, w'.heap[k]? = w.heap[k]?) : bV f d B v F w' := by
  obtain ⟨gd, rfl, e, h1, h2, h3⟩ := h
  have hk := hk gd (by simp)
  refine ⟨gd, rfl, e, ?_, h2.loc h1 hk, h3⟩
  rw [Array.getElem?_eq_getElem h1] at hk
  exact (Array.getElem?_eq_some_iff.1 hk).1
theorem sV.ex {S : ShL} {U : List Nat} {B : Nat} {v : Value} {F : List Nat} {w : World} (h : sV S U B v F w) : ∃ C, v = .agg C ∧ (Tryd.prog.info? 25).map (·.size) = some C.size ∧ zeroShC.size = C.size ∧ C.all (·.oneCell') = true := by
  obtain ⟨A, n, c, l, _, rfl, _⟩ := h
  refine ⟨_, rfl, sizeShelf, rfl, ?_⟩
  rw [Array.all_eq_true']
  intro x hx
  simp [shV] at hx
  rcases hx with rfl | rfl | rfl | rfl <;> rfl
def tk18 (B : Nat) (s : ShL) (A : Option Addr) (n c : Nat) (l : List CellH) (j ser m : Nat) (t : Tmp) : Value → List Nat → World → Prop :=
  match t with
  | 42 => fun v F w => F = foot A n l ∧ v = .agg (shV s A n c) ∧ ShelfOf w s A n c l
  | 43 => pV (.int .i64 (j : Int))
  | 44 => pV (.int .u64 (ser : Int))
  | 45 => pV (.int .i64 (m : Int))
  | 46 => bV (fun gd => .slice (some ⟨gd, 0, none⟩) m m) (List.replicate m 0) B
  | 47 => bV (fun gd => .agg (cellV (newCell ser gd m (List.replicate m 0)))) (List.replicate m 0) B
  | 48 => sV (putC s j (ser, List.replicate m 0)) (foot A n l) B
  | 49 => pV (.int .i64 (j : Int))
  | 7 => pV (.int .i64 (j : Int))
  | 8 => pV (.int .i64 0)
  | _ => fun _ F _ => F = []
theorem tk18_lt (B : Nat) (s : ShL) (A : Option Addr) (n c : Nat) (l : List CellH) (j ser m : Nat) : ∀ t v F w, tk18 B s A n c l j ser m t v F w → ∀ k ∈ F, k < w.heap.size := by
  intro t v F w h
  unfold tk18 at h
  split at h <;> first
    | exact pV_lt h
    | exact sV_lt h
    | exact bV_lt h
    | (obtain ⟨rfl, _, h1⟩ := h; exact h1.foot_lt)
    | (rw [h]; simp)
theorem tk18_loc (B : Nat) (s : ShL) (A : Option Addr) (n c : Nat) (l : List CellH) (j ser m : Nat) : ∀ t v F w w', tk18 B s A n c l j ser m t v F w → (∀ k ∈ F, w'.heap[k]? = w.heap[k]?) → tk18 B s A n c l j ser m t v F w' := by
  intro t v F w w' h hk
  unfold tk18 at h ⊢
  split at h <;> first
    | exact h
    | exact sV_loc h hk
    | exact bV_loc h hk
    | (obtain ⟨rfl, e, h1⟩ := h; exact ⟨rfl, e, h1.loc hk⟩)
def Take18Post (w : World) (U : List Nat) (s : ShL) (p : Nat) (E : Int) (e : Ending) (w' : World) : Prop := ∃ v, e = .returned (.tuple #[v, .int .i64 (p : Int), .int .i64 E]) ∧ ShelfVia U w.heap.size w' v s ∧ Below w.heap.size w w'
section
variable {w : World}
set_option maxHeartbeats 4000000 in
theorem reftake18 {s : ShL} {A : Option Addr} {n c : Nat} {l : List CellH} (hs : ShelfOf w s A n c l) (ser : Nat) (hser : ser < 18446744073709551616) (m : Int) :
    Calls Tryd.prog 40 #[.agg (shV s A n c), .int .u64 (ser : Int), .int .i64 m] w fun e w' => Take18Post w (foot A n l) (takeS s ser m) (takeP s ser m) (takeE s ser m) e w' := by
  have hR := ((Held.start w).alloc (shV s A n c) 25).alloc #[.int .u8 0, .int .u16 0, .int .u16 0, .slice none 0 0] 25
  obtain ⟨W, hW⟩ : ∃ W, W = (w.alloc (.cells (shV s A n c) 25)).alloc (.cells #[.int .u8 0, .int .u16 0, .int .u16 0, .slice none 0 0] 25) := ⟨_, rfl⟩
  obtain ⟨g, hg⟩ : ∃ g, g = w.heap.size := ⟨_, rfl⟩
  rw [← hW, show (w.alloc (.cells (shV s A n c) 25)).heap.size = g + 1 by rw [hg]; simp, ← hg] at hR
  obtain ⟨g2, hg2⟩ : ∃ g2, g2 = g + 1 := ⟨_, rfl⟩
  rw [← hg2] at hR
  have HW := Lib.hid hW
  have HG := Lib.hid hg
  have HG2 := Lib.hid hg2
  have HS := Lib.hid hs
  have R0 := Lib.hid hR
  have HM := Lib.hid (refmay18 (w := W) ⟨A, n, c, l, rfl, hs.below hR.below⟩)
  have hcl := hs.cl
  have HOF : Hid (∀ w', Calls Tryd.prog 62 #[.int .u8 (s.cl : Int), .int .i64 m] w' fun e w'' => e = .returned (.bool (ofL s.cl m)) ∧ Below w'.heap.size w' w'') := Lib.hid (fun w' => refof18 s.cl hcl m)
  have HTE : Hid (takeE s ser m = if mayL s then (if ser = 0 ∨ 8796093022207 < ser ∨ ofL s.cl m = false then 2 else if freeL s.cells = none then 6 else 0) else 5) := Lib.hid rfl
  have HTP : Hid (takeP s ser m = if takeE s ser m = 0 then (freeL s.cells).getD 0 else 0) := Lib.hid rfl
  have HTS : Hid (takeS s ser m = if takeE s ser m = 0 then putC s ((freeL s.cells).getD 0) (ser, List.replicate m.toNat 0) else emptySh) := Lib.hid rfl
  have HOL : Hid (ofL s.cl m = true → 1 ≤ m ∧ m ≤ 237) := Lib.hid (fun h => by have := ofL_le h; omega)
  generalize takeS s ser m = ts at HTS ⊢
  generalize takeP s ser m = tp at HTP ⊢
  generalize takeE s ser m = te at HTE HTP HTS ⊢
  have HB : Hid (te ≠ 0 → tp = 0 ∧ ts = emptySh) := Lib.hid (fun h => ⟨by rw [HTP.out, if_neg h], by rw [HTS.out, if_neg h]⟩)
  generalize hmay : mayL s = may at HM HTE
  generalize hof : ofL s.cl m = o at HOF HTE HOL
  have HN := hs.le30
  unfold shV at HW ⊢
  clear hR hW hg hg2 hs hcl hmay hof
  obtain ⟨⟨a0, a1, a2, a3⟩, _, _, _, _⟩ := R0.out.cells4 1 rfl
  go_enter Tryd.func40, Tryd.ntmps40
  go_upto_region 1 with (fail)
  rw [← HW.out, ← HG.out, ← HG2.out]
  go_wp2_with fail
  refine HM.out.mono ?_
  rintro e w1 ⟨rfl, hb⟩
  have R1 := Lib.hid (R0.out.call hb)
  clear hb a0 a1 a2 a3 HM R0
  cases may with
  | false =>
    have hte := HTE.out
    rw [if_neg (by simp)] at hte
    have HV : Hid (te = 5 ∧ tp = 0 ∧ ts = emptySh) := Lib.hid ⟨hte, HB.out (by rw [hte]; decide)⟩
    clear hte
    obtain ⟨⟨y0, y1, y2, y3⟩, b0, b1, b2, b3⟩ := R1.out.cells4 0 rfl
    go_wp2_with fail
    have R9 := R1.out.store4 0 rfl (.int .u8 0) (.int .u16 0) (.int .u16 0) (.slice none 0 0)
    refine bodyPost_ret (v := .tuple #[.agg #[.int .u8 0, .int .u16 0, .int .u16 0, .slice none 0 0], .int .i64 0, .int .i64 5]) (results_cell_slots rfl _ _ g2 25 _ (0, 0) _ _ _ rfl rfl rfl (R9.get 0 rfl) Tryd.underlying25 rfl sizeShelf) rfl ?_
    exact ⟨_, by rw [HV.out.2.1, HV.out.1]; rfl, by rw [HV.out.2.2]; exact emptySh_via _ _ _, R9.below⟩
  | true =>
    have HTE := Lib.hid (HTE.out.trans (if_pos rfl))
    by_cases h0 : ser = 0
    · subst h0
      have hte := HTE.out
      rw [if_pos (.inl rfl)] at hte
      have HV : Hid (te = 2 ∧ tp = 0 ∧ ts = emptySh) := Lib.hid ⟨hte, HB.out (by rw [hte]; decide)⟩
      clear hte
      obtain ⟨⟨y0, y1, y2, y3⟩, b0, b1, b2, b3⟩ := R1.out.cells4 0 rfl
      go_wp2_with fail
      have R9 := R1.out.store4 0 rfl (.int .u8 0) (.int .u16 0) (.int .u16 0) (.slice none 0 0)
      refine bodyPost_ret (v := .tuple #[.agg #[.int .u8 0, .int .u16 0, .int .u16 0, .slice none 0 0], .int .i64 0, .int .i64 2]) (results_cell_slots rfl _ _ g2 25 _ (0, 0) _ _ _ rfl rfl rfl (R9.get 0 rfl) Tryd.underlying25 rfl sizeShelf) rfl ?_
      exact ⟨_, by rw [HV.out.2.1, HV.out.1]; rfl, by rw [HV.out.2.2]; exact emptySh_via _ _ _, R9.below⟩
    · have h0' : ((ser : Int) == 0) = false := by simp; omega
      by_cases h1 : 8796093022207 < ser
      · have h1' : decide ((8796093022207 : Int) < (ser : Int)) = true := by simp; omega
        have hte := HTE.out
        rw [if_pos (.inr (.inl h1))] at hte
        have HV : Hid (te = 2 ∧ tp = 0 ∧ ts = emptySh) := Lib.hid ⟨hte, HB.out (by rw [hte]; decide)⟩
        clear hte h1 h0 hser
        obtain ⟨⟨y0, y1, y2, y3⟩, b0, b1, b2, b3⟩ := R1.out.cells4 0 rfl
        go_wp2_with fail
        have R9 := R1.out.store4 0 rfl (.int .u8 0) (.int .u16 0) (.int .u16 0) (.slice none 0 0)
        refine bodyPost_ret (v := .tuple #[.agg #[.int .u8 0, .int .u16 0, .int .u16 0, .slice none 0 0], .int .i64 0, .int .i64 2]) (results_cell_slots rfl _ _ g2 25 _ (0, 0) _ _ _ rfl rfl rfl (R9.get 0 rfl) Tryd.underlying25 rfl sizeShelf) rfl ?_
        exact ⟨_, by rw [HV.out.2.1, HV.out.1]; rfl, by rw [HV.out.2.2]; exact emptySh_via _ _ _, R9.below⟩
      · have h1' : decide ((8796093022207 : Int) < (ser : Int)) = false := by simp; omega
        obtain ⟨⟨a0, a1, a2, a3⟩, _, _, _, _⟩ := R1.out.cells4 1 rfl
        have HN0 : Hid (ser ≠ 0 ∧ ¬ 8796093022207 < ser) := Lib.hid ⟨h0, h1⟩
        have HSER := Lib.hid hser
        clear h0 h1 hser
        go_wp2_with fail
        refine (HOF.out _).mono ?_
        rintro e w2 ⟨rfl, hb⟩
        have R2 := Lib.hid (R1.out.call hb)
        clear hb a0 a1 a2 a3 R1
        cases o with
        | false =>
          have hte := HTE.out
          rw [if_pos (show ser = 0 ∨ 8796093022207 < ser ∨ false = false from .inr (.inr rfl))] at hte
          have HV : Hid (te = 2 ∧ tp = 0 ∧ ts = emptySh) := Lib.hid ⟨hte, HB.out (by rw [hte]; decide)⟩
          clear hte
          obtain ⟨⟨y0, y1, y2, y3⟩, b0, b1, b2, b3⟩ := R2.out.cells4 0 rfl
          go_wp2_with fail
          have R9 := R2.out.store4 0 rfl (.int .u8 0) (.int .u16 0) (.int .u16 0) (.slice none 0 0)
          refine bodyPost_ret (v := .tuple #[.agg #[.int .u8 0, .int .u16 0, .int .u16 0, .slice none 0 0], .int .i64 0, .int .i64 2]) (results_cell_slots rfl _ _ g2 25 _ (0, 0) _ _ _ rfl rfl rfl (R9.get 0 rfl) Tryd.underlying25 rfl sizeShelf) rfl ?_
          exact ⟨_, by rw [HV.out.2.1, HV.out.1]; rfl, by rw [HV.out.2.2]; exact emptySh_via _ _ _, R9.below⟩
        | true =>
          have HML0 : Hid (1 ≤ m ∧ m ≤ 237) := Lib.hid (HOL.out rfl)
          clear HOL
          have HTE := Lib.hid (HTE.out.trans (if_neg (show ¬ (ser = 0 ∨ 8796093022207 < ser ∨ true = false) from fun h => h.elim HN0.out.1 (fun h => h.elim HN0.out.2 (fun h => by cases h)))))
          obtain ⟨⟨a0, a1, a2, a3⟩, _, _, _, _⟩ := R2.out.cells4 1 rfl
          go_wp2_with fail
          go_loopw [9] (fun i wr => ∃ j : Nat, j ≤ n ∧ i = .int .i64 (j : Int) ∧ Held w wr [rowT g2 #[.int .u8 0, .int .u16 0, .int .u16 0, .slice none 0 0] 25, rowT g (shV s A n c) 25] ∧ (∀ i, (hi : i < j) → ∀ y, s.cells[i]? = some y → y.1 ≠ 0)) (fun i _ => n - (intOf i).toNat)
          case atStart => exact ⟨0, by omega, rfl, R2.out, fun i hi => absurd hi (by omega)⟩
          case round =>
            obtain ⟨j, hj, rfl, hR, hall⟩ := hrel
            have R3 := Lib.hid hR
            have HA := Lib.hid hall
            clear hR hall R2 a0 a1 a2 a3
            obtain ⟨⟨a0, a1, a2, a3⟩, _, _, _, _⟩ := R3.out.cells4 1 rfl
            by_cases hlt : j < n
            · obtain ⟨x, hx, hd, hok, _, b, off, hAe, hb, hr⟩ := HS.out.get j hlt
              have hjs : j < s.cells.length := by rw [HS.out.len]; exact hlt
              have hsj : s.cells[j]? = some x.dat := by rw [← hd, List.getD_eq_getElem?_getD, List.getElem?_eq_getElem hjs]; rfl
              have HSJ := Lib.hid hsj
              have c0 : wr.cell? ⟨b, off + j * 2, none⟩ = some (.int .u64 (x.ser : Int)) := (R3.out.below.cell hb).trans (hr 0 _ (show (cellV x).toList[0]? = some (.int .u64 (x.ser : Int)) from rfl))
              clear hx hd hok hb hr hjs hsj
              subst hAe
              by_cases hz : x.ser = 0
              · have hz' : ((x.ser : Int) == 0) = true := by simp; omega
                have HFR : Hid (freeL s.cells = some j) := Lib.hid (by
                  obtain ⟨h1, h2⟩ := List.getElem?_eq_some_iff.1 HSJ.out
                  exact freeL_some h1 (by rw [h2]; exact hz) (fun i hi => HA.out i hi _ (List.getElem?_eq_getElem (by omega))))
                have hte := HTE.out
                rw [HFR.out, if_neg (by simp)] at hte
                obtain ⟨m', rfl⟩ : ∃ m' : Nat, m = (m' : Int) := ⟨m.toNat, by have := HML0.out; omega⟩
                have HTE2 := Lib.hid hte
                have HTS2 : Hid (ts = putC s j (ser, List.replicate m' 0)) := Lib.hid (by rw [HTS.out, if_pos hte, HFR.out, Int.toNat_natCast]; rfl)
                have HTP2 : Hid (tp = j) := Lib.hid (by rw [HTP.out, if_pos hte, HFR.out]; rfl)
                have HML : Hid (1 ≤ m' ∧ m' ≤ 237) := Lib.hid (by have := HML0.out; omega)
                have HJN := Lib.hid hlt
                clear hz hte HTE HTS HTP HB
                go_upto_region 9 with (fail)
                clear c0 a0 a1 a2 a3
                have HSW := Lib.hid (HS.out.below R3.out.below)
                have HGL : Hid (g < wr.heap.size ∧ g ∉ [g2]) := Lib.hid ⟨R3.out.lt 1 rfl, by have := HG2.out; simp; omega⟩
                have HFO : Hid (∀ k ∈ foot (some ⟨b, off, none⟩) n l, k ∉ [g2]) := Lib.hid (fun k hk => by have := HS.out.foot_lt k hk; have := R3.out.ge 0 rfl; simp; omega)
                refine wp_region_boxes (by kernel_rfl) [⟨99, 8, 6, #[.int .u8 0, .int .u16 0, .int .u16 0, .slice none 0 0], 25, 6, 48, some g2⟩] (tk18 wr.heap.size s (some ⟨b, off, none⟩) n c l j ser m') (tk18_lt _ _ _ _ _ _ _ _ _) (tk18_loc _ _ _ _ _ _ _ _ _) (by kernel_rfl) (by kernel_rfl) (by kernel_rfl) ?qbs (by kernel_rfl) ?qold ?qheads ?qfin
                case qbs =>
                  intro x hx
                  obtain rfl : x = _ := by simpa using hx
                  exact ⟨(fun h => by cases h), (fun g' h => by cases h; exact ⟨R3.out.get 0 rfl, rfl, by kernel_rfl, Nat.le_of_ble_eq_true rfl⟩), ⟨_, rfl, rfl, rfl, rfl, (fun h => by cases h), by kernel_rfl⟩, by kernel_rfl, fun v F w h => sV.ex h⟩
                case qold =>
                  intro j k x y g' hj hk _ _
                  have h1 := (List.getElem?_eq_some_iff.1 hj).1
                  have h2 := (List.getElem?_eq_some_iff.1 hk).1
                  simp at h1 h2
                  omega
                case qheads =>
                  refine ⟨.inr ⟨rfl, 42, rfl, fun a v OK hOK hB hO hD K hK => ?_⟩, .inr ⟨rfl, 43, rfl, fun a v OK hOK hB hO hD K hK => ?_⟩, .inr ⟨rfl, 44, rfl, fun a v OK hOK hB hO hD K hK => ?_⟩, .inr ⟨rfl, 45, rfl, fun a v OK hOK hB hO hD K hK => ?_⟩, .inr ⟨rfl, 46, rfl, fun a v OK hOK hB hO hD K hK => ?_⟩, .inr ⟨rfl, 47, rfl, fun a v OK hOK hB hO hD K hK => ?_⟩, .inr ⟨rfl, 48, rfl, fun a v OK hOK hB hO hD K hK => ?_⟩, .inr ⟨rfl, 49, rfl, fun a v OK hOK hB hO hD K hK => ?_⟩, .inl rfl, .inr ⟨rfl, 7, rfl, fun a v OK hOK hB hO hD K hK => ?_⟩, .inr ⟨rfl, 8, rfl, fun a v OK hOK hB hO hD K hK => ?_⟩, trivial⟩
                  · exact wp_load_all 25 _ g 25 (shV s (some ⟨b, off, none⟩) n c) (0, 0) _ rfl (eval_of (t := 3) (by rw [hO 3 (not_dst 3 (by kernel_rfl))]; rfl)) ((hB.block g HGL.out.1 HGL.out.2).trans (R3.out.get 1 rfl)) Tryd.underlying25 rfl sizeShelf (hK _ _ _ ⟨rfl, rfl, HSW.out.loc (fun k hk => hB.block k (HSW.out.foot_lt k hk) (HFO.out k hk))⟩ (fun k hk => .inl (hOK k (HSW.out.foot_lt k hk) (HFO.out k hk))) (Below.refl _ _))
                  · exact wpg_move _ _ rfl (eval_of (t := 9) (by rw [hO 9 (not_dst 9 (by kernel_rfl))]; rfl)) (hK _ [] _ ⟨rfl, rfl⟩ (by simp) (Below.refl _ _))
                  · exact wpg_move _ _ rfl (eval_of (t := 1) (by rw [hO 1 (not_dst 1 (by kernel_rfl))]; rfl)) (hK _ [] _ ⟨rfl, rfl⟩ (by simp) (Below.refl _ _))
                  · exact wpg_move _ _ rfl (eval_of (t := 2) (by rw [hO 2 (not_dst 2 (by kernel_rfl))]; rfl)) (hK _ [] _ ⟨rfl, rfl⟩ (by simp) (Below.refl _ _))
                  · obtain ⟨u, F, hu, hv, hf⟩ := boxes_of hD 3 (by kernel_rfl) rfl 45 (by kernel_rfl)
                    obtain ⟨i0, hi, hz, hs, hb⟩ := infoU8''
                    refine wpo_make0 27 5 _ _ i0 (.int .u8 0) m' 1 1 rfl Tryd.underlying27 hi hz hs hb (hu.trans hv.2) (hu.trans hv.2) (by have := HML.out; omega) (by omega) (by omega) (hK _ [v.heap.size] _ ⟨v.heap.size, rfl, rfl, by simp, .inr ⟨_, 0, rfl, by simp, made_bytes v m' _⟩, hB.size⟩ (by simp) ((Below.refl _ _).alloc (Nat.le_refl _) _))
                  · obtain ⟨u, F, hu, hv, hf⟩ := boxes_of hD 2 (by kernel_rfl) rfl 44 (by kernel_rfl)
                    obtain ⟨u2, F2, hu2, hv2, hf2⟩ := boxes_of hD 4 (by kernel_rfl) rfl 46 (by kernel_rfl)
                    obtain ⟨gd, rfl, rfl, h0, h1, h2⟩ := hv2
                    exact wp_built 41 _ [(0, .int .u64 (ser : Int)), (1, .slice (some ⟨gd, 0, none⟩) m' m')] #[.int .u64 (ser : Int), .slice (some ⟨gd, 0, none⟩) m' m'] rfl (by simp [hu.trans hv.2, hu2]) (builtCell _ _ _ _) (hK _ [gd] _ ⟨gd, rfl, rfl, h0, h1, h2⟩ (fun k hk => .inl (hf2 k hk)) (Below.refl _ _))
                  · obtain ⟨u, F, hu, hv, hf⟩ := boxes_of hD 0 (by kernel_rfl) rfl 42 (by kernel_rfl)
                    obtain ⟨u2, F2, hu2, hv2, hf2⟩ := boxes_of hD 1 (by kernel_rfl) rfl 43 (by kernel_rfl)
                    obtain ⟨u3, F3, hu3, hv3, hf3⟩ := boxes_of hD 5 (by kernel_rfl) rfl 47 (by kernel_rfl)
                    obtain ⟨gd, rfl, rfl, h0, h1, h2⟩ := hv3
                    obtain ⟨rfl, rfl, hsv⟩ := hv
                    have N1 := with_is (w := v) hsv j HJN.out (newCell ser gd m' (List.replicate m' 0)) ⟨List.length_replicate, Nat.le_refl _, HSER.out, h1⟩ (by have := HML.out; show (List.replicate m' 0).length ≤ 400; rw [List.length_replicate]; omega)
                    refine wpo_call 63 [.tmp 42, .tmp 43, .tmp 47] _ _ _ _ (fun v' w' => ∃ F, sV (putC s j (ser, List.replicate m' 0)) (foot (some ⟨b, off, none⟩) n l) wr.heap.size v' F w' ∧ ∀ k ∈ F, OK k ∨ v.heap.size ≤ k) rfl Tryd.func63 rfl (by kernel_rfl) (by simp only [List.map_cons, List.map_nil, hu, hu2.trans hv2.2, hu3]) (N1.mono ?_) (fun v' w' hb h => h.elim fun F h => hK v' F w' h.1 h.2 hb)
                    rintro e w' ⟨gr, c2, rfl, hw, hgr, hb⟩
                    refine ⟨_, rfl, ⟨_, ⟨_, _, _, _, rfl, rfl, hw, foot_with (fun _ a ha => by cases ha; exact .inr h2) (Nat.le_trans hB.size hgr)⟩, fun k hk => ?_⟩, hb⟩
                    rcases foot_set (A := some ⟨b, off, none⟩) k hk with rfl | h | ⟨_, a, ha, rfl⟩
                    · exact .inr hgr
                    · exact .inl (hf k h)
                    · cases ha; exact .inl (hf3 gd (by simp))
                  · exact wpg_move _ _ rfl (eval_of (t := 9) (by rw [hO 9 (not_dst 9 (by kernel_rfl))]; rfl)) (hK _ [] _ ⟨rfl, rfl⟩ (by simp) (Below.refl _ _))
                  · obtain ⟨u, F, hu, hv, hf⟩ := boxes_of hD 7 (by kernel_rfl) rfl 49 (by kernel_rfl)
                    exact wpb_assign _ _ rfl (hu.trans hv.2) (hK _ [] _ ⟨rfl, rfl⟩ (by simp) (Below.refl _ _))
                  · exact wpb_assign _ _ rfl rfl (hK _ [] _ ⟨rfl, rfl⟩ (by simp) (Below.refl _ _))
                case qfin =>
                  intro F w3 β hbx hap hV hB
                  obtain ⟨_, hβ0, C, G, hF48, hg2, hsv, hG⟩ := hbx 0 _ rfl
                  have hβ : β 0 = g2 := hβ0 g2 rfl
                  rw [hβ] at hg2
                  obtain ⟨A2, n2, c2, l2, rfl, hC, hs2, hf2⟩ := hsv
                  obtain rfl : C = shV (putC s j (ser, List.replicate m' 0)) A2 n2 c2 := by cases hC; rfl
                  have e7 : F 7 = .int .i64 (j : Int) := (hV 9 _ 7 rfl rfl rfl).elim (fun _ h => h.2)
                  have e8 : F 8 = .int .i64 0 := (hV 10 _ 8 rfl rfl rfl).elim (fun _ h => h.2)
                  have R4 := Lib.hid (R3.out.turn 0 (y := rowT g2 (shV (putC s j (ser, List.replicate m' 0)) A2 n2 c2) 25) (W' := w3) rfl (fun F hF _ => ⟨[g2], ⟨rfl, hg2⟩, by rw [hF.1]; exact hB, fun b hb => .inl (by rw [hF.1]; exact hb), by simp⟩))
                  have HS2 : Hid (ShelfVia (foot (some ⟨b, off, none⟩) n l) w.heap.size w3 (.agg (shV (putC s j (ser, List.replicate m' 0)) A2 n2 c2)) (putC s j (ser, List.replicate m' 0))) := Lib.hid ⟨A2, n2, c2, l2, rfl, hs2, fun k hk => (hf2 k hk).imp id (Nat.le_trans R3.out.below.size)⟩
                  simp only [putAll, List.setIfInBounds_toArray, List.set_cons_zero, List.set_cons_succ]
                  rw [hF48, e7, e8]
                  clear hbx hap hV hB hβ0 hF48 hg2 hC hs2 hf2 hG e7 e8 hβ R3 HSW HGL HFO
                  go_wp2_with fail
                  refine bodyPost_ret (v := .tuple #[.agg (shV (putC s j (ser, List.replicate m' 0)) A2 n2 c2), .int .i64 (j : Int), .int .i64 0]) (results_cell_slots rfl _ _ g2 25 _ (0, 0) _ _ _ rfl rfl rfl (R4.out.get 0 rfl) Tryd.underlying25 rfl sizeShelf) rfl ?_
                  exact ⟨_, by rw [HTP2.out, HTE2.out], by rw [HTS2.out]; exact HS2.out, R4.out.below⟩
              · have hz' : ((x.ser : Int) == 0) = false := by simp; omega
                have HZN := Lib.hid hz
                clear hz
                go_wp2_with fail
                go_roundw
                case rel => exact ⟨j + 1, by omega, by go_num, R3.out, fun i hi y hy => by
                  by_cases e : i = j
                  · subst e
                    rw [HSJ.out] at hy
                    cases hy
                    exact HZN.out
                  · exact HA.out i (by omega) y hy⟩
                case measure => simp [intOf]; omega
            · obtain rfl : j = n := by omega
              have HFR : Hid (freeL s.cells = none) := Lib.hid (freeL_none (fun i hi => HA.out i (by rw [HS.out.len] at hi; exact hi) _ (List.getElem?_eq_getElem hi)))
              have hte := HTE.out
              rw [if_pos HFR.out] at hte
              have HV : Hid (te = 6 ∧ tp = 0 ∧ ts = emptySh) := Lib.hid ⟨hte, HB.out (by rw [hte]; decide)⟩
              clear hte
              obtain ⟨⟨y0, y1, y2, y3⟩, b0, b1, b2, b3⟩ := R3.out.cells4 0 rfl
              go_wp2_with fail
              have R9 := R3.out.store4 0 rfl (.int .u8 0) (.int .u16 0) (.int .u16 0) (.slice none 0 0)
              refine bodyPost_ret (v := .tuple #[.agg #[.int .u8 0, .int .u16 0, .int .u16 0, .slice none 0 0], .int .i64 0, .int .i64 6]) (results_cell_slots rfl _ _ g2 25 _ (0, 0) _ _ _ rfl rfl rfl (R9.get 0 rfl) Tryd.underlying25 rfl sizeShelf) rfl ?_
              exact ⟨_, by rw [HV.out.2.1, HV.out.1]; rfl, by rw [HV.out.2.2]; exact emptySh_via _ _ _, R9.below⟩
end
end Go.Proofs.YtcepfmjebgklfaaDoor
