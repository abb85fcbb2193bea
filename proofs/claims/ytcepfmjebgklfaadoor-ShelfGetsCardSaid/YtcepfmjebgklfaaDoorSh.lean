/- Shelves in memory; the classes' table; Class, at, Places, Room, of. Shelves in memory: what a shelf is there; May. Shelves in memory: Same; Used; great. -/
import Derived.Test.YtcepfmjebgklfaaDoorShMath
import Derived.Test.YtcepfmjebgklfaaDoorKeep
import Derived.Test.YtcepfmjebgklfaaDoorPair
import Derived.Test.YtcepfmjebgklfaaDoorSteps
import Derived.Test.YtcepfmjebgklfaaDoorAppend
import Derived.Deep.MidRow
import Derived.Test.YtcepfmjebgklfaaDoorRead4
namespace Go.Proofs.YtcepfmjebgklfaaDoor
open Go.RowKit
set_option linter.unusedSimpArgs false
set_option linter.unusedVariables false
set_option maxRecDepth 100000
section
variable {P : Program} {w : World}
/-- A struct out of an array's value. -/
theorem run_index_part (t e : TypeId) (len m : Nat) (cs : Array Value) (k : IntKind) (i : Nat) (d : TypeDesc) (ht : P.underlying t = some (.array len e)) (he : P.underlying e = some d)
    (hd : (match d with | .struct _ | .array _ _ => true | _ => false) = true) (hs : (P.info? e).map (·.size) = some m) (hl : i < len) :
    (Instr.index t (.agg cs) (.int k (i : Int))).run P w = .ok (.agg (cs.extract (i * m) (i * m + m))) w := by
  have hagg : (isAgg e).run P w = .ok true w := by
    unfold isAgg
    rw [Sem.run_bind, run_underlying he w]
    cases d <;> simp_all
  obtain ⟨f, hf, hf1⟩ : ∃ f, P.info? e = some f ∧ f.size = m := by
    cases hq : P.info? e with
    | none => simp [hq] at hs
    | some f => exact ⟨f, rfl, by simpa [hq] using hs⟩
  have hb : (0 : Int) ≤ (i : Int) ∧ (i : Int) < (len : Int) := by omega
  simp [Instr.index, asIntOf, run_underlying ht, hb, hl, sizeOf, typeInfo, hf, hf1, part, hagg]
theorem wpList_index_part {ops : Array Oper} {rest : List Oper} {o : Oper} {a : Act} {Q : Exit → Act → World → Prop} (hgd : o.guard = none) (t : TypeId) (x y : Operand) (ho : o.op = .index t x y)
    (e : TypeId) (len m : Nat) (cs : Array Value) (k : IntKind) (i : Nat) (d : TypeDesc) (hx : a.eval x = .agg cs) (hy : a.eval y = .int k (i : Int)) (ht : P.underlying t = some (.array len e)) (he : P.underlying e = some d)
    (hd : (match d with | .struct _ | .array _ _ => true | _ => false) = true) (hs : (P.info? e).map (·.size) = some m) (hl : i < len) (cs2 : Array Value) (hc : cs.extract (i * m) (i * m + m) = cs2)
    (h : wpList P ops Q rest (a.put o.dst (.agg cs2)) w) : wpList P ops Q (o :: rest) a w :=
  wpList_plain hgd fun _ hK => by
    unfold Oper.wp execOp
    simp only [ho, hx, hy, Sem.run_bind, run_index_part t e len m cs k i d ht he hd hs hl, hc, Result.andThen_ok, Sem.run_pure]
    exact hK _ _ h
end
def clsCells : Array Value := #[.int .i64 8, .int .i64 14, .int .i64 16, .int .i64 9, .int .i64 24, .int .i64 7, .int .i64 40, .int .i64 5, .int .i64 72, .int .i64 3, .int .i64 114, .int .i64 2, .int .i64 237, .int .i64 1]
/-- The classes' table lies in its place. -/
def ClsAt (w : World) : Prop := 0 < w.heap.size ∧ w.rangeAt 0 0 clsCells.toList
theorem rangeAt_below {w w' : World} {b off : Nat} {cs : List Value} (h : w.rangeAt b off cs) (hlt : b < w.heap.size) (hb : Below w.heap.size w w') : w'.rangeAt b off cs := fun j v hv => (hb.cell hlt).trans (h j v hv)
theorem ClsAt.below {w w' : World} (h : ClsAt w) (hb : Below w.heap.size w w') : ClsAt w' := ⟨Nat.lt_of_lt_of_le h.1 hb.size, rangeAt_below h.2 h.1 hb⟩
theorem ClsAt.under {w w' : World} {B : Nat} (h : ClsAt w) (hB : w.heap.size ≤ B) (hb : Below B w w') : ClsAt w' := h.below (hb.mono hB)
def cls (k : Nat) : Array Value := #[.int .i64 (roomL k : Int), .int .i64 (placesL k : Int)]
theorem cls_part (k : Nat) (h : k < 7) : clsCells.extract (k * 2) (k * 2 + 2) = cls k := by
  rcases (by omega : k = 0 ∨ k = 1 ∨ k = 2 ∨ k = 3 ∨ k = 4 ∨ k = 5 ∨ k = 6) with rfl | rfl | rfl | rfl | rfl | rfl | rfl <;> rfl
theorem ClsAt.part {w : World} (h : ClsAt w) (k : Nat) (hk : k < 7) : w.rangeAt 0 (k * 2) (cls k).toList := by
  intro j v hv
  have h2 := h.2 (k * 2 + j) v (by
    rw [← cls_part k hk] at hv
    rw [Array.toList_extract, List.extract_eq_take_drop, List.getElem?_take] at hv
    split at hv
    · rw [List.getElem?_drop] at hv; exact hv
    · cases hv)
  rw [Nat.zero_add] at h2
  exact h2
theorem sizeCls : (Tryd.prog.info? 75).map (·.size) = some 2 := by kernel_rfl
theorem sizeCTab : (Tryd.prog.info? 88).map (·.size) = some 14 := by kernel_rfl
section
variable {w : World}
set_option maxHeartbeats 1000000 in
theorem class_is (hc : ClsAt w) (n : Int) : Calls Tryd.prog 21 #[.int .i64 n] w fun e w' => e = .returned (.tuple #[.int .u8 (classV n : Int), .int .i64 (classE n)]) ∧ Below w.heap.size w w' := by
  have HC := Lib.hid hc
  clear hc
  have c0 : w.cell? ⟨0, 0, none⟩ = some (.int .i64 8) := by have := HC.out.2 0 _ rfl; simpa using this
  have c1 : w.cell? ⟨0, 1, none⟩ = some (.int .i64 14) := by have := HC.out.2 1 _ rfl; simpa using this
  have c2 : w.cell? ⟨0, 2, none⟩ = some (.int .i64 16) := by have := HC.out.2 2 _ rfl; simpa using this
  have c3 : w.cell? ⟨0, 3, none⟩ = some (.int .i64 9) := by have := HC.out.2 3 _ rfl; simpa using this
  have c4 : w.cell? ⟨0, 4, none⟩ = some (.int .i64 24) := by have := HC.out.2 4 _ rfl; simpa using this
  have c5 : w.cell? ⟨0, 5, none⟩ = some (.int .i64 7) := by have := HC.out.2 5 _ rfl; simpa using this
  have c6 : w.cell? ⟨0, 6, none⟩ = some (.int .i64 40) := by have := HC.out.2 6 _ rfl; simpa using this
  have c7 : w.cell? ⟨0, 7, none⟩ = some (.int .i64 5) := by have := HC.out.2 7 _ rfl; simpa using this
  have c8 : w.cell? ⟨0, 8, none⟩ = some (.int .i64 72) := by have := HC.out.2 8 _ rfl; simpa using this
  have c9 : w.cell? ⟨0, 9, none⟩ = some (.int .i64 3) := by have := HC.out.2 9 _ rfl; simpa using this
  have c10 : w.cell? ⟨0, 10, none⟩ = some (.int .i64 114) := by have := HC.out.2 10 _ rfl; simpa using this
  have c11 : w.cell? ⟨0, 11, none⟩ = some (.int .i64 2) := by have := HC.out.2 11 _ rfl; simpa using this
  have c12 : w.cell? ⟨0, 12, none⟩ = some (.int .i64 237) := by have := HC.out.2 12 _ rfl; simpa using this
  have c13 : w.cell? ⟨0, 13, none⟩ = some (.int .i64 1) := by have := HC.out.2 13 _ rfl; simpa using this
  go_enter Tryd.func21, Tryd.ntmps21
  go_wp2_with fail
  obtain ⟨T, hT⟩ : ∃ T, T = clsCells := ⟨_, rfl⟩
  have hT' := hT
  unfold clsCells at hT'
  rw [← hT']
  have HT : Hid (∀ k : Nat, k < 7 → ∀ w : World, (Instr.index 88 (.agg T) (.int .i64 (k : Int))).run Tryd.prog w = .ok (.agg (cls k)) w) := Lib.hid (fun k hk w => by
    rw [run_index_part 88 75 7 2 T .i64 k _ Tryd.underlying88 Tryd.underlying75 rfl sizeCls hk, hT, cls_part k hk])
  clear hT hT' c0 c1 c2 c3 c4 c5 c6 c7 c8 c9 c10 c11 c12 c13
  go_loopw [4, 5, 7] (fun _ _ i wr => ∃ k : Nat, k ≤ 7 ∧ i = .int .i64 (k : Int) ∧ Below w.heap.size w wr ∧ (1 ≤ n → ∀ j, j < k → (roomL j : Int) < n)) (fun _ _ i _ => 7 - (intOf i).toNat)
  case atStart => exact ⟨0, by omega, rfl, Below.refl _ _, fun _ j hj => by omega⟩
  case round =>
    obtain ⟨k, hk, rfl, hb, hall⟩ := hrel
    have HB := Lib.hid (hb.alloc hb.size (.cells (cls k) 75))
    have HB0 := Lib.hid hb
    have HA := Lib.hid hall
    clear hb hall
    by_cases hlt : k < 7
    · have hidx := HT.out k hlt
      obtain ⟨rm, hrm⟩ : ∃ rm, rm = (roomL k : Int) := ⟨_, rfl⟩
      obtain ⟨pl, hpl⟩ : ∃ pl, pl = (placesL k : Int) := ⟨_, rfl⟩
      have HRM := Lib.hid hrm
      unfold cls at hidx HB
      rw [← hrm, ← hpl] at hidx HB
      clear hrm hpl
      by_cases h1 : 1 ≤ n
      · by_cases h2 : n ≤ rm
        · have hV : Hid (classV n = k ∧ classE n = 0) := Lib.hid (by
            have := classL_hit n k h1 hlt (by rw [← HRM.out]; exact h2) (HA.out h1)
            unfold classV classE
            rw [this]; exact ⟨rfl, rfl⟩)
          go_wp2_with fail
          go_ret2
          exact ⟨by rw [hV.out.1, hV.out.2]; go_num, HB.out⟩
        · go_wp2_with fail
          go_roundw
          case rel => exact ⟨k + 1, by omega, by go_num, HB.out, fun h j hj => by
            by_cases e : j = k
            · subst e; rw [← HRM.out]; omega
            · exact HA.out h j (by omega)⟩
          case measure => simp [intOf]; omega
      · go_wp2_with fail
        go_roundw
        case rel => exact ⟨k + 1, by omega, by go_num, HB.out, fun h => absurd h h1⟩
        case measure => simp [intOf]; omega
    · obtain rfl : k = 7 := by omega
      have hV : Hid (classV n = 0 ∧ classE n = 211) := Lib.hid (by
        have := classL_none n (fun h => HA.out h 6 (by omega))
        unfold classV classE
        rw [this]; exact ⟨rfl, rfl⟩)
      go_wp2_with fail
      go_ret2
      exact ⟨by rw [hV.out.1, hV.out.2]; rfl, HB0.out⟩
theorem at_is (hc : ClsAt w) (k : Nat) (hk : k < 256) : Calls Tryd.prog 36 #[.int .u8 (k : Int)] w fun e w' => e = .returned (.agg (cls k)) ∧ Below w.heap.size w w' := by
  obtain ⟨W, hW⟩ : ∃ W, W = w.alloc (.cells #[.int .i64 0, .int .i64 0] 75) := ⟨_, rfl⟩
  have hR := (Rows.start w).alloc #[.int .i64 0, .int .i64 0] 75
  rw [← hW] at hR
  have HR := Lib.hid hR
  have HC : Hid (ClsAt W) := Lib.hid (hc.below hR.below)
  obtain ⟨g, hg⟩ : ∃ g, g = w.heap.size := ⟨_, rfl⟩
  rw [← hg] at HR
  have HW := Lib.hid hW
  have HG := Lib.hid hg
  have f0 : W.frozen? ⟨g, 0, none⟩ = false := HR.out.free 0 0 rfl
  have f1 : W.frozen? ⟨g, 1, none⟩ = false := HR.out.free 0 1 rfl
  have c0 : W.cell? ⟨g, 0, none⟩ = some (.int .i64 0) := HR.out.cell 0 0 rfl rfl
  have c1 : W.cell? ⟨g, 1, none⟩ = some (.int .i64 0) := HR.out.cell 0 1 rfl rfl
  obtain ⟨rm, hrm⟩ : ∃ rm, rm = (roomL k : Int) := ⟨_, rfl⟩
  obtain ⟨pl, hpl⟩ : ∃ pl, pl = (placesL k : Int) := ⟨_, rfl⟩
  have HL : Hid (cls k = #[.int .i64 rm, .int .i64 pl]) := Lib.hid (by unfold cls; rw [hrm, hpl])
  rw [HL.out]
  clear hW hg hc hR
  by_cases hlt : k < 7
  · have hp := HC.out.part k hlt
    rw [HL.out] at hp
    have d0 : W.cell? ⟨0, k * 2, none⟩ = some (.int .i64 rm) := hp 0 _ rfl
    have d1 : W.cell? ⟨0, k * 2 + 1, none⟩ = some (.int .i64 pl) := hp 1 _ rfl
    clear hp hrm hpl
    go_enter Tryd.func36, Tryd.ntmps36
    go_upto_region 1 with (fail)
    rw [← HW.out, ← HG.out]
    go_wp2_with fail
    have R2 := (HR.out.setCell 0 0 (.int .i64 rm) rfl).setCell 0 1 (.int .i64 pl) rfl
    exact bodyPost_ret (v := .agg #[.int .i64 rm, .int .i64 pl]) (results_cell_row rfl _ _ g 75 _ (0, 0) _ rfl (R2.get 0 rfl) Tryd.underlying75 rfl sizeCls) rfl ⟨rfl, R2.below⟩
  · rw [roomL_big k (by omega)] at hrm
    rw [placesL_big k (by omega)] at hpl
    subst hrm hpl
    go_enter Tryd.func36, Tryd.ntmps36
    go_upto_region 1 with (fail)
    rw [← HW.out, ← HG.out]
    go_wp2_with fail
    have R2 := (HR.out.setCell 0 0 (.int .i64 0) rfl).setCell 0 1 (.int .i64 0) rfl
    exact bodyPost_ret (v := .agg #[.int .i64 0, .int .i64 0]) (results_cell_row rfl _ _ g 75 _ (0, 0) _ rfl (R2.get 0 rfl) Tryd.underlying75 rfl sizeCls) rfl ⟨rfl, R2.below⟩
theorem places_is (hc : ClsAt w) (k : Nat) (hk : k < 256) : Calls Tryd.prog 17 #[.int .u8 (k : Int)] w fun e w' => e = .returned (.int .i64 (placesL k : Int)) ∧ Below w.heap.size w w' := by
  have HC := Lib.hid hc
  clear hc
  have HA := Lib.hid (at_is HC.out k hk)
  unfold cls at HA
  have hfd : ∀ (a b : Int) (w : World), (Instr.field 75 (.agg #[.int .i64 a, .int .i64 b]) 1).run Tryd.prog w = .ok (.int .i64 b) w := fun _ _ _ => by kernel_rfl
  go_enter Tryd.func17, Tryd.ntmps17
  go_wp2_with fail
  refine HA.out.mono ?_
  rintro e w1 ⟨rfl, hb⟩
  have HB := Lib.hid hb
  clear hb
  go_wp2_with fail
  go_ret
  exact ⟨rfl, HB.out⟩
theorem room_is (hc : ClsAt w) (k : Nat) (hk : k < 256) : Calls Tryd.prog 18 #[.int .u8 (k : Int)] w fun e w' => e = .returned (.int .i64 (roomL k : Int)) ∧ Below w.heap.size w w' := by
  have HC := Lib.hid hc
  clear hc
  have HA := Lib.hid (at_is HC.out k hk)
  unfold cls at HA
  have hfd : ∀ (a b : Int) (w : World), (Instr.field 75 (.agg #[.int .i64 a, .int .i64 b]) 0).run Tryd.prog w = .ok (.int .i64 a) w := fun _ _ _ => by kernel_rfl
  go_enter Tryd.func18, Tryd.ntmps18
  go_wp2_with fail
  refine HA.out.mono ?_
  rintro e w1 ⟨rfl, hb⟩
  have HB := Lib.hid hb
  clear hb
  go_wp2_with fail
  go_ret
  exact ⟨rfl, HB.out⟩
theorem of_is (hc : ClsAt w) (k : Nat) (hk : k < 256) (n : Int) : Calls Tryd.prog 28 #[.int .u8 (k : Int), .int .i64 n] w fun e w' => e = .returned (.bool (ofL k n)) ∧ Below w.heap.size w w' := by
  have HC := Lib.hid hc
  clear hc
  have HA := Lib.hid (class_is HC.out n)
  cases h : classL n with
  | none =>
    have hV : classV n = 0 ∧ classE n = 211 := by unfold classV classE; rw [h]; exact ⟨rfl, rfl⟩
    have HO : Hid (ofL k n = false) := Lib.hid (by unfold ofL; rw [h]; rfl)
    rw [hV.1, hV.2] at HA
    rw [HO.out]
    clear h hV
    go_enter Tryd.func28, Tryd.ntmps28
    go_wp2_with fail
    refine HA.out.mono ?_
    rintro e w1 ⟨rfl, hb⟩
    have HB := Lib.hid hb
    clear hb
    go_wp2_with fail
    go_ret
    exact ⟨rfl, HB.out⟩
  | some j =>
    have hV : classV n = j ∧ classE n = 0 := by unfold classV classE; rw [h]; exact ⟨rfl, rfl⟩
    have HO : Hid (ofL k n = ((j : Int) == (k : Int))) := Lib.hid (by unfold ofL; rw [h, Bool.eq_iff_iff]; simp; omega)
    rw [hV.1, hV.2] at HA
    rw [HO.out]
    clear h hV
    go_enter Tryd.func28, Tryd.ntmps28
    go_wp2_with fail
    refine HA.out.mono ?_
    rintro e w1 ⟨rfl, hb⟩
    have HB := Lib.hid hb
    clear hb
    go_wp2_with fail
    go_ret
    exact ⟨rfl, HB.out⟩
end
end Go.Proofs.YtcepfmjebgklfaaDoor
namespace Go.Proofs.YtcepfmjebgklfaaDoor
open Go.RowKit
set_option linter.unusedSimpArgs false
set_option linter.unusedVariables false
set_option maxRecDepth 100000
/-- Some bytes stand behind a slice. -/
def BytesIn (w : World) (A : Option Addr) (b : List UInt8) : Prop := b = [] ∨ ∃ g off, A = some ⟨g, off, none⟩ ∧ g < w.heap.size ∧ BytesAt w g off b
theorem BytesAt.under {w w' : World} {g off : Nat} {b : List UInt8} (h : BytesAt w g off b) (hg : g < w.heap.size) (hb : Below w.heap.size w w') : BytesAt w' g off b := by
  intro j hj
  have h1 := h j hj
  rw [List.getElem?_eq_getElem hj] at h1 ⊢
  exact (hb.cell hg).trans h1
theorem BytesIn.below {w w' : World} {A : Option Addr} {b : List UInt8} (h : BytesIn w A b) (hb : Below w.heap.size w w') : BytesIn w' A b := by
  rcases h with h | ⟨g, off, rfl, h1, h2⟩
  · exact .inl h
  · exact .inr ⟨g, off, rfl, Nat.lt_of_lt_of_le h1 hb.size, h2.under h1 hb⟩
/-- A cell as it stands in memory: its number, its bytes' slice, the bytes. -/
structure CellH where
  ser : Nat
  A : Option Addr
  m : Nat
  c : Nat
  data : List UInt8
def cellV (x : CellH) : Array Value := #[.int .u64 (x.ser : Int), .slice x.A x.m x.c]
def CellH.dat (x : CellH) : Nat × List UInt8 := (x.ser, x.data)
structure CellOk (w : World) (x : CellH) : Prop where
  len : x.data.length = x.m
  cap : x.m ≤ x.c
  ser : x.ser < 18446744073709551616
  by_ : BytesIn w x.A x.data
theorem CellOk.below {w w' : World} {x : CellH} (h : CellOk w x) (hb : Below w.heap.size w w') : CellOk w' x := ⟨h.len, h.cap, h.ser, h.by_.below hb⟩
structure CellsIn (w : World) (A : Option Addr) (n : Nat) (l : List CellH) : Prop where
  len : l.length = n
  at_ : n = 0 ∨ ∃ b off, A = some ⟨b, off, none⟩ ∧ b < w.heap.size ∧ ∀ i, (hi : i < l.length) → w.rangeAt b (off + i * 2) (cellV l[i]).toList
  ok : ∀ x ∈ l, CellOk w x
theorem CellsIn.below {w w' : World} {A : Option Addr} {n : Nat} {l : List CellH} (h : CellsIn w A n l) (hb : Below w.heap.size w w') : CellsIn w' A n l := by
  refine ⟨h.len, ?_, fun x hx => (h.ok x hx).below hb⟩
  rcases h.at_ with h0 | ⟨b, off, rfl, h1, h2⟩
  · exact .inl h0
  · exact .inr ⟨b, off, rfl, Nat.lt_of_lt_of_le h1 hb.size, fun i hi => rangeAt_below (h2 i hi) h1 hb⟩
theorem CellsIn.cells {w : World} {A : Option Addr} {n : Nat} {l : List CellH} (h : CellsIn w A n l) (i : Nat) (hi : i < l.length) : ∃ b off, A = some ⟨b, off, none⟩ ∧ b < w.heap.size ∧ w.rangeAt b (off + i * 2) (cellV l[i]).toList := by
  rcases h.at_ with h0 | ⟨b, off, e, h1, h2⟩
  · have := h.len; omega
  · exact ⟨b, off, e, h1, h2 i hi⟩
def shV (s : ShL) (A : Option Addr) (n c : Nat) : Array Value := #[.int .u8 (s.cl : Int), .int .u16 (s.prev : Int), .int .u16 (s.next : Int), .slice A n c]
/-- A shelf's value, and what stands behind it. -/
structure ShelfOf (w : World) (s : ShL) (A : Option Addr) (n c : Nat) (l : List CellH) : Prop where
  cells : CellsIn w A n l
  dat : l.map CellH.dat = s.cells
  cap : n ≤ c
  cl : s.cl < 256
  prev : s.prev < 65536
  next : s.next < 65536
  small : smallL s
def ShelfIn (w : World) (v : Value) (s : ShL) : Prop := ∃ A n c l, v = .agg (shV s A n c) ∧ ShelfOf w s A n c l
theorem ShelfOf.below {w w' : World} {s : ShL} {A : Option Addr} {n c : Nat} {l : List CellH} (h : ShelfOf w s A n c l) (hb : Below w.heap.size w w') : ShelfOf w' s A n c l := ⟨h.cells.below hb, h.dat, h.cap, h.cl, h.prev, h.next, h.small⟩
theorem ShelfIn.below {w w' : World} {v : Value} {s : ShL} (h : ShelfIn w v s) (hb : Below w.heap.size w w') : ShelfIn w' v s := by
  obtain ⟨A, n, c, l, e, h⟩ := h
  exact ⟨A, n, c, l, e, h.below hb⟩
theorem ShelfOf.len {w : World} {s : ShL} {A : Option Addr} {n c : Nat} {l : List CellH} (h : ShelfOf w s A n c l) : s.cells.length = n := by
  rw [← h.dat, List.length_map]; exact h.cells.len
theorem ShelfOf.le30 {w : World} {s : ShL} {A : Option Addr} {n c : Nat} {l : List CellH} (h : ShelfOf w s A n c l) : n ≤ 30 := by
  rw [← h.len]; exact h.small.1
theorem ShelfOf.data400 {w : World} {s : ShL} {A : Option Addr} {n c : Nat} {l : List CellH} (h : ShelfOf w s A n c l) : ∀ x ∈ l, x.m ≤ 400 := by
  intro x hx
  rw [← (h.cells.ok x hx).len]
  exact h.small.2 x.dat (by rw [← h.dat]; exact List.mem_map_of_mem hx)
section
variable {w : World}
set_option maxHeartbeats 1000000 in
theorem maycl_is (hc : ClsAt w) (k : Nat) (hk : k < 256) (gb : Nat) (hgb : w.cell? ⟨gb, 0, none⟩ = some (.int .u8 (k : Int))) (hlt : gb < w.heap.size) (x : CellH) (hx : CellOk w x) :
    Calls Tryd.prog 56 #[.agg (cellV x), .pointer (some ⟨gb, 0, none⟩)] w fun e w' => e = .returned (.bool (!cellOk k x.dat)) ∧ Below w.heap.size w w' := by
  obtain ⟨W, hW⟩ : ∃ W, W = w.alloc (.cells (cellV x) 41) := ⟨_, rfl⟩
  have hR := (Rows.start w).alloc (cellV x) 41
  rw [← hW] at hR
  obtain ⟨g, hg⟩ : ∃ g, g = w.heap.size := ⟨_, rfl⟩
  have HC : Hid (ClsAt W) := Lib.hid (hc.below hR.below)
  have d0 : W.cell? ⟨gb, 0, none⟩ = some (.int .u8 (k : Int)) := (hR.below.cell hlt).trans hgb
  rw [← hg] at hR
  have HR := Lib.hid hR
  have HW := Lib.hid hW
  have HG := Lib.hid hg
  obtain ⟨ser, A, m, c, data⟩ := x
  have hlen : data.length = m := hx.len
  have c0 : W.cell? ⟨g, 0, none⟩ = some (.int .u64 (ser : Int)) := HR.out.cell 0 0 rfl rfl
  have c1 : W.cell? ⟨g, 1, none⟩ = some (.slice A m c) := HR.out.cell 0 1 rfl rfl
  have HOF : Hid (∀ w', Below W.heap.size W w' → Calls Tryd.prog 28 #[.int .u8 (k : Int), .int .i64 (m : Int)] w' fun e w'' => e = .returned (.bool (ofL k (m : Int))) ∧ Below w'.heap.size w' w'') := Lib.hid (fun w' hb => of_is (HC.out.below hb) k hk m)
  have HF := Lib.hid hlen
  have hco : cellOk k (CellH.dat ⟨ser, A, m, c, data⟩) = if ser = 0 then decide (m = 0) else decide (ser ≤ 8796093022207) && ofL k (m : Int) := by
    unfold cellOk CellH.dat
    simp only [hlen]
    congr 1
    rw [← hlen, Bool.eq_iff_iff]
    simp
  rw [hco]
  clear hW hg hc hR hx hgb hco hlen
  by_cases h0 : ser = 0
  · subst h0
    rw [if_pos rfl]
    by_cases hm : m = 0
    · subst hm
      go_enter Tryd.func56, Tryd.ntmps56
      go_upto_region 1 with (fail)
      rw [← HW.out, ← HG.out]
      go_wp2_with fail
      go_ret
      exact ⟨rfl, HR.out.below⟩
    · have hm' : ((m : Int) == 0) = false := by simp; omega
      rw [decide_eq_false hm]
      clear hm
      go_enter Tryd.func56, Tryd.ntmps56
      go_upto_region 1 with (fail)
      rw [← HW.out, ← HG.out]
      go_wp2_with fail
      go_ret
      exact ⟨rfl, HR.out.below⟩
  · have h0' : ((ser : Int) == 0) = false := by simp; omega
    rw [if_neg h0]
    by_cases h1 : 8796093022207 < ser
    · have h1' : decide ((8796093022207 : Int) < (ser : Int)) = true := by simp; omega
      rw [show decide (ser ≤ 8796093022207) = false by simp; omega]
      clear h1 h0
      go_enter Tryd.func56, Tryd.ntmps56
      go_upto_region 1 with (fail)
      rw [← HW.out, ← HG.out]
      go_wp2_with fail
      go_ret
      exact ⟨rfl, HR.out.below⟩
    · have h1' : decide ((8796093022207 : Int) < (ser : Int)) = false := by simp; omega
      rw [show decide (ser ≤ 8796093022207) = true by simp; omega]
      clear h1 h0
      rw [Bool.true_and]
      generalize ofL k (m : Int) = o at HOF ⊢
      go_enter Tryd.func56, Tryd.ntmps56
      go_upto_region 1 with (fail)
      rw [← HW.out, ← HG.out]
      go_wp2_with fail
      refine (HOF.out _ (Below.refl _ _)).mono ?_
      rintro e w1 ⟨rfl, hb⟩
      have HB := Lib.hid (HR.out.call hb)
      clear hb
      go_wp2_with fail
      go_ret
      exact ⟨rfl, HB.out.below⟩
def IdxPost (ok : Bool) (w : World) (e : Ending) (w' : World) : Prop := ∃ z : Int, e = .returned (.int .i64 z) ∧ decide (0 ≤ z) = !ok ∧ Below w.heap.size w w'
set_option maxHeartbeats 1000000 in
theorem index_is (hc : ClsAt w) (k : Nat) (hk : k < 256) (gb : Nat) (hgb : w.cell? ⟨gb, 0, none⟩ = some (.int .u8 (k : Int))) (hlt : gb < w.heap.size) (A : Option Addr) (n c : Nat) (l : List CellH) (hl : CellsIn w A n l) (hn : n ≤ 30) :
    Calls Tryd.prog 77 #[.slice A n c, .func (.func 56) #[] #[.pointer (some ⟨gb, 0, none⟩)]] w fun e w' => IdxPost (cellsOk k (l.map CellH.dat)) w e w' := by
  have HC := Lib.hid hc
  have HGB := Lib.hid hgb
  have HLT := Lib.hid hlt
  have HL := Lib.hid hl
  clear hc hgb hlt hl
  go_enter Tryd.func77, Tryd.ntmps77
  go_wp2_with fail
  go_loopw [5, 8] (fun _ i wr => ∃ j : Nat, j ≤ n ∧ i = .int .i64 (j : Int) ∧ Below w.heap.size w wr ∧ cellsOk k ((l.map CellH.dat).take j) = true) (fun _ i _ => n - (intOf i).toNat)
  case atStart => exact ⟨0, by omega, rfl, Below.refl _ _, rfl⟩
  case round =>
    obtain ⟨j, hj, rfl, hb, hall⟩ := hrel
    have HB := Lib.hid hb
    have HA := Lib.hid hall
    clear hb hall
    by_cases hlt : j < n
    · have hjl : j < l.length := by rw [HL.out.len]; exact hlt
      obtain ⟨b, off, hA, hb, hr⟩ := HL.out.cells j hjl
      subst hA
      have hx := HL.out.ok _ (List.getElem_mem hjl)
      have hs : cellsOk k ((l.map CellH.dat).take (j + 1)) = cellOk k (l[j]).dat := by
        unfold cellsOk at HA ⊢
        rw [List.take_succ_eq_append_getElem (by rw [List.length_map]; exact hjl), List.all_append, HA.out]
        simp
      have ha : cellOk k (l[j]).dat = false → cellsOk k (l.map CellH.dat) = false := by
        intro h
        unfold cellsOk
        rw [List.all_eq_false]
        exact ⟨(l[j]).dat, List.mem_map_of_mem (List.getElem_mem hjl), by simpa using h⟩
      generalize l[j] = x at hr hx hs ha
      have HS := Lib.hid hs
      have HAL := Lib.hid ha
      have HX := Lib.hid (hx.below HB.out)
      have c0 : wr.cell? ⟨b, off + j * 2, none⟩ = some (.int .u64 (x.ser : Int)) := (HB.out.cell hb).trans (hr 0 _ (show (cellV x).toList[0]? = some (.int .u64 (x.ser : Int)) from rfl))
      have c1 : wr.cell? ⟨b, off + j * 2 + 1, none⟩ = some (.slice x.A x.m x.c) := (HB.out.cell hb).trans (hr 1 _ (show (cellV x).toList[1]? = some (.slice x.A x.m x.c) from rfl))
      clear hr hx hs ha hb
      go_wp2_with fail
      refine (maycl_is (HC.out.below HB.out) k hk gb ((HB.out.cell HLT.out).trans HGB.out) (Nat.lt_of_lt_of_le HLT.out HB.out.size) x HX.out).mono ?_
      rintro e w1 ⟨rfl, hb⟩
      have HB2 := Lib.hid (HB.out.trans (hb.mono HB.out.size))
      clear hb
      cases ho : cellOk k x.dat with
      | true =>
        rw [ho] at HS
        clear ho
        go_wp2_with fail
        go_roundw
        case rel => exact ⟨j + 1, by omega, by go_num, HB2.out, HS.out⟩
        case measure => simp [intOf]; omega
      | false =>
        have HF := Lib.hid (HAL.out ho)
        clear ho
        go_wp2_with fail
        go_ret
        exact ⟨j, rfl, by rw [HF.out]; simp, HB2.out⟩
    · obtain rfl : j = n := by omega
      have HF : Hid (cellsOk k (l.map CellH.dat) = true) := Lib.hid (by
        have := HA.out
        rw [List.take_of_length_le (by rw [List.length_map, HL.out.len]; omega)] at this
        exact this)
      go_wp2_with fail
      go_ret
      exact ⟨-1, rfl, by rw [HF.out]; rfl, HB.out⟩
theorem contains_is (hc : ClsAt w) (k : Nat) (hk : k < 256) (gb : Nat) (hgb : w.cell? ⟨gb, 0, none⟩ = some (.int .u8 (k : Int))) (hlt : gb < w.heap.size) (A : Option Addr) (n c : Nat) (l : List CellH) (hl : CellsIn w A n l) (hn : n ≤ 30) :
    Calls Tryd.prog 55 #[.slice A n c, .func (.func 56) #[] #[.pointer (some ⟨gb, 0, none⟩)]] w fun e w' => e = .returned (.bool (!cellsOk k (l.map CellH.dat))) ∧ Below w.heap.size w w' := by
  have HI := Lib.hid (index_is hc k hk gb hgb hlt A n c l hl hn)
  clear hc hgb hlt hl
  go_enter Tryd.func55, Tryd.ntmps55
  go_wp2_with fail
  refine HI.out.mono ?_
  rintro e w1 ⟨z, rfl, hz, hb⟩
  have HB := Lib.hid hb
  have HZ := Lib.hid hz
  clear hb hz
  go_wp2_with fail
  go_ret
  exact ⟨by rw [← HZ.out]; rfl, HB.out⟩
section
variable {P : Program} {ops : Array Oper} {C : World → Prop} {o : Oper} {a : Act} {rest : List Oper} {Q : Act → Prop}
theorem wk_max16 (x y : Operand) (ts : Array TypeId) (m n : Int) (hw : Region.wanted o (yielded ops a.tmps) = true) (ho : o.op = .call { callee := .builtin .max, args := #[x, y], argTypes := ts })
    (hx : a.eval x = .int .u16 m) (hy : a.eval y = .int .u16 n) (h : WQ P ops C Q rest (a.put o.dst (.int .u16 (max m n)))) : WQ P ops C Q (o :: rest) a :=
  wk_val _ hw (fun w _ => by
    unfold execOp
    simp [ho, hx, hy, resolve, invoke, builtin, Builtin.max_, Builtin.max2]
    split <;> omega) h
end
set_option maxHeartbeats 1000000 in
theorem may_is (hc : ClsAt w) {s : ShL} {v : Value} (hs : ShelfIn w v s) :
    Calls Tryd.prog 27 #[v] w fun e w' => e = .returned (.bool (mayL s)) ∧ Below w.heap.size w w' := by
  obtain ⟨A, n, c, l, rfl, hs⟩ := hs
  obtain ⟨W, hW⟩ : ∃ W, W = w.alloc (.cells (shV s A n c) 25) := ⟨_, rfl⟩
  have hR := (Rows.start w).alloc (shV s A n c) 25
  rw [← hW] at hR
  obtain ⟨g, hg⟩ : ∃ g, g = w.heap.size := ⟨_, rfl⟩
  have HC : Hid (ClsAt W) := Lib.hid (hc.below hR.below)
  have HSH : Hid (ShelfOf W s A n c l) := Lib.hid (hs.below hR.below)
  rw [← hg] at hR
  have HR := Lib.hid hR
  have HW := Lib.hid hW
  have HG := Lib.hid hg
  have hcl := hs.cl
  have hn := hs.le30
  have hlen := hs.len
  have C0 : Hid (W.cell? ⟨g, 0, none⟩ = some (.int .u8 (s.cl : Int))) := Lib.hid (HR.out.cell 0 0 rfl rfl)
  have C1 : Hid (W.cell? ⟨g, 1, none⟩ = some (.int .u16 (s.prev : Int))) := Lib.hid (HR.out.cell 0 1 rfl rfl)
  have C2 : Hid (W.cell? ⟨g, 2, none⟩ = some (.int .u16 (s.next : Int))) := Lib.hid (HR.out.cell 0 2 rfl rfl)
  have C3 : Hid (W.cell? ⟨g, 3, none⟩ = some (.slice A n c)) := Lib.hid (HR.out.cell 0 3 rfl rfl)
  have HP : Hid (∀ w', Since W w' → Calls Tryd.prog 17 #[.int .u8 (s.cl : Int)] w' fun e w'' => e = .returned (.int .i64 (placesL s.cl : Int)) ∧ Below w'.heap.size w' w'') := Lib.hid (fun w' hb => places_is (HC.out.below hb) s.cl hcl)
  have HCT : Hid (∀ w', Since W w' → Calls Tryd.prog 55 #[.slice A n c, .func (.func 56) #[] #[.pointer (some ⟨g, 0, none⟩)]] w' fun e w'' => e = .returned (.bool (!cellsOk s.cl s.cells)) ∧ Below w'.heap.size w' w'') := Lib.hid (fun w' hb => by
    have := contains_is (HC.out.below hb) s.cl hcl g (hb.cell C0.out) (Nat.lt_of_lt_of_le (HR.out.lt 0 rfl) (show Below W.heap.size W w' from hb).size) A n c l (HSH.out.cells.below hb) hn
    rwa [hs.dat] at this)
  have hmf : ∀ (fn : Fn) (first cap : Array Value) (w : World), (Instr.makeFunc fn first cap).run Tryd.prog w = .ok (.func fn first cap) w := fun _ _ _ _ => rfl
  obtain ⟨p, hp⟩ : ∃ p, p = placesL s.cl := ⟨_, rfl⟩
  rw [← hp] at HP
  have hho : headOk s = (decide (p ≠ 0) && decide (n = p) && decide (s.prev < 32768 ∧ s.next < 32768)) := by unfold headOk; rw [hlen, ← hp]
  unfold mayL
  rw [hho]
  generalize cellsOk s.cl s.cells = ok at HCT ⊢
  have HH := Lib.hid hho
  clear hW hg hc hR hs hlen hho hp
  have HFIN : Hid (∀ W' : World, Since W W' → Below w.heap.size w W') := Lib.hid (fun _ h => (HR.out.since h).below)
  by_cases h0 : p = 0
  · subst h0
    go_enter Tryd.func27, Tryd.ntmps27
    go_upto_region 1 with (fail)
    rw [← HW.out, ← HG.out]
    refine wk_region_since (by kernel_rfl) (by kernel_rfl) ?_
    refine wk_field 25 _ 5 0 0 _ _ _ (by first | exact wanted_none rfl | exact wanted_yes _ _ rfl rfl) rfl (by kernel_rfl) (by kernel_rfl) (by kernel_rfl) rfl ?_
    simp only [Act.put, List.setIfInBounds_toArray, List.set_cons_zero, List.set_cons_succ, Nat.zero_add]
    refine wk_load1 _ _ _ _ _ rfl (by kernel_rfl) rfl rfl (fun w' hC => hC.cell C0.out) Tryd.underlying5 ?_
    simp only [Act.put, List.setIfInBounds_toArray, List.set_cons_zero, List.set_cons_succ]
    refine wk_call 17 _ _ _ _ _ (by kernel_rfl) rfl Tryd.func17 rfl (by kernel_rfl) (fun w' hC => hC.call (HP.out w' hC)) ?_
    simp only [Act.put, List.setIfInBounds_toArray, List.set_cons_zero, List.set_cons_succ]
    refine wk_eql_int true _ _ _ _ _ _ _ (by kernel_rfl) rfl rfl rfl (by decide) ?_
    simp only [Act.put, List.setIfInBounds_toArray, List.set_cons_zero, List.set_cons_succ]
    repeat (first
      | (refine wk_move _ (by first | exact wanted_none rfl | exact wanted_yes _ _ rfl rfl) rfl ?_; simp only [Act.put, Act.eval, Array.getD_eq_getD_getElem?, List.getElem?_toArray, List.getElem?_cons_succ, List.getElem?_cons_zero, Option.getD_some, List.setIfInBounds_toArray, List.set_cons_zero, List.set_cons_succ])
      | (refine wk_assign _ (by first | exact wanted_none rfl | exact wanted_yes _ _ rfl rfl) rfl ?_; simp only [Act.put, Act.eval, Array.getD_eq_getD_getElem?, List.getElem?_toArray, List.getElem?_cons_succ, List.getElem?_cons_zero, Option.getD_some, List.setIfInBounds_toArray, List.set_cons_zero, List.set_cons_succ])
      | (refine wk_pickt _ _ _ _ (by first | exact wanted_none rfl | exact wanted_yes _ _ rfl rfl) rfl rfl rfl ?_; simp only [Act.put, Act.eval, Array.getD_eq_getD_getElem?, List.getElem?_toArray, List.getElem?_cons_succ, List.getElem?_cons_zero, Option.getD_some, List.setIfInBounds_toArray, List.set_cons_zero, List.set_cons_succ])
      | (refine wk_pickf _ _ _ _ (by first | exact wanted_none rfl | exact wanted_yes _ _ rfl rfl) rfl rfl rfl ?_; simp only [Act.put, Act.eval, Array.getD_eq_getD_getElem?, List.getElem?_toArray, List.getElem?_cons_succ, List.getElem?_cons_zero, Option.getD_some, List.setIfInBounds_toArray, List.set_cons_zero, List.set_cons_succ])
      | (refine wk_skip (wanted_not _ true false rfl rfl rfl) ?_; simp only [Act.put, List.setIfInBounds_toArray, List.set_cons_zero, List.set_cons_succ])
      | (refine wk_skip (wanted_not _ false true rfl rfl rfl) ?_; simp only [Act.put, List.setIfInBounds_toArray, List.set_cons_zero, List.set_cons_succ])
      | (refine wk_skip (wanted_undef _ _ rfl rfl) ?_; simp only [Act.put, List.setIfInBounds_toArray, List.set_cons_zero, List.set_cons_succ])
      | (refine wk_not true _ _ (by first | exact wanted_none rfl | exact wanted_yes _ _ rfl rfl) rfl rfl ?_; simp only [Act.put, List.setIfInBounds_toArray, List.set_cons_zero, List.set_cons_succ])
      | (refine wk_not false _ _ (by first | exact wanted_none rfl | exact wanted_yes _ _ rfl rfl) rfl rfl ?_; simp only [Act.put, List.setIfInBounds_toArray, List.set_cons_zero, List.set_cons_succ]))
    refine wk_nil ?_
    intro w' hC
    have HB := Lib.hid (HFIN.out _ hC)
    clear hC
    go_wp2_with fail
    go_ret
    exact ⟨rfl, HB.out⟩
  · have h0' : ((p : Int) == 0) = false := by simp; omega
    have H0 := Lib.hid h0'
    by_cases h1 : n = p
    · subst h1
      by_cases h2 : s.prev < 32768 ∧ s.next < 32768
      · have HM : Hid (cmpInt .geq (max (s.prev : Int) (s.next : Int)) 32768 = some false) := Lib.hid (by simp [cmpInt]; omega)
        have hb : (decide (n ≠ 0) && decide (n = n) && decide (s.prev < 32768 ∧ s.next < 32768)) = true := by simp [h0, h2]
        rw [hb, Bool.true_and]
        clear hb h2
        go_enter Tryd.func27, Tryd.ntmps27
        go_upto_region 1 with (fail)
        rw [← HW.out, ← HG.out]
        refine wk_region_since (by kernel_rfl) (by kernel_rfl) ?_
        refine wk_field 25 _ 5 0 0 _ _ _ (by first | exact wanted_none rfl | exact wanted_yes _ _ rfl rfl) rfl (by kernel_rfl) (by kernel_rfl) (by kernel_rfl) rfl ?_
        simp only [Act.put, List.setIfInBounds_toArray, List.set_cons_zero, List.set_cons_succ, Nat.zero_add]
        refine wk_load1 _ _ _ _ _ rfl (by kernel_rfl) rfl rfl (fun w' hC => hC.cell C0.out) Tryd.underlying5 ?_
        simp only [Act.put, List.setIfInBounds_toArray, List.set_cons_zero, List.set_cons_succ]
        refine wk_call 17 _ _ _ _ _ (by kernel_rfl) rfl Tryd.func17 rfl (by kernel_rfl) (fun w' hC => hC.call (HP.out w' hC)) ?_
        simp only [Act.put, List.setIfInBounds_toArray, List.set_cons_zero, List.set_cons_succ]
        refine wk_eql_int false _ _ _ _ _ _ _ (by kernel_rfl) rfl rfl rfl (H0.out) ?_
        simp only [Act.put, List.setIfInBounds_toArray, List.set_cons_zero, List.set_cons_succ]
        repeat (first
          | (refine wk_move _ (by first | exact wanted_none rfl | exact wanted_yes _ _ rfl rfl) rfl ?_; simp only [Act.put, Act.eval, Array.getD_eq_getD_getElem?, List.getElem?_toArray, List.getElem?_cons_succ, List.getElem?_cons_zero, Option.getD_some, List.setIfInBounds_toArray, List.set_cons_zero, List.set_cons_succ])
          | (refine wk_assign _ (by first | exact wanted_none rfl | exact wanted_yes _ _ rfl rfl) rfl ?_; simp only [Act.put, Act.eval, Array.getD_eq_getD_getElem?, List.getElem?_toArray, List.getElem?_cons_succ, List.getElem?_cons_zero, Option.getD_some, List.setIfInBounds_toArray, List.set_cons_zero, List.set_cons_succ])
          | (refine wk_pickt _ _ _ _ (by first | exact wanted_none rfl | exact wanted_yes _ _ rfl rfl) rfl rfl rfl ?_; simp only [Act.put, Act.eval, Array.getD_eq_getD_getElem?, List.getElem?_toArray, List.getElem?_cons_succ, List.getElem?_cons_zero, Option.getD_some, List.setIfInBounds_toArray, List.set_cons_zero, List.set_cons_succ])
          | (refine wk_pickf _ _ _ _ (by first | exact wanted_none rfl | exact wanted_yes _ _ rfl rfl) rfl rfl rfl ?_; simp only [Act.put, Act.eval, Array.getD_eq_getD_getElem?, List.getElem?_toArray, List.getElem?_cons_succ, List.getElem?_cons_zero, Option.getD_some, List.setIfInBounds_toArray, List.set_cons_zero, List.set_cons_succ])
          | (refine wk_skip (wanted_not _ true false rfl rfl rfl) ?_; simp only [Act.put, List.setIfInBounds_toArray, List.set_cons_zero, List.set_cons_succ])
          | (refine wk_skip (wanted_not _ false true rfl rfl rfl) ?_; simp only [Act.put, List.setIfInBounds_toArray, List.set_cons_zero, List.set_cons_succ])
          | (refine wk_skip (wanted_undef _ _ rfl rfl) ?_; simp only [Act.put, List.setIfInBounds_toArray, List.set_cons_zero, List.set_cons_succ])
          | (refine wk_not true _ _ (by first | exact wanted_none rfl | exact wanted_yes _ _ rfl rfl) rfl rfl ?_; simp only [Act.put, List.setIfInBounds_toArray, List.set_cons_zero, List.set_cons_succ])
          | (refine wk_not false _ _ (by first | exact wanted_none rfl | exact wanted_yes _ _ rfl rfl) rfl rfl ?_; simp only [Act.put, List.setIfInBounds_toArray, List.set_cons_zero, List.set_cons_succ]))
        refine wk_field 25 _ 23 3 0 _ _ _ (by first | exact wanted_none rfl | exact wanted_yes _ _ rfl rfl) rfl (by kernel_rfl) (by kernel_rfl) (by kernel_rfl) rfl ?_
        simp only [Act.put, List.setIfInBounds_toArray, List.set_cons_zero, List.set_cons_succ, Nat.zero_add]
        refine wk_load1 _ _ _ _ _ rfl (by kernel_rfl) rfl rfl (fun w' hC => hC.cell C3.out) Tryd.underlying23 ?_
        simp only [Act.put, List.setIfInBounds_toArray, List.set_cons_zero, List.set_cons_succ]
        refine wk_len_slice _ _ _ _ _ _ Tryd.underlying23 (by kernel_rfl) rfl rfl ?_
        simp only [Act.put, List.setIfInBounds_toArray, List.set_cons_zero, List.set_cons_succ]
        refine wk_field 25 _ 5 0 0 _ _ _ (by first | exact wanted_none rfl | exact wanted_yes _ _ rfl rfl) rfl (by kernel_rfl) (by kernel_rfl) (by kernel_rfl) rfl ?_
        simp only [Act.put, List.setIfInBounds_toArray, List.set_cons_zero, List.set_cons_succ, Nat.zero_add]
        refine wk_load1 _ _ _ _ _ rfl (by kernel_rfl) rfl rfl (fun w' hC => hC.cell C0.out) Tryd.underlying5 ?_
        simp only [Act.put, List.setIfInBounds_toArray, List.set_cons_zero, List.set_cons_succ]
        refine wk_call 17 _ _ _ _ _ (by kernel_rfl) rfl Tryd.func17 rfl (by kernel_rfl) (fun w' hC => hC.call (HP.out w' hC)) ?_
        simp only [Act.put, List.setIfInBounds_toArray, List.set_cons_zero, List.set_cons_succ]
        refine wk_cmp_int .neq (false) _ _ _ _ _ _ _ (by kernel_rfl) rfl rfl rfl (by simp [cmpInt]) ?_
        simp only [Act.put, List.setIfInBounds_toArray, List.set_cons_zero, List.set_cons_succ]
        repeat (first
          | (refine wk_move _ (by first | exact wanted_none rfl | exact wanted_yes _ _ rfl rfl) rfl ?_; simp only [Act.put, Act.eval, Array.getD_eq_getD_getElem?, List.getElem?_toArray, List.getElem?_cons_succ, List.getElem?_cons_zero, Option.getD_some, List.setIfInBounds_toArray, List.set_cons_zero, List.set_cons_succ])
          | (refine wk_assign _ (by first | exact wanted_none rfl | exact wanted_yes _ _ rfl rfl) rfl ?_; simp only [Act.put, Act.eval, Array.getD_eq_getD_getElem?, List.getElem?_toArray, List.getElem?_cons_succ, List.getElem?_cons_zero, Option.getD_some, List.setIfInBounds_toArray, List.set_cons_zero, List.set_cons_succ])
          | (refine wk_pickt _ _ _ _ (by first | exact wanted_none rfl | exact wanted_yes _ _ rfl rfl) rfl rfl rfl ?_; simp only [Act.put, Act.eval, Array.getD_eq_getD_getElem?, List.getElem?_toArray, List.getElem?_cons_succ, List.getElem?_cons_zero, Option.getD_some, List.setIfInBounds_toArray, List.set_cons_zero, List.set_cons_succ])
          | (refine wk_pickf _ _ _ _ (by first | exact wanted_none rfl | exact wanted_yes _ _ rfl rfl) rfl rfl rfl ?_; simp only [Act.put, Act.eval, Array.getD_eq_getD_getElem?, List.getElem?_toArray, List.getElem?_cons_succ, List.getElem?_cons_zero, Option.getD_some, List.setIfInBounds_toArray, List.set_cons_zero, List.set_cons_succ])
          | (refine wk_skip (wanted_not _ true false rfl rfl rfl) ?_; simp only [Act.put, List.setIfInBounds_toArray, List.set_cons_zero, List.set_cons_succ])
          | (refine wk_skip (wanted_not _ false true rfl rfl rfl) ?_; simp only [Act.put, List.setIfInBounds_toArray, List.set_cons_zero, List.set_cons_succ])
          | (refine wk_skip (wanted_undef _ _ rfl rfl) ?_; simp only [Act.put, List.setIfInBounds_toArray, List.set_cons_zero, List.set_cons_succ])
          | (refine wk_not true _ _ (by first | exact wanted_none rfl | exact wanted_yes _ _ rfl rfl) rfl rfl ?_; simp only [Act.put, List.setIfInBounds_toArray, List.set_cons_zero, List.set_cons_succ])
          | (refine wk_not false _ _ (by first | exact wanted_none rfl | exact wanted_yes _ _ rfl rfl) rfl rfl ?_; simp only [Act.put, List.setIfInBounds_toArray, List.set_cons_zero, List.set_cons_succ]))
        refine wk_field 25 _ 22 1 0 _ _ _ (by first | exact wanted_none rfl | exact wanted_yes _ _ rfl rfl) rfl (by kernel_rfl) (by kernel_rfl) (by kernel_rfl) rfl ?_
        simp only [Act.put, List.setIfInBounds_toArray, List.set_cons_zero, List.set_cons_succ, Nat.zero_add]
        refine wk_load1 _ _ _ _ _ rfl (by kernel_rfl) rfl rfl (fun w' hC => hC.cell C1.out) Tryd.underlying22 ?_
        simp only [Act.put, List.setIfInBounds_toArray, List.set_cons_zero, List.set_cons_succ]
        refine wk_field 25 _ 22 2 0 _ _ _ (by first | exact wanted_none rfl | exact wanted_yes _ _ rfl rfl) rfl (by kernel_rfl) (by kernel_rfl) (by kernel_rfl) rfl ?_
        simp only [Act.put, List.setIfInBounds_toArray, List.set_cons_zero, List.set_cons_succ, Nat.zero_add]
        refine wk_load1 _ _ _ _ _ rfl (by kernel_rfl) rfl rfl (fun w' hC => hC.cell C2.out) Tryd.underlying22 ?_
        simp only [Act.put, List.setIfInBounds_toArray, List.set_cons_zero, List.set_cons_succ]
        refine wk_max16 _ _ _ _ _ (by first | exact wanted_none rfl | exact wanted_yes _ _ rfl rfl) rfl rfl rfl ?_
        simp only [Act.put, List.setIfInBounds_toArray, List.set_cons_zero, List.set_cons_succ]
        refine wk_cmp_int .geq (false) _ _ _ _ _ _ _ (by kernel_rfl) rfl rfl rfl (HM.out) ?_
        simp only [Act.put, List.setIfInBounds_toArray, List.set_cons_zero, List.set_cons_succ]
        repeat (first
          | (refine wk_move _ (by first | exact wanted_none rfl | exact wanted_yes _ _ rfl rfl) rfl ?_; simp only [Act.put, Act.eval, Array.getD_eq_getD_getElem?, List.getElem?_toArray, List.getElem?_cons_succ, List.getElem?_cons_zero, Option.getD_some, List.setIfInBounds_toArray, List.set_cons_zero, List.set_cons_succ])
          | (refine wk_assign _ (by first | exact wanted_none rfl | exact wanted_yes _ _ rfl rfl) rfl ?_; simp only [Act.put, Act.eval, Array.getD_eq_getD_getElem?, List.getElem?_toArray, List.getElem?_cons_succ, List.getElem?_cons_zero, Option.getD_some, List.setIfInBounds_toArray, List.set_cons_zero, List.set_cons_succ])
          | (refine wk_pickt _ _ _ _ (by first | exact wanted_none rfl | exact wanted_yes _ _ rfl rfl) rfl rfl rfl ?_; simp only [Act.put, Act.eval, Array.getD_eq_getD_getElem?, List.getElem?_toArray, List.getElem?_cons_succ, List.getElem?_cons_zero, Option.getD_some, List.setIfInBounds_toArray, List.set_cons_zero, List.set_cons_succ])
          | (refine wk_pickf _ _ _ _ (by first | exact wanted_none rfl | exact wanted_yes _ _ rfl rfl) rfl rfl rfl ?_; simp only [Act.put, Act.eval, Array.getD_eq_getD_getElem?, List.getElem?_toArray, List.getElem?_cons_succ, List.getElem?_cons_zero, Option.getD_some, List.setIfInBounds_toArray, List.set_cons_zero, List.set_cons_succ])
          | (refine wk_skip (wanted_not _ true false rfl rfl rfl) ?_; simp only [Act.put, List.setIfInBounds_toArray, List.set_cons_zero, List.set_cons_succ])
          | (refine wk_skip (wanted_not _ false true rfl rfl rfl) ?_; simp only [Act.put, List.setIfInBounds_toArray, List.set_cons_zero, List.set_cons_succ])
          | (refine wk_skip (wanted_undef _ _ rfl rfl) ?_; simp only [Act.put, List.setIfInBounds_toArray, List.set_cons_zero, List.set_cons_succ])
          | (refine wk_not true _ _ (by first | exact wanted_none rfl | exact wanted_yes _ _ rfl rfl) rfl rfl ?_; simp only [Act.put, List.setIfInBounds_toArray, List.set_cons_zero, List.set_cons_succ])
          | (refine wk_not false _ _ (by first | exact wanted_none rfl | exact wanted_yes _ _ rfl rfl) rfl rfl ?_; simp only [Act.put, List.setIfInBounds_toArray, List.set_cons_zero, List.set_cons_succ]))
        refine wk_nil ?_
        intro w' hC
        have c3 := hC.cell C3.out
        have HB := Lib.hid hC
        clear hC
        go_wp2_with fail
        refine (HCT.out _ HB.out).mono ?_
        rintro e w1 ⟨rfl, hb⟩
        have HB1 := Lib.hid (HFIN.out _ ((show Below W.heap.size W _ from HB.out).trans (hb.mono (show Below W.heap.size W _ from HB.out).size)))
        clear hb c3
        go_wp2_with fail
        go_ret
        exact ⟨by simp, HB1.out⟩
      · have HM : Hid (cmpInt .geq (max (s.prev : Int) (s.next : Int)) 32768 = some true) := Lib.hid (by simp [cmpInt]; omega)
        have hb : (decide (n ≠ 0) && decide (n = n) && decide (s.prev < 32768 ∧ s.next < 32768)) = false := by simp; intro _ ; omega
        rw [hb, Bool.false_and]
        clear hb h2
        go_enter Tryd.func27, Tryd.ntmps27
        go_upto_region 1 with (fail)
        rw [← HW.out, ← HG.out]
        refine wk_region_since (by kernel_rfl) (by kernel_rfl) ?_
        refine wk_field 25 _ 5 0 0 _ _ _ (by first | exact wanted_none rfl | exact wanted_yes _ _ rfl rfl) rfl (by kernel_rfl) (by kernel_rfl) (by kernel_rfl) rfl ?_
        simp only [Act.put, List.setIfInBounds_toArray, List.set_cons_zero, List.set_cons_succ, Nat.zero_add]
        refine wk_load1 _ _ _ _ _ rfl (by kernel_rfl) rfl rfl (fun w' hC => hC.cell C0.out) Tryd.underlying5 ?_
        simp only [Act.put, List.setIfInBounds_toArray, List.set_cons_zero, List.set_cons_succ]
        refine wk_call 17 _ _ _ _ _ (by kernel_rfl) rfl Tryd.func17 rfl (by kernel_rfl) (fun w' hC => hC.call (HP.out w' hC)) ?_
        simp only [Act.put, List.setIfInBounds_toArray, List.set_cons_zero, List.set_cons_succ]
        refine wk_eql_int false _ _ _ _ _ _ _ (by kernel_rfl) rfl rfl rfl (H0.out) ?_
        simp only [Act.put, List.setIfInBounds_toArray, List.set_cons_zero, List.set_cons_succ]
        repeat (first
          | (refine wk_move _ (by first | exact wanted_none rfl | exact wanted_yes _ _ rfl rfl) rfl ?_; simp only [Act.put, Act.eval, Array.getD_eq_getD_getElem?, List.getElem?_toArray, List.getElem?_cons_succ, List.getElem?_cons_zero, Option.getD_some, List.setIfInBounds_toArray, List.set_cons_zero, List.set_cons_succ])
          | (refine wk_assign _ (by first | exact wanted_none rfl | exact wanted_yes _ _ rfl rfl) rfl ?_; simp only [Act.put, Act.eval, Array.getD_eq_getD_getElem?, List.getElem?_toArray, List.getElem?_cons_succ, List.getElem?_cons_zero, Option.getD_some, List.setIfInBounds_toArray, List.set_cons_zero, List.set_cons_succ])
          | (refine wk_pickt _ _ _ _ (by first | exact wanted_none rfl | exact wanted_yes _ _ rfl rfl) rfl rfl rfl ?_; simp only [Act.put, Act.eval, Array.getD_eq_getD_getElem?, List.getElem?_toArray, List.getElem?_cons_succ, List.getElem?_cons_zero, Option.getD_some, List.setIfInBounds_toArray, List.set_cons_zero, List.set_cons_succ])
          | (refine wk_pickf _ _ _ _ (by first | exact wanted_none rfl | exact wanted_yes _ _ rfl rfl) rfl rfl rfl ?_; simp only [Act.put, Act.eval, Array.getD_eq_getD_getElem?, List.getElem?_toArray, List.getElem?_cons_succ, List.getElem?_cons_zero, Option.getD_some, List.setIfInBounds_toArray, List.set_cons_zero, List.set_cons_succ])
          | (refine wk_skip (wanted_not _ true false rfl rfl rfl) ?_; simp only [Act.put, List.setIfInBounds_toArray, List.set_cons_zero, List.set_cons_succ])
          | (refine wk_skip (wanted_not _ false true rfl rfl rfl) ?_; simp only [Act.put, List.setIfInBounds_toArray, List.set_cons_zero, List.set_cons_succ])
          | (refine wk_skip (wanted_undef _ _ rfl rfl) ?_; simp only [Act.put, List.setIfInBounds_toArray, List.set_cons_zero, List.set_cons_succ])
          | (refine wk_not true _ _ (by first | exact wanted_none rfl | exact wanted_yes _ _ rfl rfl) rfl rfl ?_; simp only [Act.put, List.setIfInBounds_toArray, List.set_cons_zero, List.set_cons_succ])
          | (refine wk_not false _ _ (by first | exact wanted_none rfl | exact wanted_yes _ _ rfl rfl) rfl rfl ?_; simp only [Act.put, List.setIfInBounds_toArray, List.set_cons_zero, List.set_cons_succ]))
        refine wk_field 25 _ 23 3 0 _ _ _ (by first | exact wanted_none rfl | exact wanted_yes _ _ rfl rfl) rfl (by kernel_rfl) (by kernel_rfl) (by kernel_rfl) rfl ?_
        simp only [Act.put, List.setIfInBounds_toArray, List.set_cons_zero, List.set_cons_succ, Nat.zero_add]
        refine wk_load1 _ _ _ _ _ rfl (by kernel_rfl) rfl rfl (fun w' hC => hC.cell C3.out) Tryd.underlying23 ?_
        simp only [Act.put, List.setIfInBounds_toArray, List.set_cons_zero, List.set_cons_succ]
        refine wk_len_slice _ _ _ _ _ _ Tryd.underlying23 (by kernel_rfl) rfl rfl ?_
        simp only [Act.put, List.setIfInBounds_toArray, List.set_cons_zero, List.set_cons_succ]
        refine wk_field 25 _ 5 0 0 _ _ _ (by first | exact wanted_none rfl | exact wanted_yes _ _ rfl rfl) rfl (by kernel_rfl) (by kernel_rfl) (by kernel_rfl) rfl ?_
        simp only [Act.put, List.setIfInBounds_toArray, List.set_cons_zero, List.set_cons_succ, Nat.zero_add]
        refine wk_load1 _ _ _ _ _ rfl (by kernel_rfl) rfl rfl (fun w' hC => hC.cell C0.out) Tryd.underlying5 ?_
        simp only [Act.put, List.setIfInBounds_toArray, List.set_cons_zero, List.set_cons_succ]
        refine wk_call 17 _ _ _ _ _ (by kernel_rfl) rfl Tryd.func17 rfl (by kernel_rfl) (fun w' hC => hC.call (HP.out w' hC)) ?_
        simp only [Act.put, List.setIfInBounds_toArray, List.set_cons_zero, List.set_cons_succ]
        refine wk_cmp_int .neq (false) _ _ _ _ _ _ _ (by kernel_rfl) rfl rfl rfl (by simp [cmpInt]) ?_
        simp only [Act.put, List.setIfInBounds_toArray, List.set_cons_zero, List.set_cons_succ]
        repeat (first
          | (refine wk_move _ (by first | exact wanted_none rfl | exact wanted_yes _ _ rfl rfl) rfl ?_; simp only [Act.put, Act.eval, Array.getD_eq_getD_getElem?, List.getElem?_toArray, List.getElem?_cons_succ, List.getElem?_cons_zero, Option.getD_some, List.setIfInBounds_toArray, List.set_cons_zero, List.set_cons_succ])
          | (refine wk_assign _ (by first | exact wanted_none rfl | exact wanted_yes _ _ rfl rfl) rfl ?_; simp only [Act.put, Act.eval, Array.getD_eq_getD_getElem?, List.getElem?_toArray, List.getElem?_cons_succ, List.getElem?_cons_zero, Option.getD_some, List.setIfInBounds_toArray, List.set_cons_zero, List.set_cons_succ])
          | (refine wk_pickt _ _ _ _ (by first | exact wanted_none rfl | exact wanted_yes _ _ rfl rfl) rfl rfl rfl ?_; simp only [Act.put, Act.eval, Array.getD_eq_getD_getElem?, List.getElem?_toArray, List.getElem?_cons_succ, List.getElem?_cons_zero, Option.getD_some, List.setIfInBounds_toArray, List.set_cons_zero, List.set_cons_succ])
          | (refine wk_pickf _ _ _ _ (by first | exact wanted_none rfl | exact wanted_yes _ _ rfl rfl) rfl rfl rfl ?_; simp only [Act.put, Act.eval, Array.getD_eq_getD_getElem?, List.getElem?_toArray, List.getElem?_cons_succ, List.getElem?_cons_zero, Option.getD_some, List.setIfInBounds_toArray, List.set_cons_zero, List.set_cons_succ])
          | (refine wk_skip (wanted_not _ true false rfl rfl rfl) ?_; simp only [Act.put, List.setIfInBounds_toArray, List.set_cons_zero, List.set_cons_succ])
          | (refine wk_skip (wanted_not _ false true rfl rfl rfl) ?_; simp only [Act.put, List.setIfInBounds_toArray, List.set_cons_zero, List.set_cons_succ])
          | (refine wk_skip (wanted_undef _ _ rfl rfl) ?_; simp only [Act.put, List.setIfInBounds_toArray, List.set_cons_zero, List.set_cons_succ])
          | (refine wk_not true _ _ (by first | exact wanted_none rfl | exact wanted_yes _ _ rfl rfl) rfl rfl ?_; simp only [Act.put, List.setIfInBounds_toArray, List.set_cons_zero, List.set_cons_succ])
          | (refine wk_not false _ _ (by first | exact wanted_none rfl | exact wanted_yes _ _ rfl rfl) rfl rfl ?_; simp only [Act.put, List.setIfInBounds_toArray, List.set_cons_zero, List.set_cons_succ]))
        refine wk_field 25 _ 22 1 0 _ _ _ (by first | exact wanted_none rfl | exact wanted_yes _ _ rfl rfl) rfl (by kernel_rfl) (by kernel_rfl) (by kernel_rfl) rfl ?_
        simp only [Act.put, List.setIfInBounds_toArray, List.set_cons_zero, List.set_cons_succ, Nat.zero_add]
        refine wk_load1 _ _ _ _ _ rfl (by kernel_rfl) rfl rfl (fun w' hC => hC.cell C1.out) Tryd.underlying22 ?_
        simp only [Act.put, List.setIfInBounds_toArray, List.set_cons_zero, List.set_cons_succ]
        refine wk_field 25 _ 22 2 0 _ _ _ (by first | exact wanted_none rfl | exact wanted_yes _ _ rfl rfl) rfl (by kernel_rfl) (by kernel_rfl) (by kernel_rfl) rfl ?_
        simp only [Act.put, List.setIfInBounds_toArray, List.set_cons_zero, List.set_cons_succ, Nat.zero_add]
        refine wk_load1 _ _ _ _ _ rfl (by kernel_rfl) rfl rfl (fun w' hC => hC.cell C2.out) Tryd.underlying22 ?_
        simp only [Act.put, List.setIfInBounds_toArray, List.set_cons_zero, List.set_cons_succ]
        refine wk_max16 _ _ _ _ _ (by first | exact wanted_none rfl | exact wanted_yes _ _ rfl rfl) rfl rfl rfl ?_
        simp only [Act.put, List.setIfInBounds_toArray, List.set_cons_zero, List.set_cons_succ]
        refine wk_cmp_int .geq (true) _ _ _ _ _ _ _ (by kernel_rfl) rfl rfl rfl (HM.out) ?_
        simp only [Act.put, List.setIfInBounds_toArray, List.set_cons_zero, List.set_cons_succ]
        repeat (first
          | (refine wk_move _ (by first | exact wanted_none rfl | exact wanted_yes _ _ rfl rfl) rfl ?_; simp only [Act.put, Act.eval, Array.getD_eq_getD_getElem?, List.getElem?_toArray, List.getElem?_cons_succ, List.getElem?_cons_zero, Option.getD_some, List.setIfInBounds_toArray, List.set_cons_zero, List.set_cons_succ])
          | (refine wk_assign _ (by first | exact wanted_none rfl | exact wanted_yes _ _ rfl rfl) rfl ?_; simp only [Act.put, Act.eval, Array.getD_eq_getD_getElem?, List.getElem?_toArray, List.getElem?_cons_succ, List.getElem?_cons_zero, Option.getD_some, List.setIfInBounds_toArray, List.set_cons_zero, List.set_cons_succ])
          | (refine wk_pickt _ _ _ _ (by first | exact wanted_none rfl | exact wanted_yes _ _ rfl rfl) rfl rfl rfl ?_; simp only [Act.put, Act.eval, Array.getD_eq_getD_getElem?, List.getElem?_toArray, List.getElem?_cons_succ, List.getElem?_cons_zero, Option.getD_some, List.setIfInBounds_toArray, List.set_cons_zero, List.set_cons_succ])
          | (refine wk_pickf _ _ _ _ (by first | exact wanted_none rfl | exact wanted_yes _ _ rfl rfl) rfl rfl rfl ?_; simp only [Act.put, Act.eval, Array.getD_eq_getD_getElem?, List.getElem?_toArray, List.getElem?_cons_succ, List.getElem?_cons_zero, Option.getD_some, List.setIfInBounds_toArray, List.set_cons_zero, List.set_cons_succ])
          | (refine wk_skip (wanted_not _ true false rfl rfl rfl) ?_; simp only [Act.put, List.setIfInBounds_toArray, List.set_cons_zero, List.set_cons_succ])
          | (refine wk_skip (wanted_not _ false true rfl rfl rfl) ?_; simp only [Act.put, List.setIfInBounds_toArray, List.set_cons_zero, List.set_cons_succ])
          | (refine wk_skip (wanted_undef _ _ rfl rfl) ?_; simp only [Act.put, List.setIfInBounds_toArray, List.set_cons_zero, List.set_cons_succ])
          | (refine wk_not true _ _ (by first | exact wanted_none rfl | exact wanted_yes _ _ rfl rfl) rfl rfl ?_; simp only [Act.put, List.setIfInBounds_toArray, List.set_cons_zero, List.set_cons_succ])
          | (refine wk_not false _ _ (by first | exact wanted_none rfl | exact wanted_yes _ _ rfl rfl) rfl rfl ?_; simp only [Act.put, List.setIfInBounds_toArray, List.set_cons_zero, List.set_cons_succ]))
        refine wk_nil ?_
        intro w' hC
        have HB := Lib.hid (HFIN.out _ hC)
        clear hC
        go_wp2_with fail
        go_ret
        exact ⟨rfl, HB.out⟩
    · have HM : Hid (cmpInt .neq (n : Int) (p : Int) = some true) := Lib.hid (by simp [cmpInt]; omega)
      have hb : (decide (p ≠ 0) && decide (n = p) && decide (s.prev < 32768 ∧ s.next < 32768)) = false := by simp [h1]
      rw [hb, Bool.false_and]
      clear hb h1
      go_enter Tryd.func27, Tryd.ntmps27
      go_upto_region 1 with (fail)
      rw [← HW.out, ← HG.out]
      refine wk_region_since (by kernel_rfl) (by kernel_rfl) ?_
      refine wk_field 25 _ 5 0 0 _ _ _ (by first | exact wanted_none rfl | exact wanted_yes _ _ rfl rfl) rfl (by kernel_rfl) (by kernel_rfl) (by kernel_rfl) rfl ?_
      simp only [Act.put, List.setIfInBounds_toArray, List.set_cons_zero, List.set_cons_succ, Nat.zero_add]
      refine wk_load1 _ _ _ _ _ rfl (by kernel_rfl) rfl rfl (fun w' hC => hC.cell C0.out) Tryd.underlying5 ?_
      simp only [Act.put, List.setIfInBounds_toArray, List.set_cons_zero, List.set_cons_succ]
      refine wk_call 17 _ _ _ _ _ (by kernel_rfl) rfl Tryd.func17 rfl (by kernel_rfl) (fun w' hC => hC.call (HP.out w' hC)) ?_
      simp only [Act.put, List.setIfInBounds_toArray, List.set_cons_zero, List.set_cons_succ]
      refine wk_eql_int false _ _ _ _ _ _ _ (by kernel_rfl) rfl rfl rfl (H0.out) ?_
      simp only [Act.put, List.setIfInBounds_toArray, List.set_cons_zero, List.set_cons_succ]
      repeat (first
        | (refine wk_move _ (by first | exact wanted_none rfl | exact wanted_yes _ _ rfl rfl) rfl ?_; simp only [Act.put, Act.eval, Array.getD_eq_getD_getElem?, List.getElem?_toArray, List.getElem?_cons_succ, List.getElem?_cons_zero, Option.getD_some, List.setIfInBounds_toArray, List.set_cons_zero, List.set_cons_succ])
        | (refine wk_assign _ (by first | exact wanted_none rfl | exact wanted_yes _ _ rfl rfl) rfl ?_; simp only [Act.put, Act.eval, Array.getD_eq_getD_getElem?, List.getElem?_toArray, List.getElem?_cons_succ, List.getElem?_cons_zero, Option.getD_some, List.setIfInBounds_toArray, List.set_cons_zero, List.set_cons_succ])
        | (refine wk_pickt _ _ _ _ (by first | exact wanted_none rfl | exact wanted_yes _ _ rfl rfl) rfl rfl rfl ?_; simp only [Act.put, Act.eval, Array.getD_eq_getD_getElem?, List.getElem?_toArray, List.getElem?_cons_succ, List.getElem?_cons_zero, Option.getD_some, List.setIfInBounds_toArray, List.set_cons_zero, List.set_cons_succ])
        | (refine wk_pickf _ _ _ _ (by first | exact wanted_none rfl | exact wanted_yes _ _ rfl rfl) rfl rfl rfl ?_; simp only [Act.put, Act.eval, Array.getD_eq_getD_getElem?, List.getElem?_toArray, List.getElem?_cons_succ, List.getElem?_cons_zero, Option.getD_some, List.setIfInBounds_toArray, List.set_cons_zero, List.set_cons_succ])
        | (refine wk_skip (wanted_not _ true false rfl rfl rfl) ?_; simp only [Act.put, List.setIfInBounds_toArray, List.set_cons_zero, List.set_cons_succ])
        | (refine wk_skip (wanted_not _ false true rfl rfl rfl) ?_; simp only [Act.put, List.setIfInBounds_toArray, List.set_cons_zero, List.set_cons_succ])
        | (refine wk_skip (wanted_undef _ _ rfl rfl) ?_; simp only [Act.put, List.setIfInBounds_toArray, List.set_cons_zero, List.set_cons_succ])
        | (refine wk_not true _ _ (by first | exact wanted_none rfl | exact wanted_yes _ _ rfl rfl) rfl rfl ?_; simp only [Act.put, List.setIfInBounds_toArray, List.set_cons_zero, List.set_cons_succ])
        | (refine wk_not false _ _ (by first | exact wanted_none rfl | exact wanted_yes _ _ rfl rfl) rfl rfl ?_; simp only [Act.put, List.setIfInBounds_toArray, List.set_cons_zero, List.set_cons_succ]))
      refine wk_field 25 _ 23 3 0 _ _ _ (by first | exact wanted_none rfl | exact wanted_yes _ _ rfl rfl) rfl (by kernel_rfl) (by kernel_rfl) (by kernel_rfl) rfl ?_
      simp only [Act.put, List.setIfInBounds_toArray, List.set_cons_zero, List.set_cons_succ, Nat.zero_add]
      refine wk_load1 _ _ _ _ _ rfl (by kernel_rfl) rfl rfl (fun w' hC => hC.cell C3.out) Tryd.underlying23 ?_
      simp only [Act.put, List.setIfInBounds_toArray, List.set_cons_zero, List.set_cons_succ]
      refine wk_len_slice _ _ _ _ _ _ Tryd.underlying23 (by kernel_rfl) rfl rfl ?_
      simp only [Act.put, List.setIfInBounds_toArray, List.set_cons_zero, List.set_cons_succ]
      refine wk_field 25 _ 5 0 0 _ _ _ (by first | exact wanted_none rfl | exact wanted_yes _ _ rfl rfl) rfl (by kernel_rfl) (by kernel_rfl) (by kernel_rfl) rfl ?_
      simp only [Act.put, List.setIfInBounds_toArray, List.set_cons_zero, List.set_cons_succ, Nat.zero_add]
      refine wk_load1 _ _ _ _ _ rfl (by kernel_rfl) rfl rfl (fun w' hC => hC.cell C0.out) Tryd.underlying5 ?_
      simp only [Act.put, List.setIfInBounds_toArray, List.set_cons_zero, List.set_cons_succ]
      refine wk_call 17 _ _ _ _ _ (by kernel_rfl) rfl Tryd.func17 rfl (by kernel_rfl) (fun w' hC => hC.call (HP.out w' hC)) ?_
      simp only [Act.put, List.setIfInBounds_toArray, List.set_cons_zero, List.set_cons_succ]
      refine wk_cmp_int .neq (true) _ _ _ _ _ _ _ (by kernel_rfl) rfl rfl rfl (HM.out) ?_
      simp only [Act.put, List.setIfInBounds_toArray, List.set_cons_zero, List.set_cons_succ]
      repeat (first
        | (refine wk_move _ (by first | exact wanted_none rfl | exact wanted_yes _ _ rfl rfl) rfl ?_; simp only [Act.put, Act.eval, Array.getD_eq_getD_getElem?, List.getElem?_toArray, List.getElem?_cons_succ, List.getElem?_cons_zero, Option.getD_some, List.setIfInBounds_toArray, List.set_cons_zero, List.set_cons_succ])
        | (refine wk_assign _ (by first | exact wanted_none rfl | exact wanted_yes _ _ rfl rfl) rfl ?_; simp only [Act.put, Act.eval, Array.getD_eq_getD_getElem?, List.getElem?_toArray, List.getElem?_cons_succ, List.getElem?_cons_zero, Option.getD_some, List.setIfInBounds_toArray, List.set_cons_zero, List.set_cons_succ])
        | (refine wk_pickt _ _ _ _ (by first | exact wanted_none rfl | exact wanted_yes _ _ rfl rfl) rfl rfl rfl ?_; simp only [Act.put, Act.eval, Array.getD_eq_getD_getElem?, List.getElem?_toArray, List.getElem?_cons_succ, List.getElem?_cons_zero, Option.getD_some, List.setIfInBounds_toArray, List.set_cons_zero, List.set_cons_succ])
        | (refine wk_pickf _ _ _ _ (by first | exact wanted_none rfl | exact wanted_yes _ _ rfl rfl) rfl rfl rfl ?_; simp only [Act.put, Act.eval, Array.getD_eq_getD_getElem?, List.getElem?_toArray, List.getElem?_cons_succ, List.getElem?_cons_zero, Option.getD_some, List.setIfInBounds_toArray, List.set_cons_zero, List.set_cons_succ])
        | (refine wk_skip (wanted_not _ true false rfl rfl rfl) ?_; simp only [Act.put, List.setIfInBounds_toArray, List.set_cons_zero, List.set_cons_succ])
        | (refine wk_skip (wanted_not _ false true rfl rfl rfl) ?_; simp only [Act.put, List.setIfInBounds_toArray, List.set_cons_zero, List.set_cons_succ])
        | (refine wk_skip (wanted_undef _ _ rfl rfl) ?_; simp only [Act.put, List.setIfInBounds_toArray, List.set_cons_zero, List.set_cons_succ])
        | (refine wk_not true _ _ (by first | exact wanted_none rfl | exact wanted_yes _ _ rfl rfl) rfl rfl ?_; simp only [Act.put, List.setIfInBounds_toArray, List.set_cons_zero, List.set_cons_succ])
        | (refine wk_not false _ _ (by first | exact wanted_none rfl | exact wanted_yes _ _ rfl rfl) rfl rfl ?_; simp only [Act.put, List.setIfInBounds_toArray, List.set_cons_zero, List.set_cons_succ]))
      refine wk_nil ?_
      intro w' hC
      have HB := Lib.hid (HFIN.out _ hC)
      clear hC
      go_wp2_with fail
      go_ret
      exact ⟨rfl, HB.out⟩
end
end Go.Proofs.YtcepfmjebgklfaaDoor
namespace Go.Proofs.YtcepfmjebgklfaaDoor
open Go.RowKit
set_option linter.unusedSimpArgs false
set_option linter.unusedVariables false
set_option maxRecDepth 100000
section
variable {P : Program}
theorem run_bytes_in (w : World) (src dst e : TypeId) (A : Option Addr) (n c : Nat) (hs : P.underlying src = some (.slice e)) (he : P.underlying e = some (.int .u8)) (hd : P.underlying dst = some .string)
    (b : List UInt8) (hl : b.length = n) (h : BytesIn w A b) : (convert src dst (.slice A n c)).run P w = .ok (.string ⟨b.toArray⟩) w := by
  rcases h with rfl | ⟨g, off, rfl, h1, h2⟩
  · cases A with
    | some a => exact run_bytes_str w src dst e a n c hs he hd [] hl (fun j v hj => by simp at hj)
    | none =>
      rw [run_convert_bytes_string w src dst e _ _ _ hs he hd]
      rfl
  · refine run_bytes_str w src dst e _ n c hs he hd b hl (fun j v hj => ?_)
    have hjl : j < b.length := by
      apply Classical.byContradiction
      intro hh
      rw [List.getElem?_eq_none (by simp; omega)] at hj
      cases hj
    rw [Addr.add_lit, h2 j hjl]
    simpa using hj
end
theorem bytes_deq (a b : List UInt8) : (decide ((⟨a.toArray⟩ : ByteArray) = ⟨b.toArray⟩)) = decide (a = b) := by
  rw [decide_eq_decide]
  constructor
  · intro h; have := congrArg (fun z : ByteArray => z.data.toList) h; simpa using this
  · intro h; rw [h]
theorem toList_beq (s t : ByteArray) : (s.toList == t.toList) = decide (s = t) := by
  rw [Bool.eq_iff_iff, beq_iff_eq, decide_eq_true_eq]
  simp only [ByteArray.toList_eq]
  exact ⟨fun h => ByteArray.ext (Array.toList_inj.1 h), fun h => by rw [h]⟩
section
variable {w : World}
theorem bytesequal_is (A B : Option Addr) (n c m d : Nat) (a b : List UInt8) (hl : a.length = n) (hm : b.length = m) (ha : BytesIn w A a) (hb : BytesIn w B b) :
    Calls Tryd.prog 35 #[.slice A n c, .slice B m d] w fun e w' => e = .returned (.bool (decide (a = b))) ∧ w = w' := by
  have h1 := run_bytes_in (P := Tryd.prog) w 27 9 5 A n c Tryd.underlying27 Tryd.underlying5 Tryd.underlying9 a hl ha
  have h2 := run_bytes_in (P := Tryd.prog) w 27 9 5 B m d Tryd.underlying27 Tryd.underlying5 Tryd.underlying9 b hm hb
  have he := bytes_deq a b
  generalize (⟨a.toArray⟩ : ByteArray) = s at h1 he
  generalize (⟨b.toArray⟩ : ByteArray) = t at h2 he
  rw [← he]
  clear hl hm ha hb he
  go_enter Tryd.func35, Tryd.ntmps35
  go_wp2_with fail
  go_ret
  exact ⟨by rw [← toList_beq]; rfl, rfl⟩
theorem samecl_is (x y : CellH) (hx : CellOk w x) (hy : CellOk w y) :
    Calls Tryd.prog 34 #[.agg (cellV x), .agg (cellV y)] w fun e w' => e = .returned (.bool (decide (x.dat = y.dat))) ∧ Below w.heap.size w w' := by
  have hR := ((Rows.start w).alloc (cellV x) 41).alloc (cellV y) 41
  obtain ⟨W, hW⟩ : ∃ W, W = (w.alloc (.cells (cellV x) 41)).alloc (.cells (cellV y) 41) := ⟨_, rfl⟩
  obtain ⟨g1, hg1⟩ : ∃ g, g = w.heap.size := ⟨_, rfl⟩
  obtain ⟨g2, hg2⟩ : ∃ g, g = (w.alloc (.cells (cellV x) 41)).heap.size := ⟨_, rfl⟩
  rw [← hW, ← hg1, ← hg2] at hR
  have HR := Lib.hid hR
  have HW := Lib.hid hW
  have HG1 := Lib.hid hg1
  have HG2 := Lib.hid (show g2 = g1 + 1 by rw [hg2, hg1]; simp)
  have HX := Lib.hid (hx.below hR.below)
  have HY := Lib.hid (hy.below hR.below)
  obtain ⟨s, A, n, c, a⟩ := x
  obtain ⟨t, B, m, d, b⟩ := y
  have c0 : W.cell? ⟨g1, 0, none⟩ = some (.int .u64 (s : Int)) := hR.cell 1 0 rfl rfl
  have c1 : W.cell? ⟨g1, 1, none⟩ = some (.slice A n c) := hR.cell 1 1 rfl rfl
  have d0 : W.cell? ⟨g2, 0, none⟩ = some (.int .u64 (t : Int)) := hR.cell 0 0 rfl rfl
  have d1 : W.cell? ⟨g2, 1, none⟩ = some (.slice B m d) := hR.cell 0 1 rfl rfl
  have hd : decide (CellH.dat ⟨s, A, n, c, a⟩ = CellH.dat ⟨t, B, m, d, b⟩) = (((s : Int) == (t : Int)) && decide (a = b)) := by
    unfold CellH.dat
    rw [Bool.eq_iff_iff]
    simp
    intro _
    omega
  rw [hd]
  have HE : Hid (Calls Tryd.prog 35 #[.slice A n c, .slice B m d] W fun e w' => e = .returned (.bool (decide (a = b))) ∧ W = w') := Lib.hid (bytesequal_is A B n c m d a b HX.out.len HY.out.len HX.out.by_ HY.out.by_)
  generalize decide (a = b) = o at HE
  clear hR hW hg1 hg2 hx hy hd HX HY
  go_enter Tryd.func34, Tryd.ntmps34
  go_upto_region 1 with (fail)
  rw [← HW.out, ← HG1.out, ← HG2.out]
  by_cases h0 : ((s : Int) == (t : Int)) = true
  · go_wp2_with fail
    refine HE.out.mono ?_
    rintro e w1 ⟨rfl, rfl⟩
    go_wp2_with fail
    go_ret
    exact ⟨by simp [h0], HR.out.below⟩
  · have h0' : ((s : Int) == (t : Int)) = false := by simpa using h0
    clear h0
    have H0 := Lib.hid h0'
    go_wp2_with fail
    go_ret
    exact ⟨by rw [H0.out]; rfl, HR.out.below⟩
set_option maxHeartbeats 1000000 in
theorem equalfunc_is (A B : Option Addr) (n c m d : Nat) (l k : List CellH) (hl : CellsIn w A n l) (hk : CellsIn w B m k) (hn : n ≤ 30) (hm : m ≤ 30) :
    Calls Tryd.prog 33 #[.slice A n c, .slice B m d, .func (.func 34) #[] #[]] w fun e w' => e = .returned (.bool (decide (l.map CellH.dat = k.map CellH.dat))) ∧ Below w.heap.size w w' := by
  have HL := Lib.hid hl
  have HK := Lib.hid hk
  clear hl hk
  by_cases hnm : n = m
  · subst hnm
    go_enter Tryd.func33, Tryd.ntmps33
    go_wp2_with fail
    go_loopw [7, 8, 9, 17] (fun _ _ _ i wr => ∃ j : Nat, j ≤ n ∧ i = .int .i64 (j : Int) ∧ Rows w wr [] ∧ (l.map CellH.dat).take j = (k.map CellH.dat).take j) (fun _ _ _ i _ => n - (intOf i).toNat)
    case atStart => exact ⟨0, by omega, rfl, Rows.start _, rfl⟩
    case round =>
      obtain ⟨j, hj, rfl, hb, hall⟩ := hrel
      have HB := Lib.hid hb.below
      have HRR := Lib.hid hb
      have HA := Lib.hid hall
      clear hb hall
      by_cases hlt : j < n
      · have hjl : j < l.length := by rw [HL.out.len]; exact hlt
        have hjk : j < k.length := by rw [HK.out.len]; exact hlt
        obtain ⟨b, off, hA, hb, hr⟩ := HL.out.cells j hjl
        obtain ⟨b2, off2, hA2, hb2, hr2⟩ := HK.out.cells j hjk
        subst hA hA2
        have hx := HL.out.ok _ (List.getElem_mem hjl)
        have hy := HK.out.ok _ (List.getElem_mem hjk)
        have hs : (l[j]).dat = (k[j]).dat → (l.map CellH.dat).take (j + 1) = (k.map CellH.dat).take (j + 1) := by
          intro h
          rw [List.take_succ_eq_append_getElem (by rw [List.length_map]; exact hjl), List.take_succ_eq_append_getElem (by rw [List.length_map]; exact hjk), HA.out]
          simp [h]
        have ha : (l[j]).dat ≠ (k[j]).dat → l.map CellH.dat ≠ k.map CellH.dat := by
          intro h e
          apply h
          have := congrArg (·[j]?) e
          simpa [hjl, hjk] using this
        generalize l[j] = x at hr hx hs ha
        generalize k[j] = y at hr2 hy hs ha
        have HS := Lib.hid hs
        have HAL := Lib.hid ha
        have HX := Lib.hid hx
        have HY := Lib.hid hy
        have c0 : wr.cell? ⟨b, off + j * 2, none⟩ = some (.int .u64 (x.ser : Int)) := (HB.out.cell hb).trans (hr 0 _ (show (cellV x).toList[0]? = some (.int .u64 (x.ser : Int)) from rfl))
        have c1 : wr.cell? ⟨b, off + j * 2 + 1, none⟩ = some (.slice x.A x.m x.c) := (HB.out.cell hb).trans (hr 1 _ (show (cellV x).toList[1]? = some (.slice x.A x.m x.c) from rfl))
        have H2 : Hid (b2 < w.heap.size ∧ w.rangeAt b2 (off2 + j * 2) (cellV y).toList) := Lib.hid ⟨hb2, hr2⟩
        clear hr hx hs ha hb hy hr2 hb2
        go_upto_region 6 with (fail)
        have q1 := (HRR.out.alloc #[.int .u64 (x.ser : Int), .slice x.A x.m x.c] 41)
        obtain ⟨W5, hW⟩ : ∃ W, W = wr.alloc (.cells #[.int .u64 (x.ser : Int), .slice x.A x.m x.c] 41) := ⟨_, rfl⟩
        rw [← hW] at q1 ⊢
        clear hW
        obtain ⟨g5, hg⟩ : ∃ g, g = wr.heap.size := ⟨_, rfl⟩
        rw [← hg] at q1 ⊢
        clear hg
        have R5 := Lib.hid q1
        clear q1
        have d0 : W5.cell? ⟨b2, off2 + j * 2, none⟩ = some (.int .u64 (y.ser : Int)) := (R5.out.below.cell H2.out.1).trans (H2.out.2 0 _ (show (cellV y).toList[0]? = some (.int .u64 (y.ser : Int)) from rfl))
        have d1 : W5.cell? ⟨b2, off2 + j * 2 + 1, none⟩ = some (.slice y.A y.m y.c) := (R5.out.below.cell H2.out.1).trans (H2.out.2 1 _ (show (cellV y).toList[1]? = some (.slice y.A y.m y.c) from rfl))
        clear c0 c1
        go_upto_region 7 with (fail)
        have q1 := (R5.out.alloc #[.int .u64 (y.ser : Int), .slice y.A y.m y.c] 41)
        clear d0 d1
        obtain ⟨W6, hW⟩ : ∃ W, W = W5.alloc (.cells #[.int .u64 (y.ser : Int), .slice y.A y.m y.c] 41) := ⟨_, rfl⟩
        rw [← hW] at q1 ⊢
        clear hW
        obtain ⟨g6, hg⟩ : ∃ g, g = W5.heap.size := ⟨_, rfl⟩
        rw [← hg] at q1 ⊢
        clear hg
        have R6 := Lib.hid q1
        clear q1
        have c0 : W6.cell? ⟨g5, 0, none⟩ = some (.int .u64 (x.ser : Int)) := R6.out.cell 1 0 rfl rfl
        have c1 : W6.cell? ⟨g5, 1, none⟩ = some (.slice x.A x.m x.c) := R6.out.cell 1 1 rfl rfl
        have d0 : W6.cell? ⟨g6, 0, none⟩ = some (.int .u64 (y.ser : Int)) := R6.out.cell 0 0 rfl rfl
        have d1 : W6.cell? ⟨g6, 1, none⟩ = some (.slice y.A y.m y.c) := R6.out.cell 0 1 rfl rfl
        go_wp2_with fail
        refine (samecl_is x y (HX.out.below R6.out.below) (HY.out.below R6.out.below)).mono ?_
        rintro e w1 ⟨rfl, hb⟩
        have R7 := Lib.hid ((R6.out.call hb).drop 2)
        clear hb c0 c1 d0 d1
        by_cases ho : x.dat = y.dat
        · have HS2 := Lib.hid (HS.out ho)
          have hd : decide (x.dat = y.dat) = true := decide_eq_true ho
          rw [hd]
          clear ho hd
          go_wp2_with fail
          go_roundw
          case rel => exact ⟨j + 1, by omega, by go_num, R7.out, HS2.out⟩
          case measure => simp [intOf]; omega
        · have HF := Lib.hid (HAL.out ho)
          have hd : decide (x.dat = y.dat) = false := decide_eq_false ho
          rw [hd]
          clear ho hd
          go_wp2_with fail
          go_ret
          exact ⟨by rw [decide_eq_false HF.out]; rfl, R7.out.below⟩
      · obtain rfl : j = n := by omega
        have HF : Hid (l.map CellH.dat = k.map CellH.dat) := Lib.hid (by
          have := HA.out
          rwa [List.take_of_length_le (by rw [List.length_map, HL.out.len]; omega), List.take_of_length_le (by rw [List.length_map, HK.out.len]; omega)] at this)
        go_wp2_with fail
        go_ret
        exact ⟨by rw [HF.out]; simp, HB.out⟩
  · have HF : Hid (decide (l.map CellH.dat = k.map CellH.dat) = false) := Lib.hid (decide_eq_false (fun h => hnm (by
      have := congrArg List.length h
      rwa [List.length_map, List.length_map, HL.out.len, HK.out.len] at this)))
    have hnm' : ((n : Int) == (m : Int)) = false := by simp; omega
    clear hnm
    go_enter Tryd.func33, Tryd.ntmps33
    go_wp2_with fail
    go_ret
    exact ⟨by rw [HF.out]; rfl, Below.refl _ _⟩
def sameL (a b : ShL) : Bool := ((a.cl : Int) == (b.cl : Int)) && (((a.prev : Int) == (b.prev : Int)) && (((a.next : Int) == (b.next : Int)) && decide (a.cells = b.cells)))
theorem sameL_iff (a b : ShL) : sameL a b = true ↔ a = b := by
  obtain ⟨a1, a2, a3, a4⟩ := a
  obtain ⟨b1, b2, b3, b4⟩ := b
  simp only [sameL, Bool.and_eq_true, beq_iff_eq, decide_eq_true_eq, ShL.mk.injEq]
  constructor
  · rintro ⟨h1, h2, h3, h4⟩
    exact ⟨by omega, by omega, by omega, h4⟩
  · rintro ⟨h1, h2, h3, h4⟩
    exact ⟨by omega, by omega, by omega, h4⟩
set_option maxHeartbeats 1000000 in
theorem same_is {s t : ShL} {u v : Value} (hs : ShelfIn w u s) (ht : ShelfIn w v t) :
    Calls Tryd.prog 15 #[u, v] w fun e w' => e = .returned (.bool (sameL s t)) ∧ Below w.heap.size w w' := by
  obtain ⟨A, n, c, l, rfl, hs⟩ := hs
  obtain ⟨B, m, d, k, rfl, ht⟩ := ht
  have hR := ((Rows.start w).alloc (shV s A n c) 25).alloc (shV t B m d) 25
  obtain ⟨W, hW⟩ : ∃ W, W = (w.alloc (.cells (shV s A n c) 25)).alloc (.cells (shV t B m d) 25) := ⟨_, rfl⟩
  obtain ⟨g, hg⟩ : ∃ g, g = w.heap.size := ⟨_, rfl⟩
  rw [← hW, show (w.alloc (.cells (shV s A n c) 25)).heap.size = g + 1 by rw [hg]; simp, ← hg] at hR
  have HR := Lib.hid hR
  have HW := Lib.hid hW
  have HG := Lib.hid hg
  have a0 : W.cell? ⟨g, 0, none⟩ = some (.int .u8 (s.cl : Int)) := hR.cell 1 0 rfl rfl
  have a1 : W.cell? ⟨g, 1, none⟩ = some (.int .u16 (s.prev : Int)) := hR.cell 1 1 rfl rfl
  have a2 : W.cell? ⟨g, 2, none⟩ = some (.int .u16 (s.next : Int)) := hR.cell 1 2 rfl rfl
  have a3 : W.cell? ⟨g, 3, none⟩ = some (.slice A n c) := hR.cell 1 3 rfl rfl
  have b0 : W.cell? ⟨g + 1, 0, none⟩ = some (.int .u8 (t.cl : Int)) := hR.cell 0 0 rfl rfl
  have b1 : W.cell? ⟨g + 1, 1, none⟩ = some (.int .u16 (t.prev : Int)) := hR.cell 0 1 rfl rfl
  have b2 : W.cell? ⟨g + 1, 2, none⟩ = some (.int .u16 (t.next : Int)) := hR.cell 0 2 rfl rfl
  have b3 : W.cell? ⟨g + 1, 3, none⟩ = some (.slice B m d) := hR.cell 0 3 rfl rfl
  have HE : Hid (Calls Tryd.prog 33 #[.slice A n c, .slice B m d, .func (.func 34) #[] #[]] W fun e w' => e = .returned (.bool (decide (s.cells = t.cells))) ∧ Below W.heap.size W w') := Lib.hid (by
    have := equalfunc_is A B n c m d l k (hs.cells.below hR.below) (ht.cells.below hR.below) hs.le30 ht.le30
    rwa [hs.dat, ht.dat] at this)
  unfold sameL
  generalize decide (s.cells = t.cells) = o at HE
  obtain ⟨q0, hq0⟩ : ∃ q, q = ((s.cl : Int) == (t.cl : Int)) := ⟨_, rfl⟩
  obtain ⟨q1, hq1⟩ : ∃ q, q = ((s.prev : Int) == (t.prev : Int)) := ⟨_, rfl⟩
  obtain ⟨q2, hq2⟩ : ∃ q, q = ((s.next : Int) == (t.next : Int)) := ⟨_, rfl⟩
  rw [← hq0, ← hq1, ← hq2]
  generalize (s.cl : Int) = x0 at *
  generalize (s.prev : Int) = x1 at *
  generalize (s.next : Int) = x2 at *
  generalize (t.cl : Int) = y0 at *
  generalize (t.prev : Int) = y1 at *
  generalize (t.next : Int) = y2 at *
  clear hR hW hg hs ht
  go_enter Tryd.func15, Tryd.ntmps15
  go_upto_region 1 with (fail)
  rw [← HW.out, ← HG.out]
  cases q0 with
  | false =>
    have h0 := hq0.symm
    have H0 := Lib.hid h0
    clear hq0 hq1 hq2
    go_wp2_with fail
    go_ret
    exact ⟨rfl, HR.out.below⟩
  | true =>
    have h0 := hq0.symm
    clear hq0
    cases q1 with
    | false =>
      have h1 := hq1.symm
      have H1 := Lib.hid h1
      clear hq1 hq2
      go_wp2_with fail
      go_ret
      exact ⟨rfl, HR.out.below⟩
    | true =>
      have h1 := hq1.symm
      clear hq1
      cases q2 with
      | false =>
        have h2 := hq2.symm
        have H2 := Lib.hid h2
        clear hq2
        go_wp2_with fail
        go_ret
        exact ⟨rfl, HR.out.below⟩
      | true =>
        have h2 := hq2.symm
        clear hq2
        go_wp2_with fail
        refine HE.out.mono ?_
        rintro e w1 ⟨rfl, hb⟩
        have R1 := Lib.hid (HR.out.call hb)
        clear hb a0 a1 a2 a3 b0 b1 b2 b3
        go_wp2_with fail
        go_ret
        exact ⟨by simp, R1.out.below⟩
theorem usedL_take (l : List (Nat × List UInt8)) (j : Nat) (h : j < l.length) : usedL (l.take (j + 1)) = usedL (l.take j) + (if 0 < l[j].1 then 1 else 0) := by
  unfold usedL
  rw [List.take_succ_eq_append_getElem h, List.filter_append, List.length_append]
  congr 1
  by_cases hp : 0 < l[j].1
  · simp [hp]
  · simp [hp]
set_option maxHeartbeats 1000000 in
theorem used_is {s : ShL} {v : Value} (hs : ShelfIn w v s) :
    Calls Tryd.prog 11 #[v] w fun e w' => e = .returned (.int .i64 (usedL s.cells : Int)) ∧ Below w.heap.size w w' := by
  obtain ⟨A, n, c, l, rfl, hs⟩ := hs
  have hR := (Rows.start w).alloc (shV s A n c) 25
  obtain ⟨W, hW⟩ : ∃ W, W = w.alloc (.cells (shV s A n c) 25) := ⟨_, rfl⟩
  obtain ⟨g, hg⟩ : ∃ g, g = w.heap.size := ⟨_, rfl⟩
  rw [← hW, ← hg] at hR
  have HR := Lib.hid hR
  have HW := Lib.hid hW
  have HG := Lib.hid hg
  have HS := Lib.hid hs
  have hn := hs.le30
  have a3 : W.cell? ⟨g, 3, none⟩ = some (.slice A n c) := hR.cell 0 3 rfl rfl
  clear hR hW hg hs
  go_enter Tryd.func11, Tryd.ntmps11
  go_upto_region 1 with (fail)
  rw [← HW.out, ← HG.out]
  go_wp2_with fail
  go_loopw [3, 5, 9] (fun z _ i wr => ∃ j : Nat, j ≤ n ∧ i = .int .i64 (j : Int) ∧ Rows w wr [(g, shV s A n c, 25)] ∧ z = .int .i64 (usedL (s.cells.take j) : Int)) (fun _ _ i _ => n - (intOf i).toNat)
  case atStart => exact ⟨0, by omega, rfl, HR.out, rfl⟩
  case round =>
    obtain ⟨j, hj, rfl, hR, rfl⟩ := hrel
    have R1 := Lib.hid hR
    clear hR
    by_cases hlt : j < n
    · have hjl : j < l.length := by rw [HS.out.cells.len]; exact hlt
      have hjs : j < s.cells.length := by rw [HS.out.len]; exact hlt
      obtain ⟨b, off, hA, hb, hr⟩ := HS.out.cells.cells j hjl
      subst hA
      have hu := usedL_take s.cells j hjs
      have hd : (s.cells[j]).1 = (l[j]).ser := by
        have : s.cells[j]? = some (l[j]).dat := by rw [← HS.out.dat, List.getElem?_map, List.getElem?_eq_getElem hjl]; rfl
        rw [List.getElem?_eq_getElem hjs] at this
        simp only [Option.some.injEq] at this
        rw [this]; rfl
      rw [hd] at hu
      have hule : usedL (s.cells.take j) ≤ 30 := by
        have := List.length_filter_le (fun c : Nat × List UInt8 => decide (0 < c.1)) (s.cells.take j)
        unfold usedL
        rw [List.length_take] at this
        omega
      generalize l[j] = x at hr hu
      have HU := Lib.hid hu
      have c0 : wr.cell? ⟨b, off + j * 2, none⟩ = some (.int .u64 (x.ser : Int)) := (R1.out.below.cell hb).trans (hr 0 _ (show (cellV x).toList[0]? = some (.int .u64 (x.ser : Int)) from rfl))
      have c1 : wr.cell? ⟨b, off + j * 2 + 1, none⟩ = some (.slice x.A x.m x.c) := (R1.out.below.cell hb).trans (hr 1 _ (show (cellV x).toList[1]? = some (.slice x.A x.m x.c) from rfl))
      generalize usedL (s.cells.take j) = k at HU hule ⊢
      clear hr hu hd
      go_upto_region 5 with (fail)
      have q1 := (R1.out.alloc #[.int .u64 (x.ser : Int), .slice x.A x.m x.c] 41)
      clear c0 c1
      obtain ⟨W5, hW⟩ : ∃ W, W = wr.alloc (.cells #[.int .u64 (x.ser : Int), .slice x.A x.m x.c] 41) := ⟨_, rfl⟩
      rw [← hW] at q1 ⊢
      clear hW
      obtain ⟨g5, hg⟩ : ∃ g, g = wr.heap.size := ⟨_, rfl⟩
      rw [← hg] at q1 ⊢
      clear hg
      have R5 := Lib.hid q1
      clear q1
      have c0 : W5.cell? ⟨g5, 0, none⟩ = some (.int .u64 (x.ser : Int)) := R5.out.cell 0 0 rfl rfl
      by_cases hz : 0 < (x.ser : Int)
      · go_wp2_with fail
        go_roundw
        case rel => exact ⟨j + 1, by omega, by go_num, R5.out.drop 1, by rw [HU.out, if_pos (by omega)]; go_num⟩
        case measure => simp [intOf]; omega
      · go_wp2_with fail
        go_roundw
        case rel => exact ⟨j + 1, by omega, by go_num, R5.out.drop 1, by rw [HU.out, if_neg (by omega)]; go_num⟩
        case measure => simp [intOf]; omega
    · obtain rfl : j = n := by omega
      have HF : Hid (s.cells.take j = s.cells) := Lib.hid (List.take_of_length_le (by rw [HS.out.len]; omega))
      rw [HF.out]
      go_wp2_with fail
      go_ret
      exact ⟨rfl, R1.out.below⟩
def GreatSh (n : Nat) (l : List CellH) (w : World) (e : Ending) (w' : World) : Prop := ∃ r, e = .returned (.bool r) ∧ (r = false → n ≤ 30 ∧ ∀ x ∈ l, x.m ≤ 400) ∧ Below w.heap.size w w'
set_option maxHeartbeats 1000000 in
theorem shgreat_is (s : ShL) (A : Option Addr) (n c : Nat) (l : List CellH) (hl : CellsIn w A n l) (hn : n ≤ 9223372036854775807) (hm : ∀ x ∈ l, x.m ≤ 9223372036854775807) :
    Calls Tryd.prog 8 #[.agg (shV s A n c)] w fun e w' => GreatSh n l w e w' := by
  have hR := (Rows.start w).alloc (shV s A n c) 25
  obtain ⟨W, hW⟩ : ∃ W, W = w.alloc (.cells (shV s A n c) 25) := ⟨_, rfl⟩
  obtain ⟨g, hg⟩ : ∃ g, g = w.heap.size := ⟨_, rfl⟩
  rw [← hW, ← hg] at hR
  have HR := Lib.hid hR
  have HW := Lib.hid hW
  have HG := Lib.hid hg
  have HL := Lib.hid hl
  have HM := Lib.hid hm
  have a3 : W.cell? ⟨g, 3, none⟩ = some (.slice A n c) := hR.cell 0 3 rfl rfl
  clear hR hW hg hl hm
  go_enter Tryd.func8, Tryd.ntmps8
  go_upto_region 1 with (fail)
  rw [← HW.out, ← HG.out]
  go_wp2_with fail
  go_loopw [3] (fun i wr => ∃ j : Nat, j ≤ n ∧ j ≤ 40 ∧ i = .int .i64 (j : Int) ∧ wr = W ∧ ∀ x ∈ l.take j, x.m ≤ 400) (fun i _ => 40 - (intOf i).toNat)
  case atStart => exact ⟨0, by omega, by omega, rfl, rfl, by simp⟩
  case round =>
    obtain ⟨j, hj, hj40, rfl, hw, hall⟩ := hrel
    subst hw
    have HA := Lib.hid hall
    clear hall
    by_cases hlt : j < n
    · by_cases h40 : j < 40
      · have hjl : j < l.length := by rw [HL.out.len]; exact hlt
        obtain ⟨b, off, hA, hb, hr⟩ := HL.out.cells j hjl
        subst hA
        have hmx := HM.out _ (List.getElem_mem hjl)
        have hs : (l[j]).m ≤ 400 → ∀ x ∈ l.take (j + 1), x.m ≤ 400 := by
          intro h x hx
          rw [List.take_succ_eq_append_getElem hjl] at hx
          rcases List.mem_append.1 hx with hx | hx
          · exact HA.out x hx
          · simp only [List.mem_cons, List.not_mem_nil, or_false] at hx
            rw [hx]; exact h
        generalize l[j] = x at hr hs hmx
        have HS := Lib.hid hs
        have c1 : wr.cell? ⟨b, off + j * 2 + 1, none⟩ = some (.slice x.A x.m x.c) := (HR.out.below.cell hb).trans (hr 1 _ (show (cellV x).toList[1]? = some (.slice x.A x.m x.c) from rfl))
        clear hr hs
        obtain ⟨xs, xA, xm, xc, xd⟩ := x
        simp only at c1 HS hmx
        by_cases hx : (400 : Int) < (xm : Int)
        · go_wp2_with fail
          go_ret
          exact ⟨true, rfl, by simp, HR.out.below⟩
        · have HS2 := Lib.hid (HS.out (by omega))
          clear HS
          go_wp2_with fail
          go_roundw
          case rel => exact ⟨j + 1, by omega, by omega, by go_num, trivial, HS2.out⟩
          case measure => simp [intOf]; omega
      · obtain rfl : j = 40 := by omega
        have h30 : (30 : Int) < (n : Int) := by omega
        go_wp2_with fail
        go_ret
        exact ⟨true, rfl, by simp, HR.out.below⟩
    · obtain rfl : j = n := by omega
      have HF : Hid (l.take j = l) := Lib.hid (List.take_of_length_le (by rw [HL.out.len]; omega))
      have hz : ¬ ((j : Int) < (j : Int)) := by omega
      by_cases h30 : (30 : Int) < (j : Int)
      · go_wp2_with fail
        go_ret
        exact ⟨true, rfl, by simp, HR.out.below⟩
      · have h30' : j ≤ 30 := by omega
        go_wp2_with fail
        go_ret
        exact ⟨_, rfl, fun _ => ⟨h30', by have := HA.out; rwa [HF.out] at this⟩, HR.out.below⟩
end
end Go.Proofs.YtcepfmjebgklfaaDoor
