/- Shelves in memory; the classes' table; Class, at, Places, Room, of. -/
import Derived.Test.YtcepfmjebgklfaaDoorShMath
import Derived.Test.YtcepfmjebgklfaaDoorKeep
import Derived.Test.YtcepfmjebgklfaaDoorPair
import Derived.Test.YtcepfmjebgklfaaDoorSteps
import Derived.Test.YtcepfmjebgklfaaDoorAppend
import Derived.Deep.MidRow
namespace Go.Proofs.YtcepfmjebgklfaaDoor
open Go.RowKit
set_option linter.unusedSimpArgs false
set_option linter.unusedVariables false
set_option maxRecDepth 100000
section
variable {P : Program} {w : World}
/-- A struct out of an array's value. -/
theorem run_index_part (t e : TypeId) (len m : Nat) (cs : Array Value) (k : IntKind) (i : Nat) (d : TypeDesc) (ht : P.underlying t = some (.array len e)) (he : P.underlying e = some d)
    (hd : (match d with | .struct _ | .array _ _ => true | _ => false) = true) (hs : (P.info? e).map (·.size) = some m) (hl : i < len) :
    (Instr.index t (.agg cs) (.int k (i : Int))).run P w = .ok (.agg (cs.extract (i * m) (i * m + m))) w := by
  have hagg : (isAgg e).run P w = .ok true w := by
    unfold isAgg
    rw [Sem.run_bind, run_underlying he w]
    cases d <;> simp_all
  obtain ⟨f, hf, hf1⟩ : ∃ f, P.info? e = some f ∧ f.size = m := by
    cases hq : P.info? e with
    | none => simp [hq] at hs
    | some f => exact ⟨f, rfl, by simpa [hq] using hs⟩
  have hb : (0 : Int) ≤ (i : Int) ∧ (i : Int) < (len : Int) := by omega
  simp [Instr.index, asIntOf, run_underlying ht, hb, hl, sizeOf, typeInfo, hf, hf1, part, hagg]
theorem wpList_index_part {ops : Array Oper} {rest : List Oper} {o : Oper} {a : Act} {Q : Exit → Act → World → Prop} (hgd : o.guard = none) (t : TypeId) (x y : Operand) (ho : o.op = .index t x y)
    (e : TypeId) (len m : Nat) (cs : Array Value) (k : IntKind) (i : Nat) (d : TypeDesc) (hx : a.eval x = .agg cs) (hy : a.eval y = .int k (i : Int)) (ht : P.underlying t = some (.array len e)) (he : P.underlying e = some d)
    (hd : (match d with | .struct _ | .array _ _ => true | _ => false) = true) (hs : (P.info? e).map (·.size) = some m) (hl : i < len) (cs2 : Array Value) (hc : cs.extract (i * m) (i * m + m) = cs2)
    (h : wpList P ops Q rest (a.put o.dst (.agg cs2)) w) : wpList P ops Q (o :: rest) a w :=
  wpList_plain hgd fun _ hK => by
    unfold Oper.wp execOp
    simp only [ho, hx, hy, Sem.run_bind, run_index_part t e len m cs k i d ht he hd hs hl, hc, Result.andThen_ok, Sem.run_pure]
    exact hK _ _ h
end
def clsCells : Array Value := #[.int .i64 8, .int .i64 14, .int .i64 16, .int .i64 9, .int .i64 24, .int .i64 7, .int .i64 40, .int .i64 5, .int .i64 72, .int .i64 3, .int .i64 114, .int .i64 2, .int .i64 237, .int .i64 1]
/-- The classes' table lies in its place. -/
def ClsAt (w : World) : Prop := 0 < w.heap.size ∧ w.rangeAt 0 0 clsCells.toList
theorem rangeAt_below {w w' : World} {b off : Nat} {cs : List Value} (h : w.rangeAt b off cs) (hlt : b < w.heap.size) (hb : Below w.heap.size w w') : w'.rangeAt b off cs := fun j v hv => (hb.cell hlt).trans (h j v hv)
theorem ClsAt.below {w w' : World} (h : ClsAt w) (hb : Below w.heap.size w w') : ClsAt w' := ⟨Nat.lt_of_lt_of_le h.1 hb.size, rangeAt_below h.2 h.1 hb⟩
theorem ClsAt.under {w w' : World} {B : Nat} (h : ClsAt w) (hB : w.heap.size ≤ B) (hb : Below B w w') : ClsAt w' := h.below (hb.mono hB)
def cls (k : Nat) : Array Value := #[.int .i64 (roomL k : Int), .int .i64 (placesL k : Int)]
theorem cls_part (k : Nat) (h : k < 7) : clsCells.extract (k * 2) (k * 2 + 2) = cls k := by
  rcases (by omega : k = 0 ∨ k = 1 ∨ k = 2 ∨ k = 3 ∨ k = 4 ∨ k = 5 ∨ k = 6) with rfl | rfl | rfl | rfl | rfl | rfl | rfl <;> rfl
theorem ClsAt.part {w : World} (h : ClsAt w) (k : Nat) (hk : k < 7) : w.rangeAt 0 (k * 2) (cls k).toList := by
  intro j v hv
  have h2 := h.2 (k * 2 + j) v (by
    rw [← cls_part k hk] at hv
    rw [Array.toList_extract, List.extract_eq_take_drop, List.getElem?_take] at hv
    split at hv
    · rw [List.getElem?_drop] at hv; exact hv
    · cases hv)
  rw [Nat.zero_add] at h2
  exact h2
theorem sizeCls : (Tryd.prog.info? 75).map (·.size) = some 2 := by kernel_rfl
theorem sizeCTab : (Tryd.prog.info? 88).map (·.size) = some 14 := by kernel_rfl
section
variable {w : World}
set_option maxHeartbeats 1000000 in
theorem class_is (hc : ClsAt w) (n : Int) : Calls Tryd.prog 21 #[.int .i64 n] w fun e w' => e = .returned (.tuple #[.int .u8 (classV n : Int), .int .i64 (classE n)]) ∧ Below w.heap.size w w' := by
  have HC := Lib.hid hc
  clear hc
  have c0 : w.cell? ⟨0, 0, none⟩ = some (.int .i64 8) := by have := HC.out.2 0 _ rfl; simpa using this
  have c1 : w.cell? ⟨0, 1, none⟩ = some (.int .i64 14) := by have := HC.out.2 1 _ rfl; simpa using this
  have c2 : w.cell? ⟨0, 2, none⟩ = some (.int .i64 16) := by have := HC.out.2 2 _ rfl; simpa using this
  have c3 : w.cell? ⟨0, 3, none⟩ = some (.int .i64 9) := by have := HC.out.2 3 _ rfl; simpa using this
  have c4 : w.cell? ⟨0, 4, none⟩ = some (.int .i64 24) := by have := HC.out.2 4 _ rfl; simpa using this
  have c5 : w.cell? ⟨0, 5, none⟩ = some (.int .i64 7) := by have := HC.out.2 5 _ rfl; simpa using this
  have c6 : w.cell? ⟨0, 6, none⟩ = some (.int .i64 40) := by have := HC.out.2 6 _ rfl; simpa using this
  have c7 : w.cell? ⟨0, 7, none⟩ = some (.int .i64 5) := by have := HC.out.2 7 _ rfl; simpa using this
  have c8 : w.cell? ⟨0, 8, none⟩ = some (.int .i64 72) := by have := HC.out.2 8 _ rfl; simpa using this
  have c9 : w.cell? ⟨0, 9, none⟩ = some (.int .i64 3) := by have := HC.out.2 9 _ rfl; simpa using this
  have c10 : w.cell? ⟨0, 10, none⟩ = some (.int .i64 114) := by have := HC.out.2 10 _ rfl; simpa using this
  have c11 : w.cell? ⟨0, 11, none⟩ = some (.int .i64 2) := by have := HC.out.2 11 _ rfl; simpa using this
  have c12 : w.cell? ⟨0, 12, none⟩ = some (.int .i64 237) := by have := HC.out.2 12 _ rfl; simpa using this
  have c13 : w.cell? ⟨0, 13, none⟩ = some (.int .i64 1) := by have := HC.out.2 13 _ rfl; simpa using this
  go_enter Tryd.func21, Tryd.ntmps21
  go_wp2_with fail
  obtain ⟨T, hT⟩ : ∃ T, T = clsCells := ⟨_, rfl⟩
  have hT' := hT
  unfold clsCells at hT'
  rw [← hT']
  have HT : Hid (∀ k : Nat, k < 7 → ∀ w : World, (Instr.index 88 (.agg T) (.int .i64 (k : Int))).run Tryd.prog w = .ok (.agg (cls k)) w) := Lib.hid (fun k hk w => by
    rw [run_index_part 88 75 7 2 T .i64 k _ Tryd.underlying88 Tryd.underlying75 rfl sizeCls hk, hT, cls_part k hk])
  clear hT hT' c0 c1 c2 c3 c4 c5 c6 c7 c8 c9 c10 c11 c12 c13
  go_loopw [4, 5, 7] (fun _ _ i wr => ∃ k : Nat, k ≤ 7 ∧ i = .int .i64 (k : Int) ∧ Below w.heap.size w wr ∧ (1 ≤ n → ∀ j, j < k → (roomL j : Int) < n)) (fun _ _ i _ => 7 - (intOf i).toNat)
  case atStart => exact ⟨0, by omega, rfl, Below.refl _ _, fun _ j hj => by omega⟩
  case round =>
    obtain ⟨k, hk, rfl, hb, hall⟩ := hrel
    have HB := Lib.hid (hb.alloc hb.size (.cells (cls k) 75))
    have HB0 := Lib.hid hb
    have HA := Lib.hid hall
    clear hb hall
    by_cases hlt : k < 7
    · have hidx := HT.out k hlt
      obtain ⟨rm, hrm⟩ : ∃ rm, rm = (roomL k : Int) := ⟨_, rfl⟩
      obtain ⟨pl, hpl⟩ : ∃ pl, pl = (placesL k : Int) := ⟨_, rfl⟩
      have HRM := Lib.hid hrm
      unfold cls at hidx HB
      rw [← hrm, ← hpl] at hidx HB
      clear hrm hpl
      by_cases h1 : 1 ≤ n
      · by_cases h2 : n ≤ rm
        · have hV : Hid (classV n = k ∧ classE n = 0) := Lib.hid (by
            have := classL_hit n k h1 hlt (by rw [← HRM.out]; exact h2) (HA.out h1)
            unfold classV classE
            rw [this]; exact ⟨rfl, rfl⟩)
          go_wp2_with fail
          go_ret2
          exact ⟨by rw [hV.out.1, hV.out.2]; go_num, HB.out⟩
        · go_wp2_with fail
          go_roundw
          case rel => exact ⟨k + 1, by omega, by go_num, HB.out, fun h j hj => by
            by_cases e : j = k
            · subst e; rw [← HRM.out]; omega
            · exact HA.out h j (by omega)⟩
          case measure => simp [intOf]; omega
      · go_wp2_with fail
        go_roundw
        case rel => exact ⟨k + 1, by omega, by go_num, HB.out, fun h => absurd h h1⟩
        case measure => simp [intOf]; omega
    · obtain rfl : k = 7 := by omega
      have hV : Hid (classV n = 0 ∧ classE n = 211) := Lib.hid (by
        have := classL_none n (fun h => HA.out h 6 (by omega))
        unfold classV classE
        rw [this]; exact ⟨rfl, rfl⟩)
      go_wp2_with fail
      go_ret2
      exact ⟨by rw [hV.out.1, hV.out.2]; rfl, HB0.out⟩
theorem at_is (hc : ClsAt w) (k : Nat) (hk : k < 256) : Calls Tryd.prog 36 #[.int .u8 (k : Int)] w fun e w' => e = .returned (.agg (cls k)) ∧ Below w.heap.size w w' := by
  obtain ⟨W, hW⟩ : ∃ W, W = w.alloc (.cells #[.int .i64 0, .int .i64 0] 75) := ⟨_, rfl⟩
  have hR := (Rows.start w).alloc #[.int .i64 0, .int .i64 0] 75
  rw [← hW] at hR
  have HR := Lib.hid hR
  have HC : Hid (ClsAt W) := Lib.hid (hc.below hR.below)
  obtain ⟨g, hg⟩ : ∃ g, g = w.heap.size := ⟨_, rfl⟩
  rw [← hg] at HR
  have HW := Lib.hid hW
  have HG := Lib.hid hg
  have f0 : W.frozen? ⟨g, 0, none⟩ = false := HR.out.free 0 0 rfl
  have f1 : W.frozen? ⟨g, 1, none⟩ = false := HR.out.free 0 1 rfl
  have c0 : W.cell? ⟨g, 0, none⟩ = some (.int .i64 0) := HR.out.cell 0 0 rfl rfl
  have c1 : W.cell? ⟨g, 1, none⟩ = some (.int .i64 0) := HR.out.cell 0 1 rfl rfl
  obtain ⟨rm, hrm⟩ : ∃ rm, rm = (roomL k : Int) := ⟨_, rfl⟩
  obtain ⟨pl, hpl⟩ : ∃ pl, pl = (placesL k : Int) := ⟨_, rfl⟩
  have HL : Hid (cls k = #[.int .i64 rm, .int .i64 pl]) := Lib.hid (by unfold cls; rw [hrm, hpl])
  rw [HL.out]
  clear hW hg hc hR
  by_cases hlt : k < 7
  · have hp := HC.out.part k hlt
    rw [HL.out] at hp
    have d0 : W.cell? ⟨0, k * 2, none⟩ = some (.int .i64 rm) := hp 0 _ rfl
    have d1 : W.cell? ⟨0, k * 2 + 1, none⟩ = some (.int .i64 pl) := hp 1 _ rfl
    clear hp hrm hpl
    go_enter Tryd.func36, Tryd.ntmps36
    go_upto_region 1 with (fail)
    rw [← HW.out, ← HG.out]
    go_wp2_with fail
    have R2 := (HR.out.setCell 0 0 (.int .i64 rm) rfl).setCell 0 1 (.int .i64 pl) rfl
    exact bodyPost_ret (v := .agg #[.int .i64 rm, .int .i64 pl]) (results_cell_row rfl _ _ g 75 _ (0, 0) _ rfl (R2.get 0 rfl) Tryd.underlying75 rfl sizeCls) rfl ⟨rfl, R2.below⟩
  · rw [roomL_big k (by omega)] at hrm
    rw [placesL_big k (by omega)] at hpl
    subst hrm hpl
    go_enter Tryd.func36, Tryd.ntmps36
    go_upto_region 1 with (fail)
    rw [← HW.out, ← HG.out]
    go_wp2_with fail
    have R2 := (HR.out.setCell 0 0 (.int .i64 0) rfl).setCell 0 1 (.int .i64 0) rfl
    exact bodyPost_ret (v := .agg #[.int .i64 0, .int .i64 0]) (results_cell_row rfl _ _ g 75 _ (0, 0) _ rfl (R2.get 0 rfl) Tryd.underlying75 rfl sizeCls) rfl ⟨rfl, R2.below⟩
theorem places_is (hc : ClsAt w) (k : Nat) (hk : k < 256) : Calls Tryd.prog 17 #[.int .u8 (k : Int)] w fun e w' => e = .returned (.int .i64 (placesL k : Int)) ∧ Below w.heap.size w w' := by
  have HC := Lib.hid hc
  clear hc
  have HA := Lib.hid (at_is HC.out k hk)
  unfold cls at HA
  have hfd : ∀ (a b : Int) (w : World), (Instr.field 75 (.agg #[.int .i64 a, .int .i64 b]) 1).run Tryd.prog w = .ok (.int .i64 b) w := fun _ _ _ => by kernel_rfl
  go_enter Tryd.func17, Tryd.ntmps17
  go_wp2_with fail
  refine HA.out.mono ?_
  rintro e w1 ⟨rfl, hb⟩
  have HB := Lib.hid hb
  clear hb
  go_wp2_with fail
  go_ret
  exact ⟨rfl, HB.out⟩
theorem room_is (hc : ClsAt w) (k : Nat) (hk : k < 256) : Calls Tryd.prog 18 #[.int .u8 (k : Int)] w fun e w' => e = .returned (.int .i64 (roomL k : Int)) ∧ Below w.heap.size w w' := by
  have HC := Lib.hid hc
  clear hc
  have HA := Lib.hid (at_is HC.out k hk)
  unfold cls at HA
  have hfd : ∀ (a b : Int) (w : World), (Instr.field 75 (.agg #[.int .i64 a, .int .i64 b]) 0).run Tryd.prog w = .ok (.int .i64 a) w := fun _ _ _ => by kernel_rfl
  go_enter Tryd.func18, Tryd.ntmps18
  go_wp2_with fail
  refine HA.out.mono ?_
  rintro e w1 ⟨rfl, hb⟩
  have HB := Lib.hid hb
  clear hb
  go_wp2_with fail
  go_ret
  exact ⟨rfl, HB.out⟩
theorem of_is (hc : ClsAt w) (k : Nat) (hk : k < 256) (n : Int) : Calls Tryd.prog 28 #[.int .u8 (k : Int), .int .i64 n] w fun e w' => e = .returned (.bool (ofL k n)) ∧ Below w.heap.size w w' := by
  have HC := Lib.hid hc
  clear hc
  have HA := Lib.hid (class_is HC.out n)
  cases h : classL n with
  | none =>
    have hV : classV n = 0 ∧ classE n = 211 := by unfold classV classE; rw [h]; exact ⟨rfl, rfl⟩
    have HO : Hid (ofL k n = false) := Lib.hid (by unfold ofL; rw [h]; rfl)
    rw [hV.1, hV.2] at HA
    rw [HO.out]
    clear h hV
    go_enter Tryd.func28, Tryd.ntmps28
    go_wp2_with fail
    refine HA.out.mono ?_
    rintro e w1 ⟨rfl, hb⟩
    have HB := Lib.hid hb
    clear hb
    go_wp2_with fail
    go_ret
    exact ⟨rfl, HB.out⟩
  | some j =>
    have hV : classV n = j ∧ classE n = 0 := by unfold classV classE; rw [h]; exact ⟨rfl, rfl⟩
    have HO : Hid (ofL k n = ((j : Int) == (k : Int))) := Lib.hid (by unfold ofL; rw [h, Bool.eq_iff_iff]; simp; omega)
    rw [hV.1, hV.2] at HA
    rw [HO.out]
    clear h hV
    go_enter Tryd.func28, Tryd.ntmps28
    go_wp2_with fail
    refine HA.out.mono ?_
    rintro e w1 ⟨rfl, hb⟩
    have HB := Lib.hid hb
    clear hb
    go_wp2_with fail
    go_ret
    exact ⟨rfl, HB.out⟩
end
end Go.Proofs.YtcepfmjebgklfaaDoor
