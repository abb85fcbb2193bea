/- How arguments read: a root by value. -/
import Derived.Test.YtnphgaiiiiknpaaDoorOpenStruct
import Derived.Test.YtnphgaiiiiknpaaDoorSlotEq
namespace Go.Proofs.YtnphgaiiiiknpaaDoor
open Go.ChangeShapes Go.WideShapes Go.ChangeAt Go.RowKit
section
variable {H : Type} {enc : TypeId × Value → H} {w : World} {base : Nat} {spare : Nat → Bool} {held : Bool}
set_option maxRecDepth 100000 in
theorem open_root {W : World} {r : Reach} {b0 : Nat} {v : Value} {d : DataW H} {p : List MemPlace}
    (hv : Value.okWide Tryd.prog W r b0 34 v) (h : DataW.Trod enc Tryd.prog w base spare held 34 v d p) : ∃ c : Root, c.Ok ∧ v = .agg c.cells := by
  obtain ⟨cs, rfl, hcs⟩ := okWide_struct structR hv
  have hc8 : Tryd.prog.cellsOf 34 = 8 := by kernel_rfl
  obtain ⟨fuel, hf⟩ := h
  have hl : (Value.agg cs).cells.toList.length = 8 := by rw [← hc8, ← hcs]; simp [Value.cells]
  obtain ⟨l, hle⟩ : ∃ l, l = (Value.agg cs).cells.toList := ⟨_, rfl⟩
  rw [← hle] at hf hl
  obtain ⟨_, _, f0⟩ := trod_field structR hf _ fieldsR 0 false 32 0 rfl
  obtain ⟨z0, e0, w0⟩ := trod_int_cell Tryd.underlying32 f0
  rw [show Tryd.prog.cellsOf 32 = 1 by kernel_rfl] at e0
  have c0 := cell_of_take e0
  have b0 := bounds_u64 w0
  obtain ⟨_, _, f1⟩ := trod_field structR hf _ fieldsR 1 false 22 1 rfl
  obtain ⟨z1, e1, w1⟩ := trod_int_cell Tryd.underlying22 f1
  rw [show Tryd.prog.cellsOf 22 = 1 by kernel_rfl] at e1
  have c1 := cell_of_take e1
  have b1 := bounds_u32 w1
  obtain ⟨_, _, f2⟩ := trod_field structR hf _ fieldsR 2 false 22 2 rfl
  obtain ⟨z2, e2, w2⟩ := trod_int_cell Tryd.underlying22 f2
  rw [show Tryd.prog.cellsOf 22 = 1 by kernel_rfl] at e2
  have c2 := cell_of_take e2
  have b2 := bounds_u32 w2
  obtain ⟨_, _, f3⟩ := trod_field structR hf _ fieldsR 3 false 22 3 rfl
  obtain ⟨z3, e3, w3⟩ := trod_int_cell Tryd.underlying22 f3
  rw [show Tryd.prog.cellsOf 22 = 1 by kernel_rfl] at e3
  have c3 := cell_of_take e3
  have b3 := bounds_u32 w3
  obtain ⟨_, _, f4⟩ := trod_field structR hf _ fieldsR 4 false 22 4 rfl
  obtain ⟨z4, e4, w4⟩ := trod_int_cell Tryd.underlying22 f4
  rw [show Tryd.prog.cellsOf 22 = 1 by kernel_rfl] at e4
  have c4 := cell_of_take e4
  have b4 := bounds_u32 w4
  obtain ⟨_, _, f5⟩ := trod_field structR hf _ fieldsR 5 false 22 5 rfl
  obtain ⟨z5, e5, w5⟩ := trod_int_cell Tryd.underlying22 f5
  rw [show Tryd.prog.cellsOf 22 = 1 by kernel_rfl] at e5
  have c5 := cell_of_take e5
  have b5 := bounds_u32 w5
  obtain ⟨_, _, f6⟩ := trod_field structR hf _ fieldsR 6 false 22 6 rfl
  obtain ⟨z6, e6, w6⟩ := trod_int_cell Tryd.underlying22 f6
  rw [show Tryd.prog.cellsOf 22 = 1 by kernel_rfl] at e6
  have c6 := cell_of_take e6
  have b6 := bounds_u32 w6
  obtain ⟨_, _, f7⟩ := trod_field structR hf _ fieldsR 7 false 5 7 rfl
  obtain ⟨z7, e7, w7⟩ := trod_int_cell Tryd.underlying5 f7
  rw [show Tryd.prog.cellsOf 5 = 1 by kernel_rfl] at e7
  have c7 := cell_of_take e7
  have b7 := bounds_u8 w7
  refine ⟨⟨z0.toNat, z1.toNat, z2.toNat, z3.toNat, z4.toNat, z5.toNat, z6.toNat, z7.toNat⟩, ⟨by show z0.toNat < _; omega, by show z1.toNat < _; omega, by show z2.toNat < _; omega, by show z3.toNat < _; omega, by show z4.toNat < _; omega, by show z5.toNat < _; omega, by show z6.toNat < _; omega, by show z7.toNat < _; omega⟩, ?_⟩
  have hcl : cs.toList = l := by rw [hle]; simp [Value.cells]
  congr 1
  apply Array.ext'
  rw [hcl]
  simp only [Root.cells]
  rw [Int.toNat_of_nonneg b0.1, Int.toNat_of_nonneg b1.1, Int.toNat_of_nonneg b2.1, Int.toNat_of_nonneg b3.1, Int.toNat_of_nonneg b4.1, Int.toNat_of_nonneg b5.1, Int.toNat_of_nonneg b6.1, Int.toNat_of_nonneg b7.1]
  apply List.ext_getElem?
  intro i
  by_cases hi : i < 8
  · have : i = 0 ∨ i = 1 ∨ i = 2 ∨ i = 3 ∨ i = 4 ∨ i = 5 ∨ i = 6 ∨ i = 7 := by omega
    rcases this with rfl | rfl | rfl | rfl | rfl | rfl | rfl | rfl
    · exact c0
    · exact c1
    · exact c2
    · exact c3
    · exact c4
    · exact c5
    · exact c6
    · exact c7
  · rw [List.getElem?_eq_none (by omega), List.getElem?_eq_none (by simp; omega)]
end
end Go.Proofs.YtnphgaiiiiknpaaDoor
