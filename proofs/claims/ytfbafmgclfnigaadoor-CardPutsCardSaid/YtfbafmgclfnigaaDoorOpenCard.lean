/- How arguments read: a card by value. -/
import Derived.Test.YtfbafmgclfnigaaDoorOpenStruct
import Derived.Test.YtfbafmgclfnigaaDoorCardEq
namespace Go.Proofs.YtfbafmgclfnigaaDoor
open Go.ChangeShapes Go.WideShapes Go.ChangeAt Go.RowKit
section
variable {H : Type} {enc : TypeId × Value → H} {w : World} {base : Nat} {spare : Nat → Bool} {held : Bool}
theorem lt32 {z : Int} (h : 0 ≤ z ∧ z ≤ 4294967295) : z.toNat < 4294967296 := by omega
set_option maxRecDepth 100000 in
theorem open_card {W : World} {r : Reach} {b0 : Nat} {v : Value} {d : DataW H} {p : List MemPlace}
    (hv : Value.okWide Tryd.prog W r b0 26 v) (h : DataW.Trod enc Tryd.prog w base spare held 26 v d p) : ∃ c : Card, c.Ok ∧ v = .agg c.cells := by
  obtain ⟨cs, rfl, hcs⟩ := okWide_struct structC hv
  have hc9 : Tryd.prog.cellsOf 26 = 9 := by kernel_rfl
  have h1 : Tryd.prog.cellsOf 9 = 1 := by kernel_rfl
  have h2 : Tryd.prog.cellsOf 22 = 1 := by kernel_rfl
  have h3 : Tryd.prog.cellsOf 4 = 1 := by kernel_rfl
  have h6 : Tryd.prog.cellsOf 24 = 6 := by kernel_rfl
  obtain ⟨fuel, hf⟩ := h
  have hl : (Value.agg cs).cells.toList.length = 9 := by rw [← hc9, ← hcs]; simp [Value.cells]
  obtain ⟨l, hle⟩ : ∃ l, l = (Value.agg cs).cells.toList := ⟨_, rfl⟩
  rw [← hle] at hf hl
  obtain ⟨_, _, f0⟩ := trod_field structC hf _ fieldsC 0 false 9 0 rfl
  obtain ⟨_, _, f1⟩ := trod_field structC hf _ fieldsC 1 false 22 1 rfl
  obtain ⟨_, _, f2⟩ := trod_field structC hf _ fieldsC 2 false 22 2 rfl
  obtain ⟨_, _, f3⟩ := trod_field structC hf _ fieldsC 3 false 24 3 rfl
  obtain ⟨_, _, v0⟩ := trod_field structV f3 _ fieldsV 0 false 22 0 rfl
  obtain ⟨_, _, v1⟩ := trod_field structV f3 _ fieldsV 1 false 22 1 rfl
  obtain ⟨_, _, v2⟩ := trod_field structV f3 _ fieldsV 2 false 22 2 rfl
  obtain ⟨_, _, v3⟩ := trod_field structV f3 _ fieldsV 3 false 22 3 rfl
  obtain ⟨_, _, v4⟩ := trod_field structV f3 _ fieldsV 4 false 22 4 rfl
  obtain ⟨_, _, v5⟩ := trod_field structV f3 _ fieldsV 5 false 4 5 rfl
  obtain ⟨s, e0, hs⟩ := trod_string_cell Tryd.underlying9 f0
  obtain ⟨z1, e1, w1⟩ := trod_int_cell Tryd.underlying22 f1
  obtain ⟨z2, e2, w2⟩ := trod_int_cell Tryd.underlying22 f2
  obtain ⟨z3, e3, w3⟩ := trod_int_cell Tryd.underlying22 v0
  obtain ⟨z4, e4, w4⟩ := trod_int_cell Tryd.underlying22 v1
  obtain ⟨z5, e5, w5⟩ := trod_int_cell Tryd.underlying22 v2
  obtain ⟨z6, e6, w6⟩ := trod_int_cell Tryd.underlying22 v3
  obtain ⟨z7, e7, w7⟩ := trod_int_cell Tryd.underlying22 v4
  obtain ⟨o, e8⟩ := trod_bool_cell Tryd.underlying4 v5
  rw [h1] at e0
  rw [h2] at e1 e2 e3 e4 e5 e6 e7
  rw [h3] at e8
  have c0 := cell_of_take e0
  have c1 := cell_of_take e1
  have c2 := cell_of_take e2
  have c3 := cell_of_take e3
  have c4 := cell_of_take e4
  have c5 := cell_of_take e5
  have c6 := cell_of_take e6
  have c7 := cell_of_take e7
  have c8 := cell_of_take e8
  simp only [h6, List.getElem?_take, List.getElem?_drop] at c3 c4 c5 c6 c7 c8
  have b1 := bounds_u32 w1
  have b2 := bounds_u32 w2
  have b3 := bounds_u32 w3
  have b4 := bounds_u32 w4
  have b5 := bounds_u32 w5
  have b6 := bounds_u32 w6
  have b7 := bounds_u32 w7
  refine ⟨⟨s, z1.toNat, z2.toNat, z3.toNat, z4.toNat, z5.toNat, z6.toNat, z7.toNat, o⟩, ⟨hs, lt32 b1, lt32 b2, lt32 b3, lt32 b4, lt32 b5, lt32 b6, lt32 b7⟩, ?_⟩
  have hcl : cs.toList = l := by rw [hle]; simp [Value.cells]
  congr 1
  apply Array.ext'
  rw [hcl]
  simp only [Card.cells, cu]
  rw [Int.toNat_of_nonneg b1.1, Int.toNat_of_nonneg b2.1, Int.toNat_of_nonneg b3.1, Int.toNat_of_nonneg b4.1, Int.toNat_of_nonneg b5.1, Int.toNat_of_nonneg b6.1, Int.toNat_of_nonneg b7.1]
  apply List.ext_getElem?
  intro i
  by_cases hi : i < 9
  · have : i = 0 ∨ i = 1 ∨ i = 2 ∨ i = 3 ∨ i = 4 ∨ i = 5 ∨ i = 6 ∨ i = 7 ∨ i = 8 := by omega
    rcases this with rfl | rfl | rfl | rfl | rfl | rfl | rfl | rfl | rfl
    · exact c0
    · exact c1
    · exact c2
    · simpa using c3
    · simpa using c4
    · simpa using c5
    · simpa using c6
    · simpa using c7
    · simpa using c8
  · rw [List.getElem?_eq_none (by omega), List.getElem?_eq_none (by simp; omega)]
end
end Go.Proofs.YtfbafmgclfnigaaDoor
