/- How arguments read: an act by value. -/
import Derived.Test.YthellfakdpikjaaOpenActs
namespace Go.Proofs.Ythellfakdpikjaa
open Go.ChangeShapes Go.WideShapes Go.ChangeAt Go.RowKit
set_option maxRecDepth 100000
theorem open_act {H : Type} {enc : TypeId × Value → H} {w : World} {base : Nat} {spare : Nat → Bool} {held : Bool} {W : World} {r : Reach} {b0 : Nat} {v : Value} {d : DataW H} {p : List MemPlace}
    (hv : Value.okWide Try.prog W r b0 25 v) (h : DataW.Trod enc Try.prog w base spare held 25 v d p) : ∃ a : ActL, v = .agg (actV a) ∧ (a.what < 256 ∧ a.a < 4294967296) := by
  obtain ⟨cs, rfl, hcs⟩ := okWide_struct structAct hv
  obtain ⟨fuel, hf⟩ := h
  have h5 : Try.prog.cellsOf 25 = 5 := by kernel_rfl
  obtain ⟨a, ha, hrow⟩ := trod_act (row := (Value.agg cs).cells.toList) (by simp [Value.cells, hcs, h5]) hf
  refine ⟨a, ?_, ha.1, ha.2.1⟩
  have : cs.toList = (actV a).toList := by simpa [Value.cells] using hrow
  congr 1
  exact Array.ext' this
end Go.Proofs.Ythellfakdpikjaa
