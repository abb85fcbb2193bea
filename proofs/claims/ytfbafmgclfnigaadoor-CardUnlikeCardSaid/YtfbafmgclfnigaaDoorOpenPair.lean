/- How arguments read: two numbers of 32 bits, by value. -/
import Derived.Test.YtfbafmgclfnigaaDoorOpenCard
namespace Go.Proofs.YtfbafmgclfnigaaDoor
open Go.ChangeShapes Go.WideShapes Go.ChangeAt Go.RowKit
set_option maxRecDepth 100000
theorem open_pair32 {H : Type} {enc : TypeId × Value → H} {w : World} {base : Nat} {spare : Nat → Bool} {held : Bool} {W : World} {r : Reach} {b0 : Nat} {v : Value} {d : DataW H} {p : List MemPlace}
    (hv : Value.okWide Tryd.prog W r b0 45 v) (h : DataW.Trod enc Tryd.prog w base spare held 45 v d p) :
    ∃ x y : Nat, x < 4294967296 ∧ y < 4294967296 ∧ v = .agg #[.int .u32 (x : Int), .int .u32 (y : Int)] := by
  obtain ⟨cs, rfl⟩ := okWide_array Tryd.underlying45 hv
  obtain ⟨fuel, hf⟩ := h
  obtain ⟨zs, hl, hcs, hw⟩ := trod_ints Tryd.underlying45 Tryd.underlying22 (by kernel_rfl) (by kernel_rfl) hf
  match zs, hl, hcs, hw with
  | [x, y], _, hcs, hw =>
    have bx := bounds_u32 (hw x (by simp))
    have bz := bounds_u32 (hw y (by simp))
    refine ⟨x.toNat, y.toNat, by omega, by omega, ?_⟩
    rw [Int.toNat_of_nonneg bx.1, Int.toNat_of_nonneg bz.1]
    have : cs.toList = [.int .u32 x, .int .u32 y] := by simpa [Value.cells] using hcs
    congr 1
    exact Array.toList_inj.1 this
end Go.Proofs.YtfbafmgclfnigaaDoor
