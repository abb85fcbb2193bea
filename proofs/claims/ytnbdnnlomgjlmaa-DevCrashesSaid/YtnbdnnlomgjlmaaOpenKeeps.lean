/- How arguments read: a row of keeps. -/
import Derived.Test.YtnbdnnlomgjlmaaOpenActs
namespace Go.Proofs.Ytnbdnnlomgjlmaa
open Go.ChangeShapes Go.WideShapes Go.ChangeAt Go.RowKit
set_option maxRecDepth 100000
theorem open_keeps {H : Type} {enc : TypeId × Value → H} {w : World} {base : Nat} {spare : Nat → Bool} {held : Bool} {W : World} {r : Reach} {b0 : Nat} {v : Value} {d : DataW H} {p : List MemPlace}
    (hv : Value.okWide Try.prog W r b0 61 v) (h : DataW.Trod enc Try.prog w base spare held 61 v d p) : ∃ A n c ks, v = .slice A n c ∧ n ≤ 9223372036854775807 ∧ KeepsIn w A n ks [] := by
  obtain ⟨A0, n0, c0, rfl⟩ := okWide_slice Try.underlying61 hv
  obtain ⟨fuel, hf⟩ := h
  obtain ⟨A, n, c, ks, hcs, hn, hk⟩ := trod_keeps hf
  simp [Value.cells] at hcs
  obtain ⟨rfl, rfl, rfl⟩ := hcs
  exact ⟨_, _, _, ks, rfl, hn, hk⟩
end Go.Proofs.Ytnbdnnlomgjlmaa
