/- The field layer's reader: Text, whatever stands there. -/
import Derived.Test.YtcepfmjebgklfaaDoorReadS
namespace Go.Proofs.YtcepfmjebgklfaaDoor
open Go.RowKit
set_option linter.unusedSimpArgs false
set_option linter.unusedVariables false
set_option maxRecDepth 100000
def fineT (b : List UInt8) (i m : Nat) (fine : Bool) : Bool := fine && textOk (seg b i (1 + m)) m
def textV (b : List UInt8) (i m : Nat) (fine : Bool) : ByteArray := if fineT b i m fine then textOf (seg b i (1 + m)) else ⟨#[]⟩
def nextT (b : List UInt8) (i m : Nat) (fine : Bool) : Nat := if fineT b i m fine then i + (1 + m) else i
theorem textV_yes {b : List UInt8} {i m : Nat} {fine : Bool} (h : fineT b i m fine = true) : textV b i m fine = textOf (seg b i (1 + m)) ∧ nextT b i m fine = i + (1 + m) ∧ fine = true ∧ textOk (seg b i (1 + m)) m = true := by
  unfold textV nextT
  rw [h]
  unfold fineT at h
  simp only [Bool.and_eq_true] at h
  exact ⟨rfl, rfl, h.1, h.2⟩
theorem textV_no {b : List UInt8} {i m : Nat} {fine : Bool} (h : fineT b i m fine = false) : textV b i m fine = ⟨#[]⟩ ∧ nextT b i m fine = i := by
  unfold textV nextT
  rw [h]
  exact ⟨rfl, rfl⟩
end Go.Proofs.YtcepfmjebgklfaaDoor
