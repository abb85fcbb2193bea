/- The device layer's laws: great. -/
import Derived.Test.YthellfakdpikjaaDevLaw
namespace Go.Proofs.Ythellfakdpikjaa
open Go.RowKit
set_option linter.unusedSimpArgs false
set_option linter.unusedVariables false
set_option maxRecDepth 100000
theorem rangeAt_cell {w : World} {b off : Nat} {cs : List Value} (h : w.rangeAt b off cs) (j : Nat) (v : Value) (hv : cs[j]? = some v) : w.cell? ⟨b, off + j, none⟩ = some v := h j v hv
theorem ActsIn.below {w w' : World} {A : Option Addr} {n : Nat} {l : List ActL} (h : ActsIn w A n l) (hb : Below w.heap.size w w') : ActsIn w' A n l := by
  refine ⟨h.len, ?_, fun x hx => ?_⟩
  · rcases h.at_ with h0 | ⟨b, off, rfl, h1, h2⟩
    · exact .inl h0
    · refine .inr ⟨b, off, rfl, Nat.lt_of_lt_of_le h1 hb.size, fun i hi j v hv => ?_⟩
      exact (hb.cell h1).trans (h2 i hi j v hv)
  · obtain ⟨h1, h2, h3, h4, h5⟩ := h.ok x hx
    exact ⟨h1, h2, h3, h4, h5.only (Only.of_below hb)⟩
/-- The cells of act number i. -/
theorem ActsIn.cells {w : World} {A : Option Addr} {n : Nat} {l : List ActL} (h : ActsIn w A n l) (i : Nat) (hi : i < l.length) : ∃ b off, A = some ⟨b, off, none⟩ ∧ b < w.heap.size ∧ w.rangeAt b (off + i * 5) (actV l[i]).toList := by
  rcases h.at_ with h0 | ⟨b, off, e, h1, h2⟩
  · have := h.len; omega
  · exact ⟨b, off, e, h1, h2 i hi⟩
def GreatPost (n : Nat) (w : World) (e : Ending) (w' : World) : Prop := ∃ r, e = .returned (.bool r) ∧ (r = false → n ≤ 60) ∧ w = w'
end Go.Proofs.Ythellfakdpikjaa
