/- == on structs: field by field. Over any program. -/
import Derived.Test.YtnphgaiiiiknpaaDoorLib
namespace Go.Proofs.YtnphgaiiiiknpaaDoor
open Go.RowKit
set_option linter.unusedSimpArgs false
section
variable {P : Program}
/-- A field of two structs: its type, its offset, its two values, whether these are the same. -/
structure FRow where
  t : TypeId
  off : Nat
  x : Value
  y : Value
  r : Bool
theorem run_eqFields (w : World) (d : Nat) (xs ys : Array Value) : ∀ (fs : List Field) (rows : List FRow), (fs.map fun f => (f.name == "_", f.type, f.offset)) = rows.map (fun r => (false, r.t, r.off)) →
    (∀ r ∈ rows, (part r.t xs r.off).run P w = .ok r.x w ∧ (part r.t ys r.off).run P w = .ok r.y w ∧ (Op.equalIn d r.t r.x r.y).run P w = .ok r.r w) →
    (Op.eqFields d xs ys fs).run P w = .ok (rows.all (·.r)) w
  | [], [], _, _ => by simp [Op.eqFields]
  | [], _ :: _, h, _ => by simp at h
  | _ :: _, [], h, _ => by simp at h
  | f :: fs, r :: rows, h, hr => by
    simp only [List.map_cons, List.cons.injEq, Prod.mk.injEq] at h
    obtain ⟨⟨h1, h2, h3⟩, h4⟩ := h
    obtain ⟨e1, e2, e3⟩ := hr r (by simp)
    have hn : f.name ≠ "_" := by simpa using h1
    have ih := run_eqFields w d xs ys fs rows h4 (fun q hq => hr q (by simp [hq]))
    simp only [Op.eqFields, Sem.run_bind, hn, h2, h3, e1, e2, e3, Result.andThen_ok, Sem.run_ite]
    have hn2 : (f.name != "_") = true := by simpa using hn
    cases hq : r.r <;> simp [hn, hq, ih]
end
end Go.Proofs.YtnphgaiiiiknpaaDoor
