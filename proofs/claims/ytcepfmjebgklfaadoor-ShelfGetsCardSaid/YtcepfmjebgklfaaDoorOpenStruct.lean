/- How arguments read: the fields of a struct, by value. Over any program. -/
import Derived.Test.YtcepfmjebgklfaaDoorOpen
namespace Go.Proofs.YtcepfmjebgklfaaDoor
open Go.ChangeShapes Go.WideShapes Go.ChangeAt Go.RowKit
section
variable {H : Type} {enc : TypeId × Value → H} {P : Program} {w : World} {base : Nat} {spare : Nat → Bool} {held : Bool} {fuel : Nat} {t e : TypeId} {cs : List Value} {x : DataW H × List MemPlace}
theorem okWide_struct {fs : Array Field} {W : World} {r : Reach} {b0 : Nat} {v : Value} (ht : P.underlying t = some (.struct fs)) (h : Value.okWide P W r b0 t v) : ∃ cs, v = .agg cs ∧ cs.size = P.cellsOf t := by
  unfold Value.okWide at h
  rw [ht] at h
  obtain ⟨cs, hv, hc, _⟩ := h
  exact ⟨cs, hv, hc⟩
theorem trod_int_cell {k : IntKind} (ht : P.underlying t = some (.int k)) (h : DataW.trod enc P w base spare held fuel t cs = some x) : ∃ z, cs = [.int k z] ∧ (Lit.int k z).wf = true := by
  cases fuel with
  | zero => simp [DataW.trod] at h
  | succ m =>
    unfold DataW.trod at h
    rw [ht] at h
    split at h <;> simp_all
theorem trod_bool_cell (ht : P.underlying t = some .bool) (h : DataW.trod enc P w base spare held fuel t cs = some x) : ∃ b, cs = [.bool b] := by
  cases fuel with
  | zero => simp [DataW.trod] at h
  | succ m =>
    unfold DataW.trod at h
    rw [ht] at h
    split at h <;> simp_all
theorem trod_string_cell (ht : P.underlying t = some .string) (h : DataW.trod enc P w base spare held fuel t cs = some x) : ∃ s, cs = [.string s] ∧ s.size ≤ maxLen := by
  cases fuel with
  | zero => simp [DataW.trod] at h
  | succ m =>
    unfold DataW.trod at h
    rw [ht] at h
    split at h <;> simp_all
/-- A field of a struct that reads: it reads. -/
theorem trod_field {fs : Array Field} (ht : P.underlying t = some (.struct fs)) (h : DataW.trod enc P w base spare held fuel t cs = some x) (L : List (Bool × TypeId × Nat)) (hL : (fs.toList.map fun f => (f.name == "_", f.type, f.offset)) = L)
    (i : Nat) (u : Bool) (e : TypeId) (off : Nat) (hi : L[i]? = some (u, e, off)) : ∃ n y, DataW.trod enc P w base spare held n e ((cs.drop off).take (P.cellsOf e)) = some y := by
  obtain ⟨xs, n, _, _, _, hlen, hf⟩ := DataW.trod_struct ht h
  rw [← hL, List.getElem?_map] at hi
  obtain ⟨f, hf1, hf2⟩ := Option.map_eq_some_iff.1 hi
  simp only [Prod.mk.injEq] at hf2
  obtain ⟨_, e1, e2⟩ := hf2
  have hfi : fs[i]? = some f := by simpa using hf1
  have hlt : i < xs.length := by rw [hlen]; exact (Array.getElem?_eq_some_iff.1 hfi).1
  have := hf i f hfi
  rw [e1, e2, List.getElem?_eq_getElem hlt] at this
  exact ⟨n, _, this⟩
theorem cell_of_take {off : Nat} {v : Value} (h : (cs.drop off).take 1 = [v]) : cs[off]? = some v := by
  have h1 := congrArg (·[0]?) h
  simpa [List.getElem?_take] using h1
end
end Go.Proofs.YtcepfmjebgklfaaDoor
