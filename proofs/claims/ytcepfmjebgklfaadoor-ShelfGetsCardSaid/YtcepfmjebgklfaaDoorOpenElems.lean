/- How arguments read: the elements of a slice. Over any program. -/
import Derived.Test.YtcepfmjebgklfaaDoorOpenStruct
import Derived.ChangeArms
import Derived.Deep.MidRow
namespace Go.Proofs.YtcepfmjebgklfaaDoor
open Go.ChangeShapes Go.WideShapes Go.ChangeAt Go.RowKit
section
variable {H : Type} {enc : TypeId × Value → H} {P : Program} {w : World} {base : Nat} {spare : Nat → Bool} {held : Bool} {fuel : Nat} {t e : TypeId} {cs : List Value} {x : DataW H × List MemPlace}
theorem cell_lt {w : World} {a : Addr} {v : Value} (h : w.cell? a = some v) : a.block < w.heap.size := by
  unfold World.cell? at h
  split at h
  · rename_i hb; exact (Array.getElem?_eq_some_iff.1 hb).1
  · cases h
/-- A slice that reads: each element lies in memory and reads. -/
theorem trod_elems (m : Nat) (hm : 0 < m) (ht : P.underlying t = some (.slice e)) (he : P.cellsOf e = m) (h : DataW.trod enc P w base spare held fuel t cs = some x) :
    ∃ (A : Option Addr) (n c : Nat), cs = [.slice A n c] ∧ n ≤ c ∧ c ≤ 9223372036854775807 ∧ (n = 0 ∨ ∃ b off, A = some ⟨b, off, none⟩ ∧ b < w.heap.size ∧
      ∀ i, i < n → ∃ row k y, row.length = m ∧ w.rangeAt b (off + i * m) row ∧ DataW.trod enc P w base spare held k e row = some y) := by
  rcases DataW.trod_slice ht h with ⟨hcs, _⟩ | ⟨a, len, cap, elems, rest, n, _, rfl, _, hb, hl, hmx, hlen, hel, _, _⟩
  · exact ⟨none, 0, 0, hcs, Nat.le_refl _, by omega, .inl rfl⟩
  · refine ⟨some a, len, cap, rfl, hl, by unfold maxLen at hmx; omega, ?_⟩
    by_cases h0 : len = 0
    · exact .inl h0
    · right
      have each : ∀ i, i < len → ∃ row y, row.length = m ∧ (∀ j, j < m → w.cell? ((a.add (i * m)).add j) = row[j]?) ∧ DataW.trod enc P w base spare held n e row = some y := by
        intro i hi
        have h1 := hel i hi
        rw [he, List.getElem?_eq_getElem (by omega), Option.bind_eq_some_iff] at h1
        obtain ⟨row, h2, h3⟩ := h1
        obtain ⟨_, h4, h5⟩ := World.cells?_some h2
        exact ⟨row, _, h4, h5, h3⟩
      obtain ⟨r0, y0, l0, c0, _⟩ := each 0 (by omega)
      have hc0 := c0 0 hm
      rw [List.getElem?_eq_getElem (by omega)] at hc0
      obtain ⟨b, off, spot⟩ := a
      have hspot : spot = none := by simpa [Addr.add] using World.cell?_spot hc0
      subst hspot
      rw [Addr.add_mid, Addr.add_mid] at hc0
      refine ⟨b, off, rfl, cell_lt hc0, fun i hi => ?_⟩
      obtain ⟨row, y, h1, h2, h3⟩ := each i hi
      refine ⟨row, n, y, h1, ?_, h3⟩
      intro j v hv
      have hj : j < m := by rw [← h1]; exact (List.getElem?_eq_some_iff.1 hv).1
      have := h2 j hj
      rw [Addr.add_mid, Addr.add_mid, hv] at this
      exact this
theorem list_of {α : Type} {n : Nat} {p : Nat → α → Prop} (h : ∀ i, i < n → ∃ a, p i a) : ∃ l : List α, l.length = n ∧ ∀ i, (hi : i < l.length) → p i l[i] := by
  induction n with
  | zero => exact ⟨[], rfl, fun i hi => by simp at hi⟩
  | succ n ih =>
    obtain ⟨l, hl, hp⟩ := ih (fun i hi => h i (by omega))
    obtain ⟨a, ha⟩ := h n (by omega)
    refine ⟨l ++ [a], by simp [hl], fun i hi => ?_⟩
    by_cases e : i < l.length
    · rw [List.getElem_append_left e]; exact hp i e
    · have : i = n := by simp [hl] at hi; omega
      subst this
      rw [List.getElem_append_right (by omega)]
      simpa using ha
end
end Go.Proofs.YtcepfmjebgklfaaDoor
