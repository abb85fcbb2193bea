/- How arguments read: a row of items. -/
import Derived.Test.YtnfmdcohacflmaaDoorOpenStruct
import Derived.Test.YtnfmdcohacflmaaDoorFieldPut
import Derived.ChangeArms
namespace Go.Proofs.YtnfmdcohacflmaaDoor
open Go.ChangeShapes Go.WideShapes Go.ChangeAt Go.RowKit
set_option maxRecDepth 100000
section
variable {H : Type} {enc : TypeId × Value → H} {P : Program} {w : World} {base : Nat} {spare : Nat → Bool} {held : Bool} {fuel : Nat} {t e : TypeId} {cs : List Value} {x : DataW H × List MemPlace}
theorem cell_lt {w : World} {a : Addr} {v : Value} (h : w.cell? a = some v) : a.block < w.heap.size := by
  unfold World.cell? at h
  split at h
  · rename_i hb; exact (Array.getElem?_eq_some_iff.1 hb).1
  · cases h
/-- A slice that reads: each element lies in memory and reads. -/
theorem trod_elems (m : Nat) (hm : 0 < m) (ht : P.underlying t = some (.slice e)) (he : P.cellsOf e = m) (h : DataW.trod enc P w base spare held fuel t cs = some x) :
    ∃ (A : Option Addr) (n c : Nat), cs = [.slice A n c] ∧ n ≤ 9223372036854775807 ∧ (n = 0 ∨ ∃ b off, A = some ⟨b, off, none⟩ ∧ b < w.heap.size ∧
      ∀ i, i < n → ∃ row k y, row.length = m ∧ w.rangeAt b (off + i * m) row ∧ DataW.trod enc P w base spare held k e row = some y) := by
  rcases DataW.trod_slice ht h with ⟨hcs, _⟩ | ⟨a, len, cap, elems, rest, n, _, rfl, _, hb, hl, hmx, hlen, hel, _, _⟩
  · exact ⟨none, 0, 0, hcs, by omega, .inl rfl⟩
  · refine ⟨some a, len, cap, rfl, by unfold maxLen at hmx; omega, ?_⟩
    by_cases h0 : len = 0
    · exact .inl h0
    · right
      have each : ∀ i, i < len → ∃ row y, row.length = m ∧ (∀ j, j < m → w.cell? ((a.add (i * m)).add j) = row[j]?) ∧ DataW.trod enc P w base spare held n e row = some y := by
        intro i hi
        have h1 := hel i hi
        rw [he, List.getElem?_eq_getElem (by omega), Option.bind_eq_some_iff] at h1
        obtain ⟨row, h2, h3⟩ := h1
        obtain ⟨_, h4, h5⟩ := World.cells?_some h2
        exact ⟨row, _, h4, h5, h3⟩
      obtain ⟨r0, y0, l0, c0, _⟩ := each 0 (by omega)
      have hc0 := c0 0 hm
      rw [List.getElem?_eq_getElem (by omega)] at hc0
      obtain ⟨b, off, spot⟩ := a
      have hspot : spot = none := by simpa [Addr.add] using World.cell?_spot hc0
      subst hspot
      rw [Addr.add_mid, Addr.add_mid] at hc0
      refine ⟨b, off, rfl, cell_lt hc0, fun i hi => ?_⟩
      obtain ⟨row, y, h1, h2, h3⟩ := each i hi
      refine ⟨row, n, y, h1, ?_, h3⟩
      intro j v hv
      have hj : j < m := by rw [← h1]; exact (List.getElem?_eq_some_iff.1 hv).1
      have := h2 j hj
      rw [Addr.add_mid, Addr.add_mid, hv] at this
      exact this
theorem list_of {α : Type} {n : Nat} {p : Nat → α → Prop} (h : ∀ i, i < n → ∃ a, p i a) : ∃ l : List α, l.length = n ∧ ∀ i, (hi : i < l.length) → p i l[i] := by
  induction n with
  | zero => exact ⟨[], rfl, fun i hi => by simp at hi⟩
  | succ n ih =>
    obtain ⟨l, hl, hp⟩ := ih (fun i hi => h i (by omega))
    obtain ⟨a, ha⟩ := h n (by omega)
    refine ⟨l ++ [a], by simp [hl], fun i hi => ?_⟩
    by_cases e : i < l.length
    · rw [List.getElem_append_left e]; exact hp i e
    · have : i = n := by simp [hl] at hi; omega
      subst this
      rw [List.getElem_append_right (by omega)]
      simpa using ha
end
section
variable {H : Type} {enc : TypeId × Value → H} {w : World} {base : Nat} {spare : Nat → Bool} {held : Bool} {fuel : Nat} {cs : List Value} {x : DataW H × List MemPlace}
theorem fieldsItem : ((Tryd.prog.fieldsOf 31).toList.map fun f => (f.name == "_", f.type, f.offset)) = [(false, 4, 0), (false, 29, 1), (false, 9, 2), (false, 3, 3)] := by kernel_rfl
theorem structItem : Tryd.prog.underlying 31 = some (.struct (Tryd.prog.fieldsOf 31)) := by kernel_rfl
theorem trod_item {row : List Value} (hl : row.length = 4) (h : DataW.trod enc Tryd.prog w base spare held fuel 31 row = some x) : ∃ a : ItemL, a.n < 18446744073709551616 ∧ row = (itemV a).toList := by
  obtain ⟨_, _, f0⟩ := trod_field structItem h _ fieldsItem 0 false 4 0 rfl
  obtain ⟨_, _, f1⟩ := trod_field structItem h _ fieldsItem 1 false 29 1 rfl
  obtain ⟨_, _, f2⟩ := trod_field structItem h _ fieldsItem 2 false 9 2 rfl
  obtain ⟨_, _, f3⟩ := trod_field structItem h _ fieldsItem 3 false 3 3 rfl
  obtain ⟨z0, e0⟩ := trod_bool_cell Tryd.underlying4 f0
  obtain ⟨z1, e1, w1⟩ := trod_int_cell Tryd.underlying29 f1
  obtain ⟨z2, e2, w2⟩ := trod_string_cell Tryd.underlying9 f2
  obtain ⟨z3, e3, w3⟩ := trod_int_cell Tryd.underlying3 f3
  have c0 := cell_of_take e0
  have c1 := cell_of_take e1
  have c2 := cell_of_take e2
  have c3 := cell_of_take e3
  have b1 := bounds_u64 w1
  refine ⟨⟨z0, z1.toNat, z2, z3⟩, by show z1.toNat < _; omega, ?_⟩
  show row = [.bool z0, .int .u64 ((z1.toNat : Nat) : Int), .string z2, .int .i64 z3]
  rw [Int.toNat_of_nonneg b1.1]
  match row, hl with
  | [p, q, r, s], _ => simp at c0 c1 c2 c3; rw [c0, c1, c2, c3]
/-- A row of items, opened. -/
theorem open_items {W : World} {r : Reach} {b0 : Nat} {v : Value} {d : DataW H} {p : List MemPlace}
    (hv : Value.okWide Tryd.prog W r b0 22 v) (h : DataW.Trod enc Tryd.prog w base spare held 22 v d p) : ∃ A n c l, v = .slice A n c ∧ n ≤ 9223372036854775807 ∧ ItemsIn w A n l := by
  obtain ⟨A0, n0, c0, rfl⟩ := okWide_slice Tryd.underlying22 hv
  obtain ⟨fuel, hf⟩ := h
  obtain ⟨A, n, c, hcs, hn, hat⟩ := trod_elems 4 (by omega) Tryd.underlying22 (by kernel_rfl) hf
  simp [Value.cells] at hcs
  obtain ⟨rfl, rfl, rfl⟩ := hcs
  rcases hat with rfl | ⟨b, off, rfl, hb, hat⟩
  · exact ⟨_, _, _, [], rfl, hn, ⟨rfl, .inl rfl, by simp⟩⟩
  · obtain ⟨l, hl, hls⟩ := list_of (p := fun i (a : ItemL) => a.n < 18446744073709551616 ∧ w.rangeAt b (off + i * 4) (itemV a).toList) (fun i hi => by
      obtain ⟨row, _, _, h1, h2, h3⟩ := hat i hi
      obtain ⟨a, ha, rfl⟩ := trod_item h1 h3
      exact ⟨a, ha, h2⟩)
    refine ⟨_, _, _, l, rfl, hn, ⟨hl, .inr ⟨b, off, rfl, hb, fun i hi => (hls i hi).2⟩, ?_⟩⟩
    intro a ha
    obtain ⟨i, hi, rfl⟩ := List.mem_iff_getElem.1 ha
    exact (hls i hi).1
end
end Go.Proofs.YtnfmdcohacflmaaDoor
