/- How arguments read: the fields of a struct, by value. Over any program. How arguments read: a row of acts, each with its own row of keeps. How arguments read: a row of keeps. -/
import Derived.Test.YtnphgaiiiiknpaaDoorOpen
import Derived.Test.YtnphgaiiiiknpaaDoorDev9
import Derived.ChangeArms
namespace Go.Proofs.YtnphgaiiiiknpaaDoor
open Go.ChangeShapes Go.WideShapes Go.ChangeAt Go.RowKit
section
variable {H : Type} {enc : TypeId × Value → H} {P : Program} {w : World} {base : Nat} {spare : Nat → Bool} {held : Bool} {fuel : Nat} {t e : TypeId} {cs : List Value} {x : DataW H × List MemPlace}
theorem okWide_struct {fs : Array Field} {W : World} {r : Reach} {b0 : Nat} {v : Value} (ht : P.underlying t = some (.struct fs)) (h : Value.okWide P W r b0 t v) : ∃ cs, v = .agg cs ∧ cs.size = P.cellsOf t := by
  unfold Value.okWide at h
  rw [ht] at h
  obtain ⟨cs, hv, hc, _⟩ := h
  exact ⟨cs, hv, hc⟩
theorem trod_int_cell {k : IntKind} (ht : P.underlying t = some (.int k)) (h : DataW.trod enc P w base spare held fuel t cs = some x) : ∃ z, cs = [.int k z] ∧ (Lit.int k z).wf = true := by
  cases fuel with
  | zero => simp [DataW.trod] at h
  | succ m =>
    unfold DataW.trod at h
    rw [ht] at h
    split at h <;> simp_all
theorem trod_bool_cell (ht : P.underlying t = some .bool) (h : DataW.trod enc P w base spare held fuel t cs = some x) : ∃ b, cs = [.bool b] := by
  cases fuel with
  | zero => simp [DataW.trod] at h
  | succ m =>
    unfold DataW.trod at h
    rw [ht] at h
    split at h <;> simp_all
theorem trod_string_cell (ht : P.underlying t = some .string) (h : DataW.trod enc P w base spare held fuel t cs = some x) : ∃ s, cs = [.string s] ∧ s.size ≤ maxLen := by
  cases fuel with
  | zero => simp [DataW.trod] at h
  | succ m =>
    unfold DataW.trod at h
    rw [ht] at h
    split at h <;> simp_all
/-- A field of a struct that reads: it reads. -/
theorem trod_field {fs : Array Field} (ht : P.underlying t = some (.struct fs)) (h : DataW.trod enc P w base spare held fuel t cs = some x) (L : List (Bool × TypeId × Nat)) (hL : (fs.toList.map fun f => (f.name == "_", f.type, f.offset)) = L)
    (i : Nat) (u : Bool) (e : TypeId) (off : Nat) (hi : L[i]? = some (u, e, off)) : ∃ n y, DataW.trod enc P w base spare held n e ((cs.drop off).take (P.cellsOf e)) = some y := by
  obtain ⟨xs, n, _, _, _, hlen, hf⟩ := DataW.trod_struct ht h
  rw [← hL, List.getElem?_map] at hi
  obtain ⟨f, hf1, hf2⟩ := Option.map_eq_some_iff.1 hi
  simp only [Prod.mk.injEq] at hf2
  obtain ⟨_, e1, e2⟩ := hf2
  have hfi : fs[i]? = some f := by simpa using hf1
  have hlt : i < xs.length := by rw [hlen]; exact (Array.getElem?_eq_some_iff.1 hfi).1
  have := hf i f hfi
  rw [e1, e2, List.getElem?_eq_getElem hlt] at this
  exact ⟨n, _, this⟩
theorem cell_of_take {off : Nat} {v : Value} (h : (cs.drop off).take 1 = [v]) : cs[off]? = some v := by
  have h1 := congrArg (·[0]?) h
  simpa [List.getElem?_take] using h1
end
end Go.Proofs.YtnphgaiiiiknpaaDoor
namespace Go.Proofs.YtnphgaiiiiknpaaDoor
open Go.ChangeShapes Go.WideShapes Go.ChangeAt Go.RowKit
set_option maxRecDepth 100000
section
variable {H : Type} {enc : TypeId × Value → H} {P : Program} {w : World} {base : Nat} {spare : Nat → Bool} {held : Bool} {fuel : Nat} {t e : TypeId} {cs : List Value} {x : DataW H × List MemPlace}
theorem cell_lt {w : World} {a : Addr} {v : Value} (h : w.cell? a = some v) : a.block < w.heap.size := by
  unfold World.cell? at h
  split at h
  · rename_i hb; exact (Array.getElem?_eq_some_iff.1 hb).1
  · cases h
/-- A slice that reads: each element lies in memory and reads. -/
theorem trod_elems (m : Nat) (hm : 0 < m) (ht : P.underlying t = some (.slice e)) (he : P.cellsOf e = m) (h : DataW.trod enc P w base spare held fuel t cs = some x) :
    ∃ (A : Option Addr) (n c : Nat), cs = [.slice A n c] ∧ n ≤ 9223372036854775807 ∧ (n = 0 ∨ ∃ b off, A = some ⟨b, off, none⟩ ∧ b < w.heap.size ∧
      ∀ i, i < n → ∃ row k y, row.length = m ∧ w.rangeAt b (off + i * m) row ∧ DataW.trod enc P w base spare held k e row = some y) := by
  rcases DataW.trod_slice ht h with ⟨hcs, _⟩ | ⟨a, len, cap, elems, rest, n, _, rfl, _, hb, hl, hmx, hlen, hel, _, _⟩
  · exact ⟨none, 0, 0, hcs, by omega, .inl rfl⟩
  · refine ⟨some a, len, cap, rfl, by unfold maxLen at hmx; omega, ?_⟩
    by_cases h0 : len = 0
    · exact .inl h0
    · right
      have each : ∀ i, i < len → ∃ row y, row.length = m ∧ (∀ j, j < m → w.cell? ((a.add (i * m)).add j) = row[j]?) ∧ DataW.trod enc P w base spare held n e row = some y := by
        intro i hi
        have h1 := hel i hi
        rw [he, List.getElem?_eq_getElem (by omega), Option.bind_eq_some_iff] at h1
        obtain ⟨row, h2, h3⟩ := h1
        obtain ⟨_, h4, h5⟩ := World.cells?_some h2
        exact ⟨row, _, h4, h5, h3⟩
      obtain ⟨r0, y0, l0, c0, _⟩ := each 0 (by omega)
      have hc0 := c0 0 hm
      rw [List.getElem?_eq_getElem (by omega)] at hc0
      obtain ⟨b, off, spot⟩ := a
      have hspot : spot = none := by simpa [Addr.add] using World.cell?_spot hc0
      subst hspot
      rw [Addr.add_mid, Addr.add_mid] at hc0
      refine ⟨b, off, rfl, cell_lt hc0, fun i hi => ?_⟩
      obtain ⟨row, y, h1, h2, h3⟩ := each i hi
      refine ⟨row, n, y, h1, ?_, h3⟩
      intro j v hv
      have hj : j < m := by rw [← h1]; exact (List.getElem?_eq_some_iff.1 hv).1
      have := h2 j hj
      rw [Addr.add_mid, Addr.add_mid, hv] at this
      exact this
theorem list_of {α : Type} {n : Nat} {p : Nat → α → Prop} (h : ∀ i, i < n → ∃ a, p i a) : ∃ l : List α, l.length = n ∧ ∀ i, (hi : i < l.length) → p i l[i] := by
  induction n with
  | zero => exact ⟨[], rfl, fun i hi => by simp at hi⟩
  | succ n ih =>
    obtain ⟨l, hl, hp⟩ := ih (fun i hi => h i (by omega))
    obtain ⟨a, ha⟩ := h n (by omega)
    refine ⟨l ++ [a], by simp [hl], fun i hi => ?_⟩
    by_cases e : i < l.length
    · rw [List.getElem_append_left e]; exact hp i e
    · have : i = n := by simp [hl] at hi; omega
      subst this
      rw [List.getElem_append_right (by omega)]
      simpa using ha
end
section
variable {H : Type} {enc : TypeId × Value → H} {w : World} {base : Nat} {spare : Nat → Bool} {held : Bool} {fuel : Nat} {cs : List Value} {x : DataW H × List MemPlace}
theorem fieldsKeep : ((Tryd.prog.fieldsOf 77).toList.map fun f => (f.name == "_", f.type, f.offset)) = [(false, 75, 0), (false, 5, 1)] := by kernel_rfl
theorem structKeep : Tryd.prog.underlying 77 = some (.struct (Tryd.prog.fieldsOf 77)) := by kernel_rfl
theorem trod_keep {row : List Value} (hl : row.length = 2) (h : DataW.trod enc Tryd.prog w base spare held fuel 77 row = some x) : ∃ k : Nat × Nat, k.1 < 65536 ∧ k.2 < 256 ∧ row = [.int .u16 (k.1 : Int), .int .u8 (k.2 : Int)] := by
  obtain ⟨_, _, f0⟩ := trod_field structKeep h _ fieldsKeep 0 false 75 0 rfl
  obtain ⟨_, _, f1⟩ := trod_field structKeep h _ fieldsKeep 1 false 5 1 rfl
  obtain ⟨z0, e0, w0⟩ := trod_int_cell Tryd.underlying75 f0
  obtain ⟨z1, e1, w1⟩ := trod_int_cell Tryd.underlying5 f1
  have c0 := cell_of_take e0
  have c1 := cell_of_take e1
  have b0 := bounds_u16 w0
  have b1 := bounds_u8 w1
  refine ⟨(z0.toNat, z1.toNat), by show z0.toNat < _; omega, by show z1.toNat < _; omega, ?_⟩
  show row = [.int .u16 ((z0.toNat : Nat) : Int), .int .u8 ((z1.toNat : Nat) : Int)]
  rw [Int.toNat_of_nonneg b0.1, Int.toNat_of_nonneg b1.1]
  match row, hl with
  | [p, q], _ => simp at c0 c1; rw [c0, c1]
theorem trod_keeps (h : DataW.trod enc Tryd.prog w base spare held fuel 36 cs = some x) : ∃ A n c ks, cs = [.slice A n c] ∧ n ≤ 9223372036854775807 ∧ KeepsIn w A n ks [] := by
  obtain ⟨A, n, c, rfl, hn, hat⟩ := trod_elems 2 (by omega) Tryd.underlying36 (by kernel_rfl) h
  rcases hat with rfl | ⟨b, off, rfl, hb, hat⟩
  · exact ⟨_, _, _, [], rfl, hn, ⟨rfl, .inl rfl, by simp⟩⟩
  · obtain ⟨ks, hl, hks⟩ := list_of (p := fun i k => k.1 < 65536 ∧ k.2 < 256 ∧ w.rangeAt b (off + i * 2) [.int .u16 ((k : Nat × Nat).1 : Int), .int .u8 (k.2 : Int)]) (fun i hi => by
      obtain ⟨row, _, _, h1, h2, h3⟩ := hat i hi
      obtain ⟨k, k1, k2, rfl⟩ := trod_keep h1 h3
      exact ⟨k, k1, k2, h2⟩)
    refine ⟨_, _, _, ks, rfl, hn, ⟨hl, .inr ⟨b, off, rfl, hb, by simp, fun i hi => ?_⟩, ?_⟩⟩
    · obtain ⟨_, _, h3⟩ := hks i hi
      exact ⟨h3 0 _ rfl, h3 1 _ rfl⟩
    · intro k hk
      obtain ⟨i, hi, rfl⟩ := List.mem_iff_getElem.1 hk
      exact ⟨(hks i hi).1, (hks i hi).2.1⟩
def ActOk (w : World) (x : ActL) : Prop := x.what < 256 ∧ x.a < 4294967296 ∧ x.k < 9223372036854775808 ∧ x.ln ≤ 9223372036854775807 ∧ KeepsIn w x.lA x.ln x.keeps []
end
end Go.Proofs.YtnphgaiiiiknpaaDoor
namespace Go.Proofs.YtnphgaiiiiknpaaDoor
open Go.ChangeShapes Go.WideShapes Go.ChangeAt Go.RowKit
set_option maxRecDepth 100000
theorem open_keeps {H : Type} {enc : TypeId × Value → H} {w : World} {base : Nat} {spare : Nat → Bool} {held : Bool} {W : World} {r : Reach} {b0 : Nat} {v : Value} {d : DataW H} {p : List MemPlace}
    (hv : Value.okWide Tryd.prog W r b0 36 v) (h : DataW.Trod enc Tryd.prog w base spare held 36 v d p) : ∃ A n c ks, v = .slice A n c ∧ n ≤ 9223372036854775807 ∧ KeepsIn w A n ks [] := by
  obtain ⟨A0, n0, c0, rfl⟩ := okWide_slice Tryd.underlying36 hv
  obtain ⟨fuel, hf⟩ := h
  obtain ⟨A, n, c, ks, hcs, hn, hk⟩ := trod_keeps hf
  simp [Value.cells] at hcs
  obtain ⟨rfl, rfl, rfl⟩ := hcs
  exact ⟨_, _, _, ks, rfl, hn, hk⟩
end Go.Proofs.YtnphgaiiiiknpaaDoor
