/- What is known of some blocks that a call has made: carried through calls, new blocks and stores. Over any program. -/
import Derived.Test.YtnphgaiiiiknpaaDoorCopies
import Derived.Test.YtnphgaiiiiknpaaDoorQuiet
namespace Go.Proofs.YtnphgaiiiiknpaaDoor
open Go.RowKit
/-- W lies behind w0; the blocks of l, all made since, hold what l says, and no two are one. -/
structure Rows (w0 W : World) (l : List (Nat × Array Value × TypeId)) : Prop where
  below : Below w0.heap.size w0 W
  row : ∀ x ∈ l, w0.heap.size ≤ x.1 ∧ W.heap[x.1]? = some (.cells x.2.1 x.2.2 (0, 0))
  dist : (l.map (·.1)).Nodup
section
variable {w0 W W' : World} {l : List (Nat × Array Value × TypeId)}
theorem Rows.start (w : World) : Rows w w [] := ⟨Below.refl _ _, fun _ h => absurd h List.not_mem_nil, List.nodup_nil⟩
theorem Rows.get (R : Rows w0 W l) (k : Nat) {g : Nat} {cs : Array Value} {T : TypeId} (e : l[k]? = some (g, cs, T)) : W.heap[g]? = some (.cells cs T (0, 0)) :=
  (R.row _ (List.mem_of_getElem? e)).2
theorem Rows.ge (R : Rows w0 W l) (k : Nat) {g : Nat} {cs : Array Value} {T : TypeId} (e : l[k]? = some (g, cs, T)) : w0.heap.size ≤ g :=
  (R.row _ (List.mem_of_getElem? e)).1
theorem Rows.lt (R : Rows w0 W l) (k : Nat) {g : Nat} {cs : Array Value} {T : TypeId} (e : l[k]? = some (g, cs, T)) : g < W.heap.size :=
  (Array.getElem?_eq_some_iff.1 (R.get k e)).1
theorem Rows.cell (R : Rows w0 W l) (k i : Nat) {g : Nat} {cs : Array Value} {T : TypeId} {v : Value} (e : l[k]? = some (g, cs, T)) (hv : cs[i]? = some v) : W.cell? ⟨g, i, none⟩ = some v :=
  (cell_of_row W g i _ _ _ (R.get k e)).trans hv
theorem Rows.free (R : Rows w0 W l) (k i : Nat) {g : Nat} {cs : Array Value} {T : TypeId} (e : l[k]? = some (g, cs, T)) : W.frozen? ⟨g, i, none⟩ = false :=
  frozen_of_row W g i _ _ (R.get k e)
theorem Rows.call (R : Rows w0 W l) (hb : Below W.heap.size W W') : Rows w0 W' l :=
  ⟨R.below.trans (hb.mono R.below.size), fun x hx => ⟨(R.row x hx).1, (hb.block _ (Array.getElem?_eq_some_iff.1 (R.row x hx).2).1).trans (R.row x hx).2⟩, R.dist⟩
theorem Rows.since (R : Rows w0 W l) (hC : Since W W') : Rows w0 W' l := R.call hC
theorem Rows.alloc (R : Rows w0 W l) (cs : Array Value) (T : TypeId) : Rows w0 (W.alloc (.cells cs T)) ((W.heap.size, cs, T) :: l) := by
  refine ⟨R.below.alloc R.below.size _, ?_, ?_⟩
  · intro x hx
    rcases List.mem_cons.1 hx with rfl | hx
    · exact ⟨R.below.size, heap_alloc_new _ _⟩
    · obtain ⟨h1, h2⟩ := R.row x hx
      exact ⟨h1, (Go.heap_alloc_old _ _ (Array.getElem?_eq_some_iff.1 h2).1).trans h2⟩
  · rw [List.map_cons, List.nodup_cons]
    refine ⟨fun hm => ?_, R.dist⟩
    obtain ⟨x, hx, he⟩ := List.mem_map.1 hm
    have := (Array.getElem?_eq_some_iff.1 (R.row x hx).2).1
    omega
theorem Rows.drew (R : Rows w0 W l) : Rows w0 W.drew l := R.call ((Below.refl _ _).drew)
theorem Rows.perm {l' : List (Nat × Array Value × TypeId)} (R : Rows w0 W l) (h : l.Perm l') : Rows w0 W l' :=
  ⟨R.below, fun x hx => R.row x (h.mem_iff.2 hx), (h.map _).nodup_iff.1 R.dist⟩
theorem Rows.drop (R : Rows w0 W l) (k : Nat) : Rows w0 W (l.drop k) :=
  ⟨R.below, fun x hx => R.row x (List.mem_of_mem_drop hx), by rw [List.map_drop]; exact R.dist.sublist (List.drop_sublist _ _)⟩
theorem Rows.tail {x : Nat × Array Value × TypeId} (R : Rows w0 W (x :: l)) : Rows w0 W l := R.drop 1
theorem map_set_same (l : List (Nat × Array Value × TypeId)) (k : Nat) (g : Nat) (cs c2 : Array Value) (T T2 : TypeId) (e : l[k]? = some (g, cs, T)) : (l.set k (g, c2, T2)).map (·.1) = l.map (·.1) := by
  rw [List.map_set]
  have hk := (List.getElem?_eq_some_iff.1 e)
  apply List.ext_getElem?
  intro i
  rw [List.getElem?_set]
  split
  · rename_i hi
    subst hi
    rw [List.getElem?_map, e]
    simp [hk.1]
  · rfl
theorem Rows.turn (R : Rows w0 W l) (k : Nat) {g : Nat} {cs c2 : Array Value} {T : TypeId} (e : l[k]? = some (g, cs, T)) (hb : Below w0.heap.size w0 W')
    (hnew : W'.heap[g]? = some (.cells c2 T (0, 0))) (hold : ∀ i, i ≠ g → W'.heap[i]? = W.heap[i]?) : Rows w0 W' (l.set k (g, c2, T)) := by
  refine ⟨hb, ?_, by rw [map_set_same l k g cs c2 T T e]; exact R.dist⟩
  intro x hx
  obtain ⟨i, hi⟩ := List.mem_iff_getElem?.1 hx
  rw [List.getElem?_set] at hi
  split at hi
  · split at hi
    · simp only [Option.some.injEq] at hi
      subst hi
      exact ⟨R.ge k e, hnew⟩
    · cases hi
  · rename_i hik
    have hm := List.mem_of_getElem? hi
    refine ⟨(R.row x hm).1, ?_⟩
    rw [hold x.1 ?_]
    · exact (R.row x hm).2
    · intro he
      apply hik
      have h1 : (l.map (·.1))[k]? = some g := by rw [List.getElem?_map, e]; rfl
      have h2 : (l.map (·.1))[i]? = some g := by rw [List.getElem?_map, hi, ← he]; rfl
      have hk := (List.getElem?_eq_some_iff.1 h1)
      have hi' := (List.getElem?_eq_some_iff.1 h2)
      exact ((List.getElem_inj (h₀ := hi'.1) (h₁ := hk.1) R.dist).1 (by rw [hk.2, hi'.2])).symm
theorem Rows.setRow (R : Rows w0 W l) (k : Nat) (c2 : Array Value) {g : Nat} {cs : Array Value} {T : TypeId} (e : l[k]? = some (g, cs, T)) : Rows w0 (W.setRow g c2) (l.set k (g, c2, T)) :=
  R.turn k e (below_setRow R.below (R.ge k e) _) (setRow_heap _ _ _ _ _ _ (R.get k e)) (fun _ hi => setRow_other _ _ _ _ hi)
theorem Rows.setCell (R : Rows w0 W l) (k i : Nat) (v : Value) {g : Nat} {cs : Array Value} {T : TypeId} (e : l[k]? = some (g, cs, T)) : Rows w0 (W.setCell ⟨g, i, none⟩ v) (l.set k (g, cs.setIfInBounds i v, T)) :=
  R.turn k e (R.below.setCell (R.ge k e) _) (heap_setCell_same _ _ _ _ _ _ (R.get k e)) (fun _ hi => heap_setCell_other _ _ _ _ hi)
theorem Rows.copies (R : Rows w0 W l) (n : Nat) (b : Nat → Nat) (C : Array Value) (T : TypeId) (hbs : ∀ j, j < n → W.heap.size ≤ b j ∧ W'.heap[b j]? = some (.cells C T (0, 0)))
    (hne : ∀ j k, j < n → k < n → j ≠ k → b j ≠ b k) (hb : Below W.heap.size W W') : Rows w0 W' ((List.range n).map (fun j => (b j, C, T)) ++ l) := by
  refine ⟨R.below.trans (hb.mono R.below.size), ?_, ?_⟩
  · intro x hx
    rcases List.mem_append.1 hx with hx | hx
    · obtain ⟨j, hj, rfl⟩ := List.mem_map.1 hx
      obtain ⟨h1, h2⟩ := hbs j (List.mem_range.1 hj)
      exact ⟨Nat.le_trans R.below.size h1, h2⟩
    · exact (R.call hb).row x hx
  · rw [List.map_append, List.nodup_append]
    refine ⟨?_, R.dist, ?_⟩
    · rw [List.map_map]
      unfold List.Nodup
      rw [List.pairwise_map, List.pairwise_iff_getElem]
      intro i j hi hj hij
      simp only [List.length_range] at hi hj
      simp only [List.getElem_range, Function.comp]
      exact hne i j hi hj (by omega)
    · intro x hx y hy hxy
      subst hxy
      rw [List.map_map] at hx
      obtain ⟨j, hj, rfl⟩ := List.mem_map.1 hx
      obtain ⟨z, hz, hze⟩ := List.mem_map.1 hy
      have h1 := (hbs j (List.mem_range.1 hj)).1
      have h2 := (Array.getElem?_eq_some_iff.1 (R.row z hz).2).1
      simp only [Function.comp] at hze
      omega
end
end Go.Proofs.YtnphgaiiiiknpaaDoor
