/- The tree of names: the one at the top splits the others; each is at the top once. The plain law, and rows of texts as lists. -/
import Derived.Test.YtnbdnnlomgjlmaaOpen2
namespace Go.Proofs.Ytnbdnnlomgjlmaa
open Go.RowKit
/-- The texts of a list, by place. -/
def atL (L : List ByteArray) (i : Nat) : ByteArray := L.getD i ByteArray.empty
theorem atL_mem {L : List ByteArray} {i : Nat} (h : i < L.length) : atL L i ∈ L := by
  unfold atL
  rw [List.getD_eq_getElem?_getD, List.getElem?_eq_getElem h]
  exact List.getElem_mem _
theorem atL_take {L : List ByteArray} {k : Nat} (h : k < L.length) : L.take (k + 1) = L.take k ++ [atL L k] := by
  unfold atL
  rw [List.take_add_one, List.getD_eq_getElem?_getD, List.getElem?_eq_getElem h]; rfl
theorem mem_atL {L : List ByteArray} {s : ByteArray} (h : s ∈ L) : ∃ i, i < L.length ∧ s = atL L i := by
  obtain ⟨i, hi, rfl⟩ := List.mem_iff_getElem.1 h
  exact ⟨i, hi, by unfold atL; rw [List.getD_eq_getElem?_getD, List.getElem?_eq_getElem hi]; rfl⟩
theorem bytes_ext {a b : ByteArray} (h : a.data.toList = b.data.toList) : a = b := by
  cases a; cases b; congr 1; exact Array.toList_inj.1 h
/-- The slice v is the call's own and holds the texts of L. -/
def OwnList (w : World) (base : Nat) (v : Value) (L : List ByteArray) : Prop := w.ownsRow base 9 1 v L.length (L.map Value.string)
theorem OwnList.nil (w : World) (base : Nat) : OwnList w base (.slice none 0 0) [] := World.ownsRow_nil _ _ _ _
theorem OwnList.read {w : World} {base : Nat} {v : Value} {L : List ByteArray} (h : OwnList w base v L) (hs : ∀ s ∈ L, s.size ≤ maxLen) :
    ∃ A c, v = .slice A L.length c ∧ L.length ≤ c ∧ c ≤ maxLen ∧ TextsIn w A L.length (atL L) := by
  have hc : ∀ g, v.ownBlock = some g → ∀ (j : Nat) u, (L.map Value.string)[j]? = some u → w.cell? ((⟨g, 0, none⟩ : Addr).add j) = some u := fun g hg => World.ownsRow.cells h hg
  rcases h.2 with ⟨rfl, h0⟩ | ⟨g, cap, cur, rfl, hb, hg, hnc, hcm, _, _⟩
  · exact ⟨none, 0, by rw [h0], by omega, Nat.zero_le _, .inl h0⟩
  · refine ⟨_, cap, rfl, hnc, hcm, .inr ⟨g, 0, rfl, fun i hi => ⟨?_, hs _ (atL_mem hi)⟩⟩⟩
    have := hc g rfl i (.string (atL L i)) (by simp [atL, hi])
    rw [Addr.add_lit] at this
    exact this
theorem OwnList.below {w w' : World} {base : Nat} {v : Value} {L : List ByteArray} (h : OwnList w base v L) (hb : Below w.heap.size w w') : OwnList w' base v L :=
  World.ownsRow.kept (row := none) h ⟨hb.os, hb.tape, hb.output, hb.size, fun k hk _ => hb.block k hk⟩ (by cases hv : v.ownBlock <;> simp)
theorem OwnList.push {w : World} {base : Nat} {v : Value} {L : List ByteArray} {x : ByteArray} (h : w.ownsRow base 9 1 v (L.length + 1) (L.map Value.string ++ [.string x])) : OwnList w base v (L ++ [x]) := by
  unfold OwnList; simpa using h
/-- Those of L ahead of t, and those behind. -/
def ahead (t : ByteArray) (L : List ByteArray) : List ByteArray := L.filter fun s => decide (cmpV s.data.toList t.data.toList < 0)
def behind (t : ByteArray) (L : List ByteArray) : List ByteArray := L.filter fun s => decide (0 < cmpV s.data.toList t.data.toList)
theorem cmp_zero (a b : ByteArray) : cmpV a.data.toList b.data.toList = 0 ↔ a = b := by
  rw [cmp_eq]; exact ⟨bytes_ext, fun h => h ▸ rfl⟩
theorem split_out (t : ByteArray) : ∀ L : List ByteArray, t ∉ L → (ahead t L).length + (behind t L).length = L.length
  | [], _ => rfl
  | x :: L, h => by
    have ih := split_out t L (fun hm => h (List.mem_cons_of_mem _ hm))
    have hx : cmpV x.data.toList t.data.toList ≠ 0 := fun e => h ((cmp_zero x t).1 e ▸ List.mem_cons_self)
    unfold ahead behind at *
    by_cases h1 : cmpV x.data.toList t.data.toList < 0
    · have h2 : ¬ 0 < cmpV x.data.toList t.data.toList := by omega
      simp [h1, h2]; omega
    · have h2 : 0 < cmpV x.data.toList t.data.toList := by omega
      simp [h1, h2]; omega
theorem split_in (t : ByteArray) : ∀ L : List ByteArray, t ∈ L → L.Nodup → (ahead t L).length + (behind t L).length + 1 = L.length
  | [], h, _ => by cases h
  | x :: L, h, hn => by
    rw [List.nodup_cons] at hn
    by_cases hx : x = t
    · subst hx
      have ih := split_out x L hn.1
      have h0 : cmpV x.data.toList x.data.toList = 0 := (cmp_zero x x).2 rfl
      unfold ahead behind at *
      simp [h0]; omega
    · have ih := split_in t L ((List.mem_cons.1 h).resolve_left (fun e => hx e.symm)) hn.2
      have hx : cmpV x.data.toList t.data.toList ≠ 0 := fun e => hx ((cmp_zero x t).1 e)
      unfold ahead behind at *
      by_cases h1 : cmpV x.data.toList t.data.toList < 0
      · have h2 : ¬ 0 < cmpV x.data.toList t.data.toList := by omega
        simp [h1, h2]; omega
      · have h2 : 0 < cmpV x.data.toList t.data.toList := by omega
        simp [h1, h2]; omega
theorem ahead_take (t : ByteArray) {L : List ByteArray} {k : Nat} (h : k < L.length) : ahead t (L.take (k + 1)) = if cmpV (atL L k).data.toList t.data.toList < 0 then ahead t (L.take k) ++ [atL L k] else ahead t (L.take k) := by
  rw [atL_take h]; unfold ahead; rw [List.filter_append]
  by_cases h1 : cmpV (atL L k).data.toList t.data.toList < 0 <;> simp [h1]
theorem behind_take (t : ByteArray) {L : List ByteArray} {k : Nat} (h : k < L.length) : behind t (L.take (k + 1)) = if 0 < cmpV (atL L k).data.toList t.data.toList then behind t (L.take k) ++ [atL L k] else behind t (L.take k) := by
  rw [atL_take h]; unfold behind; rw [List.filter_append]
  by_cases h1 : 0 < cmpV (atL L k).data.toList t.data.toList <;> simp [h1]
theorem ahead_len (t : ByteArray) (L : List ByteArray) : (ahead t L).length ≤ L.length := List.length_filter_le _ _
theorem behind_len (t : ByteArray) (L : List ByteArray) : (behind t L).length ≤ L.length := List.length_filter_le _ _
theorem ahead_mem {t s : ByteArray} {L : List ByteArray} (h : s ∈ ahead t L) : s ∈ L := (List.mem_filter.1 h).1
theorem behind_mem {t s : ByteArray} {L : List ByteArray} (h : s ∈ behind t L) : s ∈ L := (List.mem_filter.1 h).1
theorem ahead_nodup (t : ByteArray) {L : List ByteArray} (h : L.Nodup) : (ahead t L).Nodup := h.sublist List.filter_sublist
theorem behind_nodup (t : ByteArray) {L : List ByteArray} (h : L.Nodup) : (behind t L).Nodup := h.sublist List.filter_sublist
/-- The top of L. -/
def topL (L : List ByteArray) : ByteArray := bestF (atL L) (L.length - 1)
theorem topL_mem {L : List ByteArray} (h : 0 < L.length) : topL L ∈ L := by
  obtain ⟨i, hi, he⟩ := bestF_is (atL L) (L.length - 1)
  unfold topL; rw [he]; exact atL_mem (by omega)
theorem topL_above {L : List ByteArray} {k : Nat} (h : k < L.length) : aboveV (atL L k).data.toList (topL L).data.toList = false := by
  unfold topL
  rcases best_above (atL L) (L.length - 1) k (by omega) with h1 | h1
  · rw [← h1]; exact above_irrefl _
  · exact above_asymm _ _ h1
end Go.Proofs.Ytnbdnnlomgjlmaa
