/- The law DevCrashes, in plain Lean. -/
import Derived.Test.YtnbdnnlomgjlmaaDevDoes
namespace Go.Proofs.Ytnbdnnlomgjlmaa
/-- A device behind j acts of l. -/
structure CrInv (l : List ActL) (j : Nat) (s : Dv) : Prop where
  size : s.size = 64
  fuse : s.fuse = none
  down : s.down = false
  len : s.pend.length ≤ j
  pend : ∀ p ∈ s.pend, p.1 < 64 ∧ ∃ x ∈ l, x.a = p.1 ∧ p.2 = actB x.c
theorem cr_start (l : List ActL) : CrInv l 0 (newDv 64) := ⟨rfl, rfl, rfl, Nat.le_refl _, fun p hp => by cases hp⟩
theorem cr_up {l : List ActL} {j : Nat} {s : Dv} (h : CrInv l j s) : CrInv l (j + 1) s := ⟨h.size, h.fuse, h.down, by have := h.len; omega, h.pend⟩
theorem cr_write {l : List ActL} {j : Nat} {s : Dv} (h : CrInv l j s) (x : ActL) (hx : x ∈ l) : CrInv l (j + 1) (s.write x.a (actB x.c)).1 := by
  unfold Dv.write
  by_cases ha : s.size ≤ x.a
  · rw [if_pos ha]; exact cr_up h
  · rw [if_neg ha, h.down, if_neg (by decide)]
    unfold Dv.burn
    simp only [h.fuse]
    refine ⟨h.size, rfl, rfl, ?_, ?_⟩
    · show (s.pend ++ [(x.a, actB x.c)]).length ≤ j + 1
      have := h.len
      simp; omega
    · intro p hp
      have hp : p ∈ s.pend ++ [(x.a, actB x.c)] := hp
      rcases List.mem_append.1 hp with hp | hp
      · exact h.pend p hp
      · obtain rfl : p = (x.a, actB x.c) := by simpa using hp
        have := h.size
        exact ⟨by show x.a < 64; omega, x, hx, rfl, rfl⟩
theorem cr_flush {l : List ActL} {j : Nat} {s : Dv} (h : CrInv l j s) : ∃ s', s.flush = (s', 0) ∧ CrInv l (j + 1) s' ∧ s'.good = putAllB s.good s.pend ∧ s'.pend = [] := by
  unfold Dv.flush
  rw [h.down, if_neg (by decide), h.fuse, if_neg (by decide)]
  refine ⟨_, rfl, ⟨?_, ?_, ?_, by simp, by simp⟩, rfl, rfl⟩
  · show s.burn.1.size = 64
    unfold Dv.burn; simp only [h.fuse]; exact h.size
  · show s.burn.1.fuse = none
    unfold Dv.burn; simp only [h.fuse]
  · show s.burn.1.down = false
    unfold Dv.burn; simp only [h.fuse]; exact h.down
theorem cr_does {l : List ActL} {j : Nat} {s : Dv} (h : CrInv l j s) (x : ActL) (hx : x ∈ l) : CrInv l (j + 1) (s.does x) := by
  unfold Dv.does
  split
  · exact cr_write h x hx
  · exact cr_write h x hx
  · obtain ⟨s', h1, h2, _⟩ := cr_flush h
    rw [h1]; exact h2
  · exact ⟨h.size, rfl, rfl, Nat.zero_le _, fun p hp => by cases hp⟩
  · exact cr_up h
theorem putAllB_last (g : Nat → List UInt8) (l : List (Nat × List UInt8)) (a : Nat) : putAllB g l a = lastB l a (g a) := by
  induction l generalizing g with
  | nil => rfl
  | cons x l ih =>
    show putAllB (updB g x.1 x.2) l a = lastB l a (if x.1 = a then x.2 else g a)
    rw [ih]
    unfold updB
    by_cases e : x.1 = a
    · rw [if_pos e, if_pos e.symm]
    · rw [if_neg e, if_neg (fun h => e h.symm)]
theorem keeps_whole (pend : List (Nat × List UInt8)) (g : Nat → List UInt8) (hl : ∀ p ∈ pend, p.2.length = 256) (k : Nat) (hk : k ≤ pend.length) : keepsB pend g ((List.range k).map fun i => (i, 15)) = putAllB g (pend.take k) := by
  induction k with
  | zero => rfl
  | succ k ih =>
    rw [List.range_succ, List.map_append, List.map_cons, List.map_nil, keepsB_snoc, ih (by omega), List.take_succ_eq_append_getElem (by omega), putAllB_snoc]
    unfold keepB
    simp only [List.getElem?_eq_getElem (by omega : k < pend.length)]
    rw [dtorn_all _ _ (hl _ (List.getElem_mem _))]
/-- Each sector's first byte of what a crash leaves: the old one's, or a pending one's. -/
theorem keeps_sector (pend : List (Nat × List UInt8)) (g : Nat → List UInt8) (ks : List (Nat × Nat)) (a i : Nat) (hi : i < 256) : (keepsB pend g ks a).getD i 0 = (g a).getD i 0 ∨ ∃ p ∈ pend, p.1 = a ∧ (keepsB pend g ks a).getD i 0 = p.2.getD i 0 := by
  induction ks generalizing g with
  | nil => exact .inl rfl
  | cons k ks ih =>
    have hs : keepsB pend g (k :: ks) = keepsB pend (keepB pend g k) ks := rfl
    rw [hs]
    rcases ih (keepB pend g k) with h | h
    · rw [h]
      unfold keepB
      cases hp : pend[k.1]? with
      | none => exact .inl rfl
      | some x =>
        by_cases e : a = x.1
        · subst e
          simp only [updB_same]
          rw [show (dtorn (g x.1) x.2 k.2).getD i 0 = _ from get_dtornTo 4 _ _ _ i hi]
          by_cases hc : i / 64 < 4 ∧ k.2 / 2 ^ (i / 64) % 2 = 1
          · rw [if_pos hc]; exact .inr ⟨x, List.mem_of_getElem? hp, rfl, rfl⟩
          · rw [if_neg hc]; exact .inl rfl
        · left
          show (updB g x.1 _ a).getD i 0 = _
          rw [updB_other _ _ _ _ e]
    · exact .inr h
end Go.Proofs.Ytnbdnnlomgjlmaa
