/- The law DevApart, in plain Lean: what a crash keeps does not hang on the order of what is kept, where no address is written twice. -/
import Derived.Test.YtnbdnnlomgjlmaaDevMath
namespace Go.Proofs.Ytnbdnnlomgjlmaa
/-- A device behind some acts, none of them to an address that was written before. -/
structure ApInv (j : Nat) (f : Nat → Bool) (s : Dv) : Prop where
  size : s.size = 64
  good : s.good = fun _ => zeroBlk
  fuse : s.fuse = none
  down : s.down = false
  dist : (s.pend.map (·.1)).Nodup
  seen : ∀ a, f a = decide (a ∈ s.pend.map (·.1))
  len : s.pend.length ≤ j
theorem ap_start : ApInv 0 (fun _ => false) (⟨64, fun _ => zeroBlk, [], none, false, 0⟩ : Dv) := ⟨rfl, rfl, rfl, rfl, by simp, by simp, by simp⟩
theorem ap_write {j : Nat} {f : Nat → Bool} {s : Dv} (h : ApInv j f s) (a : Nat) (b : List UInt8) (ha : a < 64) (hf : f a = false) : ∃ s', s.write a b = (s', 0) ∧ ApInv (j + 1) (fun x => if x = a then true else f x) s' := by
  refine ⟨{ s with pend := s.pend ++ [(a, b)], writes := (s.writes + 1) % 18446744073709551616 }, ?_, h.size, h.good, h.fuse, h.down, ?_, ?_, ?_⟩
  · unfold Dv.write
    rw [if_neg (by rw [h.size]; omega), h.down, if_neg (by decide)]
    unfold Dv.burn
    simp only [h.fuse]
  · have hn : a ∉ s.pend.map (·.1) := by have := h.seen a; rw [hf] at this; simpa using this.symm
    show ((s.pend ++ [(a, b)]).map (·.1)).Nodup
    rw [List.map_append, List.nodup_append]
    refine ⟨h.dist, by simp, ?_⟩
    intro x hx y hy
    simp at hy
    subst hy
    exact fun e => hn (e ▸ hx)
  · intro x
    show (if x = a then true else f x) = decide (x ∈ (s.pend ++ [(a, b)]).map (·.1))
    rw [h.seen x]
    by_cases e : x = a <;> simp [e]
  · show (s.pend ++ [(a, b)]).length ≤ j + 1
    have := h.len
    simp; omega
theorem ap_skip {j : Nat} {f : Nat → Bool} {s : Dv} (h : ApInv j f s) (a : Nat) (hf : f a = true) : ApInv (j + 1) (fun x => if x = a then true else f x) s := by
  refine ⟨h.size, h.good, h.fuse, h.down, h.dist, ?_, by have := h.len; omega⟩
  intro x
  show (if x = a then true else f x) = _
  by_cases e : x = a
  · subst e; rw [if_pos rfl, ← h.seen x, hf]
  · rw [if_neg e, h.seen x]
theorem dtorn_swap (x y : List UInt8) (m n : Nat) : dtorn (dtorn x y m) y n = dtorn (dtorn x y n) y m := by
  have h : ∀ (u : List UInt8) (k : Nat), dtorn u y k = (List.range 256).map fun i => if i / 64 < 4 ∧ k / 2 ^ (i / 64) % 2 = 1 then y.getD i 0 else u.getD i 0 := fun _ _ => rfl
  rw [h (dtorn x y m), h (dtorn x y n)]
  apply List.map_congr_left
  intro i hi
  have hi := List.mem_range.1 hi
  rw [show (dtorn x y m).getD i 0 = _ from get_dtornTo 4 x y m i hi, show (dtorn x y n).getD i 0 = _ from get_dtornTo 4 x y n i hi]
  split <;> split <;> rfl
theorem updB_comm (f : Nat → List UInt8) (a b : Nat) (x y : List UInt8) (h : a ≠ b) : updB (updB f a x) b y = updB (updB f b y) a x := by
  funext z
  unfold updB
  by_cases e1 : z = b
  · subst e1; rw [if_pos rfl, if_neg (fun e => h e.symm), if_pos rfl]
  · rw [if_neg e1]
    by_cases e2 : z = a
    · rw [if_pos e2, if_pos e2]
    · rw [if_neg e2, if_neg e2, if_neg e1]
theorem updB_twice (f : Nat → List UInt8) (a : Nat) (x y : List UInt8) : updB (updB f a x) a y = updB f a y := by
  funext z
  unfold updB
  split <;> rfl
theorem keepB_swap (pend : List (Nat × List UInt8)) (hd : (pend.map (·.1)).Nodup) (f : Nat → List UInt8) (k l : Nat × Nat) : keepB pend (keepB pend f k) l = keepB pend (keepB pend f l) k := by
  unfold keepB
  cases hk : pend[k.1]? with
  | none => cases hl : pend[l.1]? <;> simp
  | some x =>
    cases hl : pend[l.1]? with
    | none => simp
    | some y =>
      simp only
      by_cases e : k.1 = l.1
      · have : x = y := by rw [e, hl] at hk; exact (Option.some.inj hk).symm
        subst this
        rw [updB_same, updB_same, updB_twice, updB_twice, dtorn_swap]
      · have hne : x.1 ≠ y.1 := by
          intro h
          obtain ⟨h1, h2⟩ := List.getElem?_eq_some_iff.1 hk
          obtain ⟨h3, h4⟩ := List.getElem?_eq_some_iff.1 hl
          have hp := List.pairwise_iff_getElem.1 hd
          have hlt : k.1 < l.1 ∨ l.1 < k.1 := by omega
          rcases hlt with q | q
          · refine hp k.1 l.1 (by simpa using h1) (by simpa using h3) q ?_
            rw [List.getElem_map, List.getElem_map, h2, h4, h]
          · refine hp l.1 k.1 (by simpa using h3) (by simpa using h1) q ?_
            rw [List.getElem_map, List.getElem_map, h2, h4, h]
        rw [updB_other _ _ _ _ (fun e => hne e.symm), updB_other _ _ _ _ hne, updB_comm _ _ _ _ _ hne]
theorem keepsB_rev (pend : List (Nat × List UInt8)) (hd : (pend.map (·.1)).Nodup) (f : Nat → List UInt8) (ks : List (Nat × Nat)) : keepsB pend f ks.reverse = keepsB pend f ks := by
  unfold keepsB
  exact (List.reverse_perm ks).foldl_eq' (fun x _ y _ z => keepB_swap pend hd z x y) f
theorem keepsB_out (pend : List (Nat × List UInt8)) (f : Nat → List UInt8) (ks : List (Nat × Nat)) (a : Nat) (h : a ∉ pend.map (·.1)) : keepsB pend f ks a = f a := by
  induction ks generalizing f with
  | nil => rfl
  | cons k ks ih =>
    show keepsB pend (keepB pend f k) ks a = f a
    rw [ih]
    unfold keepB
    cases hk : pend[k.1]? with
    | none => rfl
    | some x =>
      refine updB_other _ _ _ _ (fun e => h ?_)
      rw [e]
      exact List.mem_map_of_mem (List.mem_of_getElem? hk)
end Go.Proofs.Ytnbdnnlomgjlmaa
