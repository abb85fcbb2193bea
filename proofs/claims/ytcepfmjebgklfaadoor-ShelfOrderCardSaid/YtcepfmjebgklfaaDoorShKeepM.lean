/- Shelves as plain data: what is taken, written and given back. No program in sight. -/
import Derived.Test.YtcepfmjebgklfaaDoorShMath
namespace Go.Proofs.YtcepfmjebgklfaaDoor
open Go.RowKit
theorem cellsOk_put {k : Nat} {l : List (Nat × List UInt8)} (h : cellsOk k l = true) (p : Nat) (c : Nat × List UInt8) (hc : cellOk k c = true) : cellsOk k (l.set p c) = true := by
  unfold cellsOk at h ⊢
  rw [List.all_eq_true] at h ⊢
  intro x hx
  rcases List.mem_or_eq_of_mem_set hx with h1 | rfl
  · exact h x h1
  · exact hc
theorem mayL_put {s : ShL} (h : mayL s = true) (p : Nat) (c : Nat × List UInt8) (hc : cellOk s.cl c = true) : mayL (putC s p c) = true := by
  unfold mayL headOk at h ⊢
  simp only [Bool.and_eq_true] at h ⊢
  refine ⟨⟨⟨h.1.1.1, ?_⟩, h.1.2⟩, cellsOk_put h.2 p c hc⟩
  have := h.1.1.2
  simpa [putC] using this
theorem getD_put (s : ShL) (p : Nat) (c : Nat × List UInt8) (hp : p < s.cells.length) : (putC s p c).cells.getD p (0, []) = c := by
  unfold putC
  rw [List.getD_eq_getElem?_getD, List.getElem?_set_self hp]
  rfl
theorem get_put_ne (s : ShL) (p k : Nat) (c : Nat × List UInt8) (h : k ≠ p) : (putC s p c).cells[k]? = s.cells[k]? := by
  unfold putC
  rw [List.getElem?_set_ne (fun e => h e.symm)]
theorem len_put (s : ShL) (p : Nat) (c : Nat × List UInt8) : (putC s p c).cells.length = s.cells.length := by simp [putC]
theorem putC_putC (s : ShL) (p : Nat) (c d : Nat × List UInt8) : putC (putC s p c) p d = putC s p d := by simp [putC]
theorem putC_self (s : ShL) (p : Nat) (c : Nat × List UInt8) (h : s.cells[p]? = some c) : putC s p c = s := by
  obtain ⟨a, b, d, l⟩ := s
  unfold putC
  simp only [ShL.mk.injEq, true_and] at h ⊢
  apply List.ext_getElem?
  intro i
  rw [List.getElem?_set]
  split
  · rename_i e
    subst e
    rw [if_pos (List.getElem?_eq_some_iff.1 h).1, h]
  · rfl
theorem used_put (l : List (Nat × List UInt8)) : ∀ (p : Nat) (c : Nat × List UInt8), l[p]? = some (0, []) → 0 < c.1 → usedL (l.set p c) = usedL l + 1 := by
  induction l with
  | nil => intro p c h; simp at h
  | cons x l ih =>
    intro p c h hc
    cases p with
    | zero =>
      have hx : x = (0, []) := by simpa using h
      subst hx
      simp [usedL, hc]
    | succ p =>
      have := ih p c (by simpa using h) hc
      unfold usedL at this ⊢
      rw [List.set_cons_succ, List.filter_cons, List.filter_cons]
      split
      · rw [List.length_cons, List.length_cons, this]
      · exact this
/-- What a place that is taken was. -/
structure Taken (s : ShL) (ser : Nat) (n : Int) (p : Nat) : Prop where
  may : mayL s = true
  lt : p < s.cells.length
  was : s.cells[p]? = some (0, [])
  free : freeL s.cells = some p
  ser0 : ser ≠ 0
  ser1 : ser ≤ 8796093022207
  of_ : ofL s.cl n = true
  sh : takeS s ser n = putC s p (ser, List.replicate n.toNat 0)
  place : takeP s ser n = p
theorem taken_of {s : ShL} {ser : Nat} {n : Int} (h : takeE s ser n = 0) : ∃ p, Taken s ser n p := by
  have h0 := h
  unfold takeE at h
  split at h
  · rename_i hm
    split at h
    · cases h
    · rename_i h1
      split at h
      · cases h
      · rename_i h2
        obtain ⟨p, hp⟩ := Option.ne_none_iff_exists'.1 h2
        have hp' := hp
        unfold freeL at hp'
        rw [List.findIdx?_eq_some_iff_getElem] at hp'
        obtain ⟨hlt, hz, _⟩ := hp'
        have hz' : s.cells[p].1 = 0 := by simpa using hz
        have hok : cellOk s.cl s.cells[p] = true := by
          unfold mayL cellsOk at hm
          rw [Bool.and_eq_true, List.all_eq_true] at hm
          exact hm.2 _ (List.getElem_mem hlt)
        have hd : s.cells[p].2 = [] := by
          unfold cellOk at hok
          rw [if_pos hz'] at hok
          simpa using hok
        refine ⟨p, hm, hlt, ?_, hp, fun e => h1 (.inl e), ?_, ?_, ?_, ?_⟩
        · rw [List.getElem?_eq_getElem hlt]
          congr 1
          exact Prod.ext hz' hd
        · apply Classical.byContradiction
          intro hh
          exact h1 (.inr (.inl (by omega)))
        · cases hq : ofL s.cl n with
          | true => rfl
          | false => exact absurd (.inr (.inr hq)) h1
        · unfold takeS
          rw [if_pos h0, hp]; rfl
        · unfold takeP
          rw [if_pos h0, hp]; rfl
  · cases h
theorem take_err {s : ShL} {ser : Nat} {n : Int} (h : takeE s ser n ≠ 0) : takeS s ser n = emptySh := by unfold takeS; rw [if_neg h]
section
variable {s : ShL} {ser : Nat} {n : Int} {p : Nat}
theorem Taken.cell (h : Taken s ser n p) (d : List UInt8) (hd : (d.length : Int) = n) : cellOk s.cl (ser, d) = true := by
  unfold cellOk
  rw [if_neg h.ser0, Bool.and_eq_true, decide_eq_true_eq]
  refine ⟨h.ser1, ?_⟩
  simp only [hd]
  exact h.of_
theorem Taken.n1 (h : Taken s ser n p) : 1 ≤ n ∧ n ≤ 237 := by have := ofL_le h.of_; omega
theorem Taken.found (h : Taken s ser n p) (d : List UInt8) (hd : (d.length : Int) = n) : findE (putC s p (ser, d)) (p : Int) ser = 0 := by
  unfold findE
  rw [if_pos (mayL_put h.may p _ (h.cell d hd)), if_pos]
  refine ⟨by omega, by rw [len_put]; have := h.lt; omega, h.ser0, ?_⟩
  rw [Int.toNat_natCast, getD_put _ _ _ h.lt]
theorem Taken.data (h : Taken s ser n p) (d : List UInt8) : dataL (putC s p (ser, d)) (p : Int) = d := by
  unfold dataL
  rw [Int.toNat_natCast, getD_put _ _ _ h.lt]
theorem Taken.part (h : Taken s ser n p) (d : List UInt8) (hd : (d.length : Int) = n) (off k : Int) : partE (putC s p (ser, d)) (p : Int) ser off k = if 0 ≤ off ∧ 0 ≤ k ∧ off + k ≤ n then 0 else 211 := by
  unfold partE
  rw [if_pos (h.found d hd), h.data d, hd]
theorem Taken.stale (h : Taken s ser n p) (d : List UInt8) (hd : (d.length : Int) = n) (q : Nat) (hq : q ≠ ser) (off k : Int) : partE (putC s p (ser, d)) (p : Int) q off k = 210 := by
  have hf : findE (putC s p (ser, d)) (p : Int) q = 210 := by
    unfold findE
    rw [if_pos (mayL_put h.may p _ (h.cell d hd)), if_neg]
    rintro ⟨_, _, _, h4⟩
    rw [Int.toNat_natCast, getD_put _ _ _ h.lt] at h4
    exact hq h4.symm
  unfold partE
  rw [hf]
  rfl
theorem Taken.read (h : Taken s ser n p) (d : List UInt8) (hd : (d.length : Int) = n) (off k : Nat) (hk : off + k ≤ d.length) : readB18 (putC s p (ser, d)) (p : Int) ser (off : Int) (k : Int) = (d.drop off).take k := by
  unfold readB18
  simp only [h.part d hd]
  rw [if_pos (show (if 0 ≤ (off : Int) ∧ 0 ≤ (k : Int) ∧ (off : Int) + (k : Int) ≤ n then (0 : Int) else 211) = 0 from if_pos (by omega)), h.data d, Int.toNat_natCast, Int.toNat_natCast]
theorem Taken.give (h : Taken s ser n p) (d : List UInt8) (hd : (d.length : Int) = n) : giveS (putC s p (ser, d)) (p : Int) ser = s := by
  unfold giveS
  rw [if_pos (h.found d hd), Int.toNat_natCast, putC_putC, putC_self _ _ _ h.was]
theorem Taken.gone (h : Taken s ser n p) : partE s (p : Int) ser 0 0 = 210 := by
  have hf : findE s (p : Int) ser = 210 := by
    unfold findE
    rw [if_pos h.may, if_neg]
    rintro ⟨_, _, h3, h4⟩
    rw [Int.toNat_natCast, List.getD_eq_getElem?_getD, h.was] at h4
    exact h3 h4.symm
  unfold partE
  rw [hf]
  rfl
theorem Taken.write (h : Taken s ser n p) (d e : List UInt8) (hd : (d.length : Int) = n) (off : Nat) (hf : (off : Int) + (e.length : Int) ≤ n) : writeS (putC s p (ser, d)) (p : Int) ser (off : Int) e = putC s p (ser, overL d off e) := by
  unfold writeS
  simp only [h.part d hd]
  rw [if_pos (show (if 0 ≤ (off : Int) ∧ 0 ≤ (e.length : Int) ∧ (off : Int) + (e.length : Int) ≤ n then (0 : Int) else 211) = 0 from if_pos (by omega)), Int.toNat_natCast, Int.toNat_natCast, h.data d, putC_putC]
end
theorem over_read (d e : List UInt8) (off : Nat) (h : off + e.length ≤ d.length) : ((overL d off e).drop off).take e.length = e := by
  unfold overL
  rw [List.append_assoc, List.drop_append, List.drop_of_length_le (by rw [List.length_take]; omega), List.nil_append, List.length_take, Nat.min_eq_left (by omega), Nat.sub_self, List.drop_zero, List.take_left]
end Go.Proofs.YtcepfmjebgklfaaDoor
