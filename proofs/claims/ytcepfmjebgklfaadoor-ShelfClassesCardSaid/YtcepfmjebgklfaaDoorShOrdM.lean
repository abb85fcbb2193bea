/- Shelves whose objects are all of the class's own length: plain laws of what is taken and given. ShelfOrder: what a round of its loops finds in memory. -/
import Derived.Test.YtcepfmjebgklfaaDoorShHead
import Derived.Test.YtcepfmjebgklfaaDoorAppend
import Derived.Test.YtcepfmjebgklfaaDoorFlow
namespace Go.Proofs.YtcepfmjebgklfaaDoor
open Go.RowKit
set_option linter.unusedSimpArgs false
set_option linter.unusedVariables false
def ordC (k z : Nat) : Nat × List UInt8 := if z = 0 then (0, []) else (z, List.replicate (roomL k) 0)
/-- The shelf of class k whose place q holds an object of the number f q (0: none), of the class's length, all zeros. -/
def ordF (k : Nat) (f : Nat → Nat) : ShL := ⟨k, 0, 0, (List.range (placesL k)).map fun q => ordC k (f q)⟩
def updN (f : Nat → Nat) (p z : Nat) : Nat → Nat := fun q => if q = p then z else f q
theorem placesL_pos {k : Nat} (hk : k < 7) : 1 ≤ placesL k ∧ placesL k ≤ 14 := by
  rcases (by omega : k = 0 ∨ k = 1 ∨ k = 2 ∨ k = 3 ∨ k = 4 ∨ k = 5 ∨ k = 6) with rfl | rfl | rfl | rfl | rfl | rfl | rfl <;> exact ⟨by decide, by decide⟩
theorem roomL_pos {k : Nat} (hk : k < 7) : 8 ≤ roomL k ∧ roomL k ≤ 237 := by
  rcases (by omega : k = 0 ∨ k = 1 ∨ k = 2 ∨ k = 3 ∨ k = 4 ∨ k = 5 ∨ k = 6) with rfl | rfl | rfl | rfl | rfl | rfl | rfl <;> exact ⟨by decide, by decide⟩
theorem ofL_room {k : Nat} (hk : k < 7) : ofL k (roomL k : Int) = true := by
  rcases (by omega : k = 0 ∨ k = 1 ∨ k = 2 ∨ k = 3 ∨ k = 4 ∨ k = 5 ∨ k = 6) with rfl | rfl | rfl | rfl | rfl | rfl | rfl <;> decide
theorem ord_congr {k : Nat} {f g : Nat → Nat} (h : ∀ q, q < placesL k → f q = g q) : ordF k f = ordF k g := by
  unfold ordF
  congr 1
  apply List.map_congr_left
  intro q hq
  rw [h q (List.mem_range.1 hq)]
theorem ord_len (k : Nat) (f : Nat → Nat) : (ordF k f).cells.length = placesL k := by simp [ordF]
theorem ord_get (k : Nat) (f : Nat → Nat) (p : Nat) (hp : p < placesL k) : (ordF k f).cells[p]? = some (ordC k (f p)) := by
  simp [ordF, hp]
theorem ord_cell (k z : Nat) (hk : k < 7) (hz : z ≤ 8796093022207) : cellOk k (ordC k z) = true := by
  unfold ordC cellOk
  by_cases h : z = 0
  · simp [h]
  · rw [if_neg h, if_neg h]
    simp only [List.length_replicate, ofL_room hk, Bool.and_true, decide_eq_true_eq]
    exact hz
theorem ord_may {k : Nat} {f : Nat → Nat} (hk : k < 7) (hf : ∀ q, q < placesL k → f q ≤ 8796093022207) : mayL (ordF k f) = true := by
  have hp := placesL_pos hk
  have h1 : headOk (ordF k f) = true := by
    unfold headOk
    have e1 : decide (placesL (ordF k f).cl ≠ 0) = true := decide_eq_true (show placesL k ≠ 0 by omega)
    have e2 : decide ((ordF k f).cells.length = placesL (ordF k f).cl) = true := decide_eq_true (by simp [ordF])
    have e3 : decide ((ordF k f).prev < 32768 ∧ (ordF k f).next < 32768) = true := decide_eq_true (show 0 < 32768 ∧ 0 < 32768 by omega)
    rw [e1, e2, e3]; rfl
  unfold mayL cellsOk
  rw [h1, Bool.true_and, List.all_eq_true]
  intro c hc
  simp only [ordF, List.mem_map, List.mem_range] at hc
  obtain ⟨q, hq, rfl⟩ := hc
  exact ord_cell k _ hk (hf q hq)
theorem ord_small {k : Nat} {f : Nat → Nat} (hk : k < 7) : smallL (ordF k f) := by
  have hp := placesL_pos hk
  have hr := roomL_pos hk
  refine ⟨by rw [ord_len]; omega, fun c hc => ?_⟩
  simp only [ordF, List.mem_map] at hc
  obtain ⟨q, _, rfl⟩ := hc
  unfold ordC
  split
  · simp
  · simp; omega
theorem ord_put (k : Nat) (f : Nat → Nat) (p z : Nat) (hp : p < placesL k) : putC (ordF k f) p (ordC k z) = ordF k (updN f p z) := by
  unfold putC ordF
  congr 1
  apply List.ext_getElem?
  intro q
  simp only [List.getElem?_set, List.getElem?_map, List.getElem?_range, List.length_map, List.length_range]
  by_cases hq : p = q
  · subst hq
    simp [hp, updN]
  · rw [if_neg hq]
    by_cases hq2 : q < placesL k
    · simp [List.getElem?_range, hq2, updN, show ¬ q = p from fun e => hq e.symm]
    · simp [hq2]
theorem ord_new {k : Nat} (hk : k < 7) : newS k = ordF k (fun _ => 0) ∧ newE k = 0 := by
  have hp := placesL_pos hk
  unfold newS newE
  rw [if_neg (by omega), if_neg (by omega)]
  refine ⟨?_, rfl⟩
  unfold ordF
  congr 1
  apply List.ext_getElem?
  intro q
  by_cases hq : q < placesL k <;> simp [hq, ordC]
theorem ord_free {k : Nat} {f : Nat → Nat} {p : Nat} (hp : p < placesL k) (h0 : f p = 0) (h : ∀ q, q < p → f q ≠ 0) : freeL (ordF k f).cells = some p := by
  have hl := ord_len k f
  have hg : ∀ q, (hq : q < (ordF k f).cells.length) → (ordF k f).cells[q] = ordC k (f q) := fun q hq => by
    have := ord_get k f q (by omega)
    rw [List.getElem?_eq_getElem hq] at this
    exact Option.some.inj this
  refine freeL_some (i := p) (by omega) ?_ ?_
  · rw [hg p (by omega), h0]; rfl
  · intro j hj
    rw [hg j (by omega)]
    unfold ordC
    rw [if_neg (h j hj)]
    exact h j hj
theorem ord_take {k : Nat} {f : Nat → Nat} {p z : Nat} (hk : k < 7) (hf : ∀ q, q < placesL k → f q ≤ 8796093022207) (hp : p < placesL k) (h0 : f p = 0) (h : ∀ q, q < p → f q ≠ 0) (hz : z ≠ 0) (hz1 : z ≤ 8796093022207) :
    takeE (ordF k f) z (roomL k : Int) = 0 ∧ takeP (ordF k f) z (roomL k : Int) = p ∧ takeS (ordF k f) z (roomL k : Int) = ordF k (updN f p z) := by
  have hE : takeE (ordF k f) z (roomL k : Int) = 0 := by
    unfold takeE
    rw [if_pos (ord_may hk hf), if_neg, if_neg]
    · rw [ord_free hp h0 h]; simp
    · rintro (e | e | e)
      · exact hz e
      · omega
      · rw [show (ordF k f).cl = k from rfl, ofL_room hk] at e; cases e
  refine ⟨hE, ?_, ?_⟩
  · unfold takeP
    rw [if_pos hE, ord_free hp h0 h]; rfl
  · unfold takeS
    rw [if_pos hE, ord_free hp h0 h, Int.toNat_natCast, Option.getD_some, ← ord_put k f p z hp]
    unfold ordC
    rw [if_neg hz]
theorem ord_full {k : Nat} {f : Nat → Nat} {z : Nat} (hk : k < 7) (hf : ∀ q, q < placesL k → f q ≤ 8796093022207) (h : ∀ q, q < placesL k → f q ≠ 0) (hz : z ≠ 0) (hz1 : z ≤ 8796093022207) :
    takeE (ordF k f) z (roomL k : Int) = 6 := by
  unfold takeE
  rw [if_pos (ord_may hk hf), if_neg, if_pos]
  · refine freeL_none (fun j hj => ?_)
    have hjl : j < placesL k := by rw [ord_len] at hj; exact hj
    have := ord_get k f j hjl
    rw [List.getElem?_eq_getElem hj] at this
    rw [Option.some.inj this]
    unfold ordC
    rw [if_neg (h j hjl)]
    exact h j hjl
  · rintro (e | e | e)
    · exact hz e
    · omega
    · rw [show (ordF k f).cl = k from rfl, ofL_room hk] at e; cases e
theorem ord_give {k : Nat} {f : Nat → Nat} {p z : Nat} (hk : k < 7) (hf : ∀ q, q < placesL k → f q ≤ 8796093022207) (hp : p < placesL k) (h0 : f p = z) (hz : z ≠ 0) :
    findE (ordF k f) (p : Int) z = 0 ∧ giveS (ordF k f) (p : Int) z = ordF k (updN f p 0) := by
  have hE : findE (ordF k f) (p : Int) z = 0 := by
    unfold findE
    rw [if_pos (ord_may hk hf), if_pos]
    refine ⟨by omega, by rw [ord_len]; omega, hz, ?_⟩
    rw [Int.toNat_natCast, List.getD_eq_getElem?_getD, ord_get k f p hp, h0]
    unfold ordC
    rw [if_neg hz]; rfl
  refine ⟨hE, ?_⟩
  unfold giveS
  rw [if_pos hE, Int.toNat_natCast, ← ord_put k f p 0 hp]
  rfl
theorem ord_used {k : Nat} {f : Nat → Nat} (h : ∀ q, q < placesL k → f q ≠ 0) : usedL (ordF k f).cells = placesL k := by
  unfold usedL
  rw [List.filter_eq_self.2, ord_len]
  intro c hc
  simp only [ordF, List.mem_map, List.mem_range] at hc
  obtain ⟨q, hq, rfl⟩ := hc
  unfold ordC
  rw [if_neg (h q hq)]
  simpa using Nat.pos_of_ne_zero (h q hq)
/-! ### the four loops of ShelfOrder -/
def freeB (b : Nat → Bool) (n : Nat) : List Nat := (List.range n).filter b
def rankB (b : Nat → Bool) (q : Nat) : Nat := (freeB b q).length
theorem freeB_succ (b : Nat → Bool) (n : Nat) : freeB b (n + 1) = freeB b n ++ if b n then [n] else [] := by
  unfold freeB
  rw [List.range_succ, List.filter_append]
  by_cases h : b n <;> simp [h]
theorem rank_succ (b : Nat → Bool) (n : Nat) : rankB b (n + 1) = rankB b n + if b n then 1 else 0 := by
  unfold rankB
  rw [freeB_succ]
  by_cases h : b n <;> simp [h]
theorem rank_mono (b : Nat → Bool) {m n : Nat} (h : m ≤ n) : rankB b m ≤ rankB b n := by
  induction n with
  | zero =>
    obtain rfl : m = 0 := by omega
    exact Nat.le_refl _
  | succ n ih =>
    by_cases e : m = n + 1
    · subst e; exact Nat.le_refl _
    · have := ih (by omega)
      rw [rank_succ]; omega
theorem rank_lt (b : Nat → Bool) {m n : Nat} (h : m < n) (hb : b m = true) : rankB b m < rankB b n := by
  have h1 := rank_mono b (show m + 1 ≤ n from h)
  rw [rank_succ, hb] at h1
  simp at h1
  omega
theorem rank_le (b : Nat → Bool) (n : Nat) : rankB b n ≤ n := by
  unfold rankB freeB
  have := List.length_filter_le b (List.range n)
  simpa using this
theorem free_get (b : Nat → Bool) : ∀ n i, (hi : i < (freeB b n).length) → b (freeB b n)[i] = true ∧ rankB b (freeB b n)[i] = i ∧ (freeB b n)[i] < n
  | 0, i, hi => by simp [freeB] at hi
  | n + 1, i, hi => by
    have e := freeB_succ b n
    by_cases h1 : i < (freeB b n).length
    · have := free_get b n i h1
      have hg : (freeB b (n + 1))[i] = (freeB b n)[i] := by
        have : (freeB b (n + 1))[i]? = (freeB b n)[i]? := by rw [e, List.getElem?_append_left h1]
        rw [List.getElem?_eq_getElem hi, List.getElem?_eq_getElem h1] at this
        exact Option.some.inj this
      rw [hg]
      exact ⟨this.1, this.2.1, by omega⟩
    · by_cases hb : b n = true
      · have hl : (freeB b (n + 1)).length = (freeB b n).length + 1 := by rw [e, hb]; simp
        obtain rfl : i = (freeB b n).length := by omega
        have hg : (freeB b (n + 1))[(freeB b n).length] = n := by
          have : (freeB b (n + 1))[(freeB b n).length]? = some n := by rw [e, hb]; simp
          rw [List.getElem?_eq_getElem hi] at this
          exact Option.some.inj this
        rw [hg]
        exact ⟨hb, rfl, by omega⟩
      · have hl : (freeB b (n + 1)).length = (freeB b n).length := by rw [e, if_neg hb]; simp
        omega
def f1 (i q : Nat) : Nat := if q < i then q + 1 else 0
def f2 (b : Nat → Bool) (i q : Nat) : Nat := if q < i ∧ b q = true then 0 else q + 1
def f3 (b : Nat → Bool) (i q : Nat) : Nat := if b q = true then (if rankB b q < i then 100 + rankB b q else 0) else q + 1
def f4 (b : Nat → Bool) (P i q : Nat) : Nat := if q < i then 0 else f3 b (rankB b P) q
section
variable {k i : Nat} {b : Nat → Bool} (hk : k < 7)
theorem step1 (hk : k < 7) (hi : i < placesL k) : takeE (ordF k (f1 i)) (i + 1) (roomL k : Int) = 0 ∧ takeP (ordF k (f1 i)) (i + 1) (roomL k : Int) = i ∧ takeS (ordF k (f1 i)) (i + 1) (roomL k : Int) = ordF k (f1 (i + 1)) := by
  have hp := placesL_pos hk
  obtain ⟨h1, h2, h3⟩ := ord_take (k := k) (f := f1 i) (p := i) (z := i + 1) hk (fun q hq => by unfold f1; split <;> omega) hi (by unfold f1; rw [if_neg (by omega)]) (fun q hq => by unfold f1; rw [if_pos hq]; omega) (by omega) (by omega)
  refine ⟨h1, h2, h3.trans (ord_congr fun q _ => ?_)⟩
  unfold updN f1
  by_cases e : q = i
  · subst e; rw [if_pos rfl, if_pos (by omega)]
  · rw [if_neg e]
    by_cases h : q < i
    · rw [if_pos h, if_pos (by omega)]
    · rw [if_neg h, if_neg (by omega)]
theorem start2 (b : Nat → Bool) : ordF k (f1 (placesL k)) = ordF k (f2 b 0) := ord_congr fun q hq => by unfold f1 f2; rw [if_pos hq, if_neg (by omega)]
theorem step2 (hk : k < 7) (hi : i < placesL k) (hb : b i = true) : findE (ordF k (f2 b i)) (i : Int) (i + 1) = 0 ∧ giveS (ordF k (f2 b i)) (i : Int) (i + 1) = ordF k (f2 b (i + 1)) := by
  have hp := placesL_pos hk
  obtain ⟨h1, h2⟩ := ord_give (k := k) (f := f2 b i) (p := i) (z := i + 1) hk (fun q hq => by unfold f2; split <;> omega) hi (by unfold f2; rw [if_neg (by omega)]) (by omega)
  refine ⟨h1, h2.trans (ord_congr fun q _ => ?_)⟩
  unfold updN f2
  by_cases e : q = i
  · subst e; rw [if_pos rfl, if_pos ⟨by omega, hb⟩]
  · rw [if_neg e]
    by_cases h : q < i ∧ b q = true
    · rw [if_pos h, if_pos ⟨by omega, h.2⟩]
    · rw [if_neg h, if_neg (by rintro ⟨h1, h2⟩; exact h ⟨by omega, h2⟩)]
theorem skip2 (hb : b i = false) : ordF k (f2 b i) = ordF k (f2 b (i + 1)) := ord_congr fun q _ => by
  unfold f2
  by_cases e : q = i
  · subst e; rw [if_neg (by omega), if_neg (by rw [hb]; simp)]
  · by_cases h : q < i ∧ b q = true
    · rw [if_pos h, if_pos ⟨by omega, h.2⟩]
    · rw [if_neg h, if_neg (by rintro ⟨h1, h2⟩; exact h ⟨by omega, h2⟩)]
theorem start3 : ordF k (f2 b (placesL k)) = ordF k (f3 b 0) := ord_congr fun q hq => by
  unfold f2 f3
  by_cases h : b q = true
  · rw [if_pos ⟨hq, h⟩, if_pos h, if_neg (by omega)]
  · rw [if_neg (fun e => h e.2), if_neg h]
theorem f3_le (hk : k < 7) (q : Nat) (hq : q < placesL k) : f3 b i q ≤ 8796093022207 := by
  have hp := placesL_pos hk
  have := rank_le b q
  unfold f3
  split
  · split <;> omega
  · omega
theorem step3 (hk : k < 7) (hi : i < (freeB b (placesL k)).length) :
    takeE (ordF k (f3 b i)) (100 + i) (roomL k : Int) = 0 ∧ takeP (ordF k (f3 b i)) (100 + i) (roomL k : Int) = (freeB b (placesL k))[i] ∧ takeS (ordF k (f3 b i)) (100 + i) (roomL k : Int) = ordF k (f3 b (i + 1)) := by
  have hp := placesL_pos hk
  obtain ⟨g1, g2, g3⟩ := free_get b (placesL k) i hi
  generalize (freeB b (placesL k))[i] = p at g1 g2 g3
  have hrk := rank_le b (placesL k)
  have hi' : i < rankB b (placesL k) := hi
  obtain ⟨h1, h2, h3⟩ := ord_take (k := k) (f := f3 b i) (p := p) (z := 100 + i) hk (fun q hq => f3_le hk q hq) g3 (by unfold f3; rw [if_pos g1, if_neg (by omega)]) (fun q hq => by
    unfold f3
    split
    · rename_i hb
      have := rank_lt b hq hb
      rw [if_pos (by omega)]; omega
    · omega) (by omega) (by omega)
  refine ⟨h1, h2, h3.trans (ord_congr fun q _ => ?_)⟩
  unfold updN f3
  by_cases e : q = p
  · subst e; rw [if_pos rfl, if_pos g1, if_pos (by omega), g2]
  · rw [if_neg e]
    by_cases hb : b q = true
    · rw [if_pos hb, if_pos hb]
      have hne : rankB b q ≠ i := by
        intro h
        rcases Nat.lt_trichotomy q p with h' | h' | h'
        · have := rank_lt b h' hb; omega
        · exact e h'
        · have := rank_lt b h' g1; omega
      by_cases hlt : rankB b q < i
      · rw [if_pos hlt, if_pos (by omega)]
      · rw [if_neg hlt, if_neg (by omega)]
    · rw [if_neg hb, if_neg hb]
theorem all3 (q : Nat) (P : Nat) (hq : q < P) : f3 b (rankB b P) q ≠ 0 := by
  unfold f3
  split
  · rename_i hb
    have := rank_lt b hq hb
    rw [if_pos this]; omega
  · omega
theorem start4 (P : Nat) : ordF k (f3 b (rankB b P)) = ordF k (f4 b P 0) := ord_congr fun q _ => by unfold f4; rw [if_neg (by omega)]
theorem step4 (hk : k < 7) (hi : i < placesL k) : f3 b (rankB b (placesL k)) i ≠ 0 ∧ f4 b (placesL k) i i = f3 b (rankB b (placesL k)) i ∧ findE (ordF k (f4 b (placesL k) i)) (i : Int) (f3 b (rankB b (placesL k)) i) = 0 ∧ giveS (ordF k (f4 b (placesL k) i)) (i : Int) (f3 b (rankB b (placesL k)) i) = ordF k (f4 b (placesL k) (i + 1)) := by
  have hne := all3 (b := b) i (placesL k) hi
  have he : f4 b (placesL k) i i = f3 b (rankB b (placesL k)) i := by unfold f4; rw [if_neg (by omega)]
  obtain ⟨h1, h2⟩ := ord_give (k := k) (f := f4 b (placesL k) i) (p := i) (z := f3 b (rankB b (placesL k)) i) hk (fun q hq => by
    unfold f4
    split
    · omega
    · exact f3_le hk q hq) hi he hne
  refine ⟨hne, he, h1, h2.trans (ord_congr fun q _ => ?_)⟩
  unfold updN f4
  by_cases e : q = i
  · subst e; rw [if_pos rfl, if_pos (by omega)]
  · rw [if_neg e]
    by_cases h : q < i
    · rw [if_pos h, if_pos (by omega)]
    · rw [if_neg h, if_neg (by omega)]
theorem end4 (hk : k < 7) : ordF k (f4 b (placesL k) (placesL k)) = newS k := by
  rw [(ord_new hk).1]
  exact ord_congr fun q hq => by unfold f4; rw [if_pos hq]
end
end Go.Proofs.YtcepfmjebgklfaaDoor
namespace Go.Proofs.YtcepfmjebgklfaaDoor
open Go.RowKit
set_option linter.unusedSimpArgs false
set_option linter.unusedVariables false
set_option maxRecDepth 100000
def nInt (x : Nat) : Value := .int .i64 (x : Int)
theorem own_same18 {w w' : World} {base : Nat} {e : TypeId} {size : Nat} {v : Value} {n : Nat} {xs : List Value} (h : w.ownsRow base e size v n xs) (hb : ∀ b, v.ownBlock = some b → w'.heap[b]? = w.heap[b]?) : w'.ownsRow base e size v n xs := by
  refine ⟨h.1, ?_⟩
  rcases h.2 with h' | ⟨g, cap, cur, rfl, h1, h2, h3⟩
  · exact .inl h'
  · exact .inr ⟨g, cap, cur, rfl, h1, (hb g rfl).trans h2, h3⟩
/-- A row of numbers of the call's own. -/
def intsT (v : Value) (L : List Nat) : Thing where
  says F w := F = v.ownBlock.toList ∧ w.ownsRow 0 3 1 v L.length (L.map nInt)
  lt := by
    rintro F w ⟨rfl, h⟩ b hb
    have : v.ownBlock = some b := by simpa using hb
    exact (World.ownsRow.lt h b this).2
  loc := by
    rintro F w w' h ⟨rfl, h1⟩
    exact ⟨rfl, own_same18 h1 (fun b hb => h b (by simp [hb]))⟩
theorem Held.ints {w0 W : World} {v : Value} {L : List Nat} {l : List Thing} (R : Held w0 W l) (k : Nat) (e : l[k]? = some (intsT v L)) : W.ownsRow 0 3 1 v L.length (L.map nInt) := by
  obtain ⟨F, _, h⟩ := R.thing k e
  exact h
theorem Held.none_ints {w0 W : World} {l : List Thing} (R : Held w0 W l) : Held w0 W (intsT (.slice none 0 0) [] :: l) :=
  R.more (Below.refl _ _) (F := []) ⟨rfl, World.ownsRow_nil _ _ _ _⟩ (by simp) (by simp)
abbrev shT (g : Nat) (s : ShL) (A : Option Addr) (n c : Nat) : Thing := rowT g (shV s A n c) 25
/-- A round's things: the shelf's variable, the empty shelf's, the row of what was given. -/
structure OrdI (w0 W : World) (gs ge : Nat) (S E : ShL) (A : Option Addr) (n c : Nat) (l : List CellH) (A0 : Option Addr) (n0 c0 : Nat) (l0 : List CellH) (fv : Value) (L : List Nat) : Prop where
  held : Held w0 W [shT gs S A n c, shT ge E A0 n0 c0, intsT fv L]
  s : ShelfOf W S A n c l
  e : ShelfOf W E A0 n0 c0 l0
  ap : ∀ g, fv.ownBlock = some g → Avoids g A n l ∧ Avoids g A0 n0 l0
  es : Avoids gs A0 n0 l0
section
variable {w0 W W' : World} {gs ge : Nat} {S E S' : ShL} {A : Option Addr} {n c : Nat} {l : List CellH} {A0 : Option Addr} {n0 c0 : Nat} {l0 : List CellH} {fv : Value} {L : List Nat} {A1 : Option Addr} {n1 c1 : Nat} {l1 : List CellH}
theorem OrdI.call (h : OrdI w0 W gs ge S E A n c l A0 n0 c0 l0 fv L) (hb : Below W.heap.size W W') : OrdI w0 W' gs ge S E A n c l A0 n0 c0 l0 fv L :=
  ⟨h.held.call hb, h.s.below hb, h.e.below hb, h.ap, h.es⟩
theorem OrdI.lt (h : OrdI w0 W gs ge S E A n c l A0 n0 c0 l0 fv L) : ∀ g, fv.ownBlock = some g → g < W.heap.size := fun g hg => (World.ownsRow.lt (h.held.ints 2 rfl) g hg).2
theorem OrdI.app {wa w2 : World} {fv' : Value} {i : Nat} (h : OrdI w0 W gs ge S E A n c l A0 n0 c0 l0 fv L) (hb : Below W.heap.size W wa) (hown : w2.ownsRow 0 3 1 fv' (L.length + 1) (L.map nInt ++ [nInt i])) (hg : wa.grownBy w2 fv.ownBlock)
    (hat : fv'.ownBlock = fv.ownBlock ∨ fv'.ownBlock = some wa.heap.size) : OrdI w0 w2 gs ge S E A n c l A0 n0 c0 l0 fv' (L ++ [i]) := by
  have q := h.call hb
  have hR := q.held.turn 2 (y := intsT fv' (L ++ [i])) (W' := w2) rfl (fun F hF hn => ⟨fv'.ownBlock.toList, ⟨rfl, by simpa using hown⟩, Only.of_grown hg (fun k hk => by rw [hF.1, hk]; simp), fun b hb' => by
    rcases hat with e | e
    · rw [e] at hb'; exact .inl (by rw [hF.1]; exact hb')
    · rw [e] at hb'; exact .inr (by simp at hb'; omega), by cases fv'.ownBlock <;> simp⟩)
  have step : ∀ {X : ShL} {A2 : Option Addr} {n2 c2 : Nat} {l2 : List CellH}, ShelfOf wa X A2 n2 c2 l2 → (∀ g, fv.ownBlock = some g → Avoids g A2 n2 l2) → ShelfOf w2 X A2 n2 c2 l2 := by
    intro X A2 n2 c2 l2 hx ha
    cases hf : fv.ownBlock with
    | none =>
      rw [hf] at hg
      exact hx.below ⟨hg.os, hg.tape, hg.output, hg.size, fun k hk => hg.block k hk (by simp)⟩
    | some g =>
      rw [hf] at hg
      exact hx.only (ha g hf) (Only.of_grown hg (fun k hk => by cases hk; simp))
  refine ⟨hR, step q.s (fun g hg => (q.ap g hg).1), step q.e (fun g hg => (q.ap g hg).2), fun g hg' => ?_, q.es⟩
  rcases hat with e | e
  · exact q.ap g (by rw [← e]; exact hg')
  · rw [e] at hg'
    obtain rfl : wa.heap.size = g := by simpa using hg'
    exact ⟨q.s.avoids (Nat.le_refl _), q.e.avoids (Nat.le_refl _)⟩
/-- The next shelf is written over the shelf's variable. -/
theorem OrdI.put {gn : Nat} {r : Array Value} (hR : Held w0 W [rowT gn r 25, shT gs S A n c, shT ge E A0 n0 c0, intsT fv L]) (hs : ShelfOf W S' A1 n1 c1 l1) (hav : Avoids gs A1 n1 l1) (hap : ∀ g, fv.ownBlock = some g → Avoids g A1 n1 l1)
    (he : ShelfOf W E A0 n0 c0 l0) (eap : ∀ g, fv.ownBlock = some g → Avoids g A0 n0 l0) (es : Avoids gs A0 n0 l0) :
    OrdI w0 ((((W.setCell ⟨gs, 0, none⟩ (.int .u8 (S'.cl : Int))).setCell ⟨gs, 1, none⟩ (.int .u16 (S'.prev : Int))).setCell ⟨gs, 2, none⟩ (.int .u16 (S'.next : Int))).setCell ⟨gs, 3, none⟩ (.slice A1 n1 c1)) gs ge S' E A1 n1 c1 l1 A0 n0 c0 l0 fv L := by
  have q := hR.store4 1 rfl (.int .u8 (S'.cl : Int)) (.int .u16 (S'.prev : Int)) (.int .u16 (S'.next : Int)) (.slice A1 n1 c1)
  have ho := only4 W gs (.int .u8 (S'.cl : Int)) (.int .u16 (S'.prev : Int)) (.int .u16 (S'.next : Int)) (.slice A1 n1 c1)
  exact ⟨q.drop 1, hs.only hav ho, he.only es ho, fun g hg => ⟨hap g hg, eap g hg⟩, es⟩
/-- A call's result, in a new variable. -/
theorem OrdI.made {w2 : World} (h : OrdI w0 W gs ge S E A n c l A0 n0 c0 l0 fv L) (hb : Below W.heap.size W w2) (hs : ShelfOf w2 S' A1 n1 c1 l1) (hfr : FreshAt W.heap.size A1 n1 l1) :
    Held w0 (w2.alloc (.cells (shV S' A1 n1 c1) 25)) [shT w2.heap.size S' A1 n1 c1, shT gs S A n c, shT ge E A0 n0 c0, intsT fv L] ∧
    ∀ W3, W3 = w2.alloc (.cells (shV S' A1 n1 c1) 25) → OrdI w0 ((((W3.setCell ⟨gs, 0, none⟩ (.int .u8 (S'.cl : Int))).setCell ⟨gs, 1, none⟩ (.int .u16 (S'.prev : Int))).setCell ⟨gs, 2, none⟩ (.int .u16 (S'.next : Int))).setCell ⟨gs, 3, none⟩ (.slice A1 n1 c1)) gs ge S' E A1 n1 c1 l1 A0 n0 c0 l0 fv L := by
  have q := (h.held.call hb).alloc (shV S' A1 n1 c1) 25
  have hb2 : Below w2.heap.size w2 (w2.alloc (.cells (shV S' A1 n1 c1) 25)) := (Below.refl _ _).alloc (Nat.le_refl _) _
  refine ⟨q, fun W3 hW => ?_⟩
  subst hW
  exact OrdI.put q (hs.below hb2) (hfr.avoids (h.held.lt 0 rfl)) (fun g hg => hfr.avoids (h.lt g hg)) ((h.e.below hb).below hb2) (fun g hg => (h.ap g hg).2) h.es
end
/-- A variable that still holds no shelf lies apart from a shelf whose data are of two bytes or more. -/
theorem avoids_zero {w : World} {S : ShL} {A : Option Addr} {n c g : Nat} {l : List CellH} {T : TypeId} (h : ShelfOf w S A n c l) (hg : w.heap[g]? = some (.cells zeroShC T (0, 0))) (hd : ∀ x ∈ l, x.data = [] ∨ 2 ≤ x.data.length) : Avoids g A n l := by
  have hc : ∀ i, w.cell? ⟨g, i, none⟩ = zeroShC[i]? := fun i => cell_of_row w g i _ _ _ hg
  refine ⟨fun h0 a ha e => ?_, fun x hx h0 a ha e => ?_⟩
  · rcases h.cells.at_ with h1 | ⟨b, off, rfl, h1, h2⟩
    · exact h0 h1
    · cases ha
      obtain rfl : b = g := e
      have hl : 0 < l.length := by rw [h.cells.len]; omega
      have := h2 0 hl 0 _ rfl
      rw [hc] at this
      match off + 0 * 2 + 0, this with
      | 0, this => cases this
      | 1, this => cases this
      | 2, this => cases this
      | 3, this => cases this
  · rcases (h.cells.ok x hx).by_ with h1 | ⟨b, off, hA, h1, h2⟩
    · exact h0 h1
    · rw [hA] at ha; cases ha
      obtain rfl : b = g := e
      have hl : 2 ≤ x.data.length := (hd x hx).resolve_left h0
      have := h2 1 (by omega)
      rw [hc, List.getElem?_eq_getElem (by omega)] at this
      simp only [Option.map_some, vu8] at this
      match off, this with
      | 0, this => cases this
      | 1, this => cases this
      | 2, this => cases this
      | off + 3, this => simp [zeroShC] at this
/-- A shelf's value of blocks made since, and the same with an error's number behind. -/
def boxR (B : Nat) (S : ShL) (v : Value) (w : World) : Prop := ∃ A n c l, v = .agg (shV S A n c) ∧ ShelfOf w S A n c l ∧ FreshAt B A n l
def boxT (B : Nat) (S : ShL) (E : Int) (v : Value) (w : World) : Prop := ∃ A n c l, v = .tuple #[.agg (shV S A n c), .int .i64 E] ∧ ShelfOf w S A n c l ∧ FreshAt B A n l
theorem boxR.below {B : Nat} {S : ShL} {v : Value} {w w' : World} (h : boxR B S v w) (hb : Below w.heap.size w w') : boxR B S v w' := by
  obtain ⟨A, n, c, l, h1, h2, h3⟩ := h
  exact ⟨A, n, c, l, h1, h2.below hb, h3⟩
theorem boxT.below {B : Nat} {S : ShL} {E : Int} {v : Value} {w w' : World} (h : boxT B S E v w) (hb : Below w.heap.size w w') : boxT B S E v w' := by
  obtain ⟨A, n, c, l, h1, h2, h3⟩ := h
  exact ⟨A, n, c, l, h1, h2.below hb, h3⟩
theorem FreshAt.mono {B B2 : Nat} {A : Option Addr} {n : Nat} {l : List CellH} (h : FreshAt B2 A n l) (hB : B ≤ B2) : FreshAt B A n l := ⟨fun h0 a ha => Nat.le_trans hB (h.1 h0 a ha), fun x hx h0 a ha => Nat.le_trans hB (h.2 x hx h0 a ha)⟩
theorem shV_one (S : ShL) (A : Option Addr) (n c : Nat) : (shV S A n c).all (·.oneCell') = true := by
  rw [Array.all_eq_true']
  intro x hx
  simp [shV] at hx
  rcases hx with rfl | rfl | rfl | rfl <;> rfl
def Data2 (S : ShL) : Prop := ∀ c ∈ S.cells, c.2 = [] ∨ 2 ≤ c.2.length
theorem ShelfOf.data2 {w : World} {S : ShL} {A : Option Addr} {n c : Nat} {l : List CellH} (h : ShelfOf w S A n c l) (hd : Data2 S) : ∀ x ∈ l, x.data = [] ∨ 2 ≤ x.data.length := by
  intro x hx
  exact hd x.dat (by rw [← h.dat]; exact List.mem_map_of_mem hx)
theorem boxR.only {B b : Nat} {S : ShL} {v : Value} {w w' : World} {T : TypeId} (h : boxR B S v w) (hd : Data2 S) (hz : w.heap[b]? = some (.cells zeroShC T (0, 0))) (ho : Only [b] w w') : boxR B S v w' := by
  obtain ⟨A, n, c, l, h1, h2, h3⟩ := h
  exact ⟨A, n, c, l, h1, h2.only (avoids_zero h2 hz (h2.data2 hd)) ho, h3⟩
theorem boxT.only {B b : Nat} {S : ShL} {E : Int} {v : Value} {w w' : World} {T : TypeId} (h : boxT B S E v w) (hd : Data2 S) (hz : w.heap[b]? = some (.cells zeroShC T (0, 0))) (ho : Only [b] w w') : boxT B S E v w' := by
  obtain ⟨A, n, c, l, h1, h2, h3⟩ := h
  exact ⟨A, n, c, l, h1, h2.only (avoids_zero h2 hz (h2.data2 hd)) ho, h3⟩
theorem ord_data2 {k : Nat} (f : Nat → Nat) (hk : k < 7) : Data2 (ordF k f) := by
  have hr := roomL_pos hk
  intro c hc
  simp only [ordF, List.mem_map] at hc
  obtain ⟨q, _, rfl⟩ := hc
  unfold ordC
  split
  · exact .inl rfl
  · right; simp; omega
/-- The slots of the region that gives a place back. -/
def givV (B gs : Nat) (S S' : ShL) (A : Option Addr) (n c ab ao m ser : Nat) (t : Tmp) (v : Value) (w : World) : Prop :=
  match t with
  | 127 => v = .agg (shV S A n c)
  | 128 => v = .int .i64 (m : Int)
  | 129 => v = .pointer (some ⟨gs, 3, none⟩)
  | 130 => v = .slice A n c
  | 131 => v = .int .i64 (m : Int)
  | 132 => v = .pointer (some ⟨ab, ao + m * 2, none⟩)
  | 133 => v = .pointer (some ⟨ab, ao + m * 2, none⟩)
  | 134 => v = .int .u64 (ser : Int)
  | 135 => boxT B S' 0 v w
  | 126 => boxT B S' 0 v w
  | 136 => boxR B S' v w
  | 137 => v = .int .i64 0
  | 25 => v = .int .i64 0
  | _ => True
theorem givV_below {B gs : Nat} {S S' : ShL} {A : Option Addr} {n c ab ao m ser : Nat} : ∀ t v w w', givV B gs S S' A n c ab ao m ser t v w → Below w.heap.size w w' → givV B gs S S' A n c ab ao m ser t v w' := by
  intro t v w w' h hb
  revert h
  unfold givV
  split <;> first | exact id | exact fun h => boxT.below h hb | exact fun h => boxR.below h hb
theorem givV_only {B gs : Nat} {S S' : ShL} {A : Option Addr} {n c ab ao m ser : Nat} {T : TypeId} (hd : Data2 S') : ∀ t v w w' b, givV B gs S S' A n c ab ao m ser t v w → B ≤ b → w.heap[b]? = some (.cells zeroShC T (0, 0)) → Only [b] w w' → givV B gs S S' A n c ab ao m ser t v w' := by
  intro t v w w' b h _ hz ho
  revert h
  unfold givV
  split <;> first | exact id | exact fun h => boxT.only h hd hz ho | exact fun h => boxR.only h hd hz ho
theorem ints_form {W : World} {v : Value} {L : List Nat} (h : W.ownsRow 0 3 1 v L.length (L.map nInt)) : ∃ A c, v = .slice A L.length c ∧ (A = none → L.length = 0) ∧ ∀ a, A = some a → ∃ g, a = ⟨g, 0, none⟩ := by
  rcases h.2 with ⟨rfl, h0⟩ | ⟨g, cap, cur, rfl, _⟩
  · exact ⟨none, 0, by rw [h0], (fun _ => h0), (fun a h => by cases h)⟩
  · exact ⟨some ⟨g, 0, none⟩, cap, rfl, (fun h => by cases h), (fun a h => by cases h; exact ⟨g, rfl⟩)⟩
theorem ints_cell {W : World} {g N c : Nat} {L : List Nat} (h : W.ownsRow 0 3 1 (.slice (some ⟨g, 0, none⟩) N c) L.length (L.map nInt)) {q z : Nat} (hz : L[q]? = some z) : W.cell? ⟨g, q, none⟩ = some (.int .i64 (z : Int)) := by
  have := World.ownsRow.cells h (g := g) rfl q (nInt z) (by rw [List.getElem?_map, hz]; rfl)
  rw [Addr.add_lit, Nat.zero_add] at this
  exact this
end Go.Proofs.YtcepfmjebgklfaaDoor
