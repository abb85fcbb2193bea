/- Shelves as plain data: classes, which shelves may be, what is done to them. No program in sight. Shelves as plain data: what is taken, written and given back. No program in sight. Shelves as bytes: plain laws. No program in sight. -/
import Derived.Test.YtcepfmjebgklfaaDoorFieldMath
namespace Go.Proofs.YtcepfmjebgklfaaDoor
open Go.RowKit
def rooms : List Nat := [8, 16, 24, 40, 72, 114, 237]
def placesT : List Nat := [14, 9, 7, 5, 3, 2, 1]
def roomL (k : Nat) : Nat := rooms.getD k 0
def placesL (k : Nat) : Nat := placesT.getD k 0
def classL (n : Int) : Option Nat :=
  if n < 1 then none else if n ≤ 8 then some 0 else if n ≤ 16 then some 1 else if n ≤ 24 then some 2 else if n ≤ 40 then some 3
  else if n ≤ 72 then some 4 else if n ≤ 114 then some 5 else if n ≤ 237 then some 6 else none
def classV (n : Int) : Nat := (classL n).getD 0
def classE (n : Int) : Int := if (classL n).isSome then 0 else 211
/-- Is a length of a class? -/
def ofL (k : Nat) (n : Int) : Bool := decide (classL n = some k)
theorem classL_hit (n : Int) (k : Nat) (h1 : 1 ≤ n) (hk : k < 7) (hle : n ≤ (roomL k : Int)) (hall : ∀ j, j < k → (roomL j : Int) < n) : classL n = some k := by
  have q : ∀ j, j < k → j < 7 → (roomL j : Int) < n := fun j hj _ => hall j hj
  unfold classL
  have r0 : roomL 0 = 8 := rfl
  have r1 : roomL 1 = 16 := rfl
  have r2 : roomL 2 = 24 := rfl
  have r3 : roomL 3 = 40 := rfl
  have r4 : roomL 4 = 72 := rfl
  have r5 : roomL 5 = 114 := rfl
  have r6 : roomL 6 = 237 := rfl
  rcases (by omega : k = 0 ∨ k = 1 ∨ k = 2 ∨ k = 3 ∨ k = 4 ∨ k = 5 ∨ k = 6) with rfl | rfl | rfl | rfl | rfl | rfl | rfl
  · rw [if_neg (by omega), if_pos (by omega)]
  · have := q 0 (by omega) (by omega)
    rw [if_neg (by omega), if_neg (by omega), if_pos (by omega)]
  · have := q 1 (by omega) (by omega)
    rw [if_neg (by omega), if_neg (by omega), if_neg (by omega), if_pos (by omega)]
  · have := q 2 (by omega) (by omega)
    rw [if_neg (by omega), if_neg (by omega), if_neg (by omega), if_neg (by omega), if_pos (by omega)]
  · have := q 3 (by omega) (by omega)
    rw [if_neg (by omega), if_neg (by omega), if_neg (by omega), if_neg (by omega), if_neg (by omega), if_pos (by omega)]
  · have := q 4 (by omega) (by omega)
    rw [if_neg (by omega), if_neg (by omega), if_neg (by omega), if_neg (by omega), if_neg (by omega), if_neg (by omega), if_pos (by omega)]
  · have := q 5 (by omega) (by omega)
    rw [if_neg (by omega), if_neg (by omega), if_neg (by omega), if_neg (by omega), if_neg (by omega), if_neg (by omega), if_neg (by omega), if_pos (by omega)]
theorem classL_none (n : Int) (h : 1 ≤ n → (roomL 6 : Int) < n) : classL n = none := by
  have r6 : roomL 6 = 237 := rfl
  unfold classL
  by_cases h1 : n < 1
  · rw [if_pos h1]
  · have := h (by omega)
    rw [if_neg (by omega), if_neg (by omega), if_neg (by omega), if_neg (by omega), if_neg (by omega), if_neg (by omega), if_neg (by omega), if_neg (by omega)]
theorem classL_lt {n : Int} {k : Nat} (h : classL n = some k) : k < 7 ∧ 1 ≤ n ∧ n ≤ (roomL k : Int) ∧ n ≤ 237 := by
  unfold classL at h
  have r0 : roomL 0 = 8 := rfl
  have r1 : roomL 1 = 16 := rfl
  have r2 : roomL 2 = 24 := rfl
  have r3 : roomL 3 = 40 := rfl
  have r4 : roomL 4 = 72 := rfl
  have r5 : roomL 5 = 114 := rfl
  have r6 : roomL 6 = 237 := rfl
  split at h
  · cases h
  all_goals (split at h)
  · cases h; omega
  all_goals (split at h)
  · cases h; omega
  all_goals (split at h)
  · cases h; omega
  all_goals (split at h)
  · cases h; omega
  all_goals (split at h)
  · cases h; omega
  all_goals (split at h)
  · cases h; omega
  all_goals (split at h)
  · cases h; omega
  · cases h
theorem classV_lt (n : Int) : classV n < 7 := by
  unfold classV
  cases h : classL n with
  | none => simp
  | some k => exact (classL_lt h).1
theorem roomL_big (k : Nat) (h : 7 ≤ k) : roomL k = 0 := by unfold roomL rooms; rw [List.getD_eq_getElem?_getD, List.getElem?_eq_none (by simpa using h)]; rfl
theorem placesL_big (k : Nat) (h : 7 ≤ k) : placesL k = 0 := by unfold placesL placesT; rw [List.getD_eq_getElem?_getD, List.getElem?_eq_none (by simpa using h)]; rfl
theorem roomL_le (k : Nat) : roomL k ≤ 237 := by
  by_cases h : k < 7
  · rcases (by omega : k = 0 ∨ k = 1 ∨ k = 2 ∨ k = 3 ∨ k = 4 ∨ k = 5 ∨ k = 6) with rfl | rfl | rfl | rfl | rfl | rfl | rfl <;> decide
  · rw [roomL_big k (by omega)]; omega
theorem placesL_le (k : Nat) : placesL k ≤ 14 := by
  by_cases h : k < 7
  · rcases (by omega : k = 0 ∨ k = 1 ∨ k = 2 ∨ k = 3 ∨ k = 4 ∨ k = 5 ∨ k = 6) with rfl | rfl | rfl | rfl | rfl | rfl | rfl <;> decide
  · rw [placesL_big k (by omega)]; omega
theorem placesL_zero (k : Nat) : placesL k = 0 ↔ 7 ≤ k := by
  constructor
  · intro h
    apply Classical.byContradiction
    intro h2
    rcases (by omega : k = 0 ∨ k = 1 ∨ k = 2 ∨ k = 3 ∨ k = 4 ∨ k = 5 ∨ k = 6) with rfl | rfl | rfl | rfl | rfl | rfl | rfl <;> revert h <;> decide
  · exact placesL_big k
/-- A shelf: its class, the pages ahead and behind, its cells. -/
structure ShL where
  cl : Nat
  prev : Nat
  next : Nat
  cells : List (Nat × List UInt8)
/-- No more than a statement looks at. -/
def smallL (s : ShL) : Prop := s.cells.length ≤ 30 ∧ ∀ c ∈ s.cells, c.2.length ≤ 400
def emptySh : ShL := ⟨0, 0, 0, []⟩
theorem emptySh_small : smallL emptySh := ⟨by simp [emptySh], by simp [emptySh]⟩
def maxSer : Nat := 8796093022207
def cellOk (k : Nat) (c : Nat × List UInt8) : Bool := if c.1 = 0 then c.2.isEmpty else decide (c.1 ≤ 8796093022207) && ofL k (c.2.length : Int)
def cellsOk (k : Nat) (l : List (Nat × List UInt8)) : Bool := l.all (cellOk k)
def headOk (s : ShL) : Bool := decide (placesL s.cl ≠ 0) && decide (s.cells.length = placesL s.cl) && decide (s.prev < 32768 ∧ s.next < 32768)
def mayL (s : ShL) : Bool := headOk s && cellsOk s.cl s.cells
def usedL (l : List (Nat × List UInt8)) : Nat := (l.filter fun c => decide (0 < c.1)).length
def putC (s : ShL) (p : Nat) (c : Nat × List UInt8) : ShL := ⟨s.cl, s.prev, s.next, s.cells.set p c⟩
/-- The first free place. -/
def freeL (l : List (Nat × List UInt8)) : Option Nat := l.findIdx? (fun c => c.1 == 0)
def takeE (s : ShL) (ser : Nat) (n : Int) : Int := if mayL s then (if ser = 0 ∨ 8796093022207 < ser ∨ ofL s.cl n = false then 2 else if freeL s.cells = none then 6 else 0) else 5
def takeP (s : ShL) (ser : Nat) (n : Int) : Nat := if takeE s ser n = 0 then (freeL s.cells).getD 0 else 0
def takeS (s : ShL) (ser : Nat) (n : Int) : ShL := if takeE s ser n = 0 then putC s ((freeL s.cells).getD 0) (ser, List.replicate n.toNat 0) else emptySh
def findE (s : ShL) (place : Int) (ser : Nat) : Int := if mayL s then (if 0 ≤ place ∧ place < s.cells.length ∧ ser ≠ 0 ∧ (s.cells.getD place.toNat (0, [])).1 = ser then 0 else 210) else 5
def giveS (s : ShL) (place : Int) (ser : Nat) : ShL := if findE s place ser = 0 then putC s place.toNat (0, []) else emptySh
def resizeE (s : ShL) (place : Int) (ser : Nat) (n : Int) : Int := if mayL s ∧ ofL s.cl n = false then 2 else findE s place ser
def sizedL (b : List UInt8) (n : Nat) : List UInt8 := b.take n ++ List.replicate (n - b.length) 0
def dataL (s : ShL) (place : Int) : List UInt8 := (s.cells.getD place.toNat (0, [])).2
def resizeS (s : ShL) (place : Int) (ser : Nat) (n : Int) : ShL := if resizeE s place ser n = 0 then putC s place.toNat (ser, sizedL (dataL s place) n.toNat) else emptySh
def partE (s : ShL) (place : Int) (ser : Nat) (off n : Int) : Int :=
  if findE s place ser = 0 then (if 0 ≤ off ∧ 0 ≤ n ∧ off + n ≤ (dataL s place).length then 0 else 211) else findE s place ser
def readB18 (s : ShL) (place : Int) (ser : Nat) (off n : Int) : List UInt8 := if partE s place ser off n = 0 then ((dataL s place).drop off.toNat).take n.toNat else []
def overL (b : List UInt8) (off : Nat) (d : List UInt8) : List UInt8 := b.take off ++ d ++ b.drop (off + d.length)
def writeS (s : ShL) (place : Int) (ser : Nat) (off : Int) (d : List UInt8) : ShL := if partE s place ser off d.length = 0 then putC s place.toNat (ser, overL (dataL s place) off.toNat d) else emptySh
theorem putC_small {s : ShL} (h : smallL s) (p : Nat) (c : Nat × List UInt8) (hc : c.2.length ≤ 400) : smallL (putC s p c) := by
  refine ⟨by simp [putC]; exact h.1, fun x hx => ?_⟩
  rcases List.mem_or_eq_of_mem_set hx with h1 | rfl
  · exact h.2 x h1
  · exact hc
theorem ofL_le {k : Nat} {n : Int} (h : ofL k n = true) : k < 7 ∧ 1 ≤ n ∧ n ≤ (roomL k : Int) ∧ n ≤ 237 := by
  unfold ofL at h
  rw [decide_eq_true_eq] at h
  exact classL_lt h
theorem length_overL (b : List UInt8) (off : Nat) (d : List UInt8) (h : off + d.length ≤ b.length) : (overL b off d).length = b.length := by
  unfold overL
  simp only [List.length_append, List.length_take, List.length_drop]
  omega
theorem length_sizedL (b : List UInt8) (n : Nat) : (sizedL b n).length = n := by
  unfold sizedL
  simp only [List.length_append, List.length_take, List.length_replicate]
  omega
theorem dataL_small {s : ShL} (h : smallL s) (p : Int) : (dataL s p).length ≤ 400 := by
  unfold dataL
  rw [List.getD_eq_getElem?_getD]
  cases hc : s.cells[p.toNat]? with
  | none => simp
  | some c => exact h.2 c (List.mem_of_getElem? hc)
theorem takeS_small {s : ShL} (h : smallL s) (ser : Nat) (n : Int) : smallL (takeS s ser n) := by
  unfold takeS
  split
  · rename_i h0
    refine putC_small h _ _ ?_
    unfold takeE at h0
    split at h0
    · split at h0
      · cases h0
      · rename_i h1
        have : ofL s.cl n = true := by
          cases hq : ofL s.cl n with
          | true => rfl
          | false => exact absurd (.inr (.inr hq)) h1
        have := ofL_le this
        simp; omega
    · cases h0
  · exact emptySh_small
theorem giveS_small {s : ShL} (h : smallL s) (p : Int) (ser : Nat) : smallL (giveS s p ser) := by
  unfold giveS
  split
  · exact putC_small h _ _ (by simp)
  · exact emptySh_small
theorem resizeS_small {s : ShL} (h : smallL s) (p : Int) (ser : Nat) (n : Int) : smallL (resizeS s p ser n) := by
  unfold resizeS
  split
  · rename_i h0
    refine putC_small h _ _ ?_
    rw [length_sizedL]
    unfold resizeE at h0
    split at h0
    · cases h0
    · rename_i h1
      unfold findE at h0
      split at h0
      · rename_i hm
        have : ofL s.cl n = true := by
          cases hq : ofL s.cl n with
          | true => rfl
          | false => exact absurd ⟨hm, hq⟩ h1
        have := ofL_le this
        omega
      · cases h0
  · exact emptySh_small
theorem partE_zero {s : ShL} {p : Int} {ser : Nat} {off n : Int} (h : partE s p ser off n = 0) : findE s p ser = 0 ∧ 0 ≤ off ∧ 0 ≤ n ∧ off + n ≤ (dataL s p).length := by
  unfold partE at h
  split at h
  · rename_i h1
    split at h
    · rename_i h2
      exact ⟨h1, h2⟩
    · cases h
  · rename_i h1
    exact absurd h h1
theorem findE_zero {s : ShL} {p : Int} {ser : Nat} (h : findE s p ser = 0) : mayL s = true ∧ 0 ≤ p ∧ p < s.cells.length ∧ ser ≠ 0 ∧ (s.cells.getD p.toNat (0, [])).1 = ser := by
  unfold findE at h
  split at h
  · rename_i h1
    split at h
    · rename_i h2
      exact ⟨h1, h2⟩
    · cases h
  · cases h
theorem writeS_small {s : ShL} (h : smallL s) (p : Int) (ser : Nat) (off : Int) (d : List UInt8) : smallL (writeS s p ser off d) := by
  unfold writeS
  split
  · rename_i h0
    obtain ⟨_, h1, h2, h3⟩ := partE_zero h0
    refine putC_small h _ _ ?_
    rw [length_overL _ _ _ (by omega)]
    exact dataL_small h p
  · exact emptySh_small
end Go.Proofs.YtcepfmjebgklfaaDoor
namespace Go.Proofs.YtcepfmjebgklfaaDoor
open Go.RowKit
theorem cellsOk_put {k : Nat} {l : List (Nat × List UInt8)} (h : cellsOk k l = true) (p : Nat) (c : Nat × List UInt8) (hc : cellOk k c = true) : cellsOk k (l.set p c) = true := by
  unfold cellsOk at h ⊢
  rw [List.all_eq_true] at h ⊢
  intro x hx
  rcases List.mem_or_eq_of_mem_set hx with h1 | rfl
  · exact h x h1
  · exact hc
theorem mayL_put {s : ShL} (h : mayL s = true) (p : Nat) (c : Nat × List UInt8) (hc : cellOk s.cl c = true) : mayL (putC s p c) = true := by
  unfold mayL headOk at h ⊢
  simp only [Bool.and_eq_true] at h ⊢
  refine ⟨⟨⟨h.1.1.1, ?_⟩, h.1.2⟩, cellsOk_put h.2 p c hc⟩
  have := h.1.1.2
  simpa [putC] using this
theorem getD_put (s : ShL) (p : Nat) (c : Nat × List UInt8) (hp : p < s.cells.length) : (putC s p c).cells.getD p (0, []) = c := by
  unfold putC
  rw [List.getD_eq_getElem?_getD, List.getElem?_set_self hp]
  rfl
theorem get_put_ne (s : ShL) (p k : Nat) (c : Nat × List UInt8) (h : k ≠ p) : (putC s p c).cells[k]? = s.cells[k]? := by
  unfold putC
  rw [List.getElem?_set_ne (fun e => h e.symm)]
theorem len_put (s : ShL) (p : Nat) (c : Nat × List UInt8) : (putC s p c).cells.length = s.cells.length := by simp [putC]
theorem putC_putC (s : ShL) (p : Nat) (c d : Nat × List UInt8) : putC (putC s p c) p d = putC s p d := by simp [putC]
theorem putC_self (s : ShL) (p : Nat) (c : Nat × List UInt8) (h : s.cells[p]? = some c) : putC s p c = s := by
  obtain ⟨a, b, d, l⟩ := s
  unfold putC
  simp only [ShL.mk.injEq, true_and] at h ⊢
  apply List.ext_getElem?
  intro i
  rw [List.getElem?_set]
  split
  · rename_i e
    subst e
    rw [if_pos (List.getElem?_eq_some_iff.1 h).1, h]
  · rfl
theorem used_put (l : List (Nat × List UInt8)) : ∀ (p : Nat) (c : Nat × List UInt8), l[p]? = some (0, []) → 0 < c.1 → usedL (l.set p c) = usedL l + 1 := by
  induction l with
  | nil => intro p c h; simp at h
  | cons x l ih =>
    intro p c h hc
    cases p with
    | zero =>
      have hx : x = (0, []) := by simpa using h
      subst hx
      simp [usedL, hc]
    | succ p =>
      have := ih p c (by simpa using h) hc
      unfold usedL at this ⊢
      rw [List.set_cons_succ, List.filter_cons, List.filter_cons]
      split
      · rw [List.length_cons, List.length_cons, this]
      · exact this
/-- What a place that is taken was. -/
structure Taken (s : ShL) (ser : Nat) (n : Int) (p : Nat) : Prop where
  may : mayL s = true
  lt : p < s.cells.length
  was : s.cells[p]? = some (0, [])
  free : freeL s.cells = some p
  ser0 : ser ≠ 0
  ser1 : ser ≤ 8796093022207
  of_ : ofL s.cl n = true
  sh : takeS s ser n = putC s p (ser, List.replicate n.toNat 0)
  place : takeP s ser n = p
theorem taken_of {s : ShL} {ser : Nat} {n : Int} (h : takeE s ser n = 0) : ∃ p, Taken s ser n p := by
  have h0 := h
  unfold takeE at h
  split at h
  · rename_i hm
    split at h
    · cases h
    · rename_i h1
      split at h
      · cases h
      · rename_i h2
        obtain ⟨p, hp⟩ := Option.ne_none_iff_exists'.1 h2
        have hp' := hp
        unfold freeL at hp'
        rw [List.findIdx?_eq_some_iff_getElem] at hp'
        obtain ⟨hlt, hz, _⟩ := hp'
        have hz' : s.cells[p].1 = 0 := by simpa using hz
        have hok : cellOk s.cl s.cells[p] = true := by
          unfold mayL cellsOk at hm
          rw [Bool.and_eq_true, List.all_eq_true] at hm
          exact hm.2 _ (List.getElem_mem hlt)
        have hd : s.cells[p].2 = [] := by
          unfold cellOk at hok
          rw [if_pos hz'] at hok
          simpa using hok
        refine ⟨p, hm, hlt, ?_, hp, fun e => h1 (.inl e), ?_, ?_, ?_, ?_⟩
        · rw [List.getElem?_eq_getElem hlt]
          congr 1
          exact Prod.ext hz' hd
        · apply Classical.byContradiction
          intro hh
          exact h1 (.inr (.inl (by omega)))
        · cases hq : ofL s.cl n with
          | true => rfl
          | false => exact absurd (.inr (.inr hq)) h1
        · unfold takeS
          rw [if_pos h0, hp]; rfl
        · unfold takeP
          rw [if_pos h0, hp]; rfl
  · cases h
theorem take_err {s : ShL} {ser : Nat} {n : Int} (h : takeE s ser n ≠ 0) : takeS s ser n = emptySh := by unfold takeS; rw [if_neg h]
section
variable {s : ShL} {ser : Nat} {n : Int} {p : Nat}
theorem Taken.cell (h : Taken s ser n p) (d : List UInt8) (hd : (d.length : Int) = n) : cellOk s.cl (ser, d) = true := by
  unfold cellOk
  rw [if_neg h.ser0, Bool.and_eq_true, decide_eq_true_eq]
  refine ⟨h.ser1, ?_⟩
  simp only [hd]
  exact h.of_
theorem Taken.n1 (h : Taken s ser n p) : 1 ≤ n ∧ n ≤ 237 := by have := ofL_le h.of_; omega
theorem Taken.found (h : Taken s ser n p) (d : List UInt8) (hd : (d.length : Int) = n) : findE (putC s p (ser, d)) (p : Int) ser = 0 := by
  unfold findE
  rw [if_pos (mayL_put h.may p _ (h.cell d hd)), if_pos]
  refine ⟨by omega, by rw [len_put]; have := h.lt; omega, h.ser0, ?_⟩
  rw [Int.toNat_natCast, getD_put _ _ _ h.lt]
theorem Taken.data (h : Taken s ser n p) (d : List UInt8) : dataL (putC s p (ser, d)) (p : Int) = d := by
  unfold dataL
  rw [Int.toNat_natCast, getD_put _ _ _ h.lt]
theorem Taken.part (h : Taken s ser n p) (d : List UInt8) (hd : (d.length : Int) = n) (off k : Int) : partE (putC s p (ser, d)) (p : Int) ser off k = if 0 ≤ off ∧ 0 ≤ k ∧ off + k ≤ n then 0 else 211 := by
  unfold partE
  rw [if_pos (h.found d hd), h.data d, hd]
theorem Taken.stale (h : Taken s ser n p) (d : List UInt8) (hd : (d.length : Int) = n) (q : Nat) (hq : q ≠ ser) (off k : Int) : partE (putC s p (ser, d)) (p : Int) q off k = 210 := by
  have hf : findE (putC s p (ser, d)) (p : Int) q = 210 := by
    unfold findE
    rw [if_pos (mayL_put h.may p _ (h.cell d hd)), if_neg]
    rintro ⟨_, _, _, h4⟩
    rw [Int.toNat_natCast, getD_put _ _ _ h.lt] at h4
    exact hq h4.symm
  unfold partE
  rw [hf]
  rfl
theorem Taken.read (h : Taken s ser n p) (d : List UInt8) (hd : (d.length : Int) = n) (off k : Nat) (hk : off + k ≤ d.length) : readB18 (putC s p (ser, d)) (p : Int) ser (off : Int) (k : Int) = (d.drop off).take k := by
  unfold readB18
  simp only [h.part d hd]
  rw [if_pos (show (if 0 ≤ (off : Int) ∧ 0 ≤ (k : Int) ∧ (off : Int) + (k : Int) ≤ n then (0 : Int) else 211) = 0 from if_pos (by omega)), h.data d, Int.toNat_natCast, Int.toNat_natCast]
theorem Taken.give (h : Taken s ser n p) (d : List UInt8) (hd : (d.length : Int) = n) : giveS (putC s p (ser, d)) (p : Int) ser = s := by
  unfold giveS
  rw [if_pos (h.found d hd), Int.toNat_natCast, putC_putC, putC_self _ _ _ h.was]
theorem Taken.gone (h : Taken s ser n p) : partE s (p : Int) ser 0 0 = 210 := by
  have hf : findE s (p : Int) ser = 210 := by
    unfold findE
    rw [if_pos h.may, if_neg]
    rintro ⟨_, _, h3, h4⟩
    rw [Int.toNat_natCast, List.getD_eq_getElem?_getD, h.was] at h4
    exact h3 h4.symm
  unfold partE
  rw [hf]
  rfl
theorem Taken.write (h : Taken s ser n p) (d e : List UInt8) (hd : (d.length : Int) = n) (off : Nat) (hf : (off : Int) + (e.length : Int) ≤ n) : writeS (putC s p (ser, d)) (p : Int) ser (off : Int) e = putC s p (ser, overL d off e) := by
  unfold writeS
  simp only [h.part d hd]
  rw [if_pos (show (if 0 ≤ (off : Int) ∧ 0 ≤ (e.length : Int) ∧ (off : Int) + (e.length : Int) ≤ n then (0 : Int) else 211) = 0 from if_pos (by omega)), Int.toNat_natCast, Int.toNat_natCast, h.data d, putC_putC]
end
theorem over_read (d e : List UInt8) (off : Nat) (h : off + e.length ≤ d.length) : ((overL d off e).drop off).take e.length = e := by
  unfold overL
  rw [List.append_assoc, List.drop_append, List.drop_of_length_le (by rw [List.length_take]; omega), List.nil_append, List.length_take, Nat.min_eq_left (by omega), Nat.sub_self, List.drop_zero, List.take_left]
end Go.Proofs.YtcepfmjebgklfaaDoor
namespace Go.Proofs.YtcepfmjebgklfaaDoor
open Go.RowKit
def cellB (k : Nat) (c : Nat × List UInt8) : List UInt8 := lows c.1 8 ++ lows c.2.length 1 ++ (c.2 ++ List.replicate (roomL k - c.2.length) 0)
def cellsB (k : Nat) (l : List (Nat × List UInt8)) : List UInt8 := l.flatMap (cellB k)
def headB18 (s : ShL) : List UInt8 := lows s.cl 1 ++ lows s.prev 2 ++ lows s.next 2
def shB (s : ShL) : List UInt8 := headB18 s ++ cellsB s.cl s.cells
def putE18 (s : ShL) : Int := if mayL s then 0 else 5
def putB18 (s : ShL) : List UInt8 := if mayL s then doneB 83 (shB s) else List.replicate 256 0
theorem length_headB18 (s : ShL) : (headB18 s).length = 5 := by simp [headB18, length_lows]
theorem length_cellB (k : Nat) (c : Nat × List UInt8) (h : c.2.length ≤ roomL k) : (cellB k c).length = 9 + roomL k := by
  simp [cellB, length_lows]; omega
theorem length_cellB_le (k : Nat) (c : Nat × List UInt8) (h : c.2.length ≤ 400) : (cellB k c).length ≤ 409 := by
  have := roomL_le k
  simp [cellB, length_lows]; omega
theorem length_cellsB_le (k : Nat) (l : List (Nat × List UInt8)) (h : ∀ c ∈ l, c.2.length ≤ 400) : (cellsB k l).length ≤ 409 * l.length := by
  induction l with
  | nil => simp [cellsB]
  | cons c l ih =>
    have h1 := length_cellB_le k c (h c (by simp))
    have h2 := ih (fun c hc => h c (List.mem_cons_of_mem _ hc))
    unfold cellsB at h2 ⊢
    rw [List.flatMap_cons, List.length_append, List.length_cons]
    omega
theorem length_cellsB (k : Nat) (l : List (Nat × List UInt8)) (h : ∀ c ∈ l, c.2.length ≤ roomL k) : (cellsB k l).length = (9 + roomL k) * l.length := by
  induction l with
  | nil => simp [cellsB]
  | cons c l ih =>
    have h1 := length_cellB k c (h c (by simp))
    have h2 := ih (fun c hc => h c (List.mem_cons_of_mem _ hc))
    unfold cellsB at h2 ⊢
    rw [List.flatMap_cons, List.length_append, List.length_cons, h1, h2, Nat.mul_add]
    omega
theorem cellsB_take (k : Nat) (l : List (Nat × List UInt8)) (j : Nat) (h : j < l.length) : cellsB k (l.take (j + 1)) = cellsB k (l.take j) ++ cellB k l[j] := by
  unfold cellsB
  rw [List.take_succ_eq_append_getElem h, List.flatMap_append]
  simp
theorem cellOk_le {k : Nat} {c : Nat × List UInt8} (h : cellOk k c = true) : c.2.length ≤ roomL k := by
  unfold cellOk at h
  split at h
  · have : c.2 = [] := by simpa using h
    rw [this]; simp
  · simp only [Bool.and_eq_true] at h
    have := (ofL_le h.2).2.2.1
    omega
theorem mayL_le {s : ShL} (h : mayL s = true) : ∀ c ∈ s.cells, c.2.length ≤ roomL s.cl := by
  unfold mayL cellsOk at h
  simp only [Bool.and_eq_true, List.all_eq_true] at h
  exact fun c hc => cellOk_le (h.2 c hc)
theorem mayL_len {s : ShL} (h : mayL s = true) : s.cells.length = placesL s.cl ∧ s.cl < 7 := by
  unfold mayL headOk at h
  simp only [Bool.and_eq_true, decide_eq_true_eq] at h
  refine ⟨h.1.1.2, ?_⟩
  apply Classical.byContradiction
  intro hc
  exact h.1.1.1 (placesL_big _ (by omega))
theorem room_places (k : Nat) : (9 + roomL k) * placesL k ≤ 246 := by
  by_cases h : k < 7
  · rcases (by omega : k = 0 ∨ k = 1 ∨ k = 2 ∨ k = 3 ∨ k = 4 ∨ k = 5 ∨ k = 6) with rfl | rfl | rfl | rfl | rfl | rfl | rfl <;> decide
  · rw [placesL_big k (by omega)]; omega
theorem length_shB {s : ShL} (h : mayL s = true) : (shB s).length ≤ 251 := by
  unfold shB
  rw [List.length_append, length_headB18, length_cellsB _ _ (mayL_le h), (mayL_len h).1]
  have := room_places s.cl
  omega
theorem length_putB18 (s : ShL) : (putB18 s).length = 256 := by
  unfold putB18
  split
  · rename_i h
    exact length_doneB 83 _ (length_shB h)
  · exact List.length_replicate
/-- A cell's bytes, up to the room. -/
def padL (k : Nat) (d : List UInt8) : List UInt8 := d ++ List.replicate (roomL k - d.length) 0
theorem padL_get (k : Nat) (d : List UInt8) (q : Nat) (h : q < roomL k) : (padL k d)[q]? = some (d.getD q 0) := by
  unfold padL
  rw [List.getElem?_append, List.getD_eq_getElem?_getD]
  split
  · rename_i h1
    rw [List.getElem?_eq_getElem h1]; rfl
  · rename_i h1
    rw [List.getElem?_replicate, if_pos (by omega), List.getElem?_eq_none (show d.length ≤ q by omega)]; rfl
theorem padL_take (k : Nat) (d : List UInt8) (q : Nat) (h : q < roomL k) : (padL k d).take (q + 1) = (padL k d).take q ++ lows (d.getD q 0).toNat 1 := by
  rw [List.take_add_one, padL_get k d q h]
  simp [lows]
theorem cellB_pad (k : Nat) (c : Nat × List UInt8) : cellB k c = lows c.1 8 ++ lows c.2.length 1 ++ padL k c.2 := rfl
theorem length_padL (k : Nat) (d : List UInt8) (h : d.length ≤ roomL k) : (padL k d).length = roomL k := by
  simp [padL]; omega
theorem length_pad_take (k : Nat) (d : List UInt8) (q : Nat) (h : q ≤ 237) : ((padL k d).take q).length ≤ 237 := by
  rw [List.length_take]; omega
end Go.Proofs.YtcepfmjebgklfaaDoor
