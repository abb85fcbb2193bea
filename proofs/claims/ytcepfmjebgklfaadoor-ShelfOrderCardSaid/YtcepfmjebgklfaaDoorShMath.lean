/- Shelves as plain data: classes, which shelves may be, what is done to them. No program in sight. -/
import Derived.Test.YtcepfmjebgklfaaDoorFieldMath
namespace Go.Proofs.YtcepfmjebgklfaaDoor
open Go.RowKit
def rooms : List Nat := [8, 16, 24, 40, 72, 114, 237]
def placesT : List Nat := [14, 9, 7, 5, 3, 2, 1]
def roomL (k : Nat) : Nat := rooms.getD k 0
def placesL (k : Nat) : Nat := placesT.getD k 0
def classL (n : Int) : Option Nat :=
  if n < 1 then none else if n ≤ 8 then some 0 else if n ≤ 16 then some 1 else if n ≤ 24 then some 2 else if n ≤ 40 then some 3
  else if n ≤ 72 then some 4 else if n ≤ 114 then some 5 else if n ≤ 237 then some 6 else none
def classV (n : Int) : Nat := (classL n).getD 0
def classE (n : Int) : Int := if (classL n).isSome then 0 else 211
/-- Is a length of a class? -/
def ofL (k : Nat) (n : Int) : Bool := decide (classL n = some k)
theorem classL_hit (n : Int) (k : Nat) (h1 : 1 ≤ n) (hk : k < 7) (hle : n ≤ (roomL k : Int)) (hall : ∀ j, j < k → (roomL j : Int) < n) : classL n = some k := by
  have q : ∀ j, j < k → j < 7 → (roomL j : Int) < n := fun j hj _ => hall j hj
  unfold classL
  have r0 : roomL 0 = 8 := rfl
  have r1 : roomL 1 = 16 := rfl
  have r2 : roomL 2 = 24 := rfl
  have r3 : roomL 3 = 40 := rfl
  have r4 : roomL 4 = 72 := rfl
  have r5 : roomL 5 = 114 := rfl
  have r6 : roomL 6 = 237 := rfl
  rcases (by omega : k = 0 ∨ k = 1 ∨ k = 2 ∨ k = 3 ∨ k = 4 ∨ k = 5 ∨ k = 6) with rfl | rfl | rfl | rfl | rfl | rfl | rfl
  · rw [if_neg (by omega), if_pos (by omega)]
  · have := q 0 (by omega) (by omega)
    rw [if_neg (by omega), if_neg (by omega), if_pos (by omega)]
  · have := q 1 (by omega) (by omega)
    rw [if_neg (by omega), if_neg (by omega), if_neg (by omega), if_pos (by omega)]
  · have := q 2 (by omega) (by omega)
    rw [if_neg (by omega), if_neg (by omega), if_neg (by omega), if_neg (by omega), if_pos (by omega)]
  · have := q 3 (by omega) (by omega)
    rw [if_neg (by omega), if_neg (by omega), if_neg (by omega), if_neg (by omega), if_neg (by omega), if_pos (by omega)]
  · have := q 4 (by omega) (by omega)
    rw [if_neg (by omega), if_neg (by omega), if_neg (by omega), if_neg (by omega), if_neg (by omega), if_neg (by omega), if_pos (by omega)]
  · have := q 5 (by omega) (by omega)
    rw [if_neg (by omega), if_neg (by omega), if_neg (by omega), if_neg (by omega), if_neg (by omega), if_neg (by omega), if_neg (by omega), if_pos (by omega)]
theorem classL_none (n : Int) (h : 1 ≤ n → (roomL 6 : Int) < n) : classL n = none := by
  have r6 : roomL 6 = 237 := rfl
  unfold classL
  by_cases h1 : n < 1
  · rw [if_pos h1]
  · have := h (by omega)
    rw [if_neg (by omega), if_neg (by omega), if_neg (by omega), if_neg (by omega), if_neg (by omega), if_neg (by omega), if_neg (by omega), if_neg (by omega)]
theorem classL_lt {n : Int} {k : Nat} (h : classL n = some k) : k < 7 ∧ 1 ≤ n ∧ n ≤ (roomL k : Int) ∧ n ≤ 237 := by
  unfold classL at h
  have r0 : roomL 0 = 8 := rfl
  have r1 : roomL 1 = 16 := rfl
  have r2 : roomL 2 = 24 := rfl
  have r3 : roomL 3 = 40 := rfl
  have r4 : roomL 4 = 72 := rfl
  have r5 : roomL 5 = 114 := rfl
  have r6 : roomL 6 = 237 := rfl
  split at h
  · cases h
  all_goals (split at h)
  · cases h; omega
  all_goals (split at h)
  · cases h; omega
  all_goals (split at h)
  · cases h; omega
  all_goals (split at h)
  · cases h; omega
  all_goals (split at h)
  · cases h; omega
  all_goals (split at h)
  · cases h; omega
  all_goals (split at h)
  · cases h; omega
  · cases h
theorem classV_lt (n : Int) : classV n < 7 := by
  unfold classV
  cases h : classL n with
  | none => simp
  | some k => exact (classL_lt h).1
theorem roomL_big (k : Nat) (h : 7 ≤ k) : roomL k = 0 := by unfold roomL rooms; rw [List.getD_eq_getElem?_getD, List.getElem?_eq_none (by simpa using h)]; rfl
theorem placesL_big (k : Nat) (h : 7 ≤ k) : placesL k = 0 := by unfold placesL placesT; rw [List.getD_eq_getElem?_getD, List.getElem?_eq_none (by simpa using h)]; rfl
theorem roomL_le (k : Nat) : roomL k ≤ 237 := by
  by_cases h : k < 7
  · rcases (by omega : k = 0 ∨ k = 1 ∨ k = 2 ∨ k = 3 ∨ k = 4 ∨ k = 5 ∨ k = 6) with rfl | rfl | rfl | rfl | rfl | rfl | rfl <;> decide
  · rw [roomL_big k (by omega)]; omega
theorem placesL_le (k : Nat) : placesL k ≤ 14 := by
  by_cases h : k < 7
  · rcases (by omega : k = 0 ∨ k = 1 ∨ k = 2 ∨ k = 3 ∨ k = 4 ∨ k = 5 ∨ k = 6) with rfl | rfl | rfl | rfl | rfl | rfl | rfl <;> decide
  · rw [placesL_big k (by omega)]; omega
theorem placesL_zero (k : Nat) : placesL k = 0 ↔ 7 ≤ k := by
  constructor
  · intro h
    apply Classical.byContradiction
    intro h2
    rcases (by omega : k = 0 ∨ k = 1 ∨ k = 2 ∨ k = 3 ∨ k = 4 ∨ k = 5 ∨ k = 6) with rfl | rfl | rfl | rfl | rfl | rfl | rfl <;> revert h <;> decide
  · exact placesL_big k
/-- A shelf: its class, the pages ahead and behind, its cells. -/
structure ShL where
  cl : Nat
  prev : Nat
  next : Nat
  cells : List (Nat × List UInt8)
/-- No more than a statement looks at. -/
def smallL (s : ShL) : Prop := s.cells.length ≤ 30 ∧ ∀ c ∈ s.cells, c.2.length ≤ 400
def emptySh : ShL := ⟨0, 0, 0, []⟩
theorem emptySh_small : smallL emptySh := ⟨by simp [emptySh], by simp [emptySh]⟩
def maxSer : Nat := 8796093022207
def cellOk (k : Nat) (c : Nat × List UInt8) : Bool := if c.1 = 0 then c.2.isEmpty else decide (c.1 ≤ 8796093022207) && ofL k (c.2.length : Int)
def cellsOk (k : Nat) (l : List (Nat × List UInt8)) : Bool := l.all (cellOk k)
def headOk (s : ShL) : Bool := decide (placesL s.cl ≠ 0) && decide (s.cells.length = placesL s.cl) && decide (s.prev < 32768 ∧ s.next < 32768)
def mayL (s : ShL) : Bool := headOk s && cellsOk s.cl s.cells
def usedL (l : List (Nat × List UInt8)) : Nat := (l.filter fun c => decide (0 < c.1)).length
def putC (s : ShL) (p : Nat) (c : Nat × List UInt8) : ShL := ⟨s.cl, s.prev, s.next, s.cells.set p c⟩
/-- The first free place. -/
def freeL (l : List (Nat × List UInt8)) : Option Nat := l.findIdx? (fun c => c.1 == 0)
def takeE (s : ShL) (ser : Nat) (n : Int) : Int := if mayL s then (if ser = 0 ∨ 8796093022207 < ser ∨ ofL s.cl n = false then 2 else if freeL s.cells = none then 6 else 0) else 5
def takeP (s : ShL) (ser : Nat) (n : Int) : Nat := if takeE s ser n = 0 then (freeL s.cells).getD 0 else 0
def takeS (s : ShL) (ser : Nat) (n : Int) : ShL := if takeE s ser n = 0 then putC s ((freeL s.cells).getD 0) (ser, List.replicate n.toNat 0) else emptySh
def findE (s : ShL) (place : Int) (ser : Nat) : Int := if mayL s then (if 0 ≤ place ∧ place < s.cells.length ∧ ser ≠ 0 ∧ (s.cells.getD place.toNat (0, [])).1 = ser then 0 else 210) else 5
def giveS (s : ShL) (place : Int) (ser : Nat) : ShL := if findE s place ser = 0 then putC s place.toNat (0, []) else emptySh
def resizeE (s : ShL) (place : Int) (ser : Nat) (n : Int) : Int := if mayL s ∧ ofL s.cl n = false then 2 else findE s place ser
def sizedL (b : List UInt8) (n : Nat) : List UInt8 := b.take n ++ List.replicate (n - b.length) 0
def dataL (s : ShL) (place : Int) : List UInt8 := (s.cells.getD place.toNat (0, [])).2
def resizeS (s : ShL) (place : Int) (ser : Nat) (n : Int) : ShL := if resizeE s place ser n = 0 then putC s place.toNat (ser, sizedL (dataL s place) n.toNat) else emptySh
def partE (s : ShL) (place : Int) (ser : Nat) (off n : Int) : Int :=
  if findE s place ser = 0 then (if 0 ≤ off ∧ 0 ≤ n ∧ off + n ≤ (dataL s place).length then 0 else 211) else findE s place ser
def readB18 (s : ShL) (place : Int) (ser : Nat) (off n : Int) : List UInt8 := if partE s place ser off n = 0 then ((dataL s place).drop off.toNat).take n.toNat else []
def overL (b : List UInt8) (off : Nat) (d : List UInt8) : List UInt8 := b.take off ++ d ++ b.drop (off + d.length)
def writeS (s : ShL) (place : Int) (ser : Nat) (off : Int) (d : List UInt8) : ShL := if partE s place ser off d.length = 0 then putC s place.toNat (ser, overL (dataL s place) off.toNat d) else emptySh
theorem putC_small {s : ShL} (h : smallL s) (p : Nat) (c : Nat × List UInt8) (hc : c.2.length ≤ 400) : smallL (putC s p c) := by
  refine ⟨by simp [putC]; exact h.1, fun x hx => ?_⟩
  rcases List.mem_or_eq_of_mem_set hx with h1 | rfl
  · exact h.2 x h1
  · exact hc
theorem ofL_le {k : Nat} {n : Int} (h : ofL k n = true) : k < 7 ∧ 1 ≤ n ∧ n ≤ (roomL k : Int) ∧ n ≤ 237 := by
  unfold ofL at h
  rw [decide_eq_true_eq] at h
  exact classL_lt h
theorem length_overL (b : List UInt8) (off : Nat) (d : List UInt8) (h : off + d.length ≤ b.length) : (overL b off d).length = b.length := by
  unfold overL
  simp only [List.length_append, List.length_take, List.length_drop]
  omega
theorem length_sizedL (b : List UInt8) (n : Nat) : (sizedL b n).length = n := by
  unfold sizedL
  simp only [List.length_append, List.length_take, List.length_replicate]
  omega
theorem dataL_small {s : ShL} (h : smallL s) (p : Int) : (dataL s p).length ≤ 400 := by
  unfold dataL
  rw [List.getD_eq_getElem?_getD]
  cases hc : s.cells[p.toNat]? with
  | none => simp
  | some c => exact h.2 c (List.mem_of_getElem? hc)
theorem takeS_small {s : ShL} (h : smallL s) (ser : Nat) (n : Int) : smallL (takeS s ser n) := by
  unfold takeS
  split
  · rename_i h0
    refine putC_small h _ _ ?_
    unfold takeE at h0
    split at h0
    · split at h0
      · cases h0
      · rename_i h1
        have : ofL s.cl n = true := by
          cases hq : ofL s.cl n with
          | true => rfl
          | false => exact absurd (.inr (.inr hq)) h1
        have := ofL_le this
        simp; omega
    · cases h0
  · exact emptySh_small
theorem giveS_small {s : ShL} (h : smallL s) (p : Int) (ser : Nat) : smallL (giveS s p ser) := by
  unfold giveS
  split
  · exact putC_small h _ _ (by simp)
  · exact emptySh_small
theorem resizeS_small {s : ShL} (h : smallL s) (p : Int) (ser : Nat) (n : Int) : smallL (resizeS s p ser n) := by
  unfold resizeS
  split
  · rename_i h0
    refine putC_small h _ _ ?_
    rw [length_sizedL]
    unfold resizeE at h0
    split at h0
    · cases h0
    · rename_i h1
      unfold findE at h0
      split at h0
      · rename_i hm
        have : ofL s.cl n = true := by
          cases hq : ofL s.cl n with
          | true => rfl
          | false => exact absurd ⟨hm, hq⟩ h1
        have := ofL_le this
        omega
      · cases h0
  · exact emptySh_small
theorem partE_zero {s : ShL} {p : Int} {ser : Nat} {off n : Int} (h : partE s p ser off n = 0) : findE s p ser = 0 ∧ 0 ≤ off ∧ 0 ≤ n ∧ off + n ≤ (dataL s p).length := by
  unfold partE at h
  split at h
  · rename_i h1
    split at h
    · rename_i h2
      exact ⟨h1, h2⟩
    · cases h
  · rename_i h1
    exact absurd h h1
theorem findE_zero {s : ShL} {p : Int} {ser : Nat} (h : findE s p ser = 0) : mayL s = true ∧ 0 ≤ p ∧ p < s.cells.length ∧ ser ≠ 0 ∧ (s.cells.getD p.toNat (0, [])).1 = ser := by
  unfold findE at h
  split at h
  · rename_i h1
    split at h
    · rename_i h2
      exact ⟨h1, h2⟩
    · cases h
  · cases h
theorem writeS_small {s : ShL} (h : smallL s) (p : Int) (ser : Nat) (off : Int) (d : List UInt8) : smallL (writeS s p ser off d) := by
  unfold writeS
  split
  · rename_i h0
    obtain ⟨_, h1, h2, h3⟩ := partE_zero h0
    refine putC_small h _ _ ?_
    rw [length_overL _ _ _ (by omega)]
    exact dataL_small h p
  · exact emptySh_small
end Go.Proofs.YtcepfmjebgklfaaDoor
