/- Plain laws on the bytes of fields: numbers, low byte first; texts with a length byte; a whole block. Plain laws on a block that is read: when it is the block of the fields that are read of it. -/
import Derived.Test.YtnphgaiiiiknpaaDoorSeal
namespace Go.Proofs.YtnphgaiiiiknpaaDoor
open Go.RowKit
/-- The k low bytes of a number, low ones first. -/
def lows : Nat → Nat → List UInt8
  | _, 0 => []
  | x, k + 1 => UInt8.ofNat x :: lows (x / 256) k
theorem length_lows (k : Nat) : ∀ x, (lows x k).length = k := by
  induction k with
  | zero => intro x; rfl
  | succ k ih => intro x; simp [lows, ih]
theorem lows_snoc (k : Nat) : ∀ x, lows x (k + 1) = lows x k ++ [UInt8.ofNat (x / 256 ^ k)] := by
  induction k with
  | zero => intro x; simp [lows]
  | succ k ih =>
    intro x
    rw [lows, ih, lows, List.cons_append, Nat.div_div_eq_div_mul, Nat.pow_succ, Nat.mul_comm]
/-- The number that some bytes are, low one first. -/
def num : List UInt8 → Nat
  | [] => 0
  | b :: l => b.toNat + 256 * num l
theorem num_lt (l : List UInt8) : num l < 256 ^ l.length := by
  induction l with
  | nil => simp [num]
  | cons b l ih =>
    have := b.toNat_lt
    simp only [num, List.length_cons, Nat.pow_succ]
    omega
theorem num_lows (k : Nat) : ∀ x, num (lows x k) = x % 256 ^ k := by
  induction k with
  | zero => intro x; simp [lows, num, Nat.mod_one]
  | succ k ih =>
    intro x
    rw [lows, num, ih, UInt8.toNat_ofNat', show 256 ^ (k + 1) = 256 * 256 ^ k from by rw [Nat.pow_succ, Nat.mul_comm], Nat.mod_mul]
theorem lows_num (l : List UInt8) : lows (num l) l.length = l := by
  induction l with
  | nil => rfl
  | cons b l ih =>
    have hb := b.toNat_lt
    have h1 : (b.toNat + 256 * num l) / 256 = num l := by omega
    have h2 : UInt8.ofNat (b.toNat + 256 * num l) = b := UInt8.toNat_inj.1 (by rw [UInt8.toNat_ofNat']; omega)
    simp only [num, List.length_cons, lows, h1, ih, h2]
theorem lows_inj (k x y : Nat) (hx : x < 256 ^ k) (hy : y < 256 ^ k) (h : lows x k = lows y k) : x = y := by
  have := congrArg num h
  rwa [num_lows, num_lows, Nat.mod_eq_of_lt hx, Nat.mod_eq_of_lt hy] at this
theorem num_snoc (l : List UInt8) (b : UInt8) : num (l ++ [b]) = num l + 256 ^ l.length * b.toNat := by
  induction l with
  | nil => simp [num]
  | cons c l ih =>
    simp only [List.cons_append, num, ih, List.length_cons, Nat.pow_succ, Nat.mul_add]
    rw [Nat.mul_comm (256 ^ l.length) 256, Nat.mul_assoc]; omega
/-- A text's bytes: its length, itself, zeros up to the room. -/
def textB (s : List UInt8) (room : Nat) : List UInt8 := UInt8.ofNat s.length :: (s ++ List.replicate (room - s.length) 0)
theorem length_textB (s : List UInt8) (room : Nat) (h : s.length ≤ room) : (textB s room).length = room + 1 := by
  simp [textB]; omega
/-- What lies in a block ahead of its sum: the magic, the fields, zeros. -/
def insideB (m : UInt8) (L : List UInt8) : List UInt8 := m :: (L ++ List.replicate (255 - L.length) 0)
theorem length_insideB (m : UInt8) (L : List UInt8) (h : L.length ≤ 255) : (insideB m L).length = 256 := by
  simp [insideB]; omega
def doneB (m : UInt8) (L : List UInt8) : List UInt8 := sealB (insideB m L)
theorem length_doneB (m : UInt8) (L : List UInt8) (h : L.length ≤ 251) : (doneB m L).length = 256 := length_sealB _ (length_insideB m L (by omega))
theorem take_doneB (m : UInt8) (L : List UInt8) (h : L.length ≤ 251) : (doneB m L).take 252 = (insideB m L).take 252 := by
  have hl := length_insideB m L (by omega)
  unfold doneB sealB
  rw [List.take_append_of_le_length (by simp; omega), List.take_take, Nat.min_self]
theorem get_doneB (m : UInt8) (L : List UInt8) (h : L.length ≤ 251) (i : Nat) (hi : i < 252) : (doneB m L)[i]? = (insideB m L)[i]? := by
  have := congrArg (·[i]?) (take_doneB m L h)
  simpa [List.getElem?_take, hi] using this
theorem get_inside (m : UInt8) (L : List UInt8) (i : Nat) (hi : i + 1 < 256) (h : L.length ≤ 255) : (insideB m L)[i + 1]? = if i < L.length then L[i]? else some 0 := by
  simp only [insideB, List.getElem?_cons_succ, List.getElem?_append]
  split
  · rfl
  · rw [List.getElem?_replicate]; split
    · rfl
    · omega
theorem inside_inj (m : UInt8) (L M : List UInt8) (hl : L.length = M.length) (h : L.length ≤ 251) (he : (insideB m L).take 252 = (insideB m M).take 252) : L = M := by
  have h1 : (insideB m L).take 252 = m :: (L ++ List.replicate (251 - L.length) 0) := by
    simp only [insideB, List.take_succ_cons, List.take_append, List.take_replicate]
    rw [List.take_of_length_le h, Nat.min_eq_left (by omega)]
  have h2 : (insideB m M).take 252 = m :: (M ++ List.replicate (251 - M.length) 0) := by
    simp only [insideB, List.take_succ_cons, List.take_append, List.take_replicate]
    rw [List.take_of_length_le (by omega), Nat.min_eq_left (by omega)]
  rw [h1, h2, List.cons.injEq] at he
  exact (List.append_inj he.2 hl).1
theorem done_inj (m : UInt8) (L M : List UInt8) (hl : L.length = M.length) (h : L.length ≤ 251) (he : doneB m L = doneB m M) : L = M := by
  refine inside_inj m L M hl h ?_
  rw [← take_doneB m L h, ← take_doneB m M (by omega), he]
end Go.Proofs.YtnphgaiiiiknpaaDoor
namespace Go.Proofs.YtnphgaiiiiknpaaDoor
open Go.RowKit
/-- The n bytes of b from at on. -/
def seg (b : List UInt8) (i n : Nat) : List UInt8 := (b.drop i).take n
theorem length_seg (b : List UInt8) (i n : Nat) (h : i + n ≤ b.length) : (seg b i n).length = n := by simp [seg]; omega
theorem seg_append (b : List UInt8) (i n m : Nat) : seg b i n ++ seg b (i + n) m = seg b i (n + m) := by
  unfold seg
  rw [List.take_add, List.drop_drop]
theorem lows_seg (b : List UInt8) (i n : Nat) (h : i + n ≤ b.length) : lows (num (seg b i n)) n = seg b i n := by
  have := lows_num (seg b i n)
  rwa [length_seg b i n h] at this
theorem num_seg_lt (b : List UInt8) (i n : Nat) (h : i + n ≤ b.length) : num (seg b i n) < 256 ^ n := by
  have := num_lt (seg b i n)
  rwa [length_seg b i n h] at this
theorem get_seg (b : List UInt8) (i n k : Nat) (h : k < n) : (seg b i n)[k]? = b[i + k]? := by
  simp [seg, h, List.getElem?_drop]
theorem seal_idem (b : List UInt8) (h : b.length = 256) : sealB (sealB b) = sealB b := by
  have e : (sealB b).take 252 = b.take 252 := by
    unfold sealB
    rw [List.take_append_of_le_length (by simp; omega), List.take_take]; rfl
  unfold sealB at e ⊢
  rw [e]
theorem seal_of_take (a b : List UInt8) (h : a.take 252 = b.take 252) : sealB a = sealB b := by unfold sealB; rw [h]
/-- Are all bytes of b from i up to the sum zero? -/
def zerosFrom (b : List UInt8) (i : Nat) : Prop := ∀ k, i ≤ k → k < 252 → b[k]? = some 0
theorem parse_iff (b : List UInt8) (hb : b.length = 256) (m : UInt8) (n : Nat) (hn : n ≤ 251) : doneB m (seg b 1 n) = b ↔ sealB b = b ∧ b[0]? = some m ∧ zerosFrom b (1 + n) := by
  have hl : (seg b 1 n).length = n := length_seg b 1 n (by omega)
  constructor
  · intro h
    refine ⟨?_, ?_, ?_⟩
    · have := seal_idem (insideB m (seg b 1 n)) (length_insideB _ _ (by omega))
      rw [← h]
      exact this
    · rw [← h, get_doneB m _ (by omega) 0 (by omega)]; rfl
    · intro k hk hk2
      obtain ⟨j, rfl⟩ : ∃ j, k = j + 1 := ⟨k - 1, by omega⟩
      rw [← h, get_doneB m _ (by omega) _ hk2, get_inside m _ j (by omega) (by omega), hl, if_neg (by omega)]
  · rintro ⟨h1, h2, h3⟩
    rw [← h1]
    unfold doneB
    have hs : seg (sealB b) 1 n = seg b 1 n := by rw [h1]
    rw [hs]
    refine seal_of_take _ _ ?_
    apply List.ext_getElem?
    intro i
    simp only [List.getElem?_take]
    split
    · rename_i hi
      cases i with
      | zero => rw [h2]; rfl
      | succ k =>
        rw [get_inside m _ k (by omega) (by omega), hl]
        split
        · rename_i hk; rw [get_seg b 1 n k hk, Nat.add_comm]
        · rename_i hk; exact (h3 (k + 1) (by omega) hi).symm
    · rfl
end Go.Proofs.YtnphgaiiiiknpaaDoor
