/- Plain laws on a block that is read: when it is the block of the fields that are read of it. -/
import Derived.Test.YtcepfmjebgklfaaDoorFieldMath
namespace Go.Proofs.YtcepfmjebgklfaaDoor
open Go.RowKit
/-- The n bytes of b from at on. -/
def seg (b : List UInt8) (i n : Nat) : List UInt8 := (b.drop i).take n
theorem length_seg (b : List UInt8) (i n : Nat) (h : i + n ≤ b.length) : (seg b i n).length = n := by simp [seg]; omega
theorem seg_append (b : List UInt8) (i n m : Nat) : seg b i n ++ seg b (i + n) m = seg b i (n + m) := by
  unfold seg
  rw [List.take_add, List.drop_drop]
theorem lows_seg (b : List UInt8) (i n : Nat) (h : i + n ≤ b.length) : lows (num (seg b i n)) n = seg b i n := by
  have := lows_num (seg b i n)
  rwa [length_seg b i n h] at this
theorem num_seg_lt (b : List UInt8) (i n : Nat) (h : i + n ≤ b.length) : num (seg b i n) < 256 ^ n := by
  have := num_lt (seg b i n)
  rwa [length_seg b i n h] at this
theorem get_seg (b : List UInt8) (i n k : Nat) (h : k < n) : (seg b i n)[k]? = b[i + k]? := by
  simp [seg, h, List.getElem?_drop]
theorem seal_idem (b : List UInt8) (h : b.length = 256) : sealB (sealB b) = sealB b := by
  have e : (sealB b).take 252 = b.take 252 := by
    unfold sealB
    rw [List.take_append_of_le_length (by simp; omega), List.take_take]; rfl
  unfold sealB at e ⊢
  rw [e]
theorem seal_of_take (a b : List UInt8) (h : a.take 252 = b.take 252) : sealB a = sealB b := by unfold sealB; rw [h]
/-- Are all bytes of b from i up to the sum zero? -/
def zerosFrom (b : List UInt8) (i : Nat) : Prop := ∀ k, i ≤ k → k < 252 → b[k]? = some 0
theorem parse_iff (b : List UInt8) (hb : b.length = 256) (m : UInt8) (n : Nat) (hn : n ≤ 251) : doneB m (seg b 1 n) = b ↔ sealB b = b ∧ b[0]? = some m ∧ zerosFrom b (1 + n) := by
  have hl : (seg b 1 n).length = n := length_seg b 1 n (by omega)
  constructor
  · intro h
    refine ⟨?_, ?_, ?_⟩
    · have := seal_idem (insideB m (seg b 1 n)) (length_insideB _ _ (by omega))
      rw [← h]
      exact this
    · rw [← h, get_doneB m _ (by omega) 0 (by omega)]; rfl
    · intro k hk hk2
      obtain ⟨j, rfl⟩ : ∃ j, k = j + 1 := ⟨k - 1, by omega⟩
      rw [← h, get_doneB m _ (by omega) _ hk2, get_inside m _ j (by omega) (by omega), hl, if_neg (by omega)]
  · rintro ⟨h1, h2, h3⟩
    rw [← h1]
    unfold doneB
    have hs : seg (sealB b) 1 n = seg b 1 n := by rw [h1]
    rw [hs]
    refine seal_of_take _ _ ?_
    apply List.ext_getElem?
    intro i
    simp only [List.getElem?_take]
    split
    · rename_i hi
      cases i with
      | zero => rw [h2]; rfl
      | succ k =>
        rw [get_inside m _ k (by omega) (by omega), hl]
        split
        · rename_i hk; rw [get_seg b 1 n k hk, Nat.add_comm]
        · rename_i hk; exact (h3 (k + 1) (by omega) hi).symm
    · rfl
end Go.Proofs.YtcepfmjebgklfaaDoor
