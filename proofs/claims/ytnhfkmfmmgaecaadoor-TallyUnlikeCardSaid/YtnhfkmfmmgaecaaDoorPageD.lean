/- Plain laws: two pages that differ at one number have blocks that differ there and in the sum alone. -/
import Derived.Test.YtnhfkmfmmgaecaaDoorPage
namespace Go.Proofs.YtnhfkmfmmgaecaaDoor
open Go.RowKit
theorem pbytes_split (wh wl h : Nat) (l : List Nat) (k y : Nat) (hk : k < l.length) : ∃ A B, A.length = wh + wl * k ∧ pbytes wh wl h l = A ++ (lows l[k] wl ++ B) ∧ pbytes wh wl h (l.set k y) = A ++ (lows y wl ++ B) := by
  refine ⟨lows h wh ++ (l.take k).flatMap (lows · wl), (l.drop (k + 1)).flatMap (lows · wl), ?_, ?_, ?_⟩
  · rw [List.length_append, length_lows, length_flat, List.length_take, Nat.min_eq_left (by omega)]
  · unfold pbytes pupto
    rw [List.take_of_length_le (Nat.le_refl _), List.append_assoc]
    congr 1
    have : l = l.take k ++ l[k] :: l.drop (k + 1) := by rw [List.getElem_cons_drop, List.take_append_drop]
    conv => lhs; rw [this]
    rw [List.flatMap_append, List.flatMap_cons]
  · unfold pbytes pupto
    rw [List.take_of_length_le (Nat.le_refl _), List.append_assoc]
    congr 1
    rw [List.set_eq_take_append_cons_drop, if_pos hk, List.flatMap_append, List.flatMap_cons]
theorem get_mid (A X Y B : List UInt8) (h : X.length = Y.length) (i : Nat) (hi : i < A.length ∨ A.length + X.length ≤ i) : (A ++ (X ++ B))[i]? = (A ++ (Y ++ B))[i]? := by
  rcases hi with hi | hi
  · rw [List.getElem?_append_left hi, List.getElem?_append_left hi]
  · rw [List.getElem?_append_right (by omega), List.getElem?_append_right (by omega), List.getElem?_append_right (by omega), List.getElem?_append_right (by omega), h]
theorem done_differ (m : UInt8) (A X Y B : List UInt8) (h : X.length = Y.length) (hl : (A ++ (X ++ B)).length ≤ 251) (i : Nat) (hi : i < 252) (ho : i < 1 + A.length ∨ 1 + A.length + X.length ≤ i) :
    (doneB m (A ++ (X ++ B)))[i]? = (doneB m (A ++ (Y ++ B)))[i]? := by
  have hl2 : (A ++ (Y ++ B)).length = (A ++ (X ++ B)).length := by simp [h]
  rw [get_doneB m _ hl i hi, get_doneB m _ (by omega) i hi]
  cases i with
  | zero => rfl
  | succ j =>
    rw [get_inside m _ j (by omega) (by omega), get_inside m _ j (by omega) (by omega), hl2]
    split
    · exact get_mid A X Y B h j (by omega)
    · rfl
/-- A page of which one number is another one. -/
theorem page_differ (m : UInt8) (wh wl h n : Nat) (l : List Nat) (k y i : Nat) (hl : l.length = n) (hk : k < n) (hn : wh + wl * n ≤ 251) (hi : i < 252)
    (ho : i < 1 + (wh + wl * k) ∨ 1 + (wh + wl * k) + wl ≤ i) : (doneB m (pbytes wh wl h l))[i]? = (doneB m (pbytes wh wl h (l.set k y)))[i]? := by
  obtain ⟨A, B, hA, e1, e2⟩ := pbytes_split wh wl h l k y (by omega)
  have hlen : (pbytes wh wl h l).length ≤ 251 := by
    rw [pbytes, length_pupto _ _ _ _ _ (Nat.le_refl _), hl]; exact hn
  rw [e1, e2]
  refine done_differ m A _ _ B (by rw [length_lows, length_lows]) (by rw [← e1]; exact hlen) i hi ?_
  rw [length_lows, hA]
  exact ho
end Go.Proofs.YtnhfkmfmmgaecaaDoor
