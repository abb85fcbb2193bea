/- CardTurns: true for every input. -/
import Derived.Test.YtfbafmgclfnigaaDoorCardHead
import Derived.Test.YtfbafmgclfnigaaDoorCardEq
namespace Go.Proofs.YtfbafmgclfnigaaDoor
open Go.RowKit
set_option linter.unusedSimpArgs false
def Card.tail (c : Card) : List UInt8 := lows c.id 4 ++ (lows c.parent 4 ++ (lows c.root 4 ++ (lows c.used 4 ++ (lows c.quota 4 ++ lows c.only.toNat 1))))
theorem bytes_mid (c : Card) : c.bytes = textB c.name.data.toList 24 ++ ((lows c.left 4 ++ lows c.right 4) ++ c.tail) := by
  simp [Card.bytes, Card.upto, Card.nums, Card.tail, List.flatMap_cons]
theorem mid_get {α : Type} (p m n s : List α) (hl : m.length = n.length) (k : Nat) (hk : k < p.length ∨ p.length + m.length ≤ k) : (p ++ (m ++ s))[k]? = (p ++ (n ++ s))[k]? := by
  rcases hk with h | h
  · rw [List.getElem?_append_left h, List.getElem?_append_left h]
  · rw [List.getElem?_append_right (by omega), List.getElem?_append_right (by omega), List.getElem?_append_right (by omega), List.getElem?_append_right (by omega), hl]
theorem done_get (m : UInt8) (L M : List UInt8) (hL : L.length = 54) (hM : M.length = 54) (i : Nat) (hi : i < 252) (h : ∀ k, i = k + 1 → k < 54 → L[k]? = M[k]?) : (doneB m L)[i]? = (doneB m M)[i]? := by
  rw [get_doneB m L (by omega) i hi, get_doneB m M (by omega) i hi]
  cases i with
  | zero => rfl
  | succ k =>
    rw [get_inside m L k (by omega) (by omega), get_inside m M k (by omega) (by omega), hL, hM]
    split
    · exact h k rfl (by omega)
    · rfl
/-- Another left, another right. -/
def Card.turn (c : Card) (l r : Nat) : Card := { c with left := l, right := r }
theorem turn_get (c : Card) (l r : Nat) (hn : c.name.size ≤ 24) (i : Nat) (hi : i < 252) (h : i < 26 ∨ 34 ≤ i) : (doneB 67 c.bytes)[i]? = (doneB 67 (c.turn l r).bytes)[i]? := by
  refine done_get 67 _ _ (c.length_bytes hn) ((c.turn l r).length_bytes hn) i hi (fun k hk hk2 => ?_)
  rw [bytes_mid, bytes_mid]
  refine mid_get _ _ _ _ (by simp [length_lows]) k ?_
  rw [length_textB _ _ (by simpa using hn)]
  simp [length_lows]
  omega
theorem turn_same (c : Card) (hc : c.Ok) (l r : Nat) (hl : l < 4294967296) (hr : r < 4294967296) (hn : c.name.size ≤ 24) : decide (doneB 67 c.bytes = doneB 67 (c.turn l r).bytes) = c.same (c.turn l r) := by
  rw [Bool.eq_iff_iff, same_iff, decide_eq_true_iff]
  constructor
  · intro h
    have h1 := done_inj 67 _ _ (by rw [c.length_bytes hn, (c.turn l r).length_bytes hn]) (by rw [c.length_bytes hn]; omega) h
    rw [bytes_mid, bytes_mid] at h1
    have h2 := (List.append_inj h1 (by rfl)).2
    have h3 := (List.append_inj h2 (by simp [length_lows])).1
    have h4 := List.append_inj h3 (by simp [length_lows])
    have e1 := lows_inj 4 _ _ hc.left hl h4.1
    have e2 := lows_inj 4 _ _ hc.right hr h4.2
    cases c
    simp only [Card.turn] at e1 e2 ⊢
    rw [← e1, ← e2]
  · intro h; rw [← h]
def Card.flip (c : Card) : Card := { c with only := !c.only }
theorem flip_upto (c : Card) : c.flip.upto 7 = c.upto 7 := rfl
theorem at54 (c : Card) (hn : c.name.size ≤ 24) : (doneB 67 c.bytes)[54]? = some (UInt8.ofNat c.only.toNat) := by
  have hl := c.length_upto 7 (by omega) hn
  rw [get_doneB 67 _ (by rw [c.length_bytes hn]; omega) 54 (by omega), get_inside 67 c.bytes 53 (by omega) (by rw [c.length_bytes hn]; omega), c.length_bytes hn, if_pos (by omega),
    Card.bytes, List.getElem?_append_right (by omega), hl]
  rfl
theorem flip_get (c : Card) (hn : c.name.size ≤ 24) (i : Nat) (hi : i < 252) : decide ((doneB 67 c.bytes)[i]? = (doneB 67 c.flip.bytes)[i]?) = !decide (i = 54) := by
  by_cases h : i = 54
  · subst h
    have e1 := at54 c hn
    have e2 := at54 c.flip hn
    rw [Bool.eq_iff_iff]
    simp only [decide_eq_true_iff, e1, e2, decide_true, Bool.not_true, Bool.false_eq_true, iff_false]
    cases c
    rename_i o
    cases o <;> (simp only [Card.flip]; decide)
  · have := done_get 67 c.bytes c.flip.bytes (c.length_bytes hn) (c.flip.length_bytes hn) i hi (fun k hk hk2 => by
      simp only [Card.bytes, flip_upto]
      have : k < (c.upto 7).length := by rw [c.length_upto 7 (by omega) hn]; omega
      rw [List.getElem?_append_left this, List.getElem?_append_left this])
    simp [this, h]
/-- What Put answers. -/
def Card.putB (c : Card) : List UInt8 := if c.may then doneB 67 c.bytes else List.replicate 256 0
def Card.putE (c : Card) : Int := if c.may then 0 else 5
theorem length_putB (c : Card) : c.putB.length = 256 := by
  unfold Card.putB
  split
  · rename_i h; exact length_doneB _ _ (by rw [c.length_bytes (may_name h)]; omega)
  · exact List.length_replicate
theorem put_all (c : Card) (hc : c.Ok) (w : World) : Calls Tryd.prog 11 #[.agg c.cells] w fun e w' => e = .returned (.tuple #[.agg (blk c.putB), .int .i64 c.putE]) ∧ Below w.heap.size w w' := by
  unfold Card.putB Card.putE
  cases hm : c.may with
  | true => simp only [if_true]; exact put_any c hc hm w
  | false => simp only [Bool.false_eq_true, if_false, ← zeros_blk]; exact put_no c hc hm w
end Go.Proofs.YtfbafmgclfnigaaDoor
