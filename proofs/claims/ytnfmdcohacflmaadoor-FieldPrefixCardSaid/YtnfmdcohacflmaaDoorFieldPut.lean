/- The field layer's laws: items, and what put does; great. -/
import Derived.Test.YtnfmdcohacflmaaDoorWr
import Derived.Test.YtnfmdcohacflmaaDoorRefT
import Derived.Deep.MidRow
namespace Go.Proofs.YtnfmdcohacflmaaDoor
open Go.RowKit
set_option linter.unusedSimpArgs false
set_option linter.unusedVariables false
set_option maxRecDepth 100000
/-- An item: a number of so many bytes, or a text of a room. -/
structure ItemL where
  is : Bool
  n : Nat
  s : ByteArray
  size : Int
def itemV (x : ItemL) : Array Value := #[.bool x.is, .int .u64 (x.n : Int), .string x.s, .int .i64 x.size]
structure ItemsIn (w : World) (A : Option Addr) (n : Nat) (l : List ItemL) : Prop where
  len : l.length = n
  at_ : n = 0 ∨ ∃ b off, A = some ⟨b, off, none⟩ ∧ b < w.heap.size ∧ ∀ i, (hi : i < l.length) → w.rangeAt b (off + i * 4) (itemV l[i]).toList
  ok : ∀ x ∈ l, x.n < 18446744073709551616
theorem item_cell {w : World} {b off : Nat} {cs : List Value} (h : w.rangeAt b off cs) (j : Nat) (v : Value) (hv : cs[j]? = some v) : w.cell? ⟨b, off + j, none⟩ = some v := h j v hv
theorem ItemsIn.below {w w' : World} {A : Option Addr} {n : Nat} {l : List ItemL} (h : ItemsIn w A n l) (hb : Below w.heap.size w w') : ItemsIn w' A n l := by
  refine ⟨h.len, ?_, h.ok⟩
  rcases h.at_ with h0 | ⟨b, off, rfl, h1, h2⟩
  · exact .inl h0
  · refine .inr ⟨b, off, rfl, Nat.lt_of_lt_of_le h1 hb.size, fun i hi j v hv => ?_⟩
    exact (hb.cell h1).trans (h2 i hi j v hv)
theorem ItemsIn.cells {w : World} {A : Option Addr} {n : Nat} {l : List ItemL} (h : ItemsIn w A n l) (i : Nat) (hi : i < l.length) : ∃ b off, A = some ⟨b, off, none⟩ ∧ b < w.heap.size ∧ w.rangeAt b (off + i * 4) (itemV l[i]).toList := by
  rcases h.at_ with h0 | ⟨b, off, e, h1, h2⟩
  · have := h.len; omega
  · exact ⟨b, off, e, h1, h2 i hi⟩
def itemOk (x : ItemL) : Bool := if x.is then decide (0 ≤ x.size ∧ x.size ≤ 200 ∧ (x.s.size : Int) ≤ x.size) else widthB x.size
def itemB (x : ItemL) : List UInt8 := if itemOk x then (if x.is then textB x.s.data.toList x.size.toNat else lows x.n x.size.toNat) else []
theorem length_itemB (x : ItemL) : (itemB x).length ≤ 201 := by
  unfold itemB
  split
  · rename_i h
    unfold itemOk at h
    split
    · rename_i hi
      rw [if_pos hi, decide_eq_true_eq] at h
      have : x.s.data.toList.length = x.s.size := Array.length_toList
      rw [length_textB _ _ (by omega)]
      omega
    · rename_i hi
      rw [if_neg hi] at h
      rw [length_lows]
      simp only [widthB, Bool.or_eq_true, beq_iff_eq] at h
      omega
  · simp
theorem Held.alloc2w {w0 W : World} {l : List Thing} {x : Thing} (R : Held w0 W (x :: l)) (cs : Array Value) (T : TypeId) : Held w0 (W.alloc (.cells cs T)) (x :: rowT W.heap.size cs T :: l) := (R.alloc cs T).perm (.swap _ _ _)
theorem Held.drop2nd {w0 W : World} {l : List Thing} {x y : Thing} (R : Held w0 W (x :: y :: l)) : Held w0 W (x :: l) := (R.perm (.swap y x l)).drop 1
theorem refwidth_all (n : Int) (w : World) : Calls Tryd.prog 18 #[.int .i64 n] w fun e w' => e = .returned (.bool (widthB n)) ∧ w = w' := by
  by_cases hn : n = 1 ∨ n = 2 ∨ n = 4 ∨ n = 8
  · rcases hn with rfl | rfl | rfl | rfl
    all_goals
      go_enter Tryd.func18, Tryd.ntmps18
      go_wp2
      go_ret
      exact ⟨rfl, rfl⟩
  · have h1 : n ≠ 1 := by omega
    have h2 : n ≠ 2 := by omega
    have h4 : n ≠ 4 := by omega
    have h8 : n ≠ 8 := by omega
    clear hn
    go_enter Tryd.func18, Tryd.ntmps18
    go_wp2
    go_ret
    exact ⟨rfl, rfl⟩
theorem reftext_no (s : ByteArray) (m : Int) (hn : m < 0 ∨ 200 < m ∨ m < (s.size : Int)) (w : World) :
    Calls Tryd.prog 17 #[.string s, .int .i64 m] w fun e w' => e = .returned (.tuple #[.string ⟨#[]⟩, .bool false]) ∧ Below w.heap.size w w' := by
  have HM := Lib.hid hn
  clear hn
  go_enter Tryd.func17, Tryd.ntmps17
  go_upto_region 1 with (fail)
  refine wk_plain_since ?_
  repeat (first
    | (refine wk_move _ (by first | exact wanted_none rfl | exact wanted_yes _ _ rfl rfl) rfl ?_; simp only [Act.put, Act.eval, Array.getD_eq_getD_getElem?, List.getElem?_toArray, List.getElem?_cons_succ, List.getElem?_cons_zero, Option.getD_some, List.setIfInBounds_toArray, List.set_cons_zero, List.set_cons_succ])
    | (refine wk_assign _ (by first | exact wanted_none rfl | exact wanted_yes _ _ rfl rfl) rfl ?_; simp only [Act.put, Act.eval, Array.getD_eq_getD_getElem?, List.getElem?_toArray, List.getElem?_cons_succ, List.getElem?_cons_zero, Option.getD_some, List.setIfInBounds_toArray, List.set_cons_zero, List.set_cons_succ])
    | (refine wk_pickt _ _ _ _ (by first | exact wanted_none rfl | exact wanted_yes _ _ rfl rfl) rfl rfl rfl ?_; simp only [Act.put, Act.eval, Array.getD_eq_getD_getElem?, List.getElem?_toArray, List.getElem?_cons_succ, List.getElem?_cons_zero, Option.getD_some, List.setIfInBounds_toArray, List.set_cons_zero, List.set_cons_succ])
    | (refine wk_pickf _ _ _ _ (by first | exact wanted_none rfl | exact wanted_yes _ _ rfl rfl) rfl rfl rfl ?_; simp only [Act.put, Act.eval, Array.getD_eq_getD_getElem?, List.getElem?_toArray, List.getElem?_cons_succ, List.getElem?_cons_zero, Option.getD_some, List.setIfInBounds_toArray, List.set_cons_zero, List.set_cons_succ])
    | (refine wk_skip (wanted_not _ true false rfl rfl rfl) ?_; simp only [Act.put, List.setIfInBounds_toArray, List.set_cons_zero, List.set_cons_succ])
    | (refine wk_skip (wanted_not _ false true rfl rfl rfl) ?_; simp only [Act.put, List.setIfInBounds_toArray, List.set_cons_zero, List.set_cons_succ])
    | (refine wk_skip (wanted_undef _ _ rfl rfl) ?_; simp only [Act.put, List.setIfInBounds_toArray, List.set_cons_zero, List.set_cons_succ])
    | (refine wk_not true _ _ (by first | exact wanted_none rfl | exact wanted_yes _ _ rfl rfl) rfl rfl ?_; simp only [Act.put, List.setIfInBounds_toArray, List.set_cons_zero, List.set_cons_succ])
    | (refine wk_not false _ _ (by first | exact wanted_none rfl | exact wanted_yes _ _ rfl rfl) rfl rfl ?_; simp only [Act.put, List.setIfInBounds_toArray, List.set_cons_zero, List.set_cons_succ]))
  by_cases h0 : m < 0
  · skip
    refine wk_cmp_int .lss (true) _ _ _ _ _ _ _ (by kernel_rfl) rfl rfl rfl (by simp [cmpInt, h0]) ?_
    simp only [Act.put, List.setIfInBounds_toArray, List.set_cons_zero, List.set_cons_succ]
    repeat (first
      | (refine wk_move _ (by first | exact wanted_none rfl | exact wanted_yes _ _ rfl rfl) rfl ?_; simp only [Act.put, Act.eval, Array.getD_eq_getD_getElem?, List.getElem?_toArray, List.getElem?_cons_succ, List.getElem?_cons_zero, Option.getD_some, List.setIfInBounds_toArray, List.set_cons_zero, List.set_cons_succ])
      | (refine wk_assign _ (by first | exact wanted_none rfl | exact wanted_yes _ _ rfl rfl) rfl ?_; simp only [Act.put, Act.eval, Array.getD_eq_getD_getElem?, List.getElem?_toArray, List.getElem?_cons_succ, List.getElem?_cons_zero, Option.getD_some, List.setIfInBounds_toArray, List.set_cons_zero, List.set_cons_succ])
      | (refine wk_pickt _ _ _ _ (by first | exact wanted_none rfl | exact wanted_yes _ _ rfl rfl) rfl rfl rfl ?_; simp only [Act.put, Act.eval, Array.getD_eq_getD_getElem?, List.getElem?_toArray, List.getElem?_cons_succ, List.getElem?_cons_zero, Option.getD_some, List.setIfInBounds_toArray, List.set_cons_zero, List.set_cons_succ])
      | (refine wk_pickf _ _ _ _ (by first | exact wanted_none rfl | exact wanted_yes _ _ rfl rfl) rfl rfl rfl ?_; simp only [Act.put, Act.eval, Array.getD_eq_getD_getElem?, List.getElem?_toArray, List.getElem?_cons_succ, List.getElem?_cons_zero, Option.getD_some, List.setIfInBounds_toArray, List.set_cons_zero, List.set_cons_succ])
      | (refine wk_skip (wanted_not _ true false rfl rfl rfl) ?_; simp only [Act.put, List.setIfInBounds_toArray, List.set_cons_zero, List.set_cons_succ])
      | (refine wk_skip (wanted_not _ false true rfl rfl rfl) ?_; simp only [Act.put, List.setIfInBounds_toArray, List.set_cons_zero, List.set_cons_succ])
      | (refine wk_skip (wanted_undef _ _ rfl rfl) ?_; simp only [Act.put, List.setIfInBounds_toArray, List.set_cons_zero, List.set_cons_succ])
      | (refine wk_not true _ _ (by first | exact wanted_none rfl | exact wanted_yes _ _ rfl rfl) rfl rfl ?_; simp only [Act.put, List.setIfInBounds_toArray, List.set_cons_zero, List.set_cons_succ])
      | (refine wk_not false _ _ (by first | exact wanted_none rfl | exact wanted_yes _ _ rfl rfl) rfl rfl ?_; simp only [Act.put, List.setIfInBounds_toArray, List.set_cons_zero, List.set_cons_succ]))
    refine wk_nil ?_
    intro w' hC
    clear HM h0
    have HB := Lib.hid hC
    clear hC
    go_wp2_with fail
    go_ret2
    exact ⟨rfl, HB.out⟩
  · skip
    refine wk_cmp_int .lss (false) _ _ _ _ _ _ _ (by kernel_rfl) rfl rfl rfl (by simp [cmpInt, h0]) ?_
    simp only [Act.put, List.setIfInBounds_toArray, List.set_cons_zero, List.set_cons_succ]
    repeat (first
      | (refine wk_move _ (by first | exact wanted_none rfl | exact wanted_yes _ _ rfl rfl) rfl ?_; simp only [Act.put, Act.eval, Array.getD_eq_getD_getElem?, List.getElem?_toArray, List.getElem?_cons_succ, List.getElem?_cons_zero, Option.getD_some, List.setIfInBounds_toArray, List.set_cons_zero, List.set_cons_succ])
      | (refine wk_assign _ (by first | exact wanted_none rfl | exact wanted_yes _ _ rfl rfl) rfl ?_; simp only [Act.put, Act.eval, Array.getD_eq_getD_getElem?, List.getElem?_toArray, List.getElem?_cons_succ, List.getElem?_cons_zero, Option.getD_some, List.setIfInBounds_toArray, List.set_cons_zero, List.set_cons_succ])
      | (refine wk_pickt _ _ _ _ (by first | exact wanted_none rfl | exact wanted_yes _ _ rfl rfl) rfl rfl rfl ?_; simp only [Act.put, Act.eval, Array.getD_eq_getD_getElem?, List.getElem?_toArray, List.getElem?_cons_succ, List.getElem?_cons_zero, Option.getD_some, List.setIfInBounds_toArray, List.set_cons_zero, List.set_cons_succ])
      | (refine wk_pickf _ _ _ _ (by first | exact wanted_none rfl | exact wanted_yes _ _ rfl rfl) rfl rfl rfl ?_; simp only [Act.put, Act.eval, Array.getD_eq_getD_getElem?, List.getElem?_toArray, List.getElem?_cons_succ, List.getElem?_cons_zero, Option.getD_some, List.setIfInBounds_toArray, List.set_cons_zero, List.set_cons_succ])
      | (refine wk_skip (wanted_not _ true false rfl rfl rfl) ?_; simp only [Act.put, List.setIfInBounds_toArray, List.set_cons_zero, List.set_cons_succ])
      | (refine wk_skip (wanted_not _ false true rfl rfl rfl) ?_; simp only [Act.put, List.setIfInBounds_toArray, List.set_cons_zero, List.set_cons_succ])
      | (refine wk_skip (wanted_undef _ _ rfl rfl) ?_; simp only [Act.put, List.setIfInBounds_toArray, List.set_cons_zero, List.set_cons_succ])
      | (refine wk_not true _ _ (by first | exact wanted_none rfl | exact wanted_yes _ _ rfl rfl) rfl rfl ?_; simp only [Act.put, List.setIfInBounds_toArray, List.set_cons_zero, List.set_cons_succ])
      | (refine wk_not false _ _ (by first | exact wanted_none rfl | exact wanted_yes _ _ rfl rfl) rfl rfl ?_; simp only [Act.put, List.setIfInBounds_toArray, List.set_cons_zero, List.set_cons_succ]))
    by_cases h1 : 200 < m
    · skip
      refine wk_cmp_int .gtr (true) _ _ _ _ _ _ _ (by kernel_rfl) rfl rfl rfl (by simp [cmpInt, h1]) ?_
      simp only [Act.put, List.setIfInBounds_toArray, List.set_cons_zero, List.set_cons_succ]
      repeat (first
        | (refine wk_move _ (by first | exact wanted_none rfl | exact wanted_yes _ _ rfl rfl) rfl ?_; simp only [Act.put, Act.eval, Array.getD_eq_getD_getElem?, List.getElem?_toArray, List.getElem?_cons_succ, List.getElem?_cons_zero, Option.getD_some, List.setIfInBounds_toArray, List.set_cons_zero, List.set_cons_succ])
        | (refine wk_assign _ (by first | exact wanted_none rfl | exact wanted_yes _ _ rfl rfl) rfl ?_; simp only [Act.put, Act.eval, Array.getD_eq_getD_getElem?, List.getElem?_toArray, List.getElem?_cons_succ, List.getElem?_cons_zero, Option.getD_some, List.setIfInBounds_toArray, List.set_cons_zero, List.set_cons_succ])
        | (refine wk_pickt _ _ _ _ (by first | exact wanted_none rfl | exact wanted_yes _ _ rfl rfl) rfl rfl rfl ?_; simp only [Act.put, Act.eval, Array.getD_eq_getD_getElem?, List.getElem?_toArray, List.getElem?_cons_succ, List.getElem?_cons_zero, Option.getD_some, List.setIfInBounds_toArray, List.set_cons_zero, List.set_cons_succ])
        | (refine wk_pickf _ _ _ _ (by first | exact wanted_none rfl | exact wanted_yes _ _ rfl rfl) rfl rfl rfl ?_; simp only [Act.put, Act.eval, Array.getD_eq_getD_getElem?, List.getElem?_toArray, List.getElem?_cons_succ, List.getElem?_cons_zero, Option.getD_some, List.setIfInBounds_toArray, List.set_cons_zero, List.set_cons_succ])
        | (refine wk_skip (wanted_not _ true false rfl rfl rfl) ?_; simp only [Act.put, List.setIfInBounds_toArray, List.set_cons_zero, List.set_cons_succ])
        | (refine wk_skip (wanted_not _ false true rfl rfl rfl) ?_; simp only [Act.put, List.setIfInBounds_toArray, List.set_cons_zero, List.set_cons_succ])
        | (refine wk_skip (wanted_undef _ _ rfl rfl) ?_; simp only [Act.put, List.setIfInBounds_toArray, List.set_cons_zero, List.set_cons_succ])
        | (refine wk_not true _ _ (by first | exact wanted_none rfl | exact wanted_yes _ _ rfl rfl) rfl rfl ?_; simp only [Act.put, List.setIfInBounds_toArray, List.set_cons_zero, List.set_cons_succ])
        | (refine wk_not false _ _ (by first | exact wanted_none rfl | exact wanted_yes _ _ rfl rfl) rfl rfl ?_; simp only [Act.put, List.setIfInBounds_toArray, List.set_cons_zero, List.set_cons_succ]))
      refine wk_nil ?_
      intro w' hC
      clear HM h0 h1
      have HB := Lib.hid hC
      clear hC
      go_wp2_with fail
      go_ret2
      exact ⟨rfl, HB.out⟩
    · have h3 : m < (s.size : Int) := by have := HM.out; omega
      refine wk_cmp_int .gtr (false) _ _ _ _ _ _ _ (by kernel_rfl) rfl rfl rfl (by simp [cmpInt, h1]) ?_
      simp only [Act.put, List.setIfInBounds_toArray, List.set_cons_zero, List.set_cons_succ]
      repeat (first
        | (refine wk_move _ (by first | exact wanted_none rfl | exact wanted_yes _ _ rfl rfl) rfl ?_; simp only [Act.put, Act.eval, Array.getD_eq_getD_getElem?, List.getElem?_toArray, List.getElem?_cons_succ, List.getElem?_cons_zero, Option.getD_some, List.setIfInBounds_toArray, List.set_cons_zero, List.set_cons_succ])
        | (refine wk_assign _ (by first | exact wanted_none rfl | exact wanted_yes _ _ rfl rfl) rfl ?_; simp only [Act.put, Act.eval, Array.getD_eq_getD_getElem?, List.getElem?_toArray, List.getElem?_cons_succ, List.getElem?_cons_zero, Option.getD_some, List.setIfInBounds_toArray, List.set_cons_zero, List.set_cons_succ])
        | (refine wk_pickt _ _ _ _ (by first | exact wanted_none rfl | exact wanted_yes _ _ rfl rfl) rfl rfl rfl ?_; simp only [Act.put, Act.eval, Array.getD_eq_getD_getElem?, List.getElem?_toArray, List.getElem?_cons_succ, List.getElem?_cons_zero, Option.getD_some, List.setIfInBounds_toArray, List.set_cons_zero, List.set_cons_succ])
        | (refine wk_pickf _ _ _ _ (by first | exact wanted_none rfl | exact wanted_yes _ _ rfl rfl) rfl rfl rfl ?_; simp only [Act.put, Act.eval, Array.getD_eq_getD_getElem?, List.getElem?_toArray, List.getElem?_cons_succ, List.getElem?_cons_zero, Option.getD_some, List.setIfInBounds_toArray, List.set_cons_zero, List.set_cons_succ])
        | (refine wk_skip (wanted_not _ true false rfl rfl rfl) ?_; simp only [Act.put, List.setIfInBounds_toArray, List.set_cons_zero, List.set_cons_succ])
        | (refine wk_skip (wanted_not _ false true rfl rfl rfl) ?_; simp only [Act.put, List.setIfInBounds_toArray, List.set_cons_zero, List.set_cons_succ])
        | (refine wk_skip (wanted_undef _ _ rfl rfl) ?_; simp only [Act.put, List.setIfInBounds_toArray, List.set_cons_zero, List.set_cons_succ])
        | (refine wk_not true _ _ (by first | exact wanted_none rfl | exact wanted_yes _ _ rfl rfl) rfl rfl ?_; simp only [Act.put, List.setIfInBounds_toArray, List.set_cons_zero, List.set_cons_succ])
        | (refine wk_not false _ _ (by first | exact wanted_none rfl | exact wanted_yes _ _ rfl rfl) rfl rfl ?_; simp only [Act.put, List.setIfInBounds_toArray, List.set_cons_zero, List.set_cons_succ]))
      refine wk_len_str 9 _ s Tryd.underlying9 (by first | exact wanted_none rfl | exact wanted_yes _ _ rfl rfl) rfl rfl ?_
      simp only [Act.put, List.setIfInBounds_toArray, List.set_cons_zero, List.set_cons_succ]
      repeat (first
        | (refine wk_move _ (by first | exact wanted_none rfl | exact wanted_yes _ _ rfl rfl) rfl ?_; simp only [Act.put, Act.eval, Array.getD_eq_getD_getElem?, List.getElem?_toArray, List.getElem?_cons_succ, List.getElem?_cons_zero, Option.getD_some, List.setIfInBounds_toArray, List.set_cons_zero, List.set_cons_succ])
        | (refine wk_assign _ (by first | exact wanted_none rfl | exact wanted_yes _ _ rfl rfl) rfl ?_; simp only [Act.put, Act.eval, Array.getD_eq_getD_getElem?, List.getElem?_toArray, List.getElem?_cons_succ, List.getElem?_cons_zero, Option.getD_some, List.setIfInBounds_toArray, List.set_cons_zero, List.set_cons_succ])
        | (refine wk_pickt _ _ _ _ (by first | exact wanted_none rfl | exact wanted_yes _ _ rfl rfl) rfl rfl rfl ?_; simp only [Act.put, Act.eval, Array.getD_eq_getD_getElem?, List.getElem?_toArray, List.getElem?_cons_succ, List.getElem?_cons_zero, Option.getD_some, List.setIfInBounds_toArray, List.set_cons_zero, List.set_cons_succ])
        | (refine wk_pickf _ _ _ _ (by first | exact wanted_none rfl | exact wanted_yes _ _ rfl rfl) rfl rfl rfl ?_; simp only [Act.put, Act.eval, Array.getD_eq_getD_getElem?, List.getElem?_toArray, List.getElem?_cons_succ, List.getElem?_cons_zero, Option.getD_some, List.setIfInBounds_toArray, List.set_cons_zero, List.set_cons_succ])
        | (refine wk_skip (wanted_not _ true false rfl rfl rfl) ?_; simp only [Act.put, List.setIfInBounds_toArray, List.set_cons_zero, List.set_cons_succ])
        | (refine wk_skip (wanted_not _ false true rfl rfl rfl) ?_; simp only [Act.put, List.setIfInBounds_toArray, List.set_cons_zero, List.set_cons_succ])
        | (refine wk_skip (wanted_undef _ _ rfl rfl) ?_; simp only [Act.put, List.setIfInBounds_toArray, List.set_cons_zero, List.set_cons_succ])
        | (refine wk_not true _ _ (by first | exact wanted_none rfl | exact wanted_yes _ _ rfl rfl) rfl rfl ?_; simp only [Act.put, List.setIfInBounds_toArray, List.set_cons_zero, List.set_cons_succ])
        | (refine wk_not false _ _ (by first | exact wanted_none rfl | exact wanted_yes _ _ rfl rfl) rfl rfl ?_; simp only [Act.put, List.setIfInBounds_toArray, List.set_cons_zero, List.set_cons_succ]))
      refine wk_cmp_int .gtr (true) _ _ _ _ _ _ _ (by kernel_rfl) rfl rfl rfl (by simp [cmpInt, h3]) ?_
      simp only [Act.put, List.setIfInBounds_toArray, List.set_cons_zero, List.set_cons_succ]
      repeat (first
        | (refine wk_move _ (by first | exact wanted_none rfl | exact wanted_yes _ _ rfl rfl) rfl ?_; simp only [Act.put, Act.eval, Array.getD_eq_getD_getElem?, List.getElem?_toArray, List.getElem?_cons_succ, List.getElem?_cons_zero, Option.getD_some, List.setIfInBounds_toArray, List.set_cons_zero, List.set_cons_succ])
        | (refine wk_assign _ (by first | exact wanted_none rfl | exact wanted_yes _ _ rfl rfl) rfl ?_; simp only [Act.put, Act.eval, Array.getD_eq_getD_getElem?, List.getElem?_toArray, List.getElem?_cons_succ, List.getElem?_cons_zero, Option.getD_some, List.setIfInBounds_toArray, List.set_cons_zero, List.set_cons_succ])
        | (refine wk_pickt _ _ _ _ (by first | exact wanted_none rfl | exact wanted_yes _ _ rfl rfl) rfl rfl rfl ?_; simp only [Act.put, Act.eval, Array.getD_eq_getD_getElem?, List.getElem?_toArray, List.getElem?_cons_succ, List.getElem?_cons_zero, Option.getD_some, List.setIfInBounds_toArray, List.set_cons_zero, List.set_cons_succ])
        | (refine wk_pickf _ _ _ _ (by first | exact wanted_none rfl | exact wanted_yes _ _ rfl rfl) rfl rfl rfl ?_; simp only [Act.put, Act.eval, Array.getD_eq_getD_getElem?, List.getElem?_toArray, List.getElem?_cons_succ, List.getElem?_cons_zero, Option.getD_some, List.setIfInBounds_toArray, List.set_cons_zero, List.set_cons_succ])
        | (refine wk_skip (wanted_not _ true false rfl rfl rfl) ?_; simp only [Act.put, List.setIfInBounds_toArray, List.set_cons_zero, List.set_cons_succ])
        | (refine wk_skip (wanted_not _ false true rfl rfl rfl) ?_; simp only [Act.put, List.setIfInBounds_toArray, List.set_cons_zero, List.set_cons_succ])
        | (refine wk_skip (wanted_undef _ _ rfl rfl) ?_; simp only [Act.put, List.setIfInBounds_toArray, List.set_cons_zero, List.set_cons_succ])
        | (refine wk_not true _ _ (by first | exact wanted_none rfl | exact wanted_yes _ _ rfl rfl) rfl rfl ?_; simp only [Act.put, List.setIfInBounds_toArray, List.set_cons_zero, List.set_cons_succ])
        | (refine wk_not false _ _ (by first | exact wanted_none rfl | exact wanted_yes _ _ rfl rfl) rfl rfl ?_; simp only [Act.put, List.setIfInBounds_toArray, List.set_cons_zero, List.set_cons_succ]))
      refine wk_nil ?_
      intro w' hC
      clear HM h0 h1 h3
      have HB := Lib.hid hC
      clear hC
      go_wp2_with fail
      go_ret2
      exact ⟨rfl, HB.out⟩
section
variable {w0 W : World} {g : Nat} {bad : Bool} {L : List UInt8} {l : List Thing}
theorem wrnum_all (R : Held w0 W (wrT g bad L :: l)) (x : Nat) (n : Int) (hL : L.length ≤ 90000) (hx : x < 2 ^ 64) :
    Calls Tryd.prog 10 #[.pointer (some ⟨g, 0, none⟩), .int .u64 (x : Int), .int .i64 n] W fun e w' => e = .returned (.tuple #[]) ∧ Held w0 w' (wrT g (bad || !widthB n) (L ++ (if widthB n then lows x n.toNat else [])) :: l) := by
  by_cases hn : widthB n = true
  · rw [hn]
    have h4 : n = 1 ∨ n = 2 ∨ n = 4 ∨ n = 8 := by simpa [widthB, or_assoc] using hn
    have hq : n = ((n.toNat : Nat) : Int) := by omega
    rw [if_pos rfl]
    rw [show (bad || !true) = bad by simp]
    have := wrnum_is R x n.toNat (by omega) (by omega) hx
    rwa [← hq] at this
  · have hn' : widthB n = false := by simpa using hn
    rw [hn', if_neg (by simp), List.append_nil, show (bad || !false) = true by simp]
    exact wrnum_bad R x n hn'
/-- May a text of a room be? -/
def roomB (s : ByteArray) (m : Int) : Bool := decide (0 ≤ m ∧ m ≤ 200 ∧ (s.size : Int) ≤ m)
theorem wrtext_all (R : Held w0 W (wrT g bad L :: l)) (s : ByteArray) (m : Int) (hL : L.length ≤ 90000) :
    Calls Tryd.prog 11 #[.pointer (some ⟨g, 0, none⟩), .string s, .int .i64 m] W fun e w' => e = .returned (.tuple #[]) ∧ Held w0 w' (wrT g (bad || !roomB s m) (L ++ (if roomB s m then textB s.data.toList m.toNat else [])) :: l) := by
  by_cases hn : roomB s m = true
  · rw [hn, if_pos rfl, show (bad || !true) = bad by simp]
    have h4 : 0 ≤ m ∧ m ≤ 200 ∧ (s.size : Int) ≤ m := by simpa [roomB] using hn
    have hq : m = ((m.toNat : Nat) : Int) := by omega
    have := wrtext_is R s m.toNat (by omega) (by omega) hL
    rwa [← hq] at this
  · have hn' : roomB s m = false := by simpa using hn
    rw [hn', if_neg (by simp), List.append_nil, show (bad || !false) = true by simp]
    exact wrtext_bad R s m (by
      have h4 : ¬ (0 ≤ m ∧ m ≤ 200 ∧ (s.size : Int) ≤ m) := by simpa [roomB] using hn
      omega)
theorem reftext_all (s : ByteArray) (m : Int) (w : World) :
    Calls Tryd.prog 17 #[.string s, .int .i64 m] w fun e w' => e = .returned (.tuple #[.string ⟨(if roomB s m then textB s.data.toList m.toNat else []).toArray⟩, .bool (roomB s m)]) ∧ Below w.heap.size w w' := by
  by_cases hn : roomB s m = true
  · rw [hn, if_pos rfl]
    have h4 : 0 ≤ m ∧ m ≤ 200 ∧ (s.size : Int) ≤ m := by simpa [roomB] using hn
    have hq : m = ((m.toNat : Nat) : Int) := by omega
    have := reftext_any s m.toNat (by omega) (by omega) w
    rwa [← hq] at this
  · have hn' : roomB s m = false := by simpa using hn
    rw [hn', if_neg (by simp)]
    exact reftext_no s m (by
      have h4 : ¬ (0 ≤ m ∧ m ≤ 200 ∧ (s.size : Int) ≤ m) := by simpa [roomB] using hn
      omega) w
theorem refnum_all (x : Nat) (n : Int) (hx : x < 2 ^ 64) (hn : widthB n = true) (w : World) :
    Calls Tryd.prog 19 #[.int .u64 (x : Int), .int .i64 n] w fun e w' => e = .returned (.string ⟨(lows x n.toNat).toArray⟩) ∧ Below w.heap.size w w' := by
  have h4 : n = 1 ∨ n = 2 ∨ n = 4 ∨ n = 8 := by simpa [widthB, or_assoc] using hn
  have hq : n = ((n.toNat : Nat) : Int) := by omega
  have := refnum_any n.toNat (by omega) x (by omega) w
  rw [← hq] at this
  exact this
set_option maxHeartbeats 1000000 in
theorem put_is (R : Held w0 W (wrT g bad L :: l)) (x : ItemL) (hx : x.n < 18446744073709551616) (hL : L.length ≤ 90000) :
    Calls Tryd.prog 8 #[.pointer (some ⟨g, 0, none⟩), .agg (itemV x)] W fun e w' => e = .returned (.tuple #[.string ⟨(itemB x).toArray⟩, .bool (itemOk x)]) ∧ Held w0 w' (wrT g (bad || !itemOk x) (L ++ itemB x) :: l) := by
  have hR := R.alloc2w (itemV x) 31
  obtain ⟨W1, hW⟩ : ∃ W1, W1 = W.alloc (.cells (itemV x) 31) := ⟨_, rfl⟩
  obtain ⟨gx, hg⟩ : ∃ gx, gx = W.heap.size := ⟨_, rfl⟩
  rw [← hW, ← hg] at hR
  have RR := Lib.hid hR
  have HW := Lib.hid hW
  have HG := Lib.hid hg
  have HX : Hid (x.n < 2 ^ 64) := Lib.hid (by simpa using hx)
  have HL := Lib.hid hL
  clear hR hW hg hx hL R
  obtain ⟨is, n, s, m⟩ := x
  obtain ⟨ok, hok⟩ : ∃ ok, ok = itemOk ⟨is, n, s, m⟩ := ⟨_, rfl⟩
  obtain ⟨B, hB⟩ : ∃ B, B = itemB ⟨is, n, s, m⟩ := ⟨_, rfl⟩
  obtain ⟨b2, hb2⟩ : ∃ b2, b2 = (bad || !ok) := ⟨_, rfl⟩
  obtain ⟨L2, hL2⟩ : ∃ L2, L2 = L ++ B := ⟨_, rfl⟩
  rw [← hok, ← hB, ← hb2, ← hL2]
  cases is with
  | true =>
    have e1 : ok = roomB s m := hok
    have e2 : B = if roomB s m then textB s.data.toList m.toNat else [] := by rw [hB]; unfold itemB; rw [← hok, e1]; rfl
    have HWT : Hid (∀ w l, Held w0 w (wrT g bad L :: l) → Calls Tryd.prog 11 #[.pointer (some ⟨g, 0, none⟩), .string s, .int .i64 m] w fun e w' => e = .returned (.tuple #[]) ∧ Held w0 w' (wrT g b2 L2 :: l)) := Lib.hid (fun w l R => by rw [hb2, hL2, e2, e1]; exact wrtext_all R s m HL.out)
    have HRT : Hid (∀ w, Calls Tryd.prog 17 #[.string s, .int .i64 m] w fun e w' => e = .returned (.tuple #[.string ⟨B.toArray⟩, .bool ok]) ∧ Below w.heap.size w w') := Lib.hid (fun w => by rw [e2, e1]; exact reftext_all s m w)
    clear e1 e2 hok hB hb2 hL2
    go_enter Tryd.func8, Tryd.ntmps8
    go_upto_region 1 with (fail)
    have c0 := RR.out.cell 1 0 rfl (show (itemV ⟨true, n, s, m⟩)[0]? = some (.bool true) from rfl)
    have c2 := RR.out.cell 1 2 rfl (show (itemV ⟨true, n, s, m⟩)[2]? = some (.string s) from rfl)
    have c3 := RR.out.cell 1 3 rfl (show (itemV ⟨true, n, s, m⟩)[3]? = some (.int .i64 m) from rfl)
    rw [← HW.out, ← HG.out]
    go_wp2_with fail
    refine (HWT.out _ _ RR.out).mono ?_
    rintro e w2 ⟨rfl, hR⟩
    have R2 := Lib.hid hR
    clear hR RR c0 c2 c3
    have c2 := R2.out.cell 1 2 rfl (show (itemV ⟨true, n, s, m⟩)[2]? = some (.string s) from rfl)
    have c3 := R2.out.cell 1 3 rfl (show (itemV ⟨true, n, s, m⟩)[3]? = some (.int .i64 m) from rfl)
    go_wp2_with fail
    refine (HRT.out _).mono ?_
    rintro e w3 ⟨rfl, hb⟩
    have R3 := Lib.hid (R2.out.call hb).drop2nd
    clear hb R2 c2 c3
    go_wp2_with fail
    go_ret2
    exact ⟨rfl, R3.out⟩
  | false =>
    have e1 : ok = widthB m := hok
    have e2 : B = if widthB m then lows n m.toNat else [] := by rw [hB]; unfold itemB; rw [← hok, e1]; rfl
    have HWN : Hid (∀ w l, Held w0 w (wrT g bad L :: l) → Calls Tryd.prog 10 #[.pointer (some ⟨g, 0, none⟩), .int .u64 (n : Int), .int .i64 m] w fun e w' => e = .returned (.tuple #[]) ∧ Held w0 w' (wrT g b2 L2 :: l)) := Lib.hid (fun w l R => by rw [hb2, hL2, e2, e1]; exact wrnum_all R n m HL.out HX.out)
    have HWD : Hid (∀ w, Calls Tryd.prog 18 #[.int .i64 m] w fun e w' => e = .returned (.bool ok) ∧ w = w') := Lib.hid (fun w => by rw [e1]; exact refwidth_all m w)
    have HRN : Hid (ok = true → ∀ w, Calls Tryd.prog 19 #[.int .u64 (n : Int), .int .i64 m] w fun e w' => e = .returned (.string ⟨B.toArray⟩) ∧ Below w.heap.size w w') := Lib.hid (fun h w => by rw [e2, ← e1, if_pos h]; exact refnum_all n m HX.out (by rw [← e1]; exact h) w)
    have HBE : Hid (ok = false → B = []) := Lib.hid (fun h => by rw [e2, ← e1, h]; rfl)
    clear e1 e2 hok hB hb2 hL2
    go_enter Tryd.func8, Tryd.ntmps8
    go_upto_region 1 with (fail)
    have c0 := RR.out.cell 1 0 rfl (show (itemV ⟨false, n, s, m⟩)[0]? = some (.bool false) from rfl)
    have c1 := RR.out.cell 1 1 rfl (show (itemV ⟨false, n, s, m⟩)[1]? = some (.int .u64 (n : Int)) from rfl)
    have c3 := RR.out.cell 1 3 rfl (show (itemV ⟨false, n, s, m⟩)[3]? = some (.int .i64 m) from rfl)
    rw [← HW.out, ← HG.out]
    go_wp2_with fail
    refine (HWN.out _ _ RR.out).mono ?_
    rintro e w2 ⟨rfl, hR⟩
    have R2 := Lib.hid hR
    clear hR RR c0 c1 c3
    have c1 := R2.out.cell 1 1 rfl (show (itemV ⟨false, n, s, m⟩)[1]? = some (.int .u64 (n : Int)) from rfl)
    have c3 := R2.out.cell 1 3 rfl (show (itemV ⟨false, n, s, m⟩)[3]? = some (.int .i64 m) from rfl)
    go_wp2_with fail
    refine (HWD.out _).mono ?_
    rintro e w3 ⟨rfl, rfl⟩
    cases ok with
    | false =>
      have R3 := Lib.hid R2.out.drop2nd
      have hB := HBE.out rfl
      subst hB
      clear R2 c1 c3
      go_wp2_with fail
      go_ret2
      exact ⟨rfl, R3.out⟩
    | true =>
      go_wp2_with fail
      refine (HRN.out (by simp) _).mono ?_
      rintro e w3 ⟨rfl, hb⟩
      have R3 := Lib.hid (R2.out.call hb).drop2nd
      clear hb R2 c1 c3
      go_wp2_with fail
      go_ret2
      exact ⟨rfl, R3.out⟩
end
def Great100 (n : Nat) (w : World) (e : Ending) (w' : World) : Prop := ∃ r, e = .returned (.bool r) ∧ (r = false → n ≤ 100) ∧ w = w'
set_option maxHeartbeats 1000000 in
theorem fgreat_any (w : World) (A : Option Addr) (n c : Nat) (hn : n ≤ 9223372036854775807) (l : List ItemL) (hl : ItemsIn w A n l) :
    Calls Tryd.prog 5 #[.slice A n c] w fun e w' => Great100 n w e w' := by
  have HL := Lib.hid hl
  clear hl
  go_enter Tryd.func5, Tryd.ntmps5
  go_wp2_with fail
  go_loopw [3, 4] (fun m i wr => ∃ (k : Nat) (z : Int), k ≤ n ∧ i = .int .i64 (k : Int) ∧ m = .int .i64 z ∧ wr = w) (fun _ i _ => n - (intOf i).toNat)
  case atStart => exact ⟨0, 0, by omega, rfl, rfl, rfl⟩
  case round =>
    obtain ⟨k, z, hk, rfl, rfl, hw⟩ := hrel
    subst hw
    by_cases hlt : k < n
    · obtain ⟨b, off, hA, hb, hr⟩ := HL.out.cells k (by rw [HL.out.len]; exact hlt)
      subst hA
      have c3 := item_cell hr 2 _ (show (itemV (l[k]'(by rw [HL.out.len]; exact hlt))).toList[2]? = some (.string _) from rfl)
      clear hr
      generalize l[k]'(by rw [HL.out.len]; exact hlt) = x at c3
      obtain ⟨_, _, xs, _⟩ := x
      simp only at c3
      go_wp2_with fail
      exact ⟨⟨k + 1, _, by omega, by simp, rfl, trivial⟩, by simp [intOf]; omega⟩
    · obtain rfl : k = n := by omega
      have hz : ¬ ((k : Int) < (k : Int)) := by omega
      by_cases h60 : (100 : Int) < (k : Int)
      · go_wp2_with fail
        go_ret
        exact ⟨true, rfl, by simp, rfl⟩
      · have h60' : k ≤ 100 := by omega
        go_wp2_with fail
        go_ret
        exact ⟨_, rfl, fun _ => h60', rfl⟩
end Go.Proofs.YtnfmdcohacflmaaDoor
