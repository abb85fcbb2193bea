/- The device layer: New, Read. -/
import Derived.Test.YtnbdnnlomgjlmaaDev10
namespace Go.Proofs.Ytnbdnnlomgjlmaa
open Go.RowKit
set_option linter.unusedSimpArgs false
set_option linter.unusedVariables false
set_option maxRecDepth 100000
theorem lastB_hit (l : List (Nat × List UInt8)) (a : Nat) (d : List UInt8) (j : Nat) (hj : j < l.length) (ha : l[j].1 = a) (hn : ∀ i, (hi : i < l.length) → j < i → l[i].1 ≠ a) : lastB l a d = l[j].2 := by
  have h : ∀ k, j < k → k ≤ l.length → lastB (l.take k) a d = l[j].2 := by
    intro k
    induction k with
    | zero => intro h; omega
    | succ k ih =>
      intro h1 h2
      rw [List.take_succ_eq_append_getElem (by omega), lastB_snoc]
      by_cases e : k = j
      · subst e; rw [if_pos ha]
      · rw [if_neg (hn k (by omega) (by omega))]
        exact ih (by omega) (by omega)
  have := h l.length hj (Nat.le_refl _)
  rwa [List.take_length] at this
theorem lastB_none (l : List (Nat × List UInt8)) (a : Nat) (d : List UInt8) (hn : ∀ i, (hi : i < l.length) → l[i].1 ≠ a) : lastB l a d = d := by
  have h : ∀ k, k ≤ l.length → lastB (l.take k) a d = d := by
    intro k
    induction k with
    | zero => intro _; rfl
    | succ k ih =>
      intro h2
      rw [List.take_succ_eq_append_getElem (by omega), lastB_snoc, if_neg (hn k (by omega))]
      exact ih (by omega)
  have := h l.length (Nat.le_refl _)
  rwa [List.take_length] at this
/-- A new thing, in blocks that were not there. -/
def MadeT (w w' : World) (x : Thing) : Prop := ∃ F, x.says F w' ∧ (∀ b ∈ F, w.heap.size ≤ b) ∧ F.Nodup ∧ Below w.heap.size w w'
theorem Held.made {w0 W W' : World} {l : List Thing} {x : Thing} (R : Held w0 W l) (h : MadeT W W' x) : Held w0 W' (x :: l) := by
  obtain ⟨F, h1, h2, h3, h4⟩ := h
  exact R.more h4 h1 h2 h3
/-- A new device. -/
theorem new_dev (w : World) (n : Nat) (h1 : 64 ≤ n) (h2 : n ≤ 1048576) : Calls Try.prog 38 #[.int .u32 (n : Int)] w fun e w' => ∃ g, e = .returned (.tuple #[.pointer (some ⟨g, 0, none⟩), .int .i64 0]) ∧ MadeT w w' (dvT g (newDv n)) := by
  have hmm := @run_makeMap Try.prog
  have e1 : ¬ ((n : Int) < 64) := by omega
  have e2 : ¬ ((1048576 : Int) < (n : Int)) := by omega
  go_enter Try.func38, Try.ntmps38
  go_wp2
  go_ret2
  refine ⟨w.heap.size + 1, rfl, dvFoot (w.heap.size + 1) w.heap.size (.slice none 0 0) (.pointer none), ⟨w.heap.size, .slice none 0 0, .pointer none, rfl, ⟨?_, ?_, World.ownsRow_nil _ _ _ _, rfl, newDv_ok n (by omega)⟩⟩, ?_, ?_, ((Below.refl _ _).alloc (Nat.le_refl _) _).alloc (by simp) _⟩
  · have := heap_alloc_new (w.alloc (.map #[] 0)) (.cells (dvCells (newDv n) w.heap.size (.slice none 0 0) (.pointer none)) 108 (0, 0))
    rw [show (w.alloc (.map #[] 0)).heap.size = w.heap.size + 1 by simp] at this
    exact this
  · refine (MapAt.made w).kept ?_
    exact Go.heap_alloc_old _ _ (by simp)
  · intro b hb
    simp [dvFoot, Value.ownBlock, ptrBlock] at hb
    omega
  · simp [dvFoot, Value.ownBlock, ptrBlock]
theorem new_far (w : World) (n : Nat) (h : n < 64 ∨ 1048576 < n) : Calls Try.prog 38 #[.int .u32 (n : Int)] w fun e w' => e = .returned (.tuple #[.pointer none, .int .i64 2]) ∧ w = w' := by
  rcases Nat.lt_or_ge n 64 with h1 | h1
  · have e1 : ((n : Int) < 64) := by omega
    go_enter Try.func38, Try.ntmps38
    go_wp2
    go_ret2
    exact ⟨rfl, rfl⟩
  · have e1 : ¬ ((n : Int) < 64) := by omega
    have e2 : ((1048576 : Int) < (n : Int)) := by omega
    go_enter Try.func38, Try.ntmps38
    go_wp2
    go_ret2
    exact ⟨rfl, rfl⟩
end Go.Proofs.Ytnbdnnlomgjlmaa
