/- The document's answer on which of some texts stands at the top: the first that stands above all that are not the same. -/
import Derived.Test.YtnbdnnlomgjlmaaTop
import Derived.Test.YtnbdnnlomgjlmaaOrder
import Derived.Test.YtnbdnnlomgjlmaaSealed
namespace Go.Proofs.Ytnbdnnlomgjlmaa
open Go.RowKit
set_option linter.unusedSimpArgs false
/-- Nothing of f 0 .. f k stands above the best of them. -/
theorem best_above (f : Nat → ByteArray) : ∀ k i, i ≤ k → f i = bestF f k ∨ aboveV (bestF f k).data.toList (f i).data.toList = true
  | 0, i, h => by obtain rfl : i = 0 := by omega
                  exact .inl rfl
  | k + 1, i, h => by
    unfold bestF
    by_cases hi : i = k + 1
    · subst hi
      split
      · exact .inl rfl
      · rename_i hab
        by_cases he : f (k + 1) = bestF f k
        · exact .inl he
        · refine .inr ((above_total _ _ fun e => he ?_).resolve_left hab)
          cases h1 : f (k + 1); cases h2 : bestF f k; rw [h1, h2] at e; congr 1; exact Array.toList_inj.1 e
    · rcases best_above f k i (by omega) with h1 | h1
      · split
        · rename_i hab; exact .inr (h1 ▸ hab)
        · exact .inl h1
      · split
        · rename_i hab; exact .inr (above_trans _ _ _ hab h1)
        · exact .inr h1
/-- Does text i stand above the first k that are not the same? -/
def allF (f : Nat → ByteArray) (i : Nat) : Nat → Bool
  | 0 => true
  | k + 1 => allF f i k && (decide (f k = f i) || aboveV (f i).data.toList (f k).data.toList)
theorem allF_at (f : Nat → ByteArray) (i : Nat) : ∀ n, allF f i n = true → ∀ k, k < n → f k = f i ∨ aboveV (f i).data.toList (f k).data.toList = true
  | 0, _, k, hk => by omega
  | n + 1, h, k, hk => by
    simp only [allF, Bool.and_eq_true, Bool.or_eq_true, decide_eq_true_eq] at h
    by_cases he : k = n
    · subst he; exact h.2
    · exact allF_at f i n h.1 k (by omega)
theorem allF_of (f : Nat → ByteArray) (i : Nat) : ∀ n, (∀ k, k < n → f k = f i ∨ aboveV (f i).data.toList (f k).data.toList = true) → allF f i n = true
  | 0, _ => rfl
  | n + 1, h => by
    simp only [allF, Bool.and_eq_true, Bool.or_eq_true, decide_eq_true_eq]
    exact ⟨allF_of f i n fun k hk => h k (by omega), h n (by omega)⟩
/-- Just the best one stands above all. -/
theorem allF_iff (f : Nat → ByteArray) (i n : Nat) (hi : i < n) : allF f i n = true ↔ f i = bestF f (n - 1) := by
  constructor
  · intro h
    obtain ⟨j, hj, he⟩ := bestF_is f (n - 1)
    rcases allF_at f i n h j (by omega) with h1 | h1
    · rw [he, h1]
    · rcases best_above f (n - 1) i (by omega) with h2 | h2
      · exact h2
      · rw [he] at h2
        rw [above_asymm _ _ h1] at h2; cases h2
  · intro h
    refine allF_of f i n fun k hk => ?_
    rw [h]
    exact best_above f (n - 1) k (by omega)
theorem reftop_none (A : Option Addr) (c : Nat) (w : World) : Calls Try.prog 34 #[.slice A 0 c] w fun e w' => e = .returned (.tuple #[.string ⟨#[]⟩, .bool false]) ∧ w = w' := by
  go_enter Try.func34, Try.ntmps34
  go_wp2_with fail
  refine wp_loop_rounds 1 ?_
  rw [rounds_succ]
  go_wp2_with fail
  go_ret2
  exact ⟨rfl, rfl⟩
set_option maxHeartbeats 1000000 in
theorem reftop_any (b off n c : Nat) (f : Nat → ByteArray) (w : World) (h0 : 0 < n) (hnc : n ≤ c) (hc : c ≤ maxLen) (ht : TextsAt w b off n f) :
    Calls Try.prog 34 #[.slice (some ⟨b, off, none⟩) n c] w fun e w' => e = .returned (.tuple #[.string (bestF f (n - 1)), .bool true]) ∧ Below w.heap.size w w' := by
  unfold maxLen at hc
  have HT := Lib.hid ht
  clear ht
  go_enter Try.func34, Try.ntmps34
  go_wp2_with fail
  go_loopw [4] (fun i wr => ∃ k : Nat, k ≤ n ∧ i = .int .i64 k ∧ Since w wr ∧ ∀ j, j < k → f j ≠ bestF f (n - 1)) (fun i _ => n - (intOf i).toNat)
  case atStart => exact ⟨0, by omega, rfl, Below.refl _ _, fun j hj => by omega⟩
  case round =>
    obtain ⟨i, hi, rfl, hS, hno⟩ := hrel
    have HNO := Lib.hid hno
    clear hno
    by_cases hlt : i < n
    · go_wp2_with fail
      go_loopw [5, 6] (fun s j wr2 => ∃ k : Nat, k ≤ n ∧ j = .int .i64 k ∧ s = .bool (allF f i k) ∧ Since w wr2) (fun _ j _ => n - (intOf j).toNat)
      case atStart => exact ⟨0, by omega, rfl, rfl, hS⟩
      case round =>
        obtain ⟨k, hk, rfl, rfl, hS2⟩ := hrel
        by_cases hkn : k < n
        · have H1 := Lib.hid ((HT.out.below hS2) k hkn).1
          have H2 := Lib.hid ((HT.out.below hS2) i hlt).1
          have K1 := Lib.hid (HT.out k hkn).2
          have K2 := Lib.hid (HT.out i hlt).2
          go_upto_region 8 with (fail)
          by_cases he : f k = f i
          · have HE := Lib.hid he
            clear he
            refine wk_region_since (by kernel_rfl) (by kernel_rfl) ?_
            refine wk_move _ (by kernel_rfl) rfl ?_
            simp only [Act.put, Act.eval, Array.getD_eq_getD_getElem?, List.getElem?_toArray, List.getElem?_cons_succ, List.getElem?_cons_zero, Option.getD_some, List.setIfInBounds_toArray, List.set_cons_zero, List.set_cons_succ]
            refine wk_move _ (by kernel_rfl) rfl ?_
            simp only [Act.put, Act.eval, Array.getD_eq_getD_getElem?, List.getElem?_toArray, List.getElem?_cons_succ, List.getElem?_cons_zero, Option.getD_some, List.setIfInBounds_toArray, List.set_cons_zero, List.set_cons_succ]
            refine wk_index _ _ _ _ _ _ (n) _ (k) 1 .i64 (by kernel_rfl) rfl Try.underlying38 (by kernel_rfl) rfl rfl (hkn) ?_
            simp only [Act.put, List.setIfInBounds_toArray, List.set_cons_zero, List.set_cons_succ, Nat.mul_one]
            refine wk_load1 _ _ _ _ .string rfl (by kernel_rfl) rfl rfl (fun w' hC => hC.cell H1.out) Try.underlying9 ?_
            simp only [Act.put, List.setIfInBounds_toArray, List.set_cons_zero, List.set_cons_succ]
            refine wk_move _ (by kernel_rfl) rfl ?_
            simp only [Act.put, Act.eval, Array.getD_eq_getD_getElem?, List.getElem?_toArray, List.getElem?_cons_succ, List.getElem?_cons_zero, Option.getD_some, List.setIfInBounds_toArray, List.set_cons_zero, List.set_cons_succ]
            refine wk_move _ (by kernel_rfl) rfl ?_
            simp only [Act.put, Act.eval, Array.getD_eq_getD_getElem?, List.getElem?_toArray, List.getElem?_cons_succ, List.getElem?_cons_zero, Option.getD_some, List.setIfInBounds_toArray, List.set_cons_zero, List.set_cons_succ]
            refine wk_index _ _ _ _ _ _ (n) _ (i) 1 .i64 (by kernel_rfl) rfl Try.underlying38 (by kernel_rfl) rfl rfl (hlt) ?_
            simp only [Act.put, List.setIfInBounds_toArray, List.set_cons_zero, List.set_cons_succ, Nat.mul_one]
            refine wk_load1 _ _ _ _ .string rfl (by kernel_rfl) rfl rfl (fun w' hC => hC.cell H2.out) Try.underlying9 ?_
            simp only [Act.put, List.setIfInBounds_toArray, List.set_cons_zero, List.set_cons_succ]
            refine wk_neq_str (false) _ _ _ _ _ _ (by kernel_rfl) rfl rfl rfl (by simp [HE.out]) ?_
            simp only [Act.put, List.setIfInBounds_toArray, List.set_cons_zero, List.set_cons_succ]
            refine wk_move _ (by kernel_rfl) rfl ?_
            simp only [Act.put, Act.eval, Array.getD_eq_getD_getElem?, List.getElem?_toArray, List.getElem?_cons_succ, List.getElem?_cons_zero, Option.getD_some, List.setIfInBounds_toArray, List.set_cons_zero, List.set_cons_succ]
            refine wk_skip (by kernel_rfl) ?_
            simp only [Act.put, List.setIfInBounds_toArray, List.set_cons_zero, List.set_cons_succ]
            refine wk_skip (by kernel_rfl) ?_
            simp only [Act.put, List.setIfInBounds_toArray, List.set_cons_zero, List.set_cons_succ]
            refine wk_skip (by kernel_rfl) ?_
            simp only [Act.put, List.setIfInBounds_toArray, List.set_cons_zero, List.set_cons_succ]
            refine wk_skip (by kernel_rfl) ?_
            simp only [Act.put, List.setIfInBounds_toArray, List.set_cons_zero, List.set_cons_succ]
            refine wk_skip (by kernel_rfl) ?_
            simp only [Act.put, List.setIfInBounds_toArray, List.set_cons_zero, List.set_cons_succ]
            refine wk_skip (by kernel_rfl) ?_
            simp only [Act.put, List.setIfInBounds_toArray, List.set_cons_zero, List.set_cons_succ]
            refine wk_skip (by kernel_rfl) ?_
            simp only [Act.put, List.setIfInBounds_toArray, List.set_cons_zero, List.set_cons_succ]
            refine wk_skip (by kernel_rfl) ?_
            simp only [Act.put, List.setIfInBounds_toArray, List.set_cons_zero, List.set_cons_succ]
            refine wk_skip (by kernel_rfl) ?_
            simp only [Act.put, List.setIfInBounds_toArray, List.set_cons_zero, List.set_cons_succ]
            refine wk_skip (by kernel_rfl) ?_
            simp only [Act.put, List.setIfInBounds_toArray, List.set_cons_zero, List.set_cons_succ]
            refine wk_pickf _ _ _ _ (by kernel_rfl) rfl rfl rfl ?_
            simp only [Act.put, Act.eval, Array.getD_eq_getD_getElem?, List.getElem?_toArray, List.getElem?_cons_succ, List.getElem?_cons_zero, Option.getD_some, List.setIfInBounds_toArray, List.set_cons_zero, List.set_cons_succ]
            refine wk_nil ?_
            intro w' hC
            go_wp2_with fail
            go_roundw
            case rel => exact ⟨k + 1, by omega, by go_num, by simp [allF, HE.out], Below.trans hS2 (Below.mono hC (Below.size hS2))⟩
            case measure => simp [intOf]; omega
          · have HE := Lib.hid he
            clear he
            cases hab : aboveV (f i).data.toList (f k).data.toList with
            | true =>
            have HAB := Lib.hid hab
            clear hab
            refine wk_region_since (by kernel_rfl) (by kernel_rfl) ?_
            refine wk_move _ (by kernel_rfl) rfl ?_
            simp only [Act.put, Act.eval, Array.getD_eq_getD_getElem?, List.getElem?_toArray, List.getElem?_cons_succ, List.getElem?_cons_zero, Option.getD_some, List.setIfInBounds_toArray, List.set_cons_zero, List.set_cons_succ]
            refine wk_move _ (by kernel_rfl) rfl ?_
            simp only [Act.put, Act.eval, Array.getD_eq_getD_getElem?, List.getElem?_toArray, List.getElem?_cons_succ, List.getElem?_cons_zero, Option.getD_some, List.setIfInBounds_toArray, List.set_cons_zero, List.set_cons_succ]
            refine wk_index _ _ _ _ _ _ (n) _ (k) 1 .i64 (by kernel_rfl) rfl Try.underlying38 (by kernel_rfl) rfl rfl (hkn) ?_
            simp only [Act.put, List.setIfInBounds_toArray, List.set_cons_zero, List.set_cons_succ, Nat.mul_one]
            refine wk_load1 _ _ _ _ .string rfl (by kernel_rfl) rfl rfl (fun w' hC => hC.cell H1.out) Try.underlying9 ?_
            simp only [Act.put, List.setIfInBounds_toArray, List.set_cons_zero, List.set_cons_succ]
            refine wk_move _ (by kernel_rfl) rfl ?_
            simp only [Act.put, Act.eval, Array.getD_eq_getD_getElem?, List.getElem?_toArray, List.getElem?_cons_succ, List.getElem?_cons_zero, Option.getD_some, List.setIfInBounds_toArray, List.set_cons_zero, List.set_cons_succ]
            refine wk_move _ (by kernel_rfl) rfl ?_
            simp only [Act.put, Act.eval, Array.getD_eq_getD_getElem?, List.getElem?_toArray, List.getElem?_cons_succ, List.getElem?_cons_zero, Option.getD_some, List.setIfInBounds_toArray, List.set_cons_zero, List.set_cons_succ]
            refine wk_index _ _ _ _ _ _ (n) _ (i) 1 .i64 (by kernel_rfl) rfl Try.underlying38 (by kernel_rfl) rfl rfl (hlt) ?_
            simp only [Act.put, List.setIfInBounds_toArray, List.set_cons_zero, List.set_cons_succ, Nat.mul_one]
            refine wk_load1 _ _ _ _ .string rfl (by kernel_rfl) rfl rfl (fun w' hC => hC.cell H2.out) Try.underlying9 ?_
            simp only [Act.put, List.setIfInBounds_toArray, List.set_cons_zero, List.set_cons_succ]
            refine wk_neq_str (true) _ _ _ _ _ _ (by kernel_rfl) rfl rfl rfl (by simp [HE.out]) ?_
            simp only [Act.put, List.setIfInBounds_toArray, List.set_cons_zero, List.set_cons_succ]
            refine wk_move _ (by kernel_rfl) rfl ?_
            simp only [Act.put, Act.eval, Array.getD_eq_getD_getElem?, List.getElem?_toArray, List.getElem?_cons_succ, List.getElem?_cons_zero, Option.getD_some, List.setIfInBounds_toArray, List.set_cons_zero, List.set_cons_succ]
            refine wk_move _ (by kernel_rfl) rfl ?_
            simp only [Act.put, Act.eval, Array.getD_eq_getD_getElem?, List.getElem?_toArray, List.getElem?_cons_succ, List.getElem?_cons_zero, Option.getD_some, List.setIfInBounds_toArray, List.set_cons_zero, List.set_cons_succ]
            refine wk_move _ (by kernel_rfl) rfl ?_
            simp only [Act.put, Act.eval, Array.getD_eq_getD_getElem?, List.getElem?_toArray, List.getElem?_cons_succ, List.getElem?_cons_zero, Option.getD_some, List.setIfInBounds_toArray, List.set_cons_zero, List.set_cons_succ]
            refine wk_index _ _ _ _ _ _ (n) _ (i) 1 .i64 (by kernel_rfl) rfl Try.underlying38 (by kernel_rfl) rfl rfl (hlt) ?_
            simp only [Act.put, List.setIfInBounds_toArray, List.set_cons_zero, List.set_cons_succ, Nat.mul_one]
            refine wk_load1 _ _ _ _ .string rfl (by kernel_rfl) rfl rfl (fun w' hC => hC.cell H2.out) Try.underlying9 ?_
            simp only [Act.put, List.setIfInBounds_toArray, List.set_cons_zero, List.set_cons_succ]
            refine wk_move _ (by kernel_rfl) rfl ?_
            simp only [Act.put, Act.eval, Array.getD_eq_getD_getElem?, List.getElem?_toArray, List.getElem?_cons_succ, List.getElem?_cons_zero, Option.getD_some, List.setIfInBounds_toArray, List.set_cons_zero, List.set_cons_succ]
            refine wk_move _ (by kernel_rfl) rfl ?_
            simp only [Act.put, Act.eval, Array.getD_eq_getD_getElem?, List.getElem?_toArray, List.getElem?_cons_succ, List.getElem?_cons_zero, Option.getD_some, List.setIfInBounds_toArray, List.set_cons_zero, List.set_cons_succ]
            refine wk_index _ _ _ _ _ _ (n) _ (k) 1 .i64 (by kernel_rfl) rfl Try.underlying38 (by kernel_rfl) rfl rfl (hkn) ?_
            simp only [Act.put, List.setIfInBounds_toArray, List.set_cons_zero, List.set_cons_succ, Nat.mul_one]
            refine wk_load1 _ _ _ _ .string rfl (by kernel_rfl) rfl rfl (fun w' hC => hC.cell H1.out) Try.underlying9 ?_
            simp only [Act.put, List.setIfInBounds_toArray, List.set_cons_zero, List.set_cons_succ]
            refine wk_call 32 _ _ _ _ _ (by kernel_rfl) rfl Try.func32 rfl (by kernel_rfl) (fun w' hC => hC.call (HAB.out ▸ refabove_any (f i) (f k) w' K2.out K1.out)) ?_
            simp only [Act.put, List.setIfInBounds_toArray, List.set_cons_zero, List.set_cons_succ]
            refine wk_not true _ _ (by kernel_rfl) rfl rfl ?_
            simp only [Act.put, List.setIfInBounds_toArray, List.set_cons_zero, List.set_cons_succ]
            refine wk_pickt _ _ _ _ (by kernel_rfl) rfl rfl rfl ?_
            simp only [Act.put, Act.eval, Array.getD_eq_getD_getElem?, List.getElem?_toArray, List.getElem?_cons_succ, List.getElem?_cons_zero, Option.getD_some, List.setIfInBounds_toArray, List.set_cons_zero, List.set_cons_succ]
            refine wk_nil ?_
            intro w' hC
            go_wp2_with fail
            go_roundw
            case rel => exact ⟨k + 1, by omega, by go_num, by simp [allF, HAB.out], Below.trans hS2 (Below.mono hC (Below.size hS2))⟩
            case measure => simp [intOf]; omega
            | false =>
            have HAB := Lib.hid hab
            clear hab
            refine wk_region_since (by kernel_rfl) (by kernel_rfl) ?_
            refine wk_move _ (by kernel_rfl) rfl ?_
            simp only [Act.put, Act.eval, Array.getD_eq_getD_getElem?, List.getElem?_toArray, List.getElem?_cons_succ, List.getElem?_cons_zero, Option.getD_some, List.setIfInBounds_toArray, List.set_cons_zero, List.set_cons_succ]
            refine wk_move _ (by kernel_rfl) rfl ?_
            simp only [Act.put, Act.eval, Array.getD_eq_getD_getElem?, List.getElem?_toArray, List.getElem?_cons_succ, List.getElem?_cons_zero, Option.getD_some, List.setIfInBounds_toArray, List.set_cons_zero, List.set_cons_succ]
            refine wk_index _ _ _ _ _ _ (n) _ (k) 1 .i64 (by kernel_rfl) rfl Try.underlying38 (by kernel_rfl) rfl rfl (hkn) ?_
            simp only [Act.put, List.setIfInBounds_toArray, List.set_cons_zero, List.set_cons_succ, Nat.mul_one]
            refine wk_load1 _ _ _ _ .string rfl (by kernel_rfl) rfl rfl (fun w' hC => hC.cell H1.out) Try.underlying9 ?_
            simp only [Act.put, List.setIfInBounds_toArray, List.set_cons_zero, List.set_cons_succ]
            refine wk_move _ (by kernel_rfl) rfl ?_
            simp only [Act.put, Act.eval, Array.getD_eq_getD_getElem?, List.getElem?_toArray, List.getElem?_cons_succ, List.getElem?_cons_zero, Option.getD_some, List.setIfInBounds_toArray, List.set_cons_zero, List.set_cons_succ]
            refine wk_move _ (by kernel_rfl) rfl ?_
            simp only [Act.put, Act.eval, Array.getD_eq_getD_getElem?, List.getElem?_toArray, List.getElem?_cons_succ, List.getElem?_cons_zero, Option.getD_some, List.setIfInBounds_toArray, List.set_cons_zero, List.set_cons_succ]
            refine wk_index _ _ _ _ _ _ (n) _ (i) 1 .i64 (by kernel_rfl) rfl Try.underlying38 (by kernel_rfl) rfl rfl (hlt) ?_
            simp only [Act.put, List.setIfInBounds_toArray, List.set_cons_zero, List.set_cons_succ, Nat.mul_one]
            refine wk_load1 _ _ _ _ .string rfl (by kernel_rfl) rfl rfl (fun w' hC => hC.cell H2.out) Try.underlying9 ?_
            simp only [Act.put, List.setIfInBounds_toArray, List.set_cons_zero, List.set_cons_succ]
            refine wk_neq_str (true) _ _ _ _ _ _ (by kernel_rfl) rfl rfl rfl (by simp [HE.out]) ?_
            simp only [Act.put, List.setIfInBounds_toArray, List.set_cons_zero, List.set_cons_succ]
            refine wk_move _ (by kernel_rfl) rfl ?_
            simp only [Act.put, Act.eval, Array.getD_eq_getD_getElem?, List.getElem?_toArray, List.getElem?_cons_succ, List.getElem?_cons_zero, Option.getD_some, List.setIfInBounds_toArray, List.set_cons_zero, List.set_cons_succ]
            refine wk_move _ (by kernel_rfl) rfl ?_
            simp only [Act.put, Act.eval, Array.getD_eq_getD_getElem?, List.getElem?_toArray, List.getElem?_cons_succ, List.getElem?_cons_zero, Option.getD_some, List.setIfInBounds_toArray, List.set_cons_zero, List.set_cons_succ]
            refine wk_move _ (by kernel_rfl) rfl ?_
            simp only [Act.put, Act.eval, Array.getD_eq_getD_getElem?, List.getElem?_toArray, List.getElem?_cons_succ, List.getElem?_cons_zero, Option.getD_some, List.setIfInBounds_toArray, List.set_cons_zero, List.set_cons_succ]
            refine wk_index _ _ _ _ _ _ (n) _ (i) 1 .i64 (by kernel_rfl) rfl Try.underlying38 (by kernel_rfl) rfl rfl (hlt) ?_
            simp only [Act.put, List.setIfInBounds_toArray, List.set_cons_zero, List.set_cons_succ, Nat.mul_one]
            refine wk_load1 _ _ _ _ .string rfl (by kernel_rfl) rfl rfl (fun w' hC => hC.cell H2.out) Try.underlying9 ?_
            simp only [Act.put, List.setIfInBounds_toArray, List.set_cons_zero, List.set_cons_succ]
            refine wk_move _ (by kernel_rfl) rfl ?_
            simp only [Act.put, Act.eval, Array.getD_eq_getD_getElem?, List.getElem?_toArray, List.getElem?_cons_succ, List.getElem?_cons_zero, Option.getD_some, List.setIfInBounds_toArray, List.set_cons_zero, List.set_cons_succ]
            refine wk_move _ (by kernel_rfl) rfl ?_
            simp only [Act.put, Act.eval, Array.getD_eq_getD_getElem?, List.getElem?_toArray, List.getElem?_cons_succ, List.getElem?_cons_zero, Option.getD_some, List.setIfInBounds_toArray, List.set_cons_zero, List.set_cons_succ]
            refine wk_index _ _ _ _ _ _ (n) _ (k) 1 .i64 (by kernel_rfl) rfl Try.underlying38 (by kernel_rfl) rfl rfl (hkn) ?_
            simp only [Act.put, List.setIfInBounds_toArray, List.set_cons_zero, List.set_cons_succ, Nat.mul_one]
            refine wk_load1 _ _ _ _ .string rfl (by kernel_rfl) rfl rfl (fun w' hC => hC.cell H1.out) Try.underlying9 ?_
            simp only [Act.put, List.setIfInBounds_toArray, List.set_cons_zero, List.set_cons_succ]
            refine wk_call 32 _ _ _ _ _ (by kernel_rfl) rfl Try.func32 rfl (by kernel_rfl) (fun w' hC => hC.call (HAB.out ▸ refabove_any (f i) (f k) w' K2.out K1.out)) ?_
            simp only [Act.put, List.setIfInBounds_toArray, List.set_cons_zero, List.set_cons_succ]
            refine wk_not false _ _ (by kernel_rfl) rfl rfl ?_
            simp only [Act.put, List.setIfInBounds_toArray, List.set_cons_zero, List.set_cons_succ]
            refine wk_pickt _ _ _ _ (by kernel_rfl) rfl rfl rfl ?_
            simp only [Act.put, Act.eval, Array.getD_eq_getD_getElem?, List.getElem?_toArray, List.getElem?_cons_succ, List.getElem?_cons_zero, Option.getD_some, List.setIfInBounds_toArray, List.set_cons_zero, List.set_cons_succ]
            refine wk_nil ?_
            intro w' hC
            go_wp2_with fail
            go_roundw
            case rel => exact ⟨k + 1, by omega, by go_num, by simp [allF, HE.out, HAB.out], Below.trans hS2 (Below.mono hC (Below.size hS2))⟩
            case measure => simp [intOf]; omega
        · obtain rfl : k = n := by omega
          cases hall : allF f i k with
          | true =>
            have HB := Lib.hid ((allF_iff f i k hlt).1 hall)
            have H2 := Lib.hid ((HT.out.below hS2) i hlt).1
            have h2 := H2.out
            clear hall
            go_wp2_with fail
            go_ret2
            exact ⟨by rw [HB.out]; rfl, hS2⟩
          | false =>
            have HB := Lib.hid (show f i ≠ bestF f (k - 1) from fun e => by rw [(allF_iff f i k hlt).2 e] at hall; cases hall)
            clear hall
            go_wp2_with fail
            go_roundw
            case rel => exact ⟨i + 1, by omega, by go_num, hS2, fun j hj => by
              by_cases h : j = i
              · subst h; exact HB.out
              · exact HNO.out j (by omega)⟩
            case measure => simp [intOf]; omega
    · obtain rfl : i = n := by omega
      obtain ⟨j, hj, hb⟩ := bestF_is f (i - 1)
      exact absurd hb.symm (HNO.out j (by omega))
end Go.Proofs.Ytnbdnnlomgjlmaa
