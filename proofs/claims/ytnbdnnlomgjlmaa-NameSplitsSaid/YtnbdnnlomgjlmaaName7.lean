import Derived.Test.YtnbdnnlomgjlmaaName6
import Derived.Test.YtnbdnnlomgjlmaaCrcHead
namespace Go.Proofs.Ytnbdnnlomgjlmaa
open Go.RowKit
/-- A bool of which only this is known: where it is false there are at most 60 texts. -/
def GreatPost (n : Nat) (w : World) (e : Ending) (w' : World) : Prop := ∃ g : Bool, e = .returned (.bool g) ∧ (g = false → n ≤ 60) ∧ w = w'
theorem great_any (b off n c : Nat) (f : Nat → ByteArray) (w : World) (hn : n ≤ maxLen) (hc : ∀ i, i < n → w.cell? ⟨b, off + i, none⟩ = some (.string (f i))) :
    Calls Try.prog 24 #[.slice (some ⟨b, off, none⟩) n c] w (GreatPost n w) := by
  unfold maxLen at hn
  have HC := Lib.hid hc
  clear hc
  go_enter Try.func24, Try.ntmps24
  go_wp2_with fail
  go_loop [3, 4] (fun t i => ∃ k : Nat, k ≤ n ∧ i = .int .i64 k ∧ ∃ x : Int, t = .int .i64 x) (fun _ i => n - (intOf i).toNat)
  case atStart => exact ⟨0, by omega, rfl, 0, rfl⟩
  case round =>
    obtain ⟨k, hk, rfl, x, rfl⟩ := hrel
    by_cases hlt : k < n
    · have h1 := HC.out k hlt
      go_wp2_with fail
      go_round
      case rel => exact ⟨k + 1, by omega, by go_num, _, rfl⟩
      case measure => simp [intOf]; omega
    · by_cases h60 : 60 < n
      · have d1 : decide ((60 : Int) < (n : Int)) = true := by simp; omega
        go_wp2_with fail
        go_ret
        exact ⟨true, rfl, (fun h => by cases h), rfl⟩
      · have d1 : decide ((60 : Int) < (n : Int)) = false := by simp; omega
        go_wp2_with fail
        go_ret
        exact ⟨_, rfl, fun _ => by omega, rfl⟩
theorem great_none (A : Option Addr) (c : Nat) (w : World) : Calls Try.prog 24 #[.slice A 0 c] w (GreatPost 0 w) := by
  go_enter Try.func24, Try.ntmps24
  go_wp2_with fail
  refine wp_loop_rounds 1 ?_
  rw [rounds_succ]
  go_wp2_with fail
  go_ret
  exact ⟨_, rfl, fun _ => by omega, rfl⟩
/-- Top of none. -/
theorem top_none (A : Option Addr) (c : Nat) (w : World) : Calls Try.prog 33 #[.slice A 0 c] w fun e w' => e = .returned (.tuple #[.string ⟨#[]⟩, .bool false]) ∧ w = w' := by
  go_enter Try.func33, Try.ntmps33
  go_wp2
  go_ret2
  exact ⟨rfl, rfl⟩

theorem aboveV_self (a : List UInt8) : aboveV a a = false := by
  have h : cmpV a a = 0 := by
    have h1 : ∀ l : List UInt8, Op.bytesLess l l = false := by
      intro l
      induction l with
      | nil => rfl
      | cons c l ih => simp [Op.bytesLess, ih]
    unfold cmpV; rw [h1]; simp
  unfold aboveV; rw [h]; simp
theorem above_is (a b : ByteArray) (w : World) (ha : a.size ≤ maxLen) (hb : b.size ≤ maxLen) (r : Bool) (hr : aboveV a.data.toList b.data.toList = r) :
    Calls Try.prog 31 #[.string a, .string b] w fun e w' => e = .returned (.bool r) ∧ Below w.heap.size w w' := hr ▸ above_any a b w ha hb
set_option maxRecDepth 100000 in
theorem namehead_any (w : World) : Calls Try.prog 25 #[] w fun e w' => e = .returned (.bool true) ∧ Below w.heap.size w w' := by
  go_enter Try.func25, Try.ntmps25
  go_upto_region 3 with (go_at_call 33; refine (top_none _ _ _).mono ?_; rintro e w' ⟨rfl, rfl⟩)
  refine wp_plain_since ?_
  refine wq_call 26 _ _ _ _ _ rfl rfl Try.func26 rfl (by kernel_rfl) (fun w' hC => hC.call (check_any ⟨#[97]⟩ w' (size_lit [97] (by simp)))) ?_
  simp only [Act.put, List.setIfInBounds_toArray, List.set_cons_zero, List.set_cons_succ]
  refine wq_eql_int true _ _ _ _ _ _ _ rfl rfl rfl rfl (by decide +kernel) ?_
  simp only [Act.put, List.setIfInBounds_toArray, List.set_cons_zero, List.set_cons_succ]
  refine wq_move _ rfl rfl ?_
  simp only [Act.put, List.setIfInBounds_toArray, List.set_cons_zero, List.set_cons_succ]
  refine wq_call 26 _ _ _ _ _ rfl rfl Try.func26 rfl (by kernel_rfl) (fun w' hC => hC.call (check_any ⟨#[97, 46, 98, 45, 99, 95, 57]⟩ w' (size_lit [97, 46, 98, 45, 99, 95, 57] (by simp)))) ?_
  simp only [Act.put, List.setIfInBounds_toArray, List.set_cons_zero, List.set_cons_succ]
  refine wq_eql_int true _ _ _ _ _ _ _ rfl rfl rfl rfl (by decide +kernel) ?_
  simp only [Act.put, List.setIfInBounds_toArray, List.set_cons_zero, List.set_cons_succ]
  refine wq_pick true _ _ _ rfl rfl rfl ?_
  simp only [Act.put, List.setIfInBounds_toArray, List.set_cons_zero, List.set_cons_succ]
  refine wq_move _ rfl rfl ?_
  simp only [Act.put, List.setIfInBounds_toArray, List.set_cons_zero, List.set_cons_succ]
  refine wq_call 26 _ _ _ _ _ rfl rfl Try.func26 rfl (by kernel_rfl) (fun w' hC => hC.call (check_any ⟨#[57, 97]⟩ w' (size_lit [57, 97] (by simp)))) ?_
  simp only [Act.put, List.setIfInBounds_toArray, List.set_cons_zero, List.set_cons_succ]
  refine wq_eql_int true _ _ _ _ _ _ _ rfl rfl rfl rfl (by decide +kernel) ?_
  simp only [Act.put, List.setIfInBounds_toArray, List.set_cons_zero, List.set_cons_succ]
  refine wq_pick true _ _ _ rfl rfl rfl ?_
  simp only [Act.put, List.setIfInBounds_toArray, List.set_cons_zero, List.set_cons_succ]
  refine wq_move _ rfl rfl ?_
  simp only [Act.put, List.setIfInBounds_toArray, List.set_cons_zero, List.set_cons_succ]
  refine wq_call 26 _ _ _ _ _ rfl rfl Try.func26 rfl (by kernel_rfl) (fun w' hC => hC.call (check_any ⟨#[65]⟩ w' (size_lit [65] (by simp)))) ?_
  simp only [Act.put, List.setIfInBounds_toArray, List.set_cons_zero, List.set_cons_succ]
  refine wq_eql_int true _ _ _ _ _ _ _ rfl rfl rfl rfl (by decide +kernel) ?_
  simp only [Act.put, List.setIfInBounds_toArray, List.set_cons_zero, List.set_cons_succ]
  refine wq_pick true _ _ _ rfl rfl rfl ?_
  simp only [Act.put, List.setIfInBounds_toArray, List.set_cons_zero, List.set_cons_succ]
  refine wq_move _ rfl rfl ?_
  simp only [Act.put, List.setIfInBounds_toArray, List.set_cons_zero, List.set_cons_succ]
  refine wq_call 26 _ _ _ _ _ rfl rfl Try.func26 rfl (by kernel_rfl) (fun w' hC => hC.call (check_any ⟨#[]⟩ w' (size_lit [] (by simp)))) ?_
  simp only [Act.put, List.setIfInBounds_toArray, List.set_cons_zero, List.set_cons_succ]
  refine wq_eql_int true _ _ _ _ _ _ _ rfl rfl rfl rfl (by decide +kernel) ?_
  simp only [Act.put, List.setIfInBounds_toArray, List.set_cons_zero, List.set_cons_succ]
  refine wq_pick true _ _ _ rfl rfl rfl ?_
  simp only [Act.put, List.setIfInBounds_toArray, List.set_cons_zero, List.set_cons_succ]
  refine wq_move _ rfl rfl ?_
  simp only [Act.put, List.setIfInBounds_toArray, List.set_cons_zero, List.set_cons_succ]
  refine wq_move _ rfl rfl ?_
  simp only [Act.put, List.setIfInBounds_toArray, List.set_cons_zero, List.set_cons_succ]
  refine wq_call 26 _ _ _ _ _ rfl rfl Try.func26 rfl (by kernel_rfl) (fun w' hC => hC.call (check_any ⟨#[97, 97, 97, 97, 97, 97, 97, 97, 97, 97, 97, 97, 97, 97, 97, 97, 97, 97, 97, 97, 97, 97, 97, 97]⟩ w' (by decide))) ?_
  simp only [Act.put, List.setIfInBounds_toArray, List.set_cons_zero, List.set_cons_succ]
  refine wq_eql_int true _ _ _ _ _ _ _ rfl rfl rfl rfl (by decide +kernel) ?_
  simp only [Act.put, List.setIfInBounds_toArray, List.set_cons_zero, List.set_cons_succ]
  refine wq_pick true _ _ _ rfl rfl rfl ?_
  simp only [Act.put, List.setIfInBounds_toArray, List.set_cons_zero, List.set_cons_succ]
  refine wq_move _ rfl rfl ?_
  simp only [Act.put, List.setIfInBounds_toArray, List.set_cons_zero, List.set_cons_succ]
  refine wq_move _ rfl rfl ?_
  simp only [Act.put, List.setIfInBounds_toArray, List.set_cons_zero, List.set_cons_succ]
  refine wq_bin (.string ⟨#[97, 97, 97, 97, 97, 97, 97, 97, 97, 97, 97, 97, 97, 97, 97, 97, 97, 97, 97, 97, 97, 97, 97, 97, 97]⟩) .add _ _ _ _ rfl rfl (fun w => by kernel_rfl) ?_
  simp only [Act.put, List.setIfInBounds_toArray, List.set_cons_zero, List.set_cons_succ]
  refine wq_call 26 _ _ _ _ _ rfl rfl Try.func26 rfl (by kernel_rfl) (fun w' hC => hC.call (check_any ⟨#[97, 97, 97, 97, 97, 97, 97, 97, 97, 97, 97, 97, 97, 97, 97, 97, 97, 97, 97, 97, 97, 97, 97, 97, 97]⟩ w' (by decide))) ?_
  simp only [Act.put, List.setIfInBounds_toArray, List.set_cons_zero, List.set_cons_succ]
  refine wq_eql_int true _ _ _ _ _ _ _ rfl rfl rfl rfl (by decide +kernel) ?_
  simp only [Act.put, List.setIfInBounds_toArray, List.set_cons_zero, List.set_cons_succ]
  refine wq_pick true _ _ _ rfl rfl rfl ?_
  simp only [Act.put, List.setIfInBounds_toArray, List.set_cons_zero, List.set_cons_succ]
  refine wq_move _ rfl rfl ?_
  simp only [Act.put, List.setIfInBounds_toArray, List.set_cons_zero, List.set_cons_succ]
  refine wq_call 28 _ _ _ _ _ rfl rfl Try.func28 rfl (by kernel_rfl) (fun w' hC => hC.same (compare_any ⟨#[97]⟩ ⟨#[98]⟩ w')) ?_
  simp only [Act.put, List.setIfInBounds_toArray, List.set_cons_zero, List.set_cons_succ]
  refine wq_eql_int true _ _ _ _ _ _ _ rfl rfl rfl rfl (by decide +kernel) ?_
  simp only [Act.put, List.setIfInBounds_toArray, List.set_cons_zero, List.set_cons_succ]
  refine wq_pick true _ _ _ rfl rfl rfl ?_
  simp only [Act.put, List.setIfInBounds_toArray, List.set_cons_zero, List.set_cons_succ]
  refine wq_move _ rfl rfl ?_
  simp only [Act.put, List.setIfInBounds_toArray, List.set_cons_zero, List.set_cons_succ]
  refine wq_call 28 _ _ _ _ _ rfl rfl Try.func28 rfl (by kernel_rfl) (fun w' hC => hC.same (compare_any ⟨#[97, 98]⟩ ⟨#[97]⟩ w')) ?_
  simp only [Act.put, List.setIfInBounds_toArray, List.set_cons_zero, List.set_cons_succ]
  refine wq_eql_int true _ _ _ _ _ _ _ rfl rfl rfl rfl (by decide +kernel) ?_
  simp only [Act.put, List.setIfInBounds_toArray, List.set_cons_zero, List.set_cons_succ]
  refine wq_pick true _ _ _ rfl rfl rfl ?_
  simp only [Act.put, List.setIfInBounds_toArray, List.set_cons_zero, List.set_cons_succ]
  refine wq_move _ rfl rfl ?_
  simp only [Act.put, List.setIfInBounds_toArray, List.set_cons_zero, List.set_cons_succ]
  refine wq_call 28 _ _ _ _ _ rfl rfl Try.func28 rfl (by kernel_rfl) (fun w' hC => hC.same (compare_any ⟨#[97]⟩ ⟨#[97]⟩ w')) ?_
  simp only [Act.put, List.setIfInBounds_toArray, List.set_cons_zero, List.set_cons_succ]
  refine wq_eql_int true _ _ _ _ _ _ _ rfl rfl rfl rfl (by decide +kernel) ?_
  simp only [Act.put, List.setIfInBounds_toArray, List.set_cons_zero, List.set_cons_succ]
  refine wq_pick true _ _ _ rfl rfl rfl ?_
  simp only [Act.put, List.setIfInBounds_toArray, List.set_cons_zero, List.set_cons_succ]
  refine wq_move _ rfl rfl ?_
  simp only [Act.put, List.setIfInBounds_toArray, List.set_cons_zero, List.set_cons_succ]
  refine wq_call 30 _ _ _ _ _ rfl rfl Try.func30 rfl (by kernel_rfl) (fun w' hC => hC.call (priority_any ⟨#[49, 50, 51, 52, 53, 54, 55, 56, 57]⟩ w' (size_lit [49, 50, 51, 52, 53, 54, 55, 56, 57] (by simp)))) ?_
  simp only [Act.put, List.setIfInBounds_toArray, List.set_cons_zero, List.set_cons_succ]
  refine wq_eql_int true _ _ _ _ _ _ _ rfl rfl rfl rfl (by decide +kernel) ?_
  simp only [Act.put, List.setIfInBounds_toArray, List.set_cons_zero, List.set_cons_succ]
  refine wq_pick true _ _ _ rfl rfl rfl ?_
  simp only [Act.put, List.setIfInBounds_toArray, List.set_cons_zero, List.set_cons_succ]
  refine wq_move _ rfl rfl ?_
  simp only [Act.put, List.setIfInBounds_toArray, List.set_cons_zero, List.set_cons_succ]
  refine wq_call 31 _ _ _ _ _ rfl rfl Try.func31 rfl (by kernel_rfl) (fun w' hC => hC.call (above_is ⟨#[97]⟩ ⟨#[97]⟩ w' (size_lit [97] (by simp)) (size_lit [97] (by simp)) false (aboveV_self _))) ?_
  simp only [Act.put, List.setIfInBounds_toArray, List.set_cons_zero, List.set_cons_succ]
  refine wq_not false _ _ rfl rfl rfl ?_
  simp only [Act.put, List.setIfInBounds_toArray, List.set_cons_zero, List.set_cons_succ]
  refine wq_pick true _ _ _ rfl rfl rfl ?_
  simp only [Act.put, List.setIfInBounds_toArray, List.set_cons_zero, List.set_cons_succ]
  refine wq_move _ rfl rfl ?_
  simp only [Act.put, List.setIfInBounds_toArray, List.set_cons_zero, List.set_cons_succ]
  refine wq_move _ rfl rfl ?_
  simp only [Act.put, List.setIfInBounds_toArray, List.set_cons_zero, List.set_cons_succ]
  refine wq_not false _ _ rfl rfl rfl ?_
  simp only [Act.put, List.setIfInBounds_toArray, List.set_cons_zero, List.set_cons_succ]
  refine wq_pick true _ _ _ rfl rfl rfl ?_
  simp only [Act.put, List.setIfInBounds_toArray, List.set_cons_zero, List.set_cons_succ]
  refine wq_assign _ rfl rfl ?_
  simp only [Act.put, List.setIfInBounds_toArray, List.set_cons_zero]
  refine wpQuiet_nil ?_
  intro w' hC
  go_wp2_with fail
  go_ret
  exact ⟨rfl, hC⟩
