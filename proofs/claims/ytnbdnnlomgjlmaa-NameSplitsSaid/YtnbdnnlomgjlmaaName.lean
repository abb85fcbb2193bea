/- The contracts of layer 14 (name): which names may be. -/
import Derived.Test.YtnbdnnlomgjlmaaQuiet
import Derived.Test.YtnbdnnlomgjlmaaCrc3
namespace Go.Proofs.Ytnbdnnlomgjlmaa
open Go.RowKit
def letterB (c : Int) : Bool := decide (97 ≤ c) && decide (c ≤ 122)
def mayB (c : Int) : Bool := letterB c || (decide (48 ≤ c) && decide (c ≤ 57)) || decide (c = 45) || decide (c = 95) || decide (c = 46)
theorem letter_is (c : Int) (r : Bool) (hr : letterB c = r) (w : World) : Calls Try.prog 55 #[.int .i32 c] w fun e w' => e = .returned (.bool r) ∧ w = w' := by
  have HR := Lib.hid hr
  clear hr
  by_cases h1 : 97 ≤ c
  · have d1 : decide ((97 : Int) ≤ c) = true := decide_eq_true h1
    by_cases h2 : c ≤ 122
    · have d2 : decide (c ≤ (122 : Int)) = true := decide_eq_true h2
      go_enter Try.func55, Try.ntmps55
      go_wp2
      go_ret
      exact ⟨by rw [← HR.out]; simp [letterB, h1, h2], rfl⟩
    · have d2 : decide (c ≤ (122 : Int)) = false := decide_eq_false h2
      go_enter Try.func55, Try.ntmps55
      go_wp2
      go_ret
      exact ⟨by rw [← HR.out]; simp [letterB, h1, h2], rfl⟩
  · have d1 : decide ((97 : Int) ≤ c) = false := decide_eq_false h1
    go_enter Try.func55, Try.ntmps55
    go_wp2
    go_ret
    exact ⟨by rw [← HR.out]; simp [letterB]; omega, rfl⟩
theorem may_is (c : Int) (r : Bool) (hr : mayB c = r) (w : World) : Calls Try.prog 54 #[.int .i32 c] w fun e w' => e = .returned (.bool r) ∧ w = w' := by
  unfold mayB at hr
  cases hl : letterB c with
  | true =>
    rw [hl] at hr
    simp at hr
    subst hr
    go_enter Try.func54, Try.ntmps54
    go_wp2_with (go_at_call 55; refine (letter_is _ true hl _).mono ?_; rintro e w' ⟨rfl, rfl⟩)
    go_ret
    exact ⟨rfl, rfl⟩
  | false =>
    rw [hl] at hr
    have HL := Lib.hid hl
    clear hl
    by_cases h1 : 48 ≤ c
    · have d1 : decide ((48 : Int) ≤ c) = true := decide_eq_true h1
      by_cases h2 : c ≤ 57
      · have d2 : decide (c ≤ (57 : Int)) = true := decide_eq_true h2
        simp [h1, h2] at hr
        subst hr
        go_enter Try.func54, Try.ntmps54
        go_wp2_with (go_at_call 55; refine (letter_is _ false HL.out _).mono ?_; rintro e w' ⟨rfl, rfl⟩)
        go_ret
        exact ⟨rfl, rfl⟩
      · have d2 : decide (c ≤ (57 : Int)) = false := decide_eq_false h2
        by_cases h3 : c = 95
        · subst h3
          simp at hr
          subst hr
          go_enter Try.func54, Try.ntmps54
          go_wp2_with (go_at_call 55; refine (letter_is _ false HL.out _).mono ?_; rintro e w' ⟨rfl, rfl⟩)
          go_ret
          exact ⟨rfl, rfl⟩
        · have e1 : (c == 45) = false := by simp; omega
          have e2 : (c == 95) = false := by simp; omega
          have e3 : (c == 46) = false := by simp; omega
          have hf : r = false := by rw [← hr]; simp; omega
          subst hf
          clear hr
          go_enter Try.func54, Try.ntmps54
          go_wp2_with (go_at_call 55; refine (letter_is _ false HL.out _).mono ?_; rintro e w' ⟨rfl, rfl⟩)
          go_ret
          exact ⟨rfl, rfl⟩
    · have d1 : decide ((48 : Int) ≤ c) = false := decide_eq_false h1
      by_cases h3 : c = 45
      · subst h3
        simp at hr
        subst hr
        go_enter Try.func54, Try.ntmps54
        go_wp2_with (go_at_call 55; refine (letter_is _ false HL.out _).mono ?_; rintro e w' ⟨rfl, rfl⟩)
        go_ret
        exact ⟨rfl, rfl⟩
      · by_cases h4 : c = 46
        · subst h4
          simp at hr
          subst hr
          go_enter Try.func54, Try.ntmps54
          go_wp2_with (go_at_call 55; refine (letter_is _ false HL.out _).mono ?_; rintro e w' ⟨rfl, rfl⟩)
          go_ret
          exact ⟨rfl, rfl⟩
        · have e1 : (c == 45) = false := by simp; omega
          have e2 : (c == 95) = false := by simp; omega
          have e3 : (c == 46) = false := by simp; omega
          have hf : r = false := by rw [← hr]; simp; omega
          subst hf
          clear hr
          go_enter Try.func54, Try.ntmps54
          go_wp2_with (go_at_call 55; refine (letter_is _ false HL.out _).mono ?_; rintro e w' ⟨rfl, rfl⟩)
          go_ret
          exact ⟨rfl, rfl⟩
