import Derived.Test.YtnbdnnlomgjlmaaName3
namespace Go.Proofs.Ytnbdnnlomgjlmaa
open Go.RowKit
def cmpV (a b : List UInt8) : Int := if Op.bytesLess a b then -1 else if a = b then 0 else 1
theorem isnan_any (s : ByteArray) (w : World) : Calls Try.prog 82 #[.string s] w fun e w' => e = .returned (.bool false) ∧ w = w' := by
  go_enter Try.func82, Try.ntmps82
  go_wp2
  go_ret
  exact ⟨by simp, rfl⟩
theorem cmpcompare_any (a b : ByteArray) (w : World) : Calls Try.prog 57 #[.string a, .string b] w fun e w' => e = .returned (.int .i64 (cmpV a.data.toList b.data.toList)) ∧ w = w' := by
  have ea := ByteArray.toList_eq a
  have eb := ByteArray.toList_eq b
  cases hl : Op.bytesLess a.toList b.toList with
  | true =>
    have HV := Lib.hid (show cmpV a.data.toList b.data.toList = -1 from by unfold cmpV; rw [← ea, ← eb, hl]; rfl)
    clear ea eb
    go_enter Try.func57, Try.ntmps57
    go_wp2_with (go_at_call 82; refine (isnan_any _ _).mono ?_; rintro e w' ⟨rfl, rfl⟩)
    go_ret
    exact ⟨by rw [HV.out]; rfl, rfl⟩
  | false =>
    cases he : (a.toList == b.toList) with
    | true =>
      have HV := Lib.hid (show cmpV a.data.toList b.data.toList = 0 from by
        unfold cmpV; rw [← ea, ← eb, hl, if_neg (by simp), if_pos (by simpa using he)])
      clear ea eb
      go_enter Try.func57, Try.ntmps57
      go_wp2_with (go_at_call 82; refine (isnan_any _ _).mono ?_; rintro e w' ⟨rfl, rfl⟩)
      go_ret
      exact ⟨by rw [HV.out]; rfl, rfl⟩
    | false =>
      have HV := Lib.hid (show cmpV a.data.toList b.data.toList = 1 from by
        unfold cmpV; rw [← ea, ← eb, hl, if_neg (by simp), if_neg (by simpa using he)])
      clear ea eb
      go_enter Try.func57, Try.ntmps57
      go_wp2_with (go_at_call 82; refine (isnan_any _ _).mono ?_; rintro e w' ⟨rfl, rfl⟩)
      go_ret
      exact ⟨by rw [HV.out]; rfl, rfl⟩
theorem compare_any (a b : ByteArray) (w : World) : Calls Try.prog 28 #[.string a, .string b] w fun e w' => e = .returned (.int .i64 (cmpV a.data.toList b.data.toList)) ∧ w = w' := by
  go_enter Try.func28, Try.ntmps28
  go_wp2_with (go_at_call 57; refine (cmpcompare_any _ _ _).mono ?_; rintro e w' ⟨rfl, rfl⟩)
  go_ret
  exact ⟨rfl, rfl⟩
