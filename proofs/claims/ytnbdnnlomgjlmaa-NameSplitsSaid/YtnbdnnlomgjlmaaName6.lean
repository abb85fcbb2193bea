import Derived.Test.YtnbdnnlomgjlmaaName5
namespace Go.Proofs.Ytnbdnnlomgjlmaa
open Go.RowKit
def aboveV (a b : List UInt8) : Bool := decide ((Crc.sum b).toNat < (Crc.sum a).toNat) || (decide ((Crc.sum a).toNat = (Crc.sum b).toNat) && decide (cmpV a b < 0))
set_option maxHeartbeats 400000 in
theorem above_any (a b : ByteArray) (w : World) (ha : a.size ≤ maxLen) (hb : b.size ≤ maxLen) : Calls Try.prog 31 #[.string a, .string b] w fun e w' => e = .returned (.bool (aboveV a.data.toList b.data.toList)) ∧ Below w.heap.size w w' := by
  obtain ⟨p, hp⟩ : ∃ p : Nat, p = (Crc.sum a.data.toList).toNat := ⟨_, rfl⟩
  obtain ⟨q, hq⟩ : ∃ q : Nat, q = (Crc.sum b.data.toList).toNat := ⟨_, rfl⟩
  have HA := Lib.hid (show aboveV a.data.toList b.data.toList = (decide (q < p) || (decide (p = q) && decide (cmpV a.data.toList b.data.toList < 0))) from by rw [hp, hq]; rfl)
  have cp : ∀ w : World, Calls Try.prog 30 #[.string a] w fun e w' => e = .returned (.int .u32 (p : Int)) ∧ Below w.heap.size w w' := fun w => hp ▸ priority_any a w ha
  have cq : ∀ w : World, Calls Try.prog 30 #[.string b] w fun e w' => e = .returned (.int .u32 (q : Int)) ∧ Below w.heap.size w w' := fun w => hq ▸ priority_any b w hb
  have CP := Lib.hid cp
  have CQ := Lib.hid cq
  clear cp cq hp hq
  by_cases hne : p = q
  · subst hne
    have hcc : ((p : Int) != (p : Int)) = false := by simp
    by_cases hc : cmpV a.data.toList b.data.toList < 0
    · have dc : decide (cmpV a.data.toList b.data.toList < 0) = true := decide_eq_true hc
      have HW := Lib.hid (HA.out.trans (show _ = true from by rw [dc]; simp))
      go_enter Try.func31, Try.ntmps31
      go_wp2_with fail
      refine (CP.out _).mono ?_
      rintro e w1 ⟨rfl, hb1⟩
      go_wp2_with fail
      refine (CQ.out _).mono ?_
      rintro e w2 ⟨rfl, hb2⟩
      go_wp2_with (go_at_call 28; refine (compare_any _ _ _).mono ?_; rintro e w' ⟨rfl, rfl⟩)
      go_ret
      exact ⟨by rw [HW.out]; simp, hb1.trans (hb2.mono hb1.size)⟩
    · have dc : decide (cmpV a.data.toList b.data.toList < 0) = false := decide_eq_false hc
      have HW := Lib.hid (HA.out.trans (show _ = false from by rw [dc]; simp))
      go_enter Try.func31, Try.ntmps31
      go_wp2_with fail
      refine (CP.out _).mono ?_
      rintro e w1 ⟨rfl, hb1⟩
      go_wp2_with fail
      refine (CQ.out _).mono ?_
      rintro e w2 ⟨rfl, hb2⟩
      go_wp2_with (go_at_call 28; refine (compare_any _ _ _).mono ?_; rintro e w' ⟨rfl, rfl⟩)
      go_ret
      exact ⟨by rw [HW.out]; simp, hb1.trans (hb2.mono hb1.size)⟩
  · have hcc : ((p : Int) != (q : Int)) = true := by simp; omega
    have HW := Lib.hid (HA.out.trans (show _ = decide ((q : Int) < (p : Int)) from by
      rw [decide_eq_false hne]; simp))
    clear hne
    go_enter Try.func31, Try.ntmps31
    go_wp2_with fail
    refine (CP.out _).mono ?_
    rintro e w1 ⟨rfl, hb1⟩
    go_wp2_with fail
    refine (CQ.out _).mono ?_
    rintro e w2 ⟨rfl, hb2⟩
    go_wp2_with fail
    go_ret
    exact ⟨by rw [HW.out]; simp, hb1.trans (hb2.mono hb1.size)⟩
set_option maxHeartbeats 400000 in
theorem refabove_any (a b : ByteArray) (w : World) (ha : a.size ≤ maxLen) (hb : b.size ≤ maxLen) : Calls Try.prog 32 #[.string a, .string b] w fun e w' => e = .returned (.bool (aboveV a.data.toList b.data.toList)) ∧ Below w.heap.size w w' := by
  obtain ⟨p, hp⟩ : ∃ p : Nat, p = (Crc.sum a.data.toList).toNat := ⟨_, rfl⟩
  obtain ⟨q, hq⟩ : ∃ q : Nat, q = (Crc.sum b.data.toList).toNat := ⟨_, rfl⟩
  have HA := Lib.hid (show aboveV a.data.toList b.data.toList = (decide (q < p) || (decide (p = q) && decide (cmpV a.data.toList b.data.toList < 0))) from by rw [hp, hq]; rfl)
  have cp : ∀ w : World, Calls Try.prog 17 #[.string a] w fun e w' => e = .returned (.int .u32 (p : Int)) ∧ Below w.heap.size w w' := fun w => hp ▸ refsum_any a w ha
  have cq : ∀ w : World, Calls Try.prog 17 #[.string b] w fun e w' => e = .returned (.int .u32 (q : Int)) ∧ Below w.heap.size w w' := fun w => hq ▸ refsum_any b w hb
  have CP := Lib.hid cp
  have CQ := Lib.hid cq
  clear cp cq hp hq
  by_cases hlt : q < p
  · have dl : decide ((q : Int) < (p : Int)) = true := by simp; omega
    have HW := Lib.hid (HA.out.trans (show _ = true from by rw [decide_eq_true hlt]; rfl))
    go_enter Try.func32, Try.ntmps32
    go_wp2_with fail
    refine (CP.out _).mono ?_
    rintro e w1 ⟨rfl, hb1⟩
    go_wp2_with fail
    refine (CQ.out _).mono ?_
    rintro e w2 ⟨rfl, hb2⟩
    go_wp2_with fail
    go_ret
    exact ⟨by rw [HW.out]; simp, hb1.trans (hb2.mono hb1.size)⟩
  · have dl : decide ((q : Int) < (p : Int)) = false := by simp; omega
    by_cases hne : p = q
    · subst hne
      have dc : ((p : Int) == (p : Int)) = true := by simp
      have HW := Lib.hid (HA.out.trans (show _ = decide (cmpV a.data.toList b.data.toList < 0) from by simp))
      go_enter Try.func32, Try.ntmps32
      go_wp2_with fail
      refine (CP.out _).mono ?_
      rintro e w1 ⟨rfl, hb1⟩
      go_wp2_with fail
      refine (CQ.out _).mono ?_
      rintro e w2 ⟨rfl, hb2⟩
      go_wp2_with fail
      refine (refcompare_any _ _ _ ha hb).mono ?_
      rintro e w3 ⟨rfl, hb3⟩
      go_wp2_with fail
      go_ret
      exact ⟨by rw [HW.out]; simp, (hb1.trans (hb2.mono hb1.size)).trans (hb3.mono (hb1.trans (hb2.mono hb1.size)).size)⟩
    · have dc : ((p : Int) == (q : Int)) = false := by simp; omega
      have HW := Lib.hid (HA.out.trans (show _ = false from by rw [decide_eq_false hlt, decide_eq_false hne]; rfl))
      clear hne
      go_enter Try.func32, Try.ntmps32
      go_wp2_with fail
      refine (CP.out _).mono ?_
      rintro e w1 ⟨rfl, hb1⟩
      go_wp2_with fail
      refine (CQ.out _).mono ?_
      rintro e w2 ⟨rfl, hb2⟩
      go_wp2_with fail
      go_ret
      exact ⟨by rw [HW.out]; simp, hb1.trans (hb2.mono hb1.size)⟩
