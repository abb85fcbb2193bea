import Derived.Test.YtnbdnnlomgjlmaaName4
namespace Go.Proofs.Ytnbdnnlomgjlmaa
open Go.RowKit
theorem less_nil (x : List UInt8) : Op.bytesLess x [] = false := by cases x <;> rfl
theorem less_prefix : ∀ (p x y : List UInt8), Op.bytesLess (p ++ x) (p ++ y) = Op.bytesLess x y
  | [], _, _ => rfl
  | c :: p, x, y => by
    simp only [List.cons_append, Op.bytesLess]
    rw [less_prefix p x y]
    simp
theorem cmp_prefix (p x y : List UInt8) : cmpV (p ++ x) (p ++ y) = cmpV x y := by
  unfold cmpV
  rw [less_prefix]; simp
theorem cmp_at (a b : List UInt8) (k : Nat) (h : a.take k = b.take k) (ha : k < a.length) (hb : k < b.length) (hne : a[k] ≠ b[k]) : cmpV a b = if a[k].toNat < b[k].toNat then -1 else 1 := by
  have ea : a = a.take k ++ (a[k] :: a.drop (k + 1)) := by rw [← List.drop_eq_getElem_cons ha, List.take_append_drop]
  have eb : b = a.take k ++ (b[k] :: b.drop (k + 1)) := by rw [h, ← List.drop_eq_getElem_cons hb, List.take_append_drop]
  have e : cmpV a b = cmpV (a[k] :: a.drop (k + 1)) (b[k] :: b.drop (k + 1)) := by
    conv => lhs; rw [ea, eb]
    exact cmp_prefix _ _ _
  rw [e]
  unfold cmpV
  simp only [Op.bytesLess]
  have h1 : (a[k] == b[k]) = false := by simpa using hne
  simp only [h1, Bool.false_and, Bool.or_false, decide_eq_true_eq, UInt8.lt_iff_toNat_lt]
  have h2 : ¬ (a[k] :: a.drop (k + 1)) = (b[k] :: b.drop (k + 1)) := fun h => hne (List.cons.inj h).1
  rw [if_neg h2]
theorem cmp_end (a b : List UInt8) (k : Nat) (h : a.take k = b.take k) (ha : k ≤ a.length) (hb : k ≤ b.length) (he : k = a.length ∨ k = b.length) :
    cmpV a b = if a.length = b.length then 0 else if a.length < b.length then -1 else 1 := by
  have ea : a = a.take k ++ a.drop k := (List.take_append_drop k a).symm
  have eb : b = a.take k ++ b.drop k := by rw [h]; exact (List.take_append_drop k b).symm
  have e : cmpV a b = cmpV (a.drop k) (b.drop k) := by
    conv => lhs; rw [ea, eb]
    exact cmp_prefix _ _ _
  rw [e]
  have la : (a.drop k).length = a.length - k := by simp
  have lb : (b.drop k).length = b.length - k := by simp
  generalize a.drop k = x at la ⊢
  generalize b.drop k = y at lb ⊢
  unfold cmpV
  cases x with
  | nil =>
    cases y with
    | nil => simp at la lb; rw [if_neg (by simp [Op.bytesLess]), if_pos rfl, if_pos (by omega)]
    | cons d y => simp at la lb; rw [if_pos (by rfl), if_neg (by omega), if_pos (by omega)]
  | cons c x =>
    cases y with
    | nil => simp at la lb; rw [less_nil, if_neg (by simp), if_neg (by simp), if_neg (by omega), if_neg (by omega)]
    | cons d y => simp at la lb; omega
set_option maxHeartbeats 400000 in
theorem refcompare_any (a b : ByteArray) (w : World) (ha : a.size ≤ maxLen) (hb : b.size ≤ maxLen) : Calls Try.prog 29 #[.string a, .string b] w fun e w' => e = .returned (.int .i64 (cmpV a.data.toList b.data.toList)) ∧ Below w.heap.size w w' := by
  have ha' : a.size ≤ 9223372036854775807 := ha
  have hb' : b.size ≤ 9223372036854775807 := hb
  have LA := Lib.hid (show a.data.toList.length = a.size from by simp)
  have LB := Lib.hid (show b.data.toList.length = b.size from by simp)
  go_enter Try.func29, Try.ntmps29
  go_wp2_with fail
  go_loopw [4, 5] (fun _ i wr => ∃ k : Nat, k ≤ a.size ∧ k ≤ b.size ∧ i = .int .i64 k ∧ a.data.toList.take k = b.data.toList.take k ∧ ∃ n, wr = w.drewN n) (fun _ i _ => a.size - (intOf i).toNat)
  case atStart => exact ⟨0, by omega, by omega, rfl, by simp, 0, rfl⟩
  case round =>
    obtain ⟨k, hka, hkb, rfl, hpre, n, rfl⟩ := hrel
    have HP := Lib.hid hpre
    clear hpre
    by_cases h1 : k < a.size
    · have d1 : decide ((k : Int) < (a.size : Int)) = true := by simp; omega
      by_cases h2 : k < b.size
      · have d2 : decide ((k : Int) < (b.size : Int)) = true := by simp; omega
        by_cases hc : a[k] = b[k]
        · have hcc : ((a[k].toNat : Int) != (b[k].toNat : Int)) = false := by simp [hc]
          have HN := Lib.hid (show a.data.toList.take (k + 1) = b.data.toList.take (k + 1) from by
            rw [List.take_succ_eq_append_getElem (by rw [LA.out]; exact h1), List.take_succ_eq_append_getElem (by rw [LB.out]; exact h2), HP.out]
            exact congrArg (fun z => b.data.toList.take k ++ [z]) hc)
          clear hc
          go_wp2_with fail
          go_quiet (fail)
          go_wp2_with fail
          go_roundw
          case rel => exact ⟨k + 1, by omega, by omega, by go_num, HN.out, _, rfl⟩
          case measure => simp [intOf]; omega
        · have hcc : ((a[k].toNat : Int) != (b[k].toNat : Int)) = true := by
            rw [bne_iff_ne]
            intro h
            exact hc (UInt8.toNat_inj.1 (by omega))
          have HV := Lib.hid (cmp_at a.data.toList b.data.toList k HP.out (by rw [LA.out]; exact h1) (by rw [LB.out]; exact h2) hc)
          clear hc
          by_cases hlt : a[k].toNat < b[k].toNat
          · have dl : decide ((a[k].toNat : Int) < (b[k].toNat : Int)) = true := by simp; omega
            have HW := Lib.hid (HV.out.trans (if_pos hlt))
            go_wp2_with fail
            go_quiet (fail)
            go_wp2_with fail
            go_quiet (fail)
            go_wp2_with fail
            go_ret
            exact ⟨by rw [HW.out]; rfl, below_drewN (below_drewN (below_drewN (Below.refl _ _) _) _) _⟩
          · have dl : decide ((a[k].toNat : Int) < (b[k].toNat : Int)) = false := by simp; omega
            have HW := Lib.hid (HV.out.trans (if_neg hlt))
            go_wp2_with fail
            go_quiet (fail)
            go_wp2_with fail
            go_quiet (fail)
            go_wp2_with fail
            go_ret
            exact ⟨by rw [HW.out]; rfl, below_drewN (below_drewN (below_drewN (Below.refl _ _) _) _) _⟩
      · have d2 : decide ((k : Int) < (b.size : Int)) = false := by simp; omega
        have HV := Lib.hid (cmp_end a.data.toList b.data.toList k HP.out (by rw [LA.out]; omega) (by rw [LB.out]; omega) (.inr (by rw [LB.out]; omega)))
        have HW := Lib.hid (show cmpV a.data.toList b.data.toList = 1 from by rw [HV.out, LA.out, LB.out, if_neg (by omega), if_neg (by omega)])
        have d3 : ((a.size : Int) == (b.size : Int)) = false := by simp; omega
        have d4 : decide ((a.size : Int) < (b.size : Int)) = false := by simp; omega
        go_wp2_with fail
        all_goals
          go_ret
          exact ⟨by rw [HW.out]; rfl, below_drewN (Below.refl _ _) _⟩
    · have d1 : decide ((k : Int) < (a.size : Int)) = false := by simp; omega
      have HV := Lib.hid (cmp_end a.data.toList b.data.toList k HP.out (by rw [LA.out]; omega) (by rw [LB.out]; omega) (.inl (by rw [LA.out]; omega)))
      by_cases he : a.size = b.size
      · have HW := Lib.hid (show cmpV a.data.toList b.data.toList = 0 from by rw [HV.out, LA.out, LB.out, if_pos he])
        have d3 : ((a.size : Int) == (b.size : Int)) = true := by simp; omega
        clear he
        go_wp2_with fail
        go_ret
        exact ⟨by rw [HW.out]; rfl, below_drewN (Below.refl _ _) _⟩
      · have HW := Lib.hid (show cmpV a.data.toList b.data.toList = -1 from by rw [HV.out, LA.out, LB.out, if_neg he, if_pos (by omega)])
        have d3 : ((a.size : Int) == (b.size : Int)) = false := by simp; omega
        have d4 : decide ((a.size : Int) < (b.size : Int)) = true := by simp; omega
        have hlt' : a.size < b.size := by omega
        clear he
        go_wp2_with fail
        go_ret
        exact ⟨by rw [HW.out]; rfl, below_drewN (Below.refl _ _) _⟩
theorem priority_any (s : ByteArray) (w : World) (hs : s.size ≤ maxLen) : Calls Try.prog 30 #[.string s] w fun e w' => e = .returned (.int .u32 ((Crc.sum s.data.toList).toNat : Int)) ∧ Below w.heap.size w w' := by
  go_enter Try.func30, Try.ntmps30
  go_wp2_with (go_at_call 16; refine (sum_any _ _ hs).mono ?_; rintro e w1 ⟨rfl, hb1⟩)
  go_ret
  exact ⟨rfl, hb1⟩
