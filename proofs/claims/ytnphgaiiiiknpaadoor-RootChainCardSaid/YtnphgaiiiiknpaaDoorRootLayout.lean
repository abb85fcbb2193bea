/- The root layer: Layout, the program's and the document's. -/
import Derived.Test.YtnphgaiiiiknpaaDoorSteps
import Derived.Test.YtnphgaiiiiknpaaDoorHeld
import Derived.Test.YtnphgaiiiiknpaaDoorChecked
import Derived.Test.YtnphgaiiiiknpaaDoorAppend
namespace Go.Proofs.YtnphgaiiiiknpaaDoor
open Go.RowKit
set_option linter.unusedSimpArgs false
set_option linter.unusedVariables false
set_option maxRecDepth 100000
def upL (n per : Nat) : Nat := (n + per - 1) / per
def talL (n : Nat) : Nat := upL n 64
def picL (n : Nat) : Nat := upL (talL n) 1024
def firstL (n : Nat) : Nat := 2 + 2 * picL n + 2 * talL n
def planOk (n : Nat) : Bool := decide (64 ≤ n ∧ n ≤ 1048576)
def planC (n : Nat) : Array Value := if planOk n then #[.int .u32 (talL n : Int), .int .u32 (picL n : Int), .int .u32 (firstL n : Int)] else #[.int .u32 0, .int .u32 0, .int .u32 0]
def planE (n : Nat) : Int := if planOk n then 0 else 2
theorem upL_mod (n per : Nat) (hp : 0 < per) : upL n per = if n % per = 0 then n / per else n / per + 1 := by
  unfold upL
  have h := Nat.div_add_mod n per
  have h2 := Nat.mod_lt n hp
  generalize n / per = q at h ⊢
  generalize n % per = r at h h2 ⊢
  subst h
  split
  · rename_i h0
    subst h0
    rw [Nat.add_zero, show per * q + per - 1 = per - 1 + per * q by omega, Nat.add_mul_div_left _ _ hp, Nat.div_eq_of_lt (by omega), Nat.zero_add]
  · rw [show per * q + r + per - 1 = (r - 1) + per * (q + 1) by rw [Nat.mul_add]; omega, Nat.add_mul_div_left _ _ hp, Nat.div_eq_of_lt (by omega), Nat.zero_add]
set_option maxHeartbeats 1000000 in
theorem rup64_is (n : Nat) (h : n ≤ 1048576) (w : World) : Calls Tryd.prog 22 #[.int .u32 (n : Int), .int .u32 64] w fun e w' => e = .returned (.int .u32 (upL n 64 : Int)) ∧ w = w' := by
  have e1 : IntKind.u32.wrap ((n : Int) + 64) = (n : Int) + 64 := by rw [IntKind.wrap_u32]; omega
  have e2 : IntKind.u32.wrap ((n : Int) + 64 - 1) = (n : Int) + 64 - 1 := by rw [IntKind.wrap_u32]; omega
  have e3 : Int.tdiv ((n : Int) + 64 - 1) 64 = (upL n 64 : Int) := by rw [Int.tdiv_eq_ediv_of_nonneg (by omega)]; unfold upL; omega
  have e4 : IntKind.u32.wrap (upL n 64 : Int) = (upL n 64 : Int) := by rw [IntKind.wrap_u32]; unfold upL; omega
  go_enter Tryd.func22, Tryd.ntmps22
  go_wp2_with fail
  go_ret
  exact ⟨rfl, rfl⟩
set_option maxHeartbeats 1000000 in
theorem rup64_ref (n : Nat) (h : n ≤ 1048576) (w : World) : Calls Tryd.prog 23 #[.int .u32 (n : Int), .int .u32 64] w fun e w' => e = .returned (.int .u32 (upL n 64 : Int)) ∧ w = w' := by
  have hu := upL_mod n 64 (by omega)
  by_cases h0 : n % 64 = 0
  · rw [if_pos h0] at hu
    have e1 : Int.tmod (n : Int) 64 = 0 := by rw [Int.tmod_eq_emod_of_nonneg (by omega)]; omega
    have e2 : Int.tdiv (n : Int) 64 = (upL n 64 : Int) := by rw [Int.tdiv_eq_ediv_of_nonneg (by omega), hu]; omega
    have e3 : IntKind.u32.wrap (upL n 64 : Int) = (upL n 64 : Int) := by rw [IntKind.wrap_u32]; rw [hu]; omega
    have e4 : IntKind.u32.wrap 0 = 0 := by decide
    clear hu h0
    go_enter Tryd.func23, Tryd.ntmps23
    go_wp2_with fail
    go_ret
    exact ⟨rfl, rfl⟩
  · rw [if_neg h0] at hu
    obtain ⟨r, hr⟩ : ∃ r : Nat, r = n % 64 := ⟨_, rfl⟩
    obtain ⟨q, hq⟩ : ∃ q : Nat, q = n / 64 := ⟨_, rfl⟩
    have e1 : Int.tmod (n : Int) 64 = (r : Int) := by rw [Int.tmod_eq_emod_of_nonneg (by omega)]; omega
    have e2 : Int.tdiv (n : Int) 64 = (q : Int) := by rw [Int.tdiv_eq_ediv_of_nonneg (by omega)]; omega
    have e3 : IntKind.u32.wrap (q : Int) = (q : Int) := by rw [IntKind.wrap_u32]; omega
    have e4 : IntKind.u32.wrap (r : Int) = (r : Int) := by rw [IntKind.wrap_u32]; omega
    have e5 : IntKind.u32.wrap ((q : Int) + 1) = (upL n 64 : Int) := by rw [IntKind.wrap_u32, hu]; omega
    have e6 : ((r : Int) == 0) = false := by simp; omega
    clear hu h0 hr hq
    go_enter Tryd.func23, Tryd.ntmps23
    go_wp2_with fail
    go_ret
    exact ⟨rfl, rfl⟩
set_option maxHeartbeats 1000000 in
theorem rup1024_is (n : Nat) (h : n ≤ 1048576) (w : World) : Calls Tryd.prog 22 #[.int .u32 (n : Int), .int .u32 1024] w fun e w' => e = .returned (.int .u32 (upL n 1024 : Int)) ∧ w = w' := by
  have e1 : IntKind.u32.wrap ((n : Int) + 1024) = (n : Int) + 1024 := by rw [IntKind.wrap_u32]; omega
  have e2 : IntKind.u32.wrap ((n : Int) + 1024 - 1) = (n : Int) + 1024 - 1 := by rw [IntKind.wrap_u32]; omega
  have e3 : Int.tdiv ((n : Int) + 1024 - 1) 1024 = (upL n 1024 : Int) := by rw [Int.tdiv_eq_ediv_of_nonneg (by omega)]; unfold upL; omega
  have e4 : IntKind.u32.wrap (upL n 1024 : Int) = (upL n 1024 : Int) := by rw [IntKind.wrap_u32]; unfold upL; omega
  go_enter Tryd.func22, Tryd.ntmps22
  go_wp2_with fail
  go_ret
  exact ⟨rfl, rfl⟩
set_option maxHeartbeats 1000000 in
theorem rup1024_ref (n : Nat) (h : n ≤ 1048576) (w : World) : Calls Tryd.prog 23 #[.int .u32 (n : Int), .int .u32 1024] w fun e w' => e = .returned (.int .u32 (upL n 1024 : Int)) ∧ w = w' := by
  have hu := upL_mod n 1024 (by omega)
  by_cases h0 : n % 1024 = 0
  · rw [if_pos h0] at hu
    have e1 : Int.tmod (n : Int) 1024 = 0 := by rw [Int.tmod_eq_emod_of_nonneg (by omega)]; omega
    have e2 : Int.tdiv (n : Int) 1024 = (upL n 1024 : Int) := by rw [Int.tdiv_eq_ediv_of_nonneg (by omega), hu]; omega
    have e3 : IntKind.u32.wrap (upL n 1024 : Int) = (upL n 1024 : Int) := by rw [IntKind.wrap_u32]; rw [hu]; omega
    have e4 : IntKind.u32.wrap 0 = 0 := by decide
    clear hu h0
    go_enter Tryd.func23, Tryd.ntmps23
    go_wp2_with fail
    go_ret
    exact ⟨rfl, rfl⟩
  · rw [if_neg h0] at hu
    obtain ⟨r, hr⟩ : ∃ r : Nat, r = n % 1024 := ⟨_, rfl⟩
    obtain ⟨q, hq⟩ : ∃ q : Nat, q = n / 1024 := ⟨_, rfl⟩
    have e1 : Int.tmod (n : Int) 1024 = (r : Int) := by rw [Int.tmod_eq_emod_of_nonneg (by omega)]; omega
    have e2 : Int.tdiv (n : Int) 1024 = (q : Int) := by rw [Int.tdiv_eq_ediv_of_nonneg (by omega)]; omega
    have e3 : IntKind.u32.wrap (q : Int) = (q : Int) := by rw [IntKind.wrap_u32]; omega
    have e4 : IntKind.u32.wrap (r : Int) = (r : Int) := by rw [IntKind.wrap_u32]; omega
    have e5 : IntKind.u32.wrap ((q : Int) + 1) = (upL n 1024 : Int) := by rw [IntKind.wrap_u32, hu]; omega
    have e6 : ((r : Int) == 0) = false := by simp; omega
    clear hu h0 hr hq
    go_enter Tryd.func23, Tryd.ntmps23
    go_wp2_with fail
    go_ret
    exact ⟨rfl, rfl⟩
theorem talL_le {n : Nat} (h : n ≤ 1048576) : talL n ≤ 16384 := by unfold talL upL; omega
theorem picL_le {n : Nat} (h : n ≤ 1048576) : picL n ≤ 16 := by unfold picL talL upL; omega
theorem sizePlan : (Tryd.prog.info? 24).map (·.size) = some 3 := by kernel_rfl
theorem planC_yes {n : Nat} (h : 64 ≤ n ∧ n ≤ 1048576) : planC n = #[.int .u32 (talL n : Int), .int .u32 (picL n : Int), .int .u32 (firstL n : Int)] ∧ planE n = 0 := by
  unfold planC planE planOk
  rw [if_pos (decide_eq_true h), if_pos (decide_eq_true h)]; exact ⟨rfl, rfl⟩
theorem planC_no {n : Nat} (h : ¬ (64 ≤ n ∧ n ≤ 1048576)) : planC n = #[.int .u32 0, .int .u32 0, .int .u32 0] ∧ planE n = 2 := by
  unfold planC planE planOk
  rw [decide_eq_false h]; exact ⟨rfl, rfl⟩
set_option maxHeartbeats 1000000 in
theorem layout_is (n : Nat) (hn : n < 4294967296) (w : World) : Calls Tryd.prog 7 #[.int .u32 (n : Int)] w fun e w' => e = .returned (.tuple #[.agg (planC n), .int .i64 (planE n)]) ∧ Below w.heap.size w w' := by
  by_cases hok : 64 ≤ n ∧ n ≤ 1048576
  · rw [(planC_yes hok).1, (planC_yes hok).2]
    have HT := Lib.hid (rup64_is n hok.2)
    have HTR := Lib.hid (rup64_ref n hok.2)
    have ht : talL n = upL n 64 := rfl
    have hpic : picL n = upL (talL n) 1024 := rfl
    have hl1 := talL_le hok.2
    have hl2 := picL_le hok.2
    have HP := Lib.hid (rup1024_is (talL n) (by omega))
    have HPR := Lib.hid (rup1024_ref (talL n) (by omega))
    have hf : firstL n = 2 + 2 * picL n + 2 * talL n := rfl
    rw [← ht] at HT HTR
    rw [← hpic] at HP HPR
    obtain ⟨h1, h2⟩ := hok
    generalize talL n = tl at HT HTR HP HPR hl1 hl2 hf ⊢
    generalize picL n = pc at HP HPR hl2 hf ⊢
    generalize firstL n = fs at hf ⊢
    have hfi : (fs : Int) = 2 + 2 * (pc : Int) + 2 * (tl : Int) := by omega
    rw [hfi]
    clear ht hpic hfi
    have hq := (Held.start w).alloc #[.int .u32 0, .int .u32 0, .int .u32 0] 24
    obtain ⟨V0, hW⟩ : ∃ W, W = w.alloc (.cells #[.int .u32 0, .int .u32 0, .int .u32 0] 24) := ⟨_, rfl⟩
    obtain ⟨g, hg⟩ : ∃ g, g = w.heap.size := ⟨_, rfl⟩
    rw [← hW, ← hg] at hq
    have HW := Lib.hid hW
    have HG := Lib.hid hg
    have R0 := Lib.hid hq
    clear hq hW hg
    clear HTR HPR
    have e1 : IntKind.u32.wrap (2 * (pc : Int)) = 2 * (pc : Int) := by rw [IntKind.wrap_u32]; omega
    have e2 : IntKind.u32.wrap (2 + 2 * (pc : Int)) = 2 + 2 * (pc : Int) := by rw [IntKind.wrap_u32]; omega
    have e3 : IntKind.u32.wrap (2 * (tl : Int)) = 2 * (tl : Int) := by rw [IntKind.wrap_u32]; omega
    have e4 : IntKind.u32.wrap (2 + 2 * (pc : Int) + 2 * (tl : Int)) = 2 + 2 * (pc : Int) + 2 * (tl : Int) := by rw [IntKind.wrap_u32]; omega
    go_enter Tryd.func7, Tryd.ntmps7
    go_upto_region 1 with (fail)
    rw [← HW.out, ← HG.out]
    go_wp2_with fail
    refine (HT.out _).mono ?_
    rintro e w2 ⟨rfl, rfl⟩
    have q1 := R0.out.alloc #[.int .u32 (tl : Int), .int .u32 0, .int .u32 0] 24
    go_upto_region 4 with (fail)
    obtain ⟨W2, hW⟩ : ∃ W, W = V0.alloc (.cells #[.int .u32 (tl : Int), .int .u32 0, .int .u32 0] 24) := ⟨_, rfl⟩
    rw [← hW] at q1 ⊢
    clear hW
    obtain ⟨g4, hg⟩ : ∃ g, g = V0.heap.size := ⟨_, rfl⟩
    rw [← hg] at q1 ⊢
    clear hg
    have R1 := Lib.hid q1
    clear q1
    have hd0 := R1.out.cell 0 0 rfl (v := .int .u32 (tl : Int)) rfl
    go_wp2_with fail
    refine (HP.out _).mono ?_
    rintro e w3 ⟨rfl, rfl⟩
    have hd1 := R1.out.cell 0 1 rfl (v := .int .u32 0) rfl
    have hdf := R1.out.free 0 1 rfl
    have q1 := R1.out.setCell 0 1 (.int .u32 (pc : Int)) rfl
    go_upto_region 5 with (fail)
    simp only [List.set_cons_zero] at q1
    obtain ⟨W3, hW⟩ : ∃ V, V = W2.setCell ⟨g4, 1, none⟩ (.int .u32 (pc : Int)) := ⟨_, rfl⟩
    rw [← hW] at q1 ⊢
    have R2 := Lib.hid q1
    clear q1 hW hd0 hd1 hdf R1
    have hd0 := R2.out.cell 0 0 rfl (v := .int .u32 (tl : Int)) rfl
    have hd1 := R2.out.cell 0 1 rfl (v := .int .u32 (pc : Int)) rfl
    have hd2 := R2.out.cell 0 2 rfl (v := .int .u32 0) rfl
    have hdf := R2.out.free 0 2 rfl
    have q1 := R2.out.setCell 0 2 (.int .u32 (2 + 2 * (pc : Int) + 2 * (tl : Int))) rfl
    go_upto_region 6 with (fail)
    simp only [List.set_cons_zero] at q1
    obtain ⟨W4, hW⟩ : ∃ V, V = W3.setCell ⟨g4, 2, none⟩ (.int .u32 (2 + 2 * (pc : Int) + 2 * (tl : Int))) := ⟨_, rfl⟩
    rw [← hW] at q1 ⊢
    have R3 := Lib.hid q1
    clear q1 hW hd0 hd1 hd2 hdf R2
    have hd0 := R3.out.cell 0 0 rfl (v := .int .u32 (tl : Int)) rfl
    have hd1 := R3.out.cell 0 1 rfl (v := .int .u32 (pc : Int)) rfl
    have hd2 := R3.out.cell 0 2 rfl (v := .int .u32 (2 + 2 * (pc : Int) + 2 * (tl : Int))) rfl
    have hc0 := R3.out.cell 1 0 rfl rfl
    have hc1 := R3.out.cell 1 1 rfl rfl
    have hc2 := R3.out.cell 1 2 rfl rfl
    have hf0 := R3.out.free 1 0 rfl
    have hf1 := R3.out.free 1 1 rfl
    have hf2 := R3.out.free 1 2 rfl
    go_wp2_with fail
    have R9 := ((R3.out.setCell 1 0 (.int .u32 (tl : Int)) rfl).setCell 1 1 (.int .u32 (pc : Int)) rfl).setCell 1 2 (.int .u32 (2 + 2 * (pc : Int) + 2 * (tl : Int))) rfl
    refine bodyPost_ret (v := .tuple #[.agg #[.int .u32 (tl : Int), .int .u32 (pc : Int), .int .u32 (2 + 2 * (pc : Int) + 2 * (tl : Int))], .int .i64 0]) (results_cell_slot rfl _ _ g 24 _ (0, 0) _ _ rfl rfl (R9.get 1 rfl) Tryd.underlying24 rfl sizePlan) rfl ⟨rfl, R9.below⟩
  · rw [(planC_no hok).1, (planC_no hok).2]
    have hq := (Held.start w).alloc #[.int .u32 0, .int .u32 0, .int .u32 0] 24
    obtain ⟨V0, hW⟩ : ∃ W, W = w.alloc (.cells #[.int .u32 0, .int .u32 0, .int .u32 0] 24) := ⟨_, rfl⟩
    obtain ⟨g, hg⟩ : ∃ g, g = w.heap.size := ⟨_, rfl⟩
    rw [← hW, ← hg] at hq
    have HW := Lib.hid hW
    have HG := Lib.hid hg
    have R0 := Lib.hid hq
    clear hq hW hg
    have hc0 := R0.out.cell 0 0 rfl rfl
    have hc1 := R0.out.cell 0 1 rfl rfl
    have hc2 := R0.out.cell 0 2 rfl rfl
    have hf0 := R0.out.free 0 0 rfl
    have hf1 := R0.out.free 0 1 rfl
    have hf2 := R0.out.free 0 2 rfl
    go_enter Tryd.func7, Tryd.ntmps7
    go_upto_region 1 with (fail)
    rw [← HW.out, ← HG.out]
    by_cases h1 : n < 64
    · have h1' : decide ((n : Int) < 64) = true := by simp; omega
      go_wp2_with fail
      have R9 := ((R0.out.setCell 0 0 (.int .u32 0) rfl).setCell 0 1 (.int .u32 0) rfl).setCell 0 2 (.int .u32 0) rfl
      refine bodyPost_ret (v := .tuple #[.agg #[.int .u32 0, .int .u32 0, .int .u32 0], .int .i64 2]) (results_cell_slot rfl _ _ g 24 _ (0, 0) _ _ rfl rfl (R9.get 0 rfl) Tryd.underlying24 rfl sizePlan) rfl ⟨rfl, R9.below⟩
    · have h1' : decide ((n : Int) < 64) = false := by simp; omega
      have h2' : decide ((1048576 : Int) < (n : Int)) = true := by simp; omega
      go_wp2_with fail
      have R9 := ((R0.out.setCell 0 0 (.int .u32 0) rfl).setCell 0 1 (.int .u32 0) rfl).setCell 0 2 (.int .u32 0) rfl
      refine bodyPost_ret (v := .tuple #[.agg #[.int .u32 0, .int .u32 0, .int .u32 0], .int .i64 2]) (results_cell_slot rfl _ _ g 24 _ (0, 0) _ _ rfl rfl (R9.get 0 rfl) Tryd.underlying24 rfl sizePlan) rfl ⟨rfl, R9.below⟩
set_option maxHeartbeats 1000000 in
theorem layout_ref (n : Nat) (hn : n < 4294967296) (w : World) : Calls Tryd.prog 8 #[.int .u32 (n : Int)] w fun e w' => e = .returned (.tuple #[.agg (planC n), .int .i64 (planE n)]) ∧ Below w.heap.size w w' := by
  by_cases hok : 64 ≤ n ∧ n ≤ 1048576
  · rw [(planC_yes hok).1, (planC_yes hok).2]
    have HT := Lib.hid (rup64_is n hok.2)
    have HTR := Lib.hid (rup64_ref n hok.2)
    have ht : talL n = upL n 64 := rfl
    have hpic : picL n = upL (talL n) 1024 := rfl
    have hl1 := talL_le hok.2
    have hl2 := picL_le hok.2
    have HP := Lib.hid (rup1024_is (talL n) (by omega))
    have HPR := Lib.hid (rup1024_ref (talL n) (by omega))
    have hf : firstL n = 2 + 2 * picL n + 2 * talL n := rfl
    rw [← ht] at HT HTR
    rw [← hpic] at HP HPR
    obtain ⟨h1, h2⟩ := hok
    generalize talL n = tl at HT HTR HP HPR hl1 hl2 hf ⊢
    generalize picL n = pc at HP HPR hl2 hf ⊢
    generalize firstL n = fs at hf ⊢
    have hfi : (fs : Int) = 2 + 2 * (pc : Int) + 2 * (tl : Int) := by omega
    rw [hfi]
    clear ht hpic hfi
    have hq := (Held.start w).alloc #[.int .u32 0, .int .u32 0, .int .u32 0] 24
    obtain ⟨V0, hW⟩ : ∃ W, W = w.alloc (.cells #[.int .u32 0, .int .u32 0, .int .u32 0] 24) := ⟨_, rfl⟩
    obtain ⟨g, hg⟩ : ∃ g, g = w.heap.size := ⟨_, rfl⟩
    rw [← hW, ← hg] at hq
    have HW := Lib.hid hW
    have HG := Lib.hid hg
    have R0 := Lib.hid hq
    clear hq hW hg
    clear HT HP
    have e1 : IntKind.u32.wrap (2 * (pc : Int)) = 2 * (pc : Int) := by rw [IntKind.wrap_u32]; omega
    have e2 : IntKind.u32.wrap (2 + 2 * (pc : Int)) = 2 + 2 * (pc : Int) := by rw [IntKind.wrap_u32]; omega
    have e3 : IntKind.u32.wrap (2 * (tl : Int)) = 2 * (tl : Int) := by rw [IntKind.wrap_u32]; omega
    have e4 : IntKind.u32.wrap (2 + 2 * (pc : Int) + 2 * (tl : Int)) = 2 + 2 * (pc : Int) + 2 * (tl : Int) := by rw [IntKind.wrap_u32]; omega
    go_enter Tryd.func8, Tryd.ntmps8
    go_upto_region 1 with (fail)
    rw [← HW.out, ← HG.out]
    go_wp2_with fail
    refine (HTR.out _).mono ?_
    rintro e w2 ⟨rfl, rfl⟩
    go_wp2_with fail
    refine (HPR.out _).mono ?_
    rintro e w3 ⟨rfl, rfl⟩
    have hc0 := R0.out.cell 0 0 rfl rfl
    have hc1 := R0.out.cell 0 1 rfl rfl
    have hc2 := R0.out.cell 0 2 rfl rfl
    have hf0 := R0.out.free 0 0 rfl
    have hf1 := R0.out.free 0 1 rfl
    have hf2 := R0.out.free 0 2 rfl
    go_wp2_with fail
    have R9 := ((R0.out.setCell 0 0 (.int .u32 (tl : Int)) rfl).setCell 0 1 (.int .u32 (pc : Int)) rfl).setCell 0 2 (.int .u32 (2 + 2 * (pc : Int) + 2 * (tl : Int))) rfl
    refine bodyPost_ret (v := .tuple #[.agg #[.int .u32 (tl : Int), .int .u32 (pc : Int), .int .u32 (2 + 2 * (pc : Int) + 2 * (tl : Int))], .int .i64 0]) (results_cell_slot rfl _ _ g 24 _ (0, 0) _ _ rfl rfl (R9.get 0 rfl) Tryd.underlying24 rfl sizePlan) rfl ⟨rfl, R9.below⟩
  · rw [(planC_no hok).1, (planC_no hok).2]
    have hq := (Held.start w).alloc #[.int .u32 0, .int .u32 0, .int .u32 0] 24
    obtain ⟨V0, hW⟩ : ∃ W, W = w.alloc (.cells #[.int .u32 0, .int .u32 0, .int .u32 0] 24) := ⟨_, rfl⟩
    obtain ⟨g, hg⟩ : ∃ g, g = w.heap.size := ⟨_, rfl⟩
    rw [← hW, ← hg] at hq
    have HW := Lib.hid hW
    have HG := Lib.hid hg
    have R0 := Lib.hid hq
    clear hq hW hg
    have hc0 := R0.out.cell 0 0 rfl rfl
    have hc1 := R0.out.cell 0 1 rfl rfl
    have hc2 := R0.out.cell 0 2 rfl rfl
    have hf0 := R0.out.free 0 0 rfl
    have hf1 := R0.out.free 0 1 rfl
    have hf2 := R0.out.free 0 2 rfl
    go_enter Tryd.func8, Tryd.ntmps8
    go_upto_region 1 with (fail)
    rw [← HW.out, ← HG.out]
    by_cases h1 : n < 64
    · have h1' : decide ((n : Int) < 64) = true := by simp; omega
      go_wp2_with fail
      have R9 := ((R0.out.setCell 0 0 (.int .u32 0) rfl).setCell 0 1 (.int .u32 0) rfl).setCell 0 2 (.int .u32 0) rfl
      refine bodyPost_ret (v := .tuple #[.agg #[.int .u32 0, .int .u32 0, .int .u32 0], .int .i64 2]) (results_cell_slot rfl _ _ g 24 _ (0, 0) _ _ rfl rfl (R9.get 0 rfl) Tryd.underlying24 rfl sizePlan) rfl ⟨rfl, R9.below⟩
    · have h1' : decide ((n : Int) < 64) = false := by simp; omega
      have h2' : decide ((1048576 : Int) < (n : Int)) = true := by simp; omega
      go_wp2_with fail
      have R9 := ((R0.out.setCell 0 0 (.int .u32 0) rfl).setCell 0 1 (.int .u32 0) rfl).setCell 0 2 (.int .u32 0) rfl
      refine bodyPost_ret (v := .tuple #[.agg #[.int .u32 0, .int .u32 0, .int .u32 0], .int .i64 2]) (results_cell_slot rfl _ _ g 24 _ (0, 0) _ _ rfl rfl (R9.get 0 rfl) Tryd.underlying24 rfl sizePlan) rfl ⟨rfl, R9.below⟩
end Go.Proofs.YtnphgaiiiiknpaaDoor
