/- NameTells: which names may be, their order, their priorities, and which stands above which, are the document's: the law returns true for every two texts. -/
import Derived.Test.YtnbdnnlomgjlmaaName7
namespace Go.Proofs.Ytnbdnnlomgjlmaa
open Go.RowKit
set_option maxRecDepth 100000 in
theorem nametells_any (a b : ByteArray) (ha : a.size ≤ maxLen) (hb : b.size ≤ maxLen) (w : World) : Calls Try.prog 7 #[.string a, .string b] w fun e w' => e = .returned (.bool true) ∧ Below w.heap.size w w' := by
  have HA := Lib.hid ha
  have HB := Lib.hid hb
  clear ha hb
  have HW : Below w.heap.size w (w.alloc (.cells #[.string a, .string b] 9)) := (Below.refl _ _).alloc (Nat.le_refl _) _
  have HC := Lib.hid (show ∀ i, i < 2 → (w.alloc (.cells #[.string a, .string b] 9)).cell? ⟨w.heap.size, 0 + i, none⟩ = some (.string ((fun i => if i = 0 then a else b) i)) from fun i hi => by
    rw [World.cell?_alloc_new]
    match i, hi with
    | 0, _ | 1, _ => rfl)
  go_enter Try.func7, Try.ntmps7
  go_wp2_with fail
  refine (great_any _ _ _ _ _ _ (by decide) HC.out).mono ?_
  rintro e w' ⟨g, rfl, _, rfl⟩
  cases g with
  | true =>
    go_wp2_with (go_at_call 25; refine (namehead_any _).mono ?_; rintro e w1 ⟨rfl, hb1⟩)
    go_ret
    exact ⟨rfl, HW.trans (hb1.mono (by simp))⟩
  | false =>
    go_upto_region 3 with (fail)
    refine wp_plain_since ?_
    refine wq_move _ rfl rfl ?_
    simp only [Act.put, List.setIfInBounds_toArray, List.set_cons_zero, List.set_cons_succ]
    refine wq_call 26 _ _ _ _ _ rfl rfl Try.func26 rfl (by kernel_rfl) (fun w' hC => hC.call (check_any a w' HA.out)) ?_
    simp only [Act.put, List.setIfInBounds_toArray, List.set_cons_zero, List.set_cons_succ]
    refine wq_move _ rfl rfl ?_
    simp only [Act.put, List.setIfInBounds_toArray, List.set_cons_zero, List.set_cons_succ]
    refine wq_call 27 _ _ _ _ _ rfl rfl Try.func27 rfl (by kernel_rfl) (fun w' hC => hC.same (refcheck_any a w' HA.out)) ?_
    simp only [Act.put, List.setIfInBounds_toArray, List.set_cons_zero, List.set_cons_succ]
    refine wq_eql_int true _ _ _ _ _ _ _ rfl rfl rfl rfl (beq_self_eq_true _) ?_
    simp only [Act.put, List.setIfInBounds_toArray, List.set_cons_zero, List.set_cons_succ]
    refine wq_move _ rfl rfl ?_
    simp only [Act.put, List.setIfInBounds_toArray, List.set_cons_zero, List.set_cons_succ]
    refine wq_move _ rfl rfl ?_
    simp only [Act.put, List.setIfInBounds_toArray, List.set_cons_zero, List.set_cons_succ]
    refine wq_move _ rfl rfl ?_
    simp only [Act.put, List.setIfInBounds_toArray, List.set_cons_zero, List.set_cons_succ]
    refine wq_call 28 _ _ _ _ _ rfl rfl Try.func28 rfl (by kernel_rfl) (fun w' hC => hC.same (compare_any a b w')) ?_
    simp only [Act.put, List.setIfInBounds_toArray, List.set_cons_zero, List.set_cons_succ]
    refine wq_move _ rfl rfl ?_
    simp only [Act.put, List.setIfInBounds_toArray, List.set_cons_zero, List.set_cons_succ]
    refine wq_move _ rfl rfl ?_
    simp only [Act.put, List.setIfInBounds_toArray, List.set_cons_zero, List.set_cons_succ]
    refine wq_call 29 _ _ _ _ _ rfl rfl Try.func29 rfl (by kernel_rfl) (fun w' hC => hC.call (refcompare_any a b w' HA.out HB.out)) ?_
    simp only [Act.put, List.setIfInBounds_toArray, List.set_cons_zero, List.set_cons_succ]
    refine wq_eql_int true _ _ _ _ _ _ _ rfl rfl rfl rfl (beq_self_eq_true _) ?_
    simp only [Act.put, List.setIfInBounds_toArray, List.set_cons_zero, List.set_cons_succ]
    refine wq_pick true _ _ _ rfl rfl rfl ?_
    simp only [Act.put, List.setIfInBounds_toArray, List.set_cons_zero, List.set_cons_succ]
    refine wq_move _ rfl rfl ?_
    simp only [Act.put, List.setIfInBounds_toArray, List.set_cons_zero, List.set_cons_succ]
    refine wq_move _ rfl rfl ?_
    simp only [Act.put, List.setIfInBounds_toArray, List.set_cons_zero, List.set_cons_succ]
    refine wq_call 30 _ _ _ _ _ rfl rfl Try.func30 rfl (by kernel_rfl) (fun w' hC => hC.call (priority_any a w' HA.out)) ?_
    simp only [Act.put, List.setIfInBounds_toArray, List.set_cons_zero, List.set_cons_succ]
    refine wq_move _ rfl rfl ?_
    simp only [Act.put, List.setIfInBounds_toArray, List.set_cons_zero, List.set_cons_succ]
    refine wq_call 17 _ _ _ _ _ rfl rfl Try.func17 rfl (by kernel_rfl) (fun w' hC => hC.call (refsum_any a w' HA.out)) ?_
    simp only [Act.put, List.setIfInBounds_toArray, List.set_cons_zero, List.set_cons_succ]
    refine wq_eql_int true _ _ _ _ _ _ _ rfl rfl rfl rfl (beq_self_eq_true _) ?_
    simp only [Act.put, List.setIfInBounds_toArray, List.set_cons_zero, List.set_cons_succ]
    refine wq_pick true _ _ _ rfl rfl rfl ?_
    simp only [Act.put, List.setIfInBounds_toArray, List.set_cons_zero, List.set_cons_succ]
    refine wq_move _ rfl rfl ?_
    simp only [Act.put, List.setIfInBounds_toArray, List.set_cons_zero, List.set_cons_succ]
    refine wq_move _ rfl rfl ?_
    simp only [Act.put, List.setIfInBounds_toArray, List.set_cons_zero, List.set_cons_succ]
    refine wq_move _ rfl rfl ?_
    simp only [Act.put, List.setIfInBounds_toArray, List.set_cons_zero, List.set_cons_succ]
    refine wq_call 31 _ _ _ _ _ rfl rfl Try.func31 rfl (by kernel_rfl) (fun w' hC => hC.call (above_any a b w' HA.out HB.out)) ?_
    simp only [Act.put, List.setIfInBounds_toArray, List.set_cons_zero, List.set_cons_succ]
    refine wq_move _ rfl rfl ?_
    simp only [Act.put, List.setIfInBounds_toArray, List.set_cons_zero, List.set_cons_succ]
    refine wq_move _ rfl rfl ?_
    simp only [Act.put, List.setIfInBounds_toArray, List.set_cons_zero, List.set_cons_succ]
    refine wq_call 32 _ _ _ _ _ rfl rfl Try.func32 rfl (by kernel_rfl) (fun w' hC => hC.call (refabove_any a b w' HA.out HB.out)) ?_
    simp only [Act.put, List.setIfInBounds_toArray, List.set_cons_zero, List.set_cons_succ]
    refine wq_eql_bool true _ _ _ _ _ _ rfl rfl Try.underlying4 rfl rfl (beq_self_eq_true _) ?_
    simp only [Act.put, List.setIfInBounds_toArray, List.set_cons_zero, List.set_cons_succ]
    refine wq_pick true _ _ _ rfl rfl rfl ?_
    simp only [Act.put, List.setIfInBounds_toArray, List.set_cons_zero, List.set_cons_succ]
    refine wq_move _ rfl rfl ?_
    simp only [Act.put, List.setIfInBounds_toArray, List.set_cons_zero, List.set_cons_succ]
    refine wq_call 25 _ _ _ _ _ rfl rfl Try.func25 rfl (by kernel_rfl) (fun w' hC => hC.call (namehead_any w')) ?_
    simp only [Act.put, List.setIfInBounds_toArray, List.set_cons_zero, List.set_cons_succ]
    refine wq_pick true _ _ _ rfl rfl rfl ?_
    simp only [Act.put, List.setIfInBounds_toArray, List.set_cons_zero, List.set_cons_succ]
    refine wq_assign _ rfl rfl ?_
    simp only [Act.put, List.setIfInBounds_toArray, List.set_cons_zero, List.set_cons_succ]
    refine wpQuiet_nil ?_
    intro w' hC
    go_wp2_with fail
    go_ret
    exact ⟨rfl, HW.trans (hC.mono (by simp))⟩
