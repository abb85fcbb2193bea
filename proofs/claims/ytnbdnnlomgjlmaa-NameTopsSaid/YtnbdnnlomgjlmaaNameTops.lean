/- NameTops: which of any texts stands above all others is the document's; and that does not hang on the order, nor on what stands there twice: the law returns true for every row of texts. -/
import Derived.Test.YtnbdnnlomgjlmaaOpen2
import Derived.OwnWalk
namespace Go.Proofs.Ytnbdnnlomgjlmaa
open Go.RowKit
set_option linter.unusedSimpArgs false
/-- The texts of f turned about, each twice. -/
def turnedF (f : Nat → ByteArray) (n : Nat) (j : Nat) : ByteArray := f (n - 1 - j / 2)
theorem turned_best (f : Nat → ByteArray) (n : Nat) (h0 : 0 < n) : bestF (turnedF f n) (2 * n - 1) = bestF f (n - 1) :=
  best_same _ _ _ _ (fun i _ => ⟨n - 1 - i / 2, by omega, rfl⟩) (fun j hj => ⟨2 * (n - 1 - j), by omega, by
    unfold turnedF; congr 1; omega⟩)
theorem vals_turned (f : Nat → ByteArray) (n m k : Nat) (hm : m = n - 1 - k) (hk : k < n) : vals (turnedF f n) (2 * m) ++ [.string (f k), .string (f k)] = vals (turnedF f n) (2 * m + 2) := by
  rw [vals_succ, vals_succ, List.append_assoc]
  congr 1
  simp only [List.cons_append, List.nil_append]
  rw [show turnedF f n (2 * m) = f k by unfold turnedF; congr 1; omega, show turnedF f n (2 * m + 1) = f k by unfold turnedF; congr 1; omega]
set_option maxRecDepth 100000 in
set_option maxHeartbeats 1000000 in
theorem nametops_any (b off n c : Nat) (f : Nat → ByteArray) (w : World) (h0 : 0 < n) (hnc : n ≤ c) (hc : c ≤ maxLen) (ht : TextsAt w b off n f) :
    Calls Try.prog 8 #[.slice (some ⟨b, off, none⟩) n c] w fun e w' => e = .returned (.bool true) ∧ Below w.heap.size w w' := by
  have HT := Lib.hid ht
  have hbw : b < w.heap.size := World.block_lt_of_cell? w _ (ht 0 h0).1
  clear ht
  have HCM := Lib.hid hc
  unfold maxLen at hc
  go_enter Try.func8, Try.ntmps8
  go_wp2_with fail
  refine (great_any b off n c f _ (by unfold maxLen; omega) (fun i hi => (HT.out i hi).1)).mono ?_
  rintro e w' ⟨g, rfl, hg, rfl⟩
  cases g with
  | true =>
    clear hg
    go_wp2_with (go_at_call 25; refine (namehead_any _).mono ?_; rintro e w1 ⟨rfl, hb1⟩)
    go_ret
    exact ⟨rfl, hb1⟩
  | false =>
    have hn60 := hg rfl
    clear hg
    go_wp2_with (first
      | (go_at_call 33; refine (top_any b off n c f _ h0 hnc HCM.out HT.out).mono ?_; rintro e w1 ⟨rfl, hb1⟩)
      | (go_at_call 34; refine (reftop_any b off n c f _ h0 hnc HCM.out (HT.out.below hb1)).mono ?_; rintro e w2 ⟨rfl, hb2⟩))
    have HB2 := Lib.hid (Below.trans hb1 (hb2.mono hb1.size))
    clear hb1 hb2
    go_loopw [7, 8] (fun v i wr => ∃ (k : Nat) (z : Int), k ≤ n ∧ z = (k : Int) - 1 ∧ i = .int .i64 z ∧ OwnTexts wr w.heap.size v (2 * (n - k)) (turnedF f n) ∧ Below w.heap.size w wr) (fun _ i _ => (intOf i + 1).toNat)
    case atStart => exact ⟨n, (n : Int) - 1, by omega, rfl, by go_num, by rw [show 2 * (n - n) = 0 by omega]; exact OwnTexts.nil _ _ _, HB2.out⟩
    case round =>
      obtain ⟨k, z, hk, hz, rfl, hown, hB⟩ := hrel
      have HOWN := Lib.hid hown
      clear hown
      cases k with
      | zero =>
        obtain rfl : z = -1 := by omega
        clear hz
        go_wp2_with fail
        obtain ⟨g, cap, rfl, hgb, hnc2, hcap, htx⟩ := HOWN.out.read (by omega) (fun j _ => (HT.out (n - 1 - j / 2) (by omega)).2)
        refine (top_any g 0 (2 * (n - 0)) cap (turnedF f n) wr (by omega) hnc2 hcap htx).mono ?_
        rintro e w3 ⟨rfl, hb3⟩
        rw [show 2 * (n - 0) - 1 = 2 * n - 1 by omega, turned_best f n h0]
        have H0 := Lib.hid h0
        go_upto_region 11 with (fail)
        refine wk_plain_since ?_
        refine wk_move _ (by kernel_rfl) rfl ?_
        simp only [Act.put, Act.eval, Array.getD_eq_getD_getElem?, List.getElem?_toArray, List.getElem?_cons_succ, List.getElem?_cons_zero, Option.getD_some, List.setIfInBounds_toArray, List.set_cons_zero, List.set_cons_succ]
        refine wk_move _ (by kernel_rfl) rfl ?_
        simp only [Act.put, Act.eval, Array.getD_eq_getD_getElem?, List.getElem?_toArray, List.getElem?_cons_succ, List.getElem?_cons_zero, Option.getD_some, List.setIfInBounds_toArray, List.set_cons_zero, List.set_cons_succ]
        refine wk_eql_str (true) _ _ _ _ _ _ (by kernel_rfl) rfl rfl rfl (decide_eq_true rfl) ?_
        simp only [Act.put, List.setIfInBounds_toArray, List.set_cons_zero, List.set_cons_succ]
        refine wk_move _ (by kernel_rfl) rfl ?_
        simp only [Act.put, Act.eval, Array.getD_eq_getD_getElem?, List.getElem?_toArray, List.getElem?_cons_succ, List.getElem?_cons_zero, Option.getD_some, List.setIfInBounds_toArray, List.set_cons_zero, List.set_cons_succ]
        refine wk_move _ (by kernel_rfl) rfl ?_
        simp only [Act.put, Act.eval, Array.getD_eq_getD_getElem?, List.getElem?_toArray, List.getElem?_cons_succ, List.getElem?_cons_zero, Option.getD_some, List.setIfInBounds_toArray, List.set_cons_zero, List.set_cons_succ]
        refine wk_move _ (by kernel_rfl) rfl ?_
        simp only [Act.put, Act.eval, Array.getD_eq_getD_getElem?, List.getElem?_toArray, List.getElem?_cons_succ, List.getElem?_cons_zero, Option.getD_some, List.setIfInBounds_toArray, List.set_cons_zero, List.set_cons_succ]
        refine wk_eql_bool true _ _ _ _ _ _ (by kernel_rfl) rfl Try.underlying4 rfl rfl (rfl) ?_
        simp only [Act.put, List.setIfInBounds_toArray, List.set_cons_zero, List.set_cons_succ]
        refine wk_pickt _ _ _ _ (by kernel_rfl) rfl rfl rfl ?_
        simp only [Act.put, Act.eval, Array.getD_eq_getD_getElem?, List.getElem?_toArray, List.getElem?_cons_succ, List.getElem?_cons_zero, Option.getD_some, List.setIfInBounds_toArray, List.set_cons_zero, List.set_cons_succ]
        refine wk_move _ (by kernel_rfl) rfl ?_
        simp only [Act.put, Act.eval, Array.getD_eq_getD_getElem?, List.getElem?_toArray, List.getElem?_cons_succ, List.getElem?_cons_zero, Option.getD_some, List.setIfInBounds_toArray, List.set_cons_zero, List.set_cons_succ]
        refine wk_move _ (by kernel_rfl) rfl ?_
        simp only [Act.put, Act.eval, Array.getD_eq_getD_getElem?, List.getElem?_toArray, List.getElem?_cons_succ, List.getElem?_cons_zero, Option.getD_some, List.setIfInBounds_toArray, List.set_cons_zero, List.set_cons_succ]
        refine wk_move _ (by kernel_rfl) rfl ?_
        simp only [Act.put, Act.eval, Array.getD_eq_getD_getElem?, List.getElem?_toArray, List.getElem?_cons_succ, List.getElem?_cons_zero, Option.getD_some, List.setIfInBounds_toArray, List.set_cons_zero, List.set_cons_succ]
        refine wk_eql_str (true) _ _ _ _ _ _ (by kernel_rfl) rfl rfl rfl (decide_eq_true rfl) ?_
        simp only [Act.put, List.setIfInBounds_toArray, List.set_cons_zero, List.set_cons_succ]
        refine wk_pickt _ _ _ _ (by kernel_rfl) rfl rfl rfl ?_
        simp only [Act.put, Act.eval, Array.getD_eq_getD_getElem?, List.getElem?_toArray, List.getElem?_cons_succ, List.getElem?_cons_zero, Option.getD_some, List.setIfInBounds_toArray, List.set_cons_zero, List.set_cons_succ]
        refine wk_move _ (by kernel_rfl) rfl ?_
        simp only [Act.put, Act.eval, Array.getD_eq_getD_getElem?, List.getElem?_toArray, List.getElem?_cons_succ, List.getElem?_cons_zero, Option.getD_some, List.setIfInBounds_toArray, List.set_cons_zero, List.set_cons_succ]
        refine wk_move _ (by kernel_rfl) rfl ?_
        simp only [Act.put, Act.eval, Array.getD_eq_getD_getElem?, List.getElem?_toArray, List.getElem?_cons_succ, List.getElem?_cons_zero, Option.getD_some, List.setIfInBounds_toArray, List.set_cons_zero, List.set_cons_succ]
        refine wk_move _ (by kernel_rfl) rfl ?_
        simp only [Act.put, Act.eval, Array.getD_eq_getD_getElem?, List.getElem?_toArray, List.getElem?_cons_succ, List.getElem?_cons_zero, Option.getD_some, List.setIfInBounds_toArray, List.set_cons_zero, List.set_cons_succ]
        refine wk_eql_bool true _ _ _ _ _ _ (by kernel_rfl) rfl Try.underlying4 rfl rfl (rfl) ?_
        simp only [Act.put, List.setIfInBounds_toArray, List.set_cons_zero, List.set_cons_succ]
        refine wk_pickt _ _ _ _ (by kernel_rfl) rfl rfl rfl ?_
        simp only [Act.put, Act.eval, Array.getD_eq_getD_getElem?, List.getElem?_toArray, List.getElem?_cons_succ, List.getElem?_cons_zero, Option.getD_some, List.setIfInBounds_toArray, List.set_cons_zero, List.set_cons_succ]
        refine wk_move _ (by kernel_rfl) rfl ?_
        simp only [Act.put, Act.eval, Array.getD_eq_getD_getElem?, List.getElem?_toArray, List.getElem?_cons_succ, List.getElem?_cons_zero, Option.getD_some, List.setIfInBounds_toArray, List.set_cons_zero, List.set_cons_succ]
        refine wk_move _ (by kernel_rfl) rfl ?_
        simp only [Act.put, Act.eval, Array.getD_eq_getD_getElem?, List.getElem?_toArray, List.getElem?_cons_succ, List.getElem?_cons_zero, Option.getD_some, List.setIfInBounds_toArray, List.set_cons_zero, List.set_cons_succ]
        refine wk_move _ (by kernel_rfl) rfl ?_
        simp only [Act.put, Act.eval, Array.getD_eq_getD_getElem?, List.getElem?_toArray, List.getElem?_cons_succ, List.getElem?_cons_zero, Option.getD_some, List.setIfInBounds_toArray, List.set_cons_zero, List.set_cons_succ]
        refine wk_len_slice _ _ _ _ _ _ Try.underlying38 (by kernel_rfl) rfl rfl ?_
        simp only [Act.put, List.setIfInBounds_toArray, List.set_cons_zero, List.set_cons_succ]
        refine wk_cmp_int .gtr (true) _ _ _ _ _ _ _ (by kernel_rfl) rfl rfl rfl (by simp [cmpInt]; exact H0.out) ?_
        simp only [Act.put, List.setIfInBounds_toArray, List.set_cons_zero, List.set_cons_succ]
        refine wk_eql_bool true _ _ _ _ _ _ (by kernel_rfl) rfl Try.underlying4 rfl rfl (rfl) ?_
        simp only [Act.put, List.setIfInBounds_toArray, List.set_cons_zero, List.set_cons_succ]
        refine wk_pickt _ _ _ _ (by kernel_rfl) rfl rfl rfl ?_
        simp only [Act.put, Act.eval, Array.getD_eq_getD_getElem?, List.getElem?_toArray, List.getElem?_cons_succ, List.getElem?_cons_zero, Option.getD_some, List.setIfInBounds_toArray, List.set_cons_zero, List.set_cons_succ]
        refine wk_move _ (by kernel_rfl) rfl ?_
        simp only [Act.put, Act.eval, Array.getD_eq_getD_getElem?, List.getElem?_toArray, List.getElem?_cons_succ, List.getElem?_cons_zero, Option.getD_some, List.setIfInBounds_toArray, List.set_cons_zero, List.set_cons_succ]
        refine wk_call 25 _ _ _ _ _ (by kernel_rfl) rfl Try.func25 rfl (by kernel_rfl) (fun w' hC => hC.call (namehead_any w')) ?_
        simp only [Act.put, List.setIfInBounds_toArray, List.set_cons_zero, List.set_cons_succ]
        refine wk_pickt _ _ _ _ (by kernel_rfl) rfl rfl rfl ?_
        simp only [Act.put, Act.eval, Array.getD_eq_getD_getElem?, List.getElem?_toArray, List.getElem?_cons_succ, List.getElem?_cons_zero, Option.getD_some, List.setIfInBounds_toArray, List.set_cons_zero, List.set_cons_succ]
        refine wk_assign _ (by kernel_rfl) rfl ?_
        simp only [Act.put, Act.eval, Array.getD_eq_getD_getElem?, List.getElem?_toArray, List.getElem?_cons_succ, List.getElem?_cons_zero, Option.getD_some, List.setIfInBounds_toArray, List.set_cons_zero, List.set_cons_succ]
        refine wk_nil ?_
        intro w' hC
        go_wp2_with fail
        go_ret
        exact ⟨rfl, Below.trans hB ((hb3.trans (Below.mono hC hb3.size)).mono hB.size)⟩
      | succ k =>
        obtain rfl : z = (k : Int) := by omega
        clear hz
        go_upto_region 9 with (fail)
        have h1 : wr.cell? ⟨b, off + k, none⟩ = some (.string (f k)) := ((HT.out.below hB) k (by omega)).1
        obtain ⟨i0, hi, hz0, hz1, hz2⟩ := info_parts Try.info9
        have hk0 : (0 : Int) ≤ (k : Int) := by omega
        have hk1 : (k : Int) < (n : Int) := by omega
        have hlen : 2 * (n - (k + 1)) ≤ 120 := by omega
        go_region_law (refine step_append_own rfl (.tmp 31) (.tmp 40) 38 rfl w.heap.size 9 i0 (.string ⟨#[]⟩) 1 16 Try.underlying38 hi hz0 hz1 hz2 rfl (by decide) _ (2 * (n - (k + 1))) (vals (turnedF f n) (2 * (n - (k + 1)))) rfl (by first | exact HOWN.out.below ((Below.refl _ _).drew.alloc (Nat.le_refl _) _) | exact HOWN.out.below ((Below.refl _ _).alloc (Nat.le_refl _) _)) _ 2 2 [.string (f k), .string (f k)] rfl rfl (by first | exact cells_new wr.drew [.string (f k), .string (f k)] _ | exact cells_new wr [.string (f k), .string (f k)] _) (by intro u hu; simp at hu; subst hu; rfl) (by unfold maxLen; omega) (by omega) (by have := hB.size; simp; omega) ?_; intro v' w1 hown' hgrow)
        all_goals
          have hBw : Below w.heap.size w w1 := own_grown hB (by first | exact ((Below.refl _ _).alloc (Nat.le_refl _) _).drew | exact (Below.refl _ _).drew.alloc (Nat.le_refl _) _) HOWN.out hgrow
          have HOWN2 := Lib.hid (show OwnTexts w1 w.heap.size v' (2 * (n - k)) (turnedF f n) from by
            have h := hown'
            rw [vals_turned f n _ k (by omega) (by omega)] at h
            rw [show 2 * (n - k) = 2 * (n - (k + 1)) + 2 by omega]
            exact h)
          clear hown' hgrow h1
          go_wp2_with fail
          go_roundw
          case rel => exact ⟨k, (k : Int) - 1, by omega, rfl, by go_num, HOWN2.out, hBw⟩
          case measure => simp [intOf]
/-- No texts at all. -/
theorem nametops_none (A : Option Addr) (c : Nat) (w : World) : Calls Try.prog 8 #[.slice A 0 c] w fun e w' => e = .returned (.bool true) ∧ Below w.heap.size w w' := by
  go_enter Try.func8, Try.ntmps8
  go_wp2_with fail
  refine (great_none _ _ _).mono ?_
  rintro e w' ⟨g, rfl, _, rfl⟩
  cases g with
  | true =>
    go_wp2_with (go_at_call 25; refine (namehead_any _).mono ?_; rintro e w1 ⟨rfl, hb1⟩)
    go_ret
    exact ⟨rfl, hb1⟩
  | false =>
    go_wp2_with (first
      | (go_at_call 33; refine (top_none _ _ _).mono ?_; rintro e w1 ⟨rfl, rfl⟩)
      | (go_at_call 34; refine (reftop_none _ _ _).mono ?_; rintro e w2 ⟨rfl, rfl⟩))
    refine wp_loop_rounds 1 ?_
    rw [rounds_succ]
    go_upto_region 11 with (go_at_call 33; refine (top_none _ _ _).mono ?_; rintro e w1 ⟨rfl, rfl⟩)
    refine wk_plain_since ?_
    refine wk_move _ (by kernel_rfl) rfl ?_
    simp only [Act.put, Act.eval, Array.getD_eq_getD_getElem?, List.getElem?_toArray, List.getElem?_cons_succ, List.getElem?_cons_zero, Option.getD_some, List.setIfInBounds_toArray, List.set_cons_zero, List.set_cons_succ]
    refine wk_move _ (by kernel_rfl) rfl ?_
    simp only [Act.put, Act.eval, Array.getD_eq_getD_getElem?, List.getElem?_toArray, List.getElem?_cons_succ, List.getElem?_cons_zero, Option.getD_some, List.setIfInBounds_toArray, List.set_cons_zero, List.set_cons_succ]
    refine wk_eql_str (true) _ _ _ _ _ _ (by kernel_rfl) rfl rfl rfl (decide_eq_true rfl) ?_
    simp only [Act.put, List.setIfInBounds_toArray, List.set_cons_zero, List.set_cons_succ]
    refine wk_move _ (by kernel_rfl) rfl ?_
    simp only [Act.put, Act.eval, Array.getD_eq_getD_getElem?, List.getElem?_toArray, List.getElem?_cons_succ, List.getElem?_cons_zero, Option.getD_some, List.setIfInBounds_toArray, List.set_cons_zero, List.set_cons_succ]
    refine wk_move _ (by kernel_rfl) rfl ?_
    simp only [Act.put, Act.eval, Array.getD_eq_getD_getElem?, List.getElem?_toArray, List.getElem?_cons_succ, List.getElem?_cons_zero, Option.getD_some, List.setIfInBounds_toArray, List.set_cons_zero, List.set_cons_succ]
    refine wk_move _ (by kernel_rfl) rfl ?_
    simp only [Act.put, Act.eval, Array.getD_eq_getD_getElem?, List.getElem?_toArray, List.getElem?_cons_succ, List.getElem?_cons_zero, Option.getD_some, List.setIfInBounds_toArray, List.set_cons_zero, List.set_cons_succ]
    refine wk_eql_bool true _ _ _ _ _ _ (by kernel_rfl) rfl Try.underlying4 rfl rfl (rfl) ?_
    simp only [Act.put, List.setIfInBounds_toArray, List.set_cons_zero, List.set_cons_succ]
    refine wk_pickt _ _ _ _ (by kernel_rfl) rfl rfl rfl ?_
    simp only [Act.put, Act.eval, Array.getD_eq_getD_getElem?, List.getElem?_toArray, List.getElem?_cons_succ, List.getElem?_cons_zero, Option.getD_some, List.setIfInBounds_toArray, List.set_cons_zero, List.set_cons_succ]
    refine wk_move _ (by kernel_rfl) rfl ?_
    simp only [Act.put, Act.eval, Array.getD_eq_getD_getElem?, List.getElem?_toArray, List.getElem?_cons_succ, List.getElem?_cons_zero, Option.getD_some, List.setIfInBounds_toArray, List.set_cons_zero, List.set_cons_succ]
    refine wk_move _ (by kernel_rfl) rfl ?_
    simp only [Act.put, Act.eval, Array.getD_eq_getD_getElem?, List.getElem?_toArray, List.getElem?_cons_succ, List.getElem?_cons_zero, Option.getD_some, List.setIfInBounds_toArray, List.set_cons_zero, List.set_cons_succ]
    refine wk_move _ (by kernel_rfl) rfl ?_
    simp only [Act.put, Act.eval, Array.getD_eq_getD_getElem?, List.getElem?_toArray, List.getElem?_cons_succ, List.getElem?_cons_zero, Option.getD_some, List.setIfInBounds_toArray, List.set_cons_zero, List.set_cons_succ]
    refine wk_eql_str (true) _ _ _ _ _ _ (by kernel_rfl) rfl rfl rfl (decide_eq_true rfl) ?_
    simp only [Act.put, List.setIfInBounds_toArray, List.set_cons_zero, List.set_cons_succ]
    refine wk_pickt _ _ _ _ (by kernel_rfl) rfl rfl rfl ?_
    simp only [Act.put, Act.eval, Array.getD_eq_getD_getElem?, List.getElem?_toArray, List.getElem?_cons_succ, List.getElem?_cons_zero, Option.getD_some, List.setIfInBounds_toArray, List.set_cons_zero, List.set_cons_succ]
    refine wk_move _ (by kernel_rfl) rfl ?_
    simp only [Act.put, Act.eval, Array.getD_eq_getD_getElem?, List.getElem?_toArray, List.getElem?_cons_succ, List.getElem?_cons_zero, Option.getD_some, List.setIfInBounds_toArray, List.set_cons_zero, List.set_cons_succ]
    refine wk_move _ (by kernel_rfl) rfl ?_
    simp only [Act.put, Act.eval, Array.getD_eq_getD_getElem?, List.getElem?_toArray, List.getElem?_cons_succ, List.getElem?_cons_zero, Option.getD_some, List.setIfInBounds_toArray, List.set_cons_zero, List.set_cons_succ]
    refine wk_move _ (by kernel_rfl) rfl ?_
    simp only [Act.put, Act.eval, Array.getD_eq_getD_getElem?, List.getElem?_toArray, List.getElem?_cons_succ, List.getElem?_cons_zero, Option.getD_some, List.setIfInBounds_toArray, List.set_cons_zero, List.set_cons_succ]
    refine wk_eql_bool true _ _ _ _ _ _ (by kernel_rfl) rfl Try.underlying4 rfl rfl (rfl) ?_
    simp only [Act.put, List.setIfInBounds_toArray, List.set_cons_zero, List.set_cons_succ]
    refine wk_pickt _ _ _ _ (by kernel_rfl) rfl rfl rfl ?_
    simp only [Act.put, Act.eval, Array.getD_eq_getD_getElem?, List.getElem?_toArray, List.getElem?_cons_succ, List.getElem?_cons_zero, Option.getD_some, List.setIfInBounds_toArray, List.set_cons_zero, List.set_cons_succ]
    refine wk_move _ (by kernel_rfl) rfl ?_
    simp only [Act.put, Act.eval, Array.getD_eq_getD_getElem?, List.getElem?_toArray, List.getElem?_cons_succ, List.getElem?_cons_zero, Option.getD_some, List.setIfInBounds_toArray, List.set_cons_zero, List.set_cons_succ]
    refine wk_move _ (by kernel_rfl) rfl ?_
    simp only [Act.put, Act.eval, Array.getD_eq_getD_getElem?, List.getElem?_toArray, List.getElem?_cons_succ, List.getElem?_cons_zero, Option.getD_some, List.setIfInBounds_toArray, List.set_cons_zero, List.set_cons_succ]
    refine wk_move _ (by kernel_rfl) rfl ?_
    simp only [Act.put, Act.eval, Array.getD_eq_getD_getElem?, List.getElem?_toArray, List.getElem?_cons_succ, List.getElem?_cons_zero, Option.getD_some, List.setIfInBounds_toArray, List.set_cons_zero, List.set_cons_succ]
    refine wk_len_slice _ _ _ _ _ _ Try.underlying38 (by kernel_rfl) rfl rfl ?_
    simp only [Act.put, List.setIfInBounds_toArray, List.set_cons_zero, List.set_cons_succ]
    refine wk_cmp_int .gtr (false) _ _ _ _ _ _ _ (by kernel_rfl) rfl rfl rfl (by simp [cmpInt]) ?_
    simp only [Act.put, List.setIfInBounds_toArray, List.set_cons_zero, List.set_cons_succ]
    refine wk_eql_bool true _ _ _ _ _ _ (by kernel_rfl) rfl Try.underlying4 rfl rfl (rfl) ?_
    simp only [Act.put, List.setIfInBounds_toArray, List.set_cons_zero, List.set_cons_succ]
    refine wk_pickt _ _ _ _ (by kernel_rfl) rfl rfl rfl ?_
    simp only [Act.put, Act.eval, Array.getD_eq_getD_getElem?, List.getElem?_toArray, List.getElem?_cons_succ, List.getElem?_cons_zero, Option.getD_some, List.setIfInBounds_toArray, List.set_cons_zero, List.set_cons_succ]
    refine wk_move _ (by kernel_rfl) rfl ?_
    simp only [Act.put, Act.eval, Array.getD_eq_getD_getElem?, List.getElem?_toArray, List.getElem?_cons_succ, List.getElem?_cons_zero, Option.getD_some, List.setIfInBounds_toArray, List.set_cons_zero, List.set_cons_succ]
    refine wk_call 25 _ _ _ _ _ (by kernel_rfl) rfl Try.func25 rfl (by kernel_rfl) (fun w' hC => hC.call (namehead_any w')) ?_
    simp only [Act.put, List.setIfInBounds_toArray, List.set_cons_zero, List.set_cons_succ]
    refine wk_pickt _ _ _ _ (by kernel_rfl) rfl rfl rfl ?_
    simp only [Act.put, Act.eval, Array.getD_eq_getD_getElem?, List.getElem?_toArray, List.getElem?_cons_succ, List.getElem?_cons_zero, Option.getD_some, List.setIfInBounds_toArray, List.set_cons_zero, List.set_cons_succ]
    refine wk_assign _ (by kernel_rfl) rfl ?_
    simp only [Act.put, Act.eval, Array.getD_eq_getD_getElem?, List.getElem?_toArray, List.getElem?_cons_succ, List.getElem?_cons_zero, Option.getD_some, List.setIfInBounds_toArray, List.set_cons_zero, List.set_cons_succ]
    refine wk_nil ?_
    intro w' hC
    go_wp2_with fail
    go_ret
    exact ⟨rfl, hC⟩
theorem nametops_all (A : Option Addr) (n c : Nat) (f : Nat → ByteArray) (w : World) (hnc : n ≤ c) (hc : c ≤ maxLen) (ht : TextsIn w A n f) :
    Calls Try.prog 8 #[.slice A n c] w fun e w' => e = .returned (.bool true) ∧ Below w.heap.size w w' := by
  by_cases h0 : n = 0
  · subst h0; exact nametops_none A c w
  · rcases ht with h | ⟨b, off, rfl, h⟩
    · exact absurd h h0
    · exact nametops_any b off n c f w (by omega) hnc hc h
end Go.Proofs.Ytnbdnnlomgjlmaa
