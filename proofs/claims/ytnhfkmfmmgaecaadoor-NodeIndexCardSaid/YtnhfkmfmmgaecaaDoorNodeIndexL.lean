/- The node layer: the law NodeIndex holds of every two pages and level. -/
import Derived.Test.YtnhfkmfmmgaecaaDoorNodeHead
namespace Go.Proofs.YtnhfkmfmmgaecaaDoor
open Go.RowKit
set_option linter.unusedSimpArgs false
set_option maxRecDepth 100000
theorem place_in (p k : Nat) (hp : p < 32768) (h1 : 1 ≤ k) (h3 : k ≤ 3) : placeN p k = p / 32 ^ (k - 1) % 32 ∧ placeE p k = 0 := by
  unfold placeN placeE
  rw [if_pos ⟨hp, h1, h3⟩, if_pos ⟨hp, h1, h3⟩]
  exact ⟨rfl, rfl⟩
theorem div_step (p k : Nat) (h1 : 1 ≤ k) : 32 * (p / 32 ^ k) + p / 32 ^ (k - 1) % 32 = p / 32 ^ (k - 1) := by
  obtain ⟨j, rfl⟩ : ∃ j, k = j + 1 := ⟨k - 1, by omega⟩
  rw [Nat.add_sub_cancel, Nat.pow_succ, ← Nat.div_div_eq_div_mul]
  exact Nat.div_add_mod _ _
set_option maxHeartbeats 4000000 in
theorem nodeindex_any (p o lev : Nat) (hp : p < 4294967296) (ho : o < 4294967296) (hl : lev < 256) (w : World) :
    Calls Tryd.prog 10 #[.int .u32 (p : Int), .int .u32 (o : Int), .int .u8 (lev : Int)] w fun e w' => e = .returned (.bool true) ∧ Below w.heap.size w w' := by
  obtain ⟨x, hx⟩ : ∃ x : Int, x = (placeN p lev : Int) := ⟨_, rfl⟩
  obtain ⟨f, hf⟩ : ∃ f, f = placeE p lev := ⟨_, rfl⟩
  have HI := Lib.hid (index_is p lev hp hl x f hx.symm hf.symm)
  have HR : Hid (∀ w, Calls Tryd.prog 45 #[.int .u32 (p : Int), .int .u8 (lev : Int)] w fun r w' => r = .returned (.tuple #[.int .i64 x, .int .i64 f]) ∧ w = w') := Lib.hid (fun w => by rw [hx, hf]; exact refindex_any p lev hp hl w)
  have HK : Hid (∀ k : Nat, 1 ≤ k → k ≤ 3 → p < 32768 → ∀ w, Calls Tryd.prog 44 #[.int .u32 (p : Int), .int .u8 (k : Int)] w fun r w' => r = .returned (.tuple #[.int .i64 ((p / 32 ^ (k - 1) % 32 : Nat) : Int), .int .i64 0]) ∧ w = w') :=
    Lib.hid (fun k h1 h3 h w => index_is p k hp (by omega) _ _ (by rw [(place_in p k h h1 h3).1]) (place_in p k h h1 h3).2 w)
  have HJ : Hid (∀ k : Nat, 1 ≤ k → k ≤ 3 → o < 32768 → ∀ w, Calls Tryd.prog 44 #[.int .u32 (o : Int), .int .u8 (k : Int)] w fun r w' => r = .returned (.tuple #[.int .i64 ((o / 32 ^ (k - 1) % 32 : Nat) : Int), .int .i64 0]) ∧ w = w') :=
    Lib.hid (fun k h1 h3 h w => index_is o k ho (by omega) _ _ (by rw [(place_in o k h h1 h3).1]) (place_in o k h h1 h3).2 w)
  obtain ⟨z, hz⟩ : ∃ z : Int, z = (p : Int) := ⟨_, rfl⟩
  obtain ⟨y, hy⟩ : ∃ y : Int, y = (o : Int) := ⟨_, rfl⟩
  rw [← hz] at HI HR HK ⊢
  rw [← hy] at HJ ⊢
  have z0 : 0 ≤ z := by omega
  have y0 : 0 ≤ y := by omega
  have z1 : z < 4294967296 := by omega
  have y1 : y < 4294967296 := by omega
  have HZ := Lib.hid hz
  have HY := Lib.hid hy
  clear hx hf hz hy hp ho
  by_cases h1 : z < 32768
  · by_cases h2 : y < 32768
    · have HP : Hid (p < 32768) := Lib.hid (by have := HZ.out; omega)
      have HO : Hid (o < 32768) := Lib.hid (by have := HY.out; omega)
      go_enter Tryd.func10, Tryd.ntmps10
      go_wp2_with fail
      refine (HI.out _).mono ?_
      rintro e w1 ⟨rfl, rfl⟩
      go_wp2_with fail
      refine (HR.out _).mono ?_
      rintro e w1 ⟨rfl, rfl⟩
      go_wp2_with fail
      go_loop [11, 12, 13] (fun s b i => ∃ k : Nat, k ≤ 3 ∧ i = .int .u8 k ∧ s = .int .i64 ((p / 32 ^ k : Nat) : Int) ∧ b = .bool (decide (p / 32 ^ k = o / 32 ^ k))) (fun _ _ i => (intOf i).toNat)
      case atStart => exact ⟨3, by omega, rfl, by rw [show p / 32 ^ 3 = 0 from Nat.div_eq_of_lt HP.out]; rfl, by rw [show p / 32 ^ 3 = 0 from Nat.div_eq_of_lt HP.out, show o / 32 ^ 3 = 0 from Nat.div_eq_of_lt HO.out]; rfl⟩
      case round =>
        obtain ⟨k, hk, rfl, rfl, rfl⟩ := hrel
        by_cases hlt : 1 ≤ k
        · have HKK := Lib.hid (HK.out k hlt hk HP.out)
          have HJJ := Lib.hid (HJ.out k hlt hk HO.out)
          have HS := Lib.hid (div_step p k hlt)
          have HB : Hid (decide (p / 32 ^ (k - 1) = o / 32 ^ (k - 1)) = (decide (p / 32 ^ k = o / 32 ^ k) && decide (p / 32 ^ (k - 1) % 32 = o / 32 ^ (k - 1) % 32))) := Lib.hid (by
            have e1 := div_step p k hlt
            have e2 := div_step o k hlt
            rw [Bool.eq_iff_iff]
            simp only [Bool.and_eq_true, decide_eq_true_eq]
            constructor
            · intro h
              have e3 : p / 32 ^ k = o / 32 ^ k := by
                obtain ⟨j, rfl⟩ : ∃ j, k = j + 1 := ⟨k - 1, by omega⟩
                rw [Nat.add_sub_cancel] at h
                rw [Nat.pow_succ, ← Nat.div_div_eq_div_mul, ← Nat.div_div_eq_div_mul, h]
              exact ⟨e3, by rw [h]⟩
            · rintro ⟨h3, h4⟩
              rw [← e1, ← e2, h3, h4])
          have hq : p / 32 ^ k ≤ 32768 := Nat.le_trans (Nat.div_le_self _ _) (Nat.le_of_lt HP.out)
          have HE : Hid (((k - 1 : Nat) : Int) = (k : Int) - 1) := Lib.hid (by omega)
          obtain ⟨P1, hP1⟩ : ∃ a, a = p / 32 ^ (k - 1) := ⟨_, rfl⟩
          obtain ⟨O1, hO1⟩ : ∃ a, a = o / 32 ^ (k - 1) := ⟨_, rfl⟩
          obtain ⟨P0, hP0⟩ : ∃ a, a = p / 32 ^ k := ⟨_, rfl⟩
          obtain ⟨O0, hO0⟩ : ∃ a, a = o / 32 ^ k := ⟨_, rfl⟩
          rw [← hP1] at HKK HS HB
          rw [← hO1] at HJJ HB
          rw [← hP0] at HS HB hq ⊢
          rw [← hO0] at HB ⊢
          obtain ⟨X, hX⟩ : ∃ a, a = P1 % 32 := ⟨_, rfl⟩
          obtain ⟨Y, hY⟩ : ∃ a, a = O1 % 32 := ⟨_, rfl⟩
          have hX2 : X < 32 := by omega
          have hY2 : Y < 32 := by omega
          rw [← hX] at HKK HS HB
          rw [← hY] at HJJ HB
          have HP1 := Lib.hid hP1
          have HO1 := Lib.hid hO1
          obtain ⟨s, hs⟩ : ∃ s, s = decide (P0 = O0) := ⟨_, rfl⟩
          rw [← hs] at HB ⊢
          have hq2 : (P0 : Int) ≤ 40000 := by omega
          clear hP1 hO1 hP0 hO0 hX hY hs hq
          go_wp2_with fail
          refine (HKK.out _).mono ?_
          rintro e w2 ⟨rfl, rfl⟩
          go_wp2_with fail
          refine (HJJ.out _).mono ?_
          rintro e w2 ⟨rfl, rfl⟩
          have hxy : ((X : Int) == (Y : Int)) = decide (X = Y) := by
            by_cases h : X = Y
            · simp [h]
            · have : ¬ (X : Int) = (Y : Int) := by omega
              simp [h, this]
          obtain ⟨q, hq⟩ : ∃ q, q = decide (X = Y) := ⟨_, rfl⟩
          rw [← hq] at HB hxy
          clear hq
          cases s
          · go_wp2_with fail
            exact ⟨⟨k - 1, by omega, by rw [HE.out], by rw [← HP1.out, ← HS.out]; rfl, by rw [← HP1.out, ← HO1.out, HB.out]; rfl⟩, by simp [intOf]; omega⟩
          · go_wp2_with fail
            exact ⟨⟨k - 1, by omega, by rw [HE.out], by rw [← HP1.out, ← HS.out]; rfl, by rw [← HP1.out, ← HO1.out, HB.out]; rfl⟩, by simp [intOf]; omega⟩
        · obtain rfl : k = 0 := by omega
          have e1 : p / 32 ^ 0 = p := by simp
          have e2 : o / 32 ^ 0 = o := by simp
          rw [e1, e2, ← HZ.out]
          have hb : decide (p = o) = (z == y) := by
            rw [HZ.out, HY.out, Bool.eq_iff_iff]; simp; omega
          rw [hb]
          clear e1 e2 hb
          obtain ⟨t, ht⟩ : ∃ t, t = (z == y) := ⟨_, rfl⟩
          rw [← ht]
          have HT : Hid (t = (z == y)) := Lib.hid ht
          clear ht
          have HW : Hid (IntKind.i64.wrap z = z) := Lib.hid (by rw [IntKind.wrap_i64]; omega)
          go_upto_region 17 with (fail)
          refine wk_plain_since ?_
          repeat (first
            | (refine wk_move _ (by first | exact wanted_none rfl | exact wanted_yes _ _ rfl rfl) rfl ?_; simp only [Act.put, Act.eval, Array.getD_eq_getD_getElem?, List.getElem?_toArray, List.getElem?_cons_succ, List.getElem?_cons_zero, Option.getD_some, List.setIfInBounds_toArray, List.set_cons_zero, List.set_cons_succ])
            | (refine wk_assign _ (by first | exact wanted_none rfl | exact wanted_yes _ _ rfl rfl) rfl ?_; simp only [Act.put, Act.eval, Array.getD_eq_getD_getElem?, List.getElem?_toArray, List.getElem?_cons_succ, List.getElem?_cons_zero, Option.getD_some, List.setIfInBounds_toArray, List.set_cons_zero, List.set_cons_succ])
            | (refine wk_pickt _ _ _ _ (by first | exact wanted_none rfl | exact wanted_yes _ _ rfl rfl) rfl rfl rfl ?_; simp only [Act.put, Act.eval, Array.getD_eq_getD_getElem?, List.getElem?_toArray, List.getElem?_cons_succ, List.getElem?_cons_zero, Option.getD_some, List.setIfInBounds_toArray, List.set_cons_zero, List.set_cons_succ])
            | (refine wk_pickf _ _ _ _ (by first | exact wanted_none rfl | exact wanted_yes _ _ rfl rfl) rfl rfl rfl ?_; simp only [Act.put, Act.eval, Array.getD_eq_getD_getElem?, List.getElem?_toArray, List.getElem?_cons_succ, List.getElem?_cons_zero, Option.getD_some, List.setIfInBounds_toArray, List.set_cons_zero, List.set_cons_succ])
            | (refine wk_skip (wanted_not _ true false rfl rfl rfl) ?_; simp only [Act.put, List.setIfInBounds_toArray, List.set_cons_zero, List.set_cons_succ])
            | (refine wk_skip (wanted_not _ false true rfl rfl rfl) ?_; simp only [Act.put, List.setIfInBounds_toArray, List.set_cons_zero, List.set_cons_succ])
            | (refine wk_skip (wanted_undef _ _ rfl rfl) ?_; simp only [Act.put, List.setIfInBounds_toArray, List.set_cons_zero, List.set_cons_succ])
            | (refine wk_not true _ _ (by first | exact wanted_none rfl | exact wanted_yes _ _ rfl rfl) rfl rfl ?_; simp only [Act.put, List.setIfInBounds_toArray, List.set_cons_zero, List.set_cons_succ])
            | (refine wk_not false _ _ (by first | exact wanted_none rfl | exact wanted_yes _ _ rfl rfl) rfl rfl ?_; simp only [Act.put, List.setIfInBounds_toArray, List.set_cons_zero, List.set_cons_succ]))
          refine wk_convert _ _ _ _ (.int .i64 z) (by kernel_rfl) rfl rfl (fun w => run_conv_int _ _ .u32 .i64 Tryd.underlying52 Tryd.underlying3 _ HW.out w) ?_
          simp only [Act.put, List.setIfInBounds_toArray, List.set_cons_zero, List.set_cons_succ]
          refine wk_eql_int true _ _ _ _ _ _ _ (by kernel_rfl) rfl rfl rfl (by simp) ?_
          simp only [Act.put, List.setIfInBounds_toArray, List.set_cons_zero, List.set_cons_succ]
          repeat (first
            | (refine wk_move _ (by first | exact wanted_none rfl | exact wanted_yes _ _ rfl rfl) rfl ?_; simp only [Act.put, Act.eval, Array.getD_eq_getD_getElem?, List.getElem?_toArray, List.getElem?_cons_succ, List.getElem?_cons_zero, Option.getD_some, List.setIfInBounds_toArray, List.set_cons_zero, List.set_cons_succ])
            | (refine wk_assign _ (by first | exact wanted_none rfl | exact wanted_yes _ _ rfl rfl) rfl ?_; simp only [Act.put, Act.eval, Array.getD_eq_getD_getElem?, List.getElem?_toArray, List.getElem?_cons_succ, List.getElem?_cons_zero, Option.getD_some, List.setIfInBounds_toArray, List.set_cons_zero, List.set_cons_succ])
            | (refine wk_pickt _ _ _ _ (by first | exact wanted_none rfl | exact wanted_yes _ _ rfl rfl) rfl rfl rfl ?_; simp only [Act.put, Act.eval, Array.getD_eq_getD_getElem?, List.getElem?_toArray, List.getElem?_cons_succ, List.getElem?_cons_zero, Option.getD_some, List.setIfInBounds_toArray, List.set_cons_zero, List.set_cons_succ])
            | (refine wk_pickf _ _ _ _ (by first | exact wanted_none rfl | exact wanted_yes _ _ rfl rfl) rfl rfl rfl ?_; simp only [Act.put, Act.eval, Array.getD_eq_getD_getElem?, List.getElem?_toArray, List.getElem?_cons_succ, List.getElem?_cons_zero, Option.getD_some, List.setIfInBounds_toArray, List.set_cons_zero, List.set_cons_succ])
            | (refine wk_skip (wanted_not _ true false rfl rfl rfl) ?_; simp only [Act.put, List.setIfInBounds_toArray, List.set_cons_zero, List.set_cons_succ])
            | (refine wk_skip (wanted_not _ false true rfl rfl rfl) ?_; simp only [Act.put, List.setIfInBounds_toArray, List.set_cons_zero, List.set_cons_succ])
            | (refine wk_skip (wanted_undef _ _ rfl rfl) ?_; simp only [Act.put, List.setIfInBounds_toArray, List.set_cons_zero, List.set_cons_succ])
            | (refine wk_not true _ _ (by first | exact wanted_none rfl | exact wanted_yes _ _ rfl rfl) rfl rfl ?_; simp only [Act.put, List.setIfInBounds_toArray, List.set_cons_zero, List.set_cons_succ])
            | (refine wk_not false _ _ (by first | exact wanted_none rfl | exact wanted_yes _ _ rfl rfl) rfl rfl ?_; simp only [Act.put, List.setIfInBounds_toArray, List.set_cons_zero, List.set_cons_succ]))
          refine wk_eql_int t _ _ _ _ _ _ _ (by kernel_rfl) rfl rfl rfl (HT.out.symm) ?_
          simp only [Act.put, List.setIfInBounds_toArray, List.set_cons_zero, List.set_cons_succ]
          refine wk_eql_bool true _ _ _ _ _ _ (by kernel_rfl) rfl Tryd.underlying4 rfl rfl (by cases t <;> rfl) ?_
          simp only [Act.put, List.setIfInBounds_toArray, List.set_cons_zero, List.set_cons_succ]
          repeat (first
            | (refine wk_move _ (by first | exact wanted_none rfl | exact wanted_yes _ _ rfl rfl) rfl ?_; simp only [Act.put, Act.eval, Array.getD_eq_getD_getElem?, List.getElem?_toArray, List.getElem?_cons_succ, List.getElem?_cons_zero, Option.getD_some, List.setIfInBounds_toArray, List.set_cons_zero, List.set_cons_succ])
            | (refine wk_assign _ (by first | exact wanted_none rfl | exact wanted_yes _ _ rfl rfl) rfl ?_; simp only [Act.put, Act.eval, Array.getD_eq_getD_getElem?, List.getElem?_toArray, List.getElem?_cons_succ, List.getElem?_cons_zero, Option.getD_some, List.setIfInBounds_toArray, List.set_cons_zero, List.set_cons_succ])
            | (refine wk_pickt _ _ _ _ (by first | exact wanted_none rfl | exact wanted_yes _ _ rfl rfl) rfl rfl rfl ?_; simp only [Act.put, Act.eval, Array.getD_eq_getD_getElem?, List.getElem?_toArray, List.getElem?_cons_succ, List.getElem?_cons_zero, Option.getD_some, List.setIfInBounds_toArray, List.set_cons_zero, List.set_cons_succ])
            | (refine wk_pickf _ _ _ _ (by first | exact wanted_none rfl | exact wanted_yes _ _ rfl rfl) rfl rfl rfl ?_; simp only [Act.put, Act.eval, Array.getD_eq_getD_getElem?, List.getElem?_toArray, List.getElem?_cons_succ, List.getElem?_cons_zero, Option.getD_some, List.setIfInBounds_toArray, List.set_cons_zero, List.set_cons_succ])
            | (refine wk_skip (wanted_not _ true false rfl rfl rfl) ?_; simp only [Act.put, List.setIfInBounds_toArray, List.set_cons_zero, List.set_cons_succ])
            | (refine wk_skip (wanted_not _ false true rfl rfl rfl) ?_; simp only [Act.put, List.setIfInBounds_toArray, List.set_cons_zero, List.set_cons_succ])
            | (refine wk_skip (wanted_undef _ _ rfl rfl) ?_; simp only [Act.put, List.setIfInBounds_toArray, List.set_cons_zero, List.set_cons_succ])
            | (refine wk_not true _ _ (by first | exact wanted_none rfl | exact wanted_yes _ _ rfl rfl) rfl rfl ?_; simp only [Act.put, List.setIfInBounds_toArray, List.set_cons_zero, List.set_cons_succ])
            | (refine wk_not false _ _ (by first | exact wanted_none rfl | exact wanted_yes _ _ rfl rfl) rfl rfl ?_; simp only [Act.put, List.setIfInBounds_toArray, List.set_cons_zero, List.set_cons_succ]))
          refine wk_call 41 _ _ _ _ _ (by kernel_rfl) rfl Tryd.func41 rfl (by kernel_rfl) (fun w' hC => hC.call (nodehead_any w')) ?_
          simp only [Act.put, List.setIfInBounds_toArray, List.set_cons_zero, List.set_cons_succ]
          repeat (first
            | (refine wk_move _ (by first | exact wanted_none rfl | exact wanted_yes _ _ rfl rfl) rfl ?_; simp only [Act.put, Act.eval, Array.getD_eq_getD_getElem?, List.getElem?_toArray, List.getElem?_cons_succ, List.getElem?_cons_zero, Option.getD_some, List.setIfInBounds_toArray, List.set_cons_zero, List.set_cons_succ])
            | (refine wk_assign _ (by first | exact wanted_none rfl | exact wanted_yes _ _ rfl rfl) rfl ?_; simp only [Act.put, Act.eval, Array.getD_eq_getD_getElem?, List.getElem?_toArray, List.getElem?_cons_succ, List.getElem?_cons_zero, Option.getD_some, List.setIfInBounds_toArray, List.set_cons_zero, List.set_cons_succ])
            | (refine wk_pickt _ _ _ _ (by first | exact wanted_none rfl | exact wanted_yes _ _ rfl rfl) rfl rfl rfl ?_; simp only [Act.put, Act.eval, Array.getD_eq_getD_getElem?, List.getElem?_toArray, List.getElem?_cons_succ, List.getElem?_cons_zero, Option.getD_some, List.setIfInBounds_toArray, List.set_cons_zero, List.set_cons_succ])
            | (refine wk_pickf _ _ _ _ (by first | exact wanted_none rfl | exact wanted_yes _ _ rfl rfl) rfl rfl rfl ?_; simp only [Act.put, Act.eval, Array.getD_eq_getD_getElem?, List.getElem?_toArray, List.getElem?_cons_succ, List.getElem?_cons_zero, Option.getD_some, List.setIfInBounds_toArray, List.set_cons_zero, List.set_cons_succ])
            | (refine wk_skip (wanted_not _ true false rfl rfl rfl) ?_; simp only [Act.put, List.setIfInBounds_toArray, List.set_cons_zero, List.set_cons_succ])
            | (refine wk_skip (wanted_not _ false true rfl rfl rfl) ?_; simp only [Act.put, List.setIfInBounds_toArray, List.set_cons_zero, List.set_cons_succ])
            | (refine wk_skip (wanted_undef _ _ rfl rfl) ?_; simp only [Act.put, List.setIfInBounds_toArray, List.set_cons_zero, List.set_cons_succ])
            | (refine wk_not true _ _ (by first | exact wanted_none rfl | exact wanted_yes _ _ rfl rfl) rfl rfl ?_; simp only [Act.put, List.setIfInBounds_toArray, List.set_cons_zero, List.set_cons_succ])
            | (refine wk_not false _ _ (by first | exact wanted_none rfl | exact wanted_yes _ _ rfl rfl) rfl rfl ?_; simp only [Act.put, List.setIfInBounds_toArray, List.set_cons_zero, List.set_cons_succ]))
          refine wk_nil ?_
          intro w' hC
          have hfin : Below w.heap.size w w' := hC
          go_wp2_with fail
          go_ret
          exact ⟨rfl, hfin⟩
    · go_enter Tryd.func10, Tryd.ntmps10
      go_wp2_with fail
      refine (HI.out _).mono ?_
      rintro e w1 ⟨rfl, rfl⟩
      go_wp2_with fail
      refine (HR.out _).mono ?_
      rintro e w1 ⟨rfl, rfl⟩
      go_wp2_with fail
      refine (nodehead_any _).mono ?_
      rintro e w1 ⟨rfl, hb⟩
      have HB := Lib.hid hb
      clear hb
      go_wp2_with fail
      go_ret
      exact ⟨rfl, HB.out⟩
  · go_enter Tryd.func10, Tryd.ntmps10
    go_wp2_with fail
    refine (HI.out _).mono ?_
    rintro e w1 ⟨rfl, rfl⟩
    go_wp2_with fail
    refine (HR.out _).mono ?_
    rintro e w1 ⟨rfl, rfl⟩
    go_wp2_with fail
    refine (nodehead_any _).mono ?_
    rintro e w1 ⟨rfl, hb⟩
    have HB := Lib.hid hb
    clear hb
    go_wp2_with fail
    go_ret
    exact ⟨rfl, HB.out⟩
end Go.Proofs.YtnhfkmfmmgaecaaDoor

