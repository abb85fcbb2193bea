/- The card layer: May. -/
import Derived.Test.YtnbdnnlomgjlmaaCard
namespace Go.Proofs.Ytnbdnnlomgjlmaa
open Go.RowKit
set_option linter.unusedSimpArgs false
set_option maxRecDepth 100000 in
set_option maxHeartbeats 1000000 in
theorem may_any (c : Card) (hc : c.Ok) (w : World) :
    Calls Try.prog 59 #[.agg c.cells] w fun e w' => e = .returned (.bool c.may) ∧ Below w.heap.size w w' := by
  obtain ⟨W, hW⟩ : ∃ W, W = (w.alloc (.cells c.cells 51)).alloc (.cells c.vol 49) := ⟨_, rfl⟩
  have hB : Below w.heap.size w W := by rw [hW]; exact ((Below.refl _ _).alloc (Nat.le_refl _) _).alloc (by simp) _
  have hg0 : W.heap[w.heap.size]? = some (.cells c.cells 51 (0, 0)) := by rw [hW]; exact heap_alloc2_old w _ _
  have hg1 : W.heap[w.heap.size + 1]? = some (.cells c.vol 49 (0, 0)) := by rw [hW]; exact heap_alloc2_new w _ _
  have H1 := Lib.hid (m1_any c hc W _ hg0)
  have H2 := Lib.hid (m2_any c W _ hg0)
  have H3 := Lib.hid (m3_any c W _ hg1)
  have H4 := Lib.hid (m4_any c W _ hg1)
  have H5 := Lib.hid (m5_any c W _ hg1)
  have HW := Lib.hid hW
  have HB := Lib.hid hB
  have HM : Hid (c.may = (c.m1 && (c.m2 && (c.m3 && (c.m4 && c.m5))))) := Lib.hid rfl
  clear hW hg0 hg1 hB
  unfold Card.cells Card.vol cu at HW
  unfold Card.cells cu
  go_enter Try.func59, Try.ntmps59
  go_wp2_with fail
  rw [← HW.out]
  have sz : (Try.prog.info? 24).map (·.size) = some 1 := by kernel_rfl
  have SZ := Lib.hid sz
  clear sz
  refine wp_loop_rounds 6 ?_
  rw [rounds_succ]
  by_cases hm1 : c.m1 = false
  · rw [hm1] at H1
    have HMF : Hid (c.may = false) := Lib.hid (by rw [HM.out, hm1]; simp)
    clear hm1
    go_wp2_with
      (first
        | (refine wpList_index_one _ rfl 126 (.tmp 13) (.tmp 14) rfl 24 5 _ .i64 0 _ _ rfl rfl Try.underlying126 Try.underlying24 rfl SZ.out (by decide) rfl ?_)
        | (go_at_call 83; refine H1.out.mono ?_; rintro e w1 ⟨rfl, rfl⟩))
    go_ret
    exact ⟨by rw [HMF.out]; rfl, HB.out⟩
  have T1 : Hid (c.m1 = true) := Lib.hid (by simpa using hm1)
  rw [T1.out] at H1
  clear hm1
  go_wp2_with
    (first
      | (refine wpList_index_one _ rfl 126 (.tmp 13) (.tmp 14) rfl 24 5 _ .i64 0 _ _ rfl rfl Try.underlying126 Try.underlying24 rfl SZ.out (by decide) rfl ?_)
      | (go_at_call 83; refine H1.out.mono ?_; rintro e w1 ⟨rfl, rfl⟩))
  rw [rounds_succ]
  by_cases hm2 : c.m2 = false
  · rw [hm2] at H2
    have HMF : Hid (c.may = false) := Lib.hid (by rw [HM.out, T1.out, hm2]; simp)
    clear hm2
    go_wp2_with
      (first
        | (refine wpList_index_one _ rfl 126 (.tmp 13) (.tmp 14) rfl 24 5 _ .i64 1 _ _ rfl rfl Try.underlying126 Try.underlying24 rfl SZ.out (by decide) rfl ?_)
        | (go_at_call 84; refine H2.out.mono ?_; rintro e w1 ⟨rfl, rfl⟩))
    go_ret
    exact ⟨by rw [HMF.out]; rfl, HB.out⟩
  have T2 : Hid (c.m2 = true) := Lib.hid (by simpa using hm2)
  rw [T2.out] at H2
  clear hm2
  go_wp2_with
    (first
      | (refine wpList_index_one _ rfl 126 (.tmp 13) (.tmp 14) rfl 24 5 _ .i64 1 _ _ rfl rfl Try.underlying126 Try.underlying24 rfl SZ.out (by decide) rfl ?_)
      | (go_at_call 84; refine H2.out.mono ?_; rintro e w1 ⟨rfl, rfl⟩))
  rw [rounds_succ]
  by_cases hm3 : c.m3 = false
  · rw [hm3] at H3
    have HMF : Hid (c.may = false) := Lib.hid (by rw [HM.out, T1.out, T2.out, hm3]; simp)
    clear hm3
    go_wp2_with
      (first
        | (refine wpList_index_one _ rfl 126 (.tmp 13) (.tmp 14) rfl 24 5 _ .i64 2 _ _ rfl rfl Try.underlying126 Try.underlying24 rfl SZ.out (by decide) rfl ?_)
        | (go_at_call 85; refine H3.out.mono ?_; rintro e w1 ⟨rfl, rfl⟩))
    go_ret
    exact ⟨by rw [HMF.out]; rfl, HB.out⟩
  have T3 : Hid (c.m3 = true) := Lib.hid (by simpa using hm3)
  rw [T3.out] at H3
  clear hm3
  go_wp2_with
    (first
      | (refine wpList_index_one _ rfl 126 (.tmp 13) (.tmp 14) rfl 24 5 _ .i64 2 _ _ rfl rfl Try.underlying126 Try.underlying24 rfl SZ.out (by decide) rfl ?_)
      | (go_at_call 85; refine H3.out.mono ?_; rintro e w1 ⟨rfl, rfl⟩))
  rw [rounds_succ]
  by_cases hm4 : c.m4 = false
  · rw [hm4] at H4
    have HMF : Hid (c.may = false) := Lib.hid (by rw [HM.out, T1.out, T2.out, T3.out, hm4]; simp)
    clear hm4
    go_wp2_with
      (first
        | (refine wpList_index_one _ rfl 126 (.tmp 13) (.tmp 14) rfl 24 5 _ .i64 3 _ _ rfl rfl Try.underlying126 Try.underlying24 rfl SZ.out (by decide) rfl ?_)
        | (go_at_call 86; refine H4.out.mono ?_; rintro e w1 ⟨rfl, rfl⟩))
    go_ret
    exact ⟨by rw [HMF.out]; rfl, HB.out⟩
  have T4 : Hid (c.m4 = true) := Lib.hid (by simpa using hm4)
  rw [T4.out] at H4
  clear hm4
  go_wp2_with
    (first
      | (refine wpList_index_one _ rfl 126 (.tmp 13) (.tmp 14) rfl 24 5 _ .i64 3 _ _ rfl rfl Try.underlying126 Try.underlying24 rfl SZ.out (by decide) rfl ?_)
      | (go_at_call 86; refine H4.out.mono ?_; rintro e w1 ⟨rfl, rfl⟩))
  rw [rounds_succ]
  by_cases hm5 : c.m5 = false
  · rw [hm5] at H5
    have HMF : Hid (c.may = false) := Lib.hid (by rw [HM.out, T1.out, T2.out, T3.out, T4.out, hm5]; simp)
    clear hm5
    go_wp2_with
      (first
        | (refine wpList_index_one _ rfl 126 (.tmp 13) (.tmp 14) rfl 24 5 _ .i64 4 _ _ rfl rfl Try.underlying126 Try.underlying24 rfl SZ.out (by decide) rfl ?_)
        | (go_at_call 87; refine H5.out.mono ?_; rintro e w1 ⟨rfl, rfl⟩))
    go_ret
    exact ⟨by rw [HMF.out]; rfl, HB.out⟩
  have T5 : Hid (c.m5 = true) := Lib.hid (by simpa using hm5)
  rw [T5.out] at H5
  clear hm5
  go_wp2_with
    (first
      | (refine wpList_index_one _ rfl 126 (.tmp 13) (.tmp 14) rfl 24 5 _ .i64 4 _ _ rfl rfl Try.underlying126 Try.underlying24 rfl SZ.out (by decide) rfl ?_)
      | (go_at_call 87; refine H5.out.mono ?_; rintro e w1 ⟨rfl, rfl⟩))
  rw [rounds_succ]
  have HMT : Hid (c.may = true) := Lib.hid (by rw [HM.out, T1.out, T2.out, T3.out, T4.out, T5.out]; rfl)
  go_wp2_with fail
  go_ret
  exact ⟨by rw [HMT.out]; rfl, HB.out⟩
end Go.Proofs.Ytnbdnnlomgjlmaa
