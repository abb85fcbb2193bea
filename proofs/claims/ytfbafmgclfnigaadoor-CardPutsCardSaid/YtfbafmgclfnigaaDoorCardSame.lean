/- The card layer's laws: whether two rows of numbers are the same; the document's Kids. -/
import Derived.Test.YtfbafmgclfnigaaDoorCard
import Derived.Test.YtfbafmgclfnigaaDoorKeep
import Derived.Test.YtfbafmgclfnigaaDoorSteps
namespace Go.Proofs.YtfbafmgclfnigaaDoor
open Go.RowKit
set_option linter.unusedSimpArgs false
set_option linter.unusedVariables false
set_option maxRecDepth 100000
/-- The slice v reads as the numbers x. -/
def NumsAt (w : World) (v : Value) (x : List Nat) : Prop := ∃ a c, v = .slice a x.length c ∧ (0 < x.length → ∃ g off, a = some ⟨g, off, none⟩ ∧ g < w.heap.size ∧ ∀ k, (hk : k < x.length) → w.cell? ⟨g, off + k, none⟩ = some (.int .u32 (x[k] : Int)))
theorem NumsAt.below {w w' : World} {v : Value} {x : List Nat} (h : NumsAt w v x) (hb : Below w.heap.size w w') : NumsAt w' v x := by
  obtain ⟨a, c, rfl, h⟩ := h
  refine ⟨a, c, rfl, fun h0 => ?_⟩
  obtain ⟨g, off, rfl, hg, hc⟩ := h h0
  exact ⟨g, off, rfl, Nat.lt_of_lt_of_le hg hb.size, fun k hk => by rw [hb.cell (p := ⟨g, off + k, none⟩) hg]; exact hc k hk⟩
theorem OwnNums.at {w : World} {base : Nat} {v : Value} {x : List Nat} (h : OwnNums w base v x) : NumsAt w v x := by
  obtain ⟨a, c, rfl, hk⟩ := own_form2 h
  refine ⟨a, c, rfl, fun h0 => ?_⟩
  obtain ⟨k, rfl, hb⟩ := hk h0
  have hc := World.ownsRow.cells h hb
  refine ⟨k, 0, rfl, (World.ownsRow.lt h k hb).2, fun j hj => ?_⟩
  have := hc j (cu x[j]) (by simp [hj])
  rw [Addr.add_lit] at this
  exact this
set_option maxHeartbeats 1000000 in
theorem csame_any (w : World) (u v : Value) (x y : List Nat) (hu : NumsAt w u x) (hv : NumsAt w v y) (hx : x.length ≤ 1000) (hy : y.length ≤ 1000) :
    Calls Tryd.prog 15 #[u, v] w fun e w' => e = .returned (.bool (decide (x = y))) ∧ Below w.heap.size w w' := by
  obtain ⟨a, c, rfl, hu⟩ := hu
  obtain ⟨b, d, rfl, hv⟩ := hv
  obtain ⟨m, hm⟩ : ∃ m, m = x.length := ⟨_, rfl⟩
  obtain ⟨n, hn⟩ : ∃ n, n = y.length := ⟨_, rfl⟩
  have HM := Lib.hid hm
  have HN := Lib.hid hn
  have HU := Lib.hid hu
  have HV := Lib.hid hv
  rw [← hm, ← hn]
  rw [← hm] at hx
  rw [← hn] at hy
  clear hm hn hu hv
  by_cases hmn : m = n
  · subst hmn
    go_enter Tryd.func15, Tryd.ntmps15
    go_wp2_with fail
    go_loopw [5] (fun i wr => ∃ k : Nat, k ≤ m ∧ i = .int .i64 k ∧ x.take k = y.take k ∧ Below w.heap.size w wr) (fun i _ => m - (intOf i).toNat)
    case atStart => exact ⟨0, by omega, rfl, by simp, Below.refl _ _⟩
    case round =>
      obtain ⟨k, hk, rfl, heq, hbr⟩ := hrel
      have HEQ := Lib.hid heq
      have HBR := Lib.hid hbr
      clear heq hbr
      by_cases hlt : k < m
      · have hkx : k < x.length := by rw [← HM.out]; exact hlt
        have hky : k < y.length := by rw [← HN.out]; exact hlt
        obtain ⟨g, off, rfl, hg, hc⟩ := HU.out (by omega)
        obtain ⟨g', off', rfl, hg', hc'⟩ := HV.out (by omega)
        have C1 : Hid (∀ w', Since wr w' → w'.cell? ⟨g, off + k, none⟩ = some (.int .u32 (x[k] : Int))) := Lib.hid (fun w' hC => by
          have hb := HBR.out.trans (Below.mono hC HBR.out.size)
          rw [hb.cell (p := ⟨g, off + k, none⟩) hg]; exact hc k hkx)
        have C2 : Hid (∀ w', Since wr w' → w'.cell? ⟨g', off' + k, none⟩ = some (.int .u32 (y[k] : Int))) := Lib.hid (fun w' hC => by
          have hb := HBR.out.trans (Below.mono hC HBR.out.size)
          rw [hb.cell (p := ⟨g', off' + k, none⟩) hg']; exact hc' k hky)
        have HT : Hid (x[k] = y[k] → x.take (k + 1) = y.take (k + 1)) := Lib.hid (fun h => by
          rw [List.take_succ_eq_append_getElem hkx, List.take_succ_eq_append_getElem hky, HEQ.out, h])
        have HF : Hid (x[k] ≠ y[k] → decide (x = y) = false) := Lib.hid (fun h => by
          rw [decide_eq_false_iff_not]
          intro e
          apply h
          subst e
          rfl)
        obtain ⟨p, hp⟩ : ∃ p, p = x[k] := ⟨_, rfl⟩
        obtain ⟨q, hq⟩ : ∃ q, q = y[k] := ⟨_, rfl⟩
        rw [← hp] at C1 HT HF
        rw [← hq] at C2 HT HF
        clear hp hq hc hc' hkx hky
        by_cases hpq : p = q
        · have HTT := Lib.hid (HT.out hpq)
          subst hpq
          go_upto_region 6 with (fail)
          refine wk_region_since (by kernel_rfl) (by kernel_rfl) ?_
          repeat (first
            | (refine wk_move _ (by first | exact wanted_none rfl | exact wanted_yes _ _ rfl rfl) rfl ?_; simp only [Act.put, Act.eval, Array.getD_eq_getD_getElem?, List.getElem?_toArray, List.getElem?_cons_succ, List.getElem?_cons_zero, Option.getD_some, List.setIfInBounds_toArray, List.set_cons_zero, List.set_cons_succ])
            | (refine wk_assign _ (by first | exact wanted_none rfl | exact wanted_yes _ _ rfl rfl) rfl ?_; simp only [Act.put, Act.eval, Array.getD_eq_getD_getElem?, List.getElem?_toArray, List.getElem?_cons_succ, List.getElem?_cons_zero, Option.getD_some, List.setIfInBounds_toArray, List.set_cons_zero, List.set_cons_succ])
            | (refine wk_pickt _ _ _ _ (by first | exact wanted_none rfl | exact wanted_yes _ _ rfl rfl) rfl rfl rfl ?_; simp only [Act.put, Act.eval, Array.getD_eq_getD_getElem?, List.getElem?_toArray, List.getElem?_cons_succ, List.getElem?_cons_zero, Option.getD_some, List.setIfInBounds_toArray, List.set_cons_zero, List.set_cons_succ])
            | (refine wk_pickf _ _ _ _ (by first | exact wanted_none rfl | exact wanted_yes _ _ rfl rfl) rfl rfl rfl ?_; simp only [Act.put, Act.eval, Array.getD_eq_getD_getElem?, List.getElem?_toArray, List.getElem?_cons_succ, List.getElem?_cons_zero, Option.getD_some, List.setIfInBounds_toArray, List.set_cons_zero, List.set_cons_succ])
            | (refine wk_skip (wanted_not _ true false rfl rfl rfl) ?_; simp only [Act.put, List.setIfInBounds_toArray, List.set_cons_zero, List.set_cons_succ])
            | (refine wk_skip (wanted_not _ false true rfl rfl rfl) ?_; simp only [Act.put, List.setIfInBounds_toArray, List.set_cons_zero, List.set_cons_succ])
            | (refine wk_skip (wanted_undef _ _ rfl rfl) ?_; simp only [Act.put, List.setIfInBounds_toArray, List.set_cons_zero, List.set_cons_succ])
            | (refine wk_not true _ _ (by first | exact wanted_none rfl | exact wanted_yes _ _ rfl rfl) rfl rfl ?_; simp only [Act.put, List.setIfInBounds_toArray, List.set_cons_zero, List.set_cons_succ])
            | (refine wk_not false _ _ (by first | exact wanted_none rfl | exact wanted_yes _ _ rfl rfl) rfl rfl ?_; simp only [Act.put, List.setIfInBounds_toArray, List.set_cons_zero, List.set_cons_succ]))
          refine wk_index _ _ _ _ _ _ (m) _ (k) 1 .i64 (by kernel_rfl) rfl Tryd.underlying37 sizeU32 rfl rfl (by omega) ?_
          simp only [Act.put, List.setIfInBounds_toArray, List.set_cons_zero, List.set_cons_succ, Nat.mul_one, Nat.zero_add]
          refine wk_load1 _ _ _ _ _ rfl (by kernel_rfl) rfl rfl (fun w' hC => C1.out w' hC) Tryd.underlying22 ?_
          simp only [Act.put, List.setIfInBounds_toArray, List.set_cons_zero, List.set_cons_succ]
          repeat (first
            | (refine wk_move _ (by first | exact wanted_none rfl | exact wanted_yes _ _ rfl rfl) rfl ?_; simp only [Act.put, Act.eval, Array.getD_eq_getD_getElem?, List.getElem?_toArray, List.getElem?_cons_succ, List.getElem?_cons_zero, Option.getD_some, List.setIfInBounds_toArray, List.set_cons_zero, List.set_cons_succ])
            | (refine wk_assign _ (by first | exact wanted_none rfl | exact wanted_yes _ _ rfl rfl) rfl ?_; simp only [Act.put, Act.eval, Array.getD_eq_getD_getElem?, List.getElem?_toArray, List.getElem?_cons_succ, List.getElem?_cons_zero, Option.getD_some, List.setIfInBounds_toArray, List.set_cons_zero, List.set_cons_succ])
            | (refine wk_pickt _ _ _ _ (by first | exact wanted_none rfl | exact wanted_yes _ _ rfl rfl) rfl rfl rfl ?_; simp only [Act.put, Act.eval, Array.getD_eq_getD_getElem?, List.getElem?_toArray, List.getElem?_cons_succ, List.getElem?_cons_zero, Option.getD_some, List.setIfInBounds_toArray, List.set_cons_zero, List.set_cons_succ])
            | (refine wk_pickf _ _ _ _ (by first | exact wanted_none rfl | exact wanted_yes _ _ rfl rfl) rfl rfl rfl ?_; simp only [Act.put, Act.eval, Array.getD_eq_getD_getElem?, List.getElem?_toArray, List.getElem?_cons_succ, List.getElem?_cons_zero, Option.getD_some, List.setIfInBounds_toArray, List.set_cons_zero, List.set_cons_succ])
            | (refine wk_skip (wanted_not _ true false rfl rfl rfl) ?_; simp only [Act.put, List.setIfInBounds_toArray, List.set_cons_zero, List.set_cons_succ])
            | (refine wk_skip (wanted_not _ false true rfl rfl rfl) ?_; simp only [Act.put, List.setIfInBounds_toArray, List.set_cons_zero, List.set_cons_succ])
            | (refine wk_skip (wanted_undef _ _ rfl rfl) ?_; simp only [Act.put, List.setIfInBounds_toArray, List.set_cons_zero, List.set_cons_succ])
            | (refine wk_not true _ _ (by first | exact wanted_none rfl | exact wanted_yes _ _ rfl rfl) rfl rfl ?_; simp only [Act.put, List.setIfInBounds_toArray, List.set_cons_zero, List.set_cons_succ])
            | (refine wk_not false _ _ (by first | exact wanted_none rfl | exact wanted_yes _ _ rfl rfl) rfl rfl ?_; simp only [Act.put, List.setIfInBounds_toArray, List.set_cons_zero, List.set_cons_succ]))
          refine wk_index _ _ _ _ _ _ (m) _ (k) 1 .i64 (by kernel_rfl) rfl Tryd.underlying37 sizeU32 rfl rfl (by omega) ?_
          simp only [Act.put, List.setIfInBounds_toArray, List.set_cons_zero, List.set_cons_succ, Nat.mul_one, Nat.zero_add]
          refine wk_load1 _ _ _ _ _ rfl (by kernel_rfl) rfl rfl (fun w' hC => C2.out w' hC) Tryd.underlying22 ?_
          simp only [Act.put, List.setIfInBounds_toArray, List.set_cons_zero, List.set_cons_succ]
          refine wk_cmp_int .neq (false) _ _ _ _ _ _ _ (by kernel_rfl) rfl rfl rfl (by simp [cmpInt]) ?_
          simp only [Act.put, List.setIfInBounds_toArray, List.set_cons_zero, List.set_cons_succ]
          refine wk_nil ?_
          intro w' hC
          have HB2 : Hid (Below w.heap.size w w') := Lib.hid (HBR.out.trans (Below.mono hC HBR.out.size))
          clear hC
          go_wp2_with fail
          exact ⟨⟨k + 1, by omega, by go_num, HTT.out, HB2.out⟩, by simp [intOf]; omega⟩
        · have HFF := Lib.hid (HF.out hpq)
          have HPQ : Hid ((((p : Int)) != (q : Int)) = true) := Lib.hid (by
            have : ¬ (p : Int) = (q : Int) := by omega
            simp [this])
          clear hpq
          go_upto_region 6 with (fail)
          refine wk_region_since (by kernel_rfl) (by kernel_rfl) ?_
          repeat (first
            | (refine wk_move _ (by first | exact wanted_none rfl | exact wanted_yes _ _ rfl rfl) rfl ?_; simp only [Act.put, Act.eval, Array.getD_eq_getD_getElem?, List.getElem?_toArray, List.getElem?_cons_succ, List.getElem?_cons_zero, Option.getD_some, List.setIfInBounds_toArray, List.set_cons_zero, List.set_cons_succ])
            | (refine wk_assign _ (by first | exact wanted_none rfl | exact wanted_yes _ _ rfl rfl) rfl ?_; simp only [Act.put, Act.eval, Array.getD_eq_getD_getElem?, List.getElem?_toArray, List.getElem?_cons_succ, List.getElem?_cons_zero, Option.getD_some, List.setIfInBounds_toArray, List.set_cons_zero, List.set_cons_succ])
            | (refine wk_pickt _ _ _ _ (by first | exact wanted_none rfl | exact wanted_yes _ _ rfl rfl) rfl rfl rfl ?_; simp only [Act.put, Act.eval, Array.getD_eq_getD_getElem?, List.getElem?_toArray, List.getElem?_cons_succ, List.getElem?_cons_zero, Option.getD_some, List.setIfInBounds_toArray, List.set_cons_zero, List.set_cons_succ])
            | (refine wk_pickf _ _ _ _ (by first | exact wanted_none rfl | exact wanted_yes _ _ rfl rfl) rfl rfl rfl ?_; simp only [Act.put, Act.eval, Array.getD_eq_getD_getElem?, List.getElem?_toArray, List.getElem?_cons_succ, List.getElem?_cons_zero, Option.getD_some, List.setIfInBounds_toArray, List.set_cons_zero, List.set_cons_succ])
            | (refine wk_skip (wanted_not _ true false rfl rfl rfl) ?_; simp only [Act.put, List.setIfInBounds_toArray, List.set_cons_zero, List.set_cons_succ])
            | (refine wk_skip (wanted_not _ false true rfl rfl rfl) ?_; simp only [Act.put, List.setIfInBounds_toArray, List.set_cons_zero, List.set_cons_succ])
            | (refine wk_skip (wanted_undef _ _ rfl rfl) ?_; simp only [Act.put, List.setIfInBounds_toArray, List.set_cons_zero, List.set_cons_succ])
            | (refine wk_not true _ _ (by first | exact wanted_none rfl | exact wanted_yes _ _ rfl rfl) rfl rfl ?_; simp only [Act.put, List.setIfInBounds_toArray, List.set_cons_zero, List.set_cons_succ])
            | (refine wk_not false _ _ (by first | exact wanted_none rfl | exact wanted_yes _ _ rfl rfl) rfl rfl ?_; simp only [Act.put, List.setIfInBounds_toArray, List.set_cons_zero, List.set_cons_succ]))
          refine wk_index _ _ _ _ _ _ (m) _ (k) 1 .i64 (by kernel_rfl) rfl Tryd.underlying37 sizeU32 rfl rfl (by omega) ?_
          simp only [Act.put, List.setIfInBounds_toArray, List.set_cons_zero, List.set_cons_succ, Nat.mul_one, Nat.zero_add]
          refine wk_load1 _ _ _ _ _ rfl (by kernel_rfl) rfl rfl (fun w' hC => C1.out w' hC) Tryd.underlying22 ?_
          simp only [Act.put, List.setIfInBounds_toArray, List.set_cons_zero, List.set_cons_succ]
          repeat (first
            | (refine wk_move _ (by first | exact wanted_none rfl | exact wanted_yes _ _ rfl rfl) rfl ?_; simp only [Act.put, Act.eval, Array.getD_eq_getD_getElem?, List.getElem?_toArray, List.getElem?_cons_succ, List.getElem?_cons_zero, Option.getD_some, List.setIfInBounds_toArray, List.set_cons_zero, List.set_cons_succ])
            | (refine wk_assign _ (by first | exact wanted_none rfl | exact wanted_yes _ _ rfl rfl) rfl ?_; simp only [Act.put, Act.eval, Array.getD_eq_getD_getElem?, List.getElem?_toArray, List.getElem?_cons_succ, List.getElem?_cons_zero, Option.getD_some, List.setIfInBounds_toArray, List.set_cons_zero, List.set_cons_succ])
            | (refine wk_pickt _ _ _ _ (by first | exact wanted_none rfl | exact wanted_yes _ _ rfl rfl) rfl rfl rfl ?_; simp only [Act.put, Act.eval, Array.getD_eq_getD_getElem?, List.getElem?_toArray, List.getElem?_cons_succ, List.getElem?_cons_zero, Option.getD_some, List.setIfInBounds_toArray, List.set_cons_zero, List.set_cons_succ])
            | (refine wk_pickf _ _ _ _ (by first | exact wanted_none rfl | exact wanted_yes _ _ rfl rfl) rfl rfl rfl ?_; simp only [Act.put, Act.eval, Array.getD_eq_getD_getElem?, List.getElem?_toArray, List.getElem?_cons_succ, List.getElem?_cons_zero, Option.getD_some, List.setIfInBounds_toArray, List.set_cons_zero, List.set_cons_succ])
            | (refine wk_skip (wanted_not _ true false rfl rfl rfl) ?_; simp only [Act.put, List.setIfInBounds_toArray, List.set_cons_zero, List.set_cons_succ])
            | (refine wk_skip (wanted_not _ false true rfl rfl rfl) ?_; simp only [Act.put, List.setIfInBounds_toArray, List.set_cons_zero, List.set_cons_succ])
            | (refine wk_skip (wanted_undef _ _ rfl rfl) ?_; simp only [Act.put, List.setIfInBounds_toArray, List.set_cons_zero, List.set_cons_succ])
            | (refine wk_not true _ _ (by first | exact wanted_none rfl | exact wanted_yes _ _ rfl rfl) rfl rfl ?_; simp only [Act.put, List.setIfInBounds_toArray, List.set_cons_zero, List.set_cons_succ])
            | (refine wk_not false _ _ (by first | exact wanted_none rfl | exact wanted_yes _ _ rfl rfl) rfl rfl ?_; simp only [Act.put, List.setIfInBounds_toArray, List.set_cons_zero, List.set_cons_succ]))
          refine wk_index _ _ _ _ _ _ (m) _ (k) 1 .i64 (by kernel_rfl) rfl Tryd.underlying37 sizeU32 rfl rfl (by omega) ?_
          simp only [Act.put, List.setIfInBounds_toArray, List.set_cons_zero, List.set_cons_succ, Nat.mul_one, Nat.zero_add]
          refine wk_load1 _ _ _ _ _ rfl (by kernel_rfl) rfl rfl (fun w' hC => C2.out w' hC) Tryd.underlying22 ?_
          simp only [Act.put, List.setIfInBounds_toArray, List.set_cons_zero, List.set_cons_succ]
          refine wk_cmp_int .neq (true) _ _ _ _ _ _ _ (by kernel_rfl) rfl rfl rfl (by rw [cmpInt, HPQ.out]) ?_
          simp only [Act.put, List.setIfInBounds_toArray, List.set_cons_zero, List.set_cons_succ]
          refine wk_nil ?_
          intro w' hC
          have HB2 : Hid (Below w.heap.size w w') := Lib.hid (HBR.out.trans (Below.mono hC HBR.out.size))
          clear hC
          go_wp2_with fail
          go_ret
          exact ⟨by rw [HFF.out]; rfl, HB2.out⟩
      · obtain rfl : k = m := by omega
        have HFF : Hid (decide (x = y) = true) := Lib.hid (by
          have := HEQ.out
          rw [List.take_of_length_le (by rw [← HM.out]; exact Nat.le_refl _), List.take_of_length_le (by rw [← HN.out]; exact Nat.le_refl _)] at this
          simp [this])
        go_wp2_with fail
        go_ret
        exact ⟨by rw [HFF.out]; rfl, HBR.out⟩
  · have HFF : Hid (decide (x = y) = false) := Lib.hid (by
      rw [decide_eq_false_iff_not]
      intro e
      exact hmn (by rw [HM.out, HN.out, e]))
    go_enter Tryd.func15, Tryd.ntmps15
    go_wp2_with fail
    go_ret
    exact ⟨by rw [HFF.out]; rfl, Below.refl _ _⟩
set_option maxHeartbeats 1000000 in
theorem refckids_any (c : Card) (hc : c.Ok) (w : World) :
    Calls Tryd.prog 17 #[.agg c.cells] w fun e w' => ∃ v, e = .returned v ∧ NumsAt w' v (some3 c.kids) ∧ Below w.heap.size w w' := by
  have HSS := Lib.hid (fun k (hk : k < 3) => some3_succ c.kids k (by simpa [Card.kids] using hk))
  have HSL := Lib.hid (fun k => Nat.le_trans (some3_len (c.kids.take k)) (List.length_take_le' _ _))
  have HKL : Hid (c.kids.length = 3) := Lib.hid rfl
  have HNN : Hid (∀ k, k < 3 → c.kids.getD k 0 < 4294967296) := Lib.hid (by
    intro k hk
    have : k = 0 ∨ k = 1 ∨ k = 2 := by omega
    rcases this with rfl | rfl | rfl
    · exact hc.left
    · exact hc.right
    · exact hc.root)
  have HK3 : Hid (∀ k, k < 3 → (#[.int .u32 (c.left : Int), .int .u32 (c.right : Int), .int .u32 (c.root : Int)] : Array Value)[k]? = some (.int .u32 (c.kids.getD k 0 : Int))) := Lib.hid (by
    intro k hk
    have : k = 0 ∨ k = 1 ∨ k = 2 := by omega
    rcases this with rfl | rfl | rfl <;> rfl)
  have C1 : Hid (c.cells[1]? = some (.int .u32 (c.left : Int))) := Lib.hid rfl
  have C2 : Hid (c.cells[2]? = some (.int .u32 (c.right : Int))) := Lib.hid rfl
  have C5 : Hid (c.cells[5]? = some (.int .u32 (c.root : Int))) := Lib.hid rfl
  obtain ⟨C, hC⟩ : ∃ C, C = c.cells := ⟨_, rfl⟩
  rw [← hC] at C1 C2 C5 ⊢
  clear hC hc
  obtain ⟨i0, hi, hz0, hz1, hz2⟩ := info_parts infoU32
  have q1 := (Rows.start w).alloc C 26
  go_enter Tryd.func17, Tryd.ntmps17
  go_upto_region 1 with (fail)
  obtain ⟨W1, hW⟩ : ∃ W, W = w.alloc (.cells C 26) := ⟨_, rfl⟩
  rw [← hW] at q1 ⊢
  clear hW
  obtain ⟨g1, hg⟩ : ∃ g, g = w.heap.size := ⟨_, rfl⟩
  rw [← hg] at q1 ⊢
  clear hg
  have R1 := Lib.hid q1
  clear q1
  have d1 := R1.out.cell 0 1 rfl C1.out
  have d2 := R1.out.cell 0 2 rfl C2.out
  have d5 := R1.out.cell 0 5 rfl C5.out
  have q1 := R1.out.alloc #[.int .u32 (c.left : Int), .int .u32 (c.right : Int), .int .u32 (c.root : Int)] 22
  go_upto_region 3 with (fail)
  obtain ⟨W2, hW⟩ : ∃ W, W = W1.alloc (.cells #[.int .u32 (c.left : Int), .int .u32 (c.right : Int), .int .u32 (c.root : Int)] 22) := ⟨_, rfl⟩
  rw [← hW] at q1 ⊢
  clear hW
  obtain ⟨g2, hg⟩ : ∃ g, g = W1.heap.size := ⟨_, rfl⟩
  rw [← hg] at q1 ⊢
  clear hg
  have R2 := Lib.hid q1
  clear q1
  clear d1 d2 d5 C1 C2 C5 R1
  have HG2 : Hid (g2 < W2.heap.size) := Lib.hid (R2.out.lt 0 rfl)
  have HCC : Hid (∀ k, k < 3 → W2.cell? ⟨g2, k, none⟩ = some (.int .u32 (c.kids.getD k 0 : Int))) := Lib.hid (fun k hk => R2.out.cell 0 k rfl (HK3.out k hk))
  have HBW := Lib.hid R2.out.below
  clear HK3 R2
  go_wp2_with fail
  go_loopw [5, 3] (fun i v wr => ∃ k : Nat, k ≤ 3 ∧ i = .int .i64 k ∧ OwnNums wr W2.heap.size v (some3 (c.kids.take k)) ∧ Below W2.heap.size W2 wr) (fun i _ _ => 3 - (intOf i).toNat)
  case atStart => exact ⟨0, by omega, rfl, World.ownsRow_nil _ _ _ _, Below.refl _ _⟩
  case round =>
    obtain ⟨k, hk, rfl, hwr, hbr⟩ := hrel
    have HO := Lib.hid hwr
    have HBR := Lib.hid hbr
    have hbs : W2.heap.size ≤ wr.heap.size := hbr.size
    clear hwr hbr
    by_cases hlt : k < 3
    · have d1 : wr.cell? ⟨g2, k, none⟩ = some (.int .u32 (c.kids.getD k 0 : Int)) := by rw [HBR.out.cell (p := ⟨g2, k, none⟩) HG2.out]; exact HCC.out k hlt
      have H4 := Lib.hid (HSS.out k hlt)
      have hx := HNN.out k hlt
      have hsl := HSL.out k
      rw [HKL.out] at hsl
      obtain ⟨x, hxe⟩ : ∃ x, x = c.kids.getD k 0 := ⟨_, rfl⟩
      rw [← hxe] at d1 H4 hx
      clear hxe
      by_cases hx0 : x = 0
      · subst hx0
        have HE : Hid (some3 (c.kids.take (k + 1)) = some3 (c.kids.take k)) := Lib.hid (by rw [H4.out]; simp)
        go_wp2_with fail
        exact ⟨⟨k + 1, by omega, by go_num, by rw [HE.out]; exact HO.out, HBR.out⟩, by simp [intOf]; omega⟩
      · have hx1 : 0 < x := by omega
        have HE : Hid (some3 (c.kids.take (k + 1)) = some3 (c.kids.take k) ++ [x]) := Lib.hid (by rw [H4.out]; simp [hx0])
        go_wp2_with (at_builtin; refine wpList_append_own_at _ rfl _ _ 37 rfl W2.heap.size 22 i0 (.int .u32 0) 1 4 Tryd.underlying37 hi hz0 hz1 hz2 rfl (by decide) _ _ _ rfl (World.ownsRow.alloc HO.out _) ⟨wr.heap.size, 0, none⟩ 1 1 [.int .u32 (x : Int)] rfl rfl (news_one _ _ _) (by intro u hu; simp at hu; subst hu; rfl) (by unfold maxLen; omega) (by omega) (by simp; omega) ?_; intro v' w1 hown' hgrow hq hat; have HOW := Lib.hid hown'; have HGR := Lib.hid hgrow; clear hown' hgrow hq hat)
        have HO1 : Hid (OwnNums w1 W2.heap.size v' (some3 (c.kids.take (k + 1)))) := Lib.hid (by
          rw [HE.out]; unfold OwnNums
          rw [List.length_append, List.map_append]; exact HOW.out)
        have HB1 : Hid (Below W2.heap.size W2 w1) := Lib.hid ((HBR.out.alloc hbs _).grown HGR.out (by simp; omega) (fun j hj => (World.ownsRow.lt HO.out j hj).1))
        exact ⟨⟨k + 1, by omega, by go_num, HO1.out, HB1.out⟩, by simp [intOf]; omega⟩
    · obtain rfl : k = 3 := by omega
      have HT : Hid (c.kids.take 3 = c.kids) := Lib.hid (List.take_of_length_le (by rw [HKL.out]; exact Nat.le_refl _))
      rw [HT.out] at HO
      have HV := Lib.hid (OwnNums.at HO.out)
      have HBF := Lib.hid (HBW.out.trans (HBR.out.mono HBW.out.size))
      go_wp2_with fail
      go_ret
      exact ⟨_, rfl, HV.out, HBF.out⟩
end Go.Proofs.YtfbafmgclfnigaaDoor
