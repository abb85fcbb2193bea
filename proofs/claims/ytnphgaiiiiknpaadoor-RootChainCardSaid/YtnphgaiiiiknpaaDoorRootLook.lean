/- The root layer: Size, none; which of two roots is the older one. The root layer: the greater one of two roots that were found (slices.MaxFunc). The root layer: look: what stands in a slot. -/
import Derived.Test.YtnphgaiiiiknpaaDoorRootMay
import Derived.Test.YtnphgaiiiiknpaaDoorDev9
import Derived.Test.YtnphgaiiiiknpaaDoorSlotEq
import Derived.Test.YtnphgaiiiiknpaaDoorPair
namespace Go.Proofs.YtnphgaiiiiknpaaDoor
open Go.RowKit
set_option linter.unusedSimpArgs false
set_option linter.unusedVariables false
set_option maxRecDepth 100000
section
variable {w : World} {g : Nat} {s : Dv}
theorem size_dev (h : (dvT g s).at w) : Calls Tryd.prog 25 #[.pointer (some ⟨g, 0, none⟩)] w fun e w' => e = .returned (.int .u32 (s.size : Int)) ∧ w = w' := by
  have HD := Lib.hid h
  obtain ⟨gm, pv, fv, h⟩ := dv_open h
  have h0 : w.cell? ⟨g, 0, none⟩ = some (.int .u32 (s.size : Int)) := cell_of_row w g 0 _ _ _ h.row
  clear h
  go_enter Tryd.func25, Tryd.ntmps25
  go_wp2_with (go_at_call 33; refine (none_dev HD.out).mono ?_; rintro e w1 ⟨rfl, rfl⟩)
  go_ret
  exact ⟨rfl, rfl⟩
theorem rnone_dev (h : (dvT g s).at w) (h0 : 0 < s.size) : Calls Tryd.prog 24 #[.pointer (some ⟨g, 0, none⟩)] w fun e w' => e = .returned (.bool false) ∧ w = w' := by
  have HD := Lib.hid (size_dev h)
  have h1 : ((s.size : Int) == 0) = false := by simp; omega
  clear h
  go_enter Tryd.func24, Tryd.ntmps24
  go_wp2_with (go_at_call 25; refine HD.out.mono ?_; rintro e w1 ⟨rfl, rfl⟩)
  go_ret
  exact ⟨rfl, rfl⟩
end
def cmpN (a b : Nat) : Int := if a < b then -1 else if b < a then 1 else 0
theorem isnan64_is (a : Nat) (w : World) : Calls Tryd.prog 66 #[.int .u64 (a : Int)] w fun e w' => e = .returned (.bool false) ∧ w = w' := by
  have h1 : ((a : Int) == (a : Int)) = true := by simp
  go_enter Tryd.func66, Tryd.ntmps66
  go_wp2_with fail
  go_ret
  exact ⟨rfl, rfl⟩
set_option maxHeartbeats 1000000 in
theorem compare64_is (a b : Nat) (w : World) : Calls Tryd.prog 55 #[.int .u64 (a : Int), .int .u64 (b : Int)] w fun e w' => e = .returned (.int .i64 (cmpN a b)) ∧ w = w' := by
  have HA := Lib.hid (isnan64_is a)
  have HB := Lib.hid (isnan64_is b)
  unfold cmpN
  by_cases h1 : a < b
  · rw [if_pos h1]
    have h1' : decide ((a : Int) < (b : Int)) = true := by simp; omega
    go_enter Tryd.func55, Tryd.ntmps55
    go_wp2_with fail
    refine (HA.out _).mono ?_
    rintro e w1 ⟨rfl, rfl⟩
    go_wp2_with fail
    refine (HB.out _).mono ?_
    rintro e w1 ⟨rfl, rfl⟩
    go_wp2_with fail
    go_ret
    exact ⟨rfl, rfl⟩
  · rw [if_neg h1]
    have h1' : decide ((a : Int) < (b : Int)) = false := by simp; omega
    by_cases h2 : b < a
    · rw [if_pos h2]
      have h2' : decide ((b : Int) < (a : Int)) = true := by simp; omega
      go_enter Tryd.func55, Tryd.ntmps55
      go_wp2_with fail
      refine (HA.out _).mono ?_
      rintro e w1 ⟨rfl, rfl⟩
      go_wp2_with fail
      refine (HB.out _).mono ?_
      rintro e w1 ⟨rfl, rfl⟩
      go_wp2_with fail
      go_ret
      exact ⟨rfl, rfl⟩
    · rw [if_neg h2]
      have h2' : decide ((b : Int) < (a : Int)) = false := by simp; omega
      go_enter Tryd.func55, Tryd.ntmps55
      go_wp2_with fail
      refine (HA.out _).mono ?_
      rintro e w1 ⟨rfl, rfl⟩
      go_wp2_with fail
      refine (HB.out _).mono ?_
      rintro e w1 ⟨rfl, rfl⟩
      go_wp2_with fail
      go_ret
      exact ⟨rfl, rfl⟩
/-- A root that was, if there is one. -/
def foundC (r : Root) (b : Bool) : Array Value := #[.int .u64 (r.gen : Int), .int .u32 (r.size : Int), .int .u32 (r.picks : Int), .int .u32 (r.names : Int), .int .u32 (r.free : Int), .int .u32 (r.next : Int), .int .u32 (r.hint : Int), .int .u8 (r.vols : Int), .bool b]
def cmpF (f g : Root × Bool) : Int := if f.2 = g.2 then cmpN f.1.gen g.1.gen else if f.2 then 1 else -1
theorem sizeFound : (Tryd.prog.info? 81).map (·.size) = some 9 := by kernel_rfl
set_option maxHeartbeats 1000000 in
theorem compare_is (f g : Root × Bool) (w : World) : Calls Tryd.prog 38 #[.agg (foundC f.1 f.2), .agg (foundC g.1 g.2)] w fun e w' => e = .returned (.int .i64 (cmpF f g)) ∧ Below w.heap.size w w' := by
  obtain ⟨r, a⟩ := f
  obtain ⟨s, b⟩ := g
  have hR := ((Held.start w).alloc (foundC r a) 81).alloc (foundC s b) 81
  obtain ⟨W, hW⟩ : ∃ W, W = (w.alloc (.cells (foundC r a) 81)).alloc (.cells (foundC s b) 81) := ⟨_, rfl⟩
  obtain ⟨g1, hg1⟩ : ∃ g, g = w.heap.size := ⟨_, rfl⟩
  rw [← hW, show (w.alloc (.cells (foundC r a) 81)).heap.size = g1 + 1 by rw [hg1]; simp, ← hg1] at hR
  obtain ⟨g2, hg2⟩ : ∃ g2, g2 = g1 + 1 := ⟨_, rfl⟩
  rw [← hg2] at hR
  have HW := Lib.hid hW
  have HG := Lib.hid hg1
  have HG2 := Lib.hid hg2
  have R0 := Lib.hid hR
  have c1 : W.cell? ⟨g1, 8, none⟩ = some (.bool a) := R0.out.cell 1 8 rfl rfl
  have c2 : W.cell? ⟨g2, 8, none⟩ = some (.bool b) := R0.out.cell 0 8 rfl rfl
  have d1 : W.cell? ⟨g1, 0, none⟩ = some (.int .u64 (r.gen : Int)) := R0.out.cell 1 0 rfl rfl
  have d2 : W.cell? ⟨g2, 0, none⟩ = some (.int .u64 (s.gen : Int)) := R0.out.cell 0 0 rfl rfl
  have HC := Lib.hid (compare64_is r.gen s.gen)
  have HV : Hid (cmpF (r, a) (s, b) = if a = b then cmpN r.gen s.gen else if a then 1 else -1) := Lib.hid rfl
  unfold foundC at HW ⊢
  generalize r.gen = rg at HC HV d1 HW ⊢
  generalize s.gen = sg at HC HV d2 HW ⊢
  clear hW hg1 hg2 hR
  cases a <;> cases b
  all_goals
    go_enter Tryd.func38, Tryd.ntmps38
    go_upto_region 1 with (fail)
    rw [← HW.out, ← HG.out, ← HG2.out]
    go_wp2_with (go_at_call 55; refine (HC.out _).mono ?_; rintro e w1 ⟨rfl, rfl⟩)
    go_ret
    exact ⟨by rw [HV.out]; rfl, R0.out.below⟩
end Go.Proofs.YtnphgaiiiiknpaaDoor
namespace Go.Proofs.YtnphgaiiiiknpaaDoor
open Go.RowKit
set_option linter.unusedSimpArgs false
set_option linter.unusedVariables false
set_option maxRecDepth 100000
theorem rangeAt_bel {w w' : World} {b off : Nat} {l : List Value} (h : w.rangeAt b off l) (hb : b < w.heap.size) (hB : Below w.heap.size w w') : w'.rangeAt b off l := fun j v hv => (hB.cell (p := ⟨b, off + j, none⟩) hb).trans (h j v hv)
def zeroRt : Root := ⟨0, 0, 0, 0, 0, 0, 0, 0⟩
theorem zeroFound : (Tryd.prog.info? 81).bind (·.zero) = some (.agg (foundC zeroRt false)) := by kernel_rfl
theorem foundC_one (r : Root) (b : Bool) : (foundC r b).all (·.oneCell') = true := by simp [foundC, Value.oneCell']
/-- The later one. -/
def maxF (f g : Root × Bool) : Root × Bool := if 0 < cmpF g f then g else f
set_option maxHeartbeats 2000000 in
theorem maxfunc_is (f0 f1 : Root × Bool) (b : Nat) (w : World) (hb : b < w.heap.size) (h0 : w.rangeAt b 0 (foundC f0.1 f0.2).toList) (h1 : w.rangeAt b 9 (foundC f1.1 f1.2).toList) :
    Calls Tryd.prog 37 #[.slice (some ⟨b, 0, none⟩) 2 2, .func (.func 38) #[] #[]] w fun e w' => e = .returned (.agg (foundC (maxF f0 f1).1 (maxF f0 f1).2)) ∧ Below w.heap.size w w' := by
  have hq := (Held.start w).alloc (foundC zeroRt false) 81
  obtain ⟨V0, hW⟩ : ∃ W, W = w.alloc (.cells (foundC zeroRt false) 81) := ⟨_, rfl⟩
  obtain ⟨g, hg⟩ : ∃ g, g = w.heap.size := ⟨_, rfl⟩
  rw [← hW, ← hg] at hq
  have HW := Lib.hid hW
  have HG := Lib.hid hg
  have R0 := Lib.hid hq
  have HB := Lib.hid hb
  have H0 := Lib.hid h0
  have H1 := Lib.hid h1
  have HC := Lib.hid (compare_is f1 f0)
  have HV : Hid (maxF f0 f1 = if 0 < cmpF f1 f0 then f1 else f0) := Lib.hid rfl
  obtain ⟨Z, hZ⟩ : ∃ Z, Z = foundC zeroRt false := ⟨_, rfl⟩
  have HZ : Hid ((Tryd.prog.info? 81).bind (·.zero) = some (.agg Z)) := Lib.hid (by rw [hZ]; exact zeroFound)
  obtain ⟨C0, hC0⟩ : ∃ C, C = foundC f0.1 f0.2 := ⟨_, rfl⟩
  obtain ⟨C1, hC1⟩ : ∃ C, C = foundC f1.1 f1.2 := ⟨_, rfl⟩
  have HS0 : Hid (C0.size = 9 ∧ C0.all (·.oneCell') = true) := Lib.hid (by rw [hC0]; exact ⟨rfl, foundC_one _ _⟩)
  have HS1 : Hid (C1.size = 9 ∧ C1.all (·.oneCell') = true) := Lib.hid (by rw [hC1]; exact ⟨rfl, foundC_one _ _⟩)
  have HSZ : Hid (Z.size = 9) := Lib.hid (by rw [hZ]; rfl)
  obtain ⟨M, hM⟩ : ∃ M, M = foundC (maxF f0 f1).1 (maxF f0 f1).2 := ⟨_, rfl⟩
  have HM : Hid (M = if 0 < cmpF f1 f0 then C1 else C0) := Lib.hid (by rw [hM, HV.out]; split <;> simp [*])
  obtain ⟨d, hd⟩ : ∃ d, d = cmpF f1 f0 := ⟨_, rfl⟩
  rw [← hd] at HC HM
  rw [← hM]
  rw [← hC0] at H0 HC
  rw [← hC1] at H1 HC
  rw [← hZ] at R0 HW
  have HMS : Hid (M.size = 9 ∧ M.all (·.oneCell') = true) := Lib.hid (by rw [HM.out]; split; exact HS1.out; exact HS0.out)
  clear hq hW hg hb h0 h1 hZ hC0 hC1 hM hd HV
  go_enter Tryd.func37, Tryd.ntmps37
  go_upto_region 1 with (refine wpList_alloc_row rfl 81 rfl _ HZ.out ?_)
  rw [← HW.out, ← HG.out]
  have q1 := R0.out.alloc C0 81
  go_upto_region 3 with (fail)
  go_upto_region 4 with (first
    | refine wpList_load_arr rfl 81 _ rfl b 0 rfl C0 _ (rangeAt_bel H0.out HB.out R0.out.below) Tryd.underlying81 rfl (by rw [HS0.out.1]; exact sizeFound) ?_
    | refine wpList_alloc_row rfl 81 rfl _ HZ.out ?_
    | refine wpList_store_new rfl 81 _ _ rfl _ C0 _ rfl rfl (by rw [HS0.out.1]; exact sizeFound) (by rw [HSZ.out, HS0.out.1]) HS0.out.2 ?_)
  obtain ⟨g5, hg⟩ : ∃ g, g = V0.heap.size := ⟨_, rfl⟩
  obtain ⟨V1, hW⟩ : ∃ V, V = V0.alloc (.cells C0 81) := ⟨_, rfl⟩
  rw [← hW] at q1 ⊢
  rw [← hg] at q1 ⊢
  have R1 := Lib.hid q1
  clear q1 hW hg R0
  go_wp2_with fail
  go_loopw [6] (fun i wr => ∃ (k : Nat) (X : Array Value), (k = 1 ∧ X = C0 ∨ k = 2 ∧ X = M) ∧ i = .int .i64 (k : Int) ∧ Held w wr [rowT g5 X 81, rowT g Z 81]) (fun i _ => 2 - (intOf i).toNat)
  case atStart => exact ⟨1, C0, .inl ⟨rfl, rfl⟩, rfl, R1.out⟩
  case round =>
    obtain ⟨k, X, hk, rfl, hR⟩ := hrel
    have R2 := Lib.hid hR
    clear hR R1
    rcases hk with ⟨rfl, rfl⟩ | ⟨rfl, rfl⟩
    · go_upto_region 7 with (fail)
      have HC2 : Hid (∀ w' : World, Since wr w' → w'.rangeAt b 9 C1.toList) := Lib.hid (fun w' hC => rangeAt_bel H1.out HB.out (R2.out.since hC).below)
      by_cases hd : 0 < d
      · have HD : Hid (cmpInt .gtr d 0 = some true) := Lib.hid (by simp [cmpInt, hd])
        have HM2 : Hid (M = C1) := Lib.hid (by rw [HM.out, if_pos hd])
        clear hd
        refine wk_region_since (by kernel_rfl) (by kernel_rfl) ?_
        repeat (first
          | (refine wk_move _ (by first | exact wanted_none rfl | exact wanted_yes _ _ rfl rfl) rfl ?_; simp only [Act.put, Act.eval, Array.getD_eq_getD_getElem?, List.getElem?_toArray, List.getElem?_cons_succ, List.getElem?_cons_zero, Option.getD_some, List.setIfInBounds_toArray, List.set_cons_zero, List.set_cons_succ])
          | (refine wk_assign _ (by first | exact wanted_none rfl | exact wanted_yes _ _ rfl rfl) rfl ?_; simp only [Act.put, Act.eval, Array.getD_eq_getD_getElem?, List.getElem?_toArray, List.getElem?_cons_succ, List.getElem?_cons_zero, Option.getD_some, List.setIfInBounds_toArray, List.set_cons_zero, List.set_cons_succ])
          | (refine wk_pickt _ _ _ _ (by first | exact wanted_none rfl | exact wanted_yes _ _ rfl rfl) rfl rfl rfl ?_; simp only [Act.put, Act.eval, Array.getD_eq_getD_getElem?, List.getElem?_toArray, List.getElem?_cons_succ, List.getElem?_cons_zero, Option.getD_some, List.setIfInBounds_toArray, List.set_cons_zero, List.set_cons_succ])
          | (refine wk_pickf _ _ _ _ (by first | exact wanted_none rfl | exact wanted_yes _ _ rfl rfl) rfl rfl rfl ?_; simp only [Act.put, Act.eval, Array.getD_eq_getD_getElem?, List.getElem?_toArray, List.getElem?_cons_succ, List.getElem?_cons_zero, Option.getD_some, List.setIfInBounds_toArray, List.set_cons_zero, List.set_cons_succ])
          | (refine wk_skip (wanted_not _ true false rfl rfl rfl) ?_; simp only [Act.put, List.setIfInBounds_toArray, List.set_cons_zero, List.set_cons_succ])
          | (refine wk_skip (wanted_not _ false true rfl rfl rfl) ?_; simp only [Act.put, List.setIfInBounds_toArray, List.set_cons_zero, List.set_cons_succ])
          | (refine wk_skip (wanted_undef _ _ rfl rfl) ?_; simp only [Act.put, List.setIfInBounds_toArray, List.set_cons_zero, List.set_cons_succ])
          | (refine wk_not true _ _ (by first | exact wanted_none rfl | exact wanted_yes _ _ rfl rfl) rfl rfl ?_; simp only [Act.put, List.setIfInBounds_toArray, List.set_cons_zero, List.set_cons_succ])
          | (refine wk_not false _ _ (by first | exact wanted_none rfl | exact wanted_yes _ _ rfl rfl) rfl rfl ?_; simp only [Act.put, List.setIfInBounds_toArray, List.set_cons_zero, List.set_cons_succ]))
        refine wk_index 85 81 _ _ b 0 2 2 1 9 .i64 (by kernel_rfl) rfl Tryd.underlying85 sizeFound rfl rfl (by decide) ?_
        simp only [Act.put, List.setIfInBounds_toArray, List.set_cons_zero, List.set_cons_succ]
        refine wk_load_mid 81 _ b 9 C1 _ (by kernel_rfl) rfl rfl (fun w' hC => HC2.out w' hC) Tryd.underlying81 rfl (by rw [HS1.out.1]; exact sizeFound) ?_
        simp only [Act.put, List.setIfInBounds_toArray, List.set_cons_zero, List.set_cons_succ]
        refine wk_load_row 81 _ g5 81 X (0, 0) _ (by kernel_rfl) rfl rfl (fun w' hC => hC.row (R2.out.get 0 rfl)) Tryd.underlying81 rfl (by rw [HS0.out.1]; exact sizeFound) ?_
        simp only [Act.put, List.setIfInBounds_toArray, List.set_cons_zero, List.set_cons_succ]
        refine wk_callv 38 _ _ _ _ _ _ (by kernel_rfl) rfl rfl Tryd.func38 rfl (by kernel_rfl) (fun w' hC => hC.call (HC.out w')) ?_
        simp only [Act.put, List.setIfInBounds_toArray, List.set_cons_zero, List.set_cons_succ]
        refine wk_cmp_int .gtr (true) _ _ _ _ _ _ _ (by kernel_rfl) rfl rfl rfl (HD.out) ?_
        simp only [Act.put, List.setIfInBounds_toArray, List.set_cons_zero, List.set_cons_succ]
        repeat (first
          | (refine wk_move _ (by first | exact wanted_none rfl | exact wanted_yes _ _ rfl rfl) rfl ?_; simp only [Act.put, Act.eval, Array.getD_eq_getD_getElem?, List.getElem?_toArray, List.getElem?_cons_succ, List.getElem?_cons_zero, Option.getD_some, List.setIfInBounds_toArray, List.set_cons_zero, List.set_cons_succ])
          | (refine wk_assign _ (by first | exact wanted_none rfl | exact wanted_yes _ _ rfl rfl) rfl ?_; simp only [Act.put, Act.eval, Array.getD_eq_getD_getElem?, List.getElem?_toArray, List.getElem?_cons_succ, List.getElem?_cons_zero, Option.getD_some, List.setIfInBounds_toArray, List.set_cons_zero, List.set_cons_succ])
          | (refine wk_pickt _ _ _ _ (by first | exact wanted_none rfl | exact wanted_yes _ _ rfl rfl) rfl rfl rfl ?_; simp only [Act.put, Act.eval, Array.getD_eq_getD_getElem?, List.getElem?_toArray, List.getElem?_cons_succ, List.getElem?_cons_zero, Option.getD_some, List.setIfInBounds_toArray, List.set_cons_zero, List.set_cons_succ])
          | (refine wk_pickf _ _ _ _ (by first | exact wanted_none rfl | exact wanted_yes _ _ rfl rfl) rfl rfl rfl ?_; simp only [Act.put, Act.eval, Array.getD_eq_getD_getElem?, List.getElem?_toArray, List.getElem?_cons_succ, List.getElem?_cons_zero, Option.getD_some, List.setIfInBounds_toArray, List.set_cons_zero, List.set_cons_succ])
          | (refine wk_skip (wanted_not _ true false rfl rfl rfl) ?_; simp only [Act.put, List.setIfInBounds_toArray, List.set_cons_zero, List.set_cons_succ])
          | (refine wk_skip (wanted_not _ false true rfl rfl rfl) ?_; simp only [Act.put, List.setIfInBounds_toArray, List.set_cons_zero, List.set_cons_succ])
          | (refine wk_skip (wanted_undef _ _ rfl rfl) ?_; simp only [Act.put, List.setIfInBounds_toArray, List.set_cons_zero, List.set_cons_succ])
          | (refine wk_not true _ _ (by first | exact wanted_none rfl | exact wanted_yes _ _ rfl rfl) rfl rfl ?_; simp only [Act.put, List.setIfInBounds_toArray, List.set_cons_zero, List.set_cons_succ])
          | (refine wk_not false _ _ (by first | exact wanted_none rfl | exact wanted_yes _ _ rfl rfl) rfl rfl ?_; simp only [Act.put, List.setIfInBounds_toArray, List.set_cons_zero, List.set_cons_succ]))
        refine wk_nil ?_
        intro w' hC
        have R3 := Lib.hid (R2.out.since hC)
        have HC3 := Lib.hid (HC2.out _ hC)
        clear hC R2 HC2
        go_upto_region 6 with (first
          | refine wpList_load_arr rfl 81 _ rfl b 9 rfl C1 _ HC3.out Tryd.underlying81 rfl (by rw [HS1.out.1]; exact sizeFound) ?_
          | refine wpList_store_row rfl 81 _ _ rfl g5 C1 rfl rfl 81 _ (R3.out.get 0 rfl) (by rw [HS1.out.1]; exact sizeFound) (by rw [HS1.out.1, HS0.out.1]) HS1.out.2 ?_)
        have q1 := R3.out.setRow 0 C1 rfl
        obtain ⟨V2, hW⟩ : ∃ V, V = w'.setRow g5 C1 := ⟨_, rfl⟩
        rw [← hW] at q1 ⊢
        have R4 := Lib.hid q1
        clear q1 hW R3 HC3
        go_wp2_with fail
        exact ⟨⟨2, C1, .inr ⟨rfl, HM2.out.symm⟩, by go_num, R4.out⟩, by simp [intOf]⟩
      · have HD : Hid (cmpInt .gtr d 0 = some false) := Lib.hid (by simp [cmpInt]; omega)
        have HM2 : Hid (M = X) := Lib.hid (by rw [HM.out, if_neg hd])
        clear hd
        refine wk_region_since (by kernel_rfl) (by kernel_rfl) ?_
        repeat (first
          | (refine wk_move _ (by first | exact wanted_none rfl | exact wanted_yes _ _ rfl rfl) rfl ?_; simp only [Act.put, Act.eval, Array.getD_eq_getD_getElem?, List.getElem?_toArray, List.getElem?_cons_succ, List.getElem?_cons_zero, Option.getD_some, List.setIfInBounds_toArray, List.set_cons_zero, List.set_cons_succ])
          | (refine wk_assign _ (by first | exact wanted_none rfl | exact wanted_yes _ _ rfl rfl) rfl ?_; simp only [Act.put, Act.eval, Array.getD_eq_getD_getElem?, List.getElem?_toArray, List.getElem?_cons_succ, List.getElem?_cons_zero, Option.getD_some, List.setIfInBounds_toArray, List.set_cons_zero, List.set_cons_succ])
          | (refine wk_pickt _ _ _ _ (by first | exact wanted_none rfl | exact wanted_yes _ _ rfl rfl) rfl rfl rfl ?_; simp only [Act.put, Act.eval, Array.getD_eq_getD_getElem?, List.getElem?_toArray, List.getElem?_cons_succ, List.getElem?_cons_zero, Option.getD_some, List.setIfInBounds_toArray, List.set_cons_zero, List.set_cons_succ])
          | (refine wk_pickf _ _ _ _ (by first | exact wanted_none rfl | exact wanted_yes _ _ rfl rfl) rfl rfl rfl ?_; simp only [Act.put, Act.eval, Array.getD_eq_getD_getElem?, List.getElem?_toArray, List.getElem?_cons_succ, List.getElem?_cons_zero, Option.getD_some, List.setIfInBounds_toArray, List.set_cons_zero, List.set_cons_succ])
          | (refine wk_skip (wanted_not _ true false rfl rfl rfl) ?_; simp only [Act.put, List.setIfInBounds_toArray, List.set_cons_zero, List.set_cons_succ])
          | (refine wk_skip (wanted_not _ false true rfl rfl rfl) ?_; simp only [Act.put, List.setIfInBounds_toArray, List.set_cons_zero, List.set_cons_succ])
          | (refine wk_skip (wanted_undef _ _ rfl rfl) ?_; simp only [Act.put, List.setIfInBounds_toArray, List.set_cons_zero, List.set_cons_succ])
          | (refine wk_not true _ _ (by first | exact wanted_none rfl | exact wanted_yes _ _ rfl rfl) rfl rfl ?_; simp only [Act.put, List.setIfInBounds_toArray, List.set_cons_zero, List.set_cons_succ])
          | (refine wk_not false _ _ (by first | exact wanted_none rfl | exact wanted_yes _ _ rfl rfl) rfl rfl ?_; simp only [Act.put, List.setIfInBounds_toArray, List.set_cons_zero, List.set_cons_succ]))
        refine wk_index 85 81 _ _ b 0 2 2 1 9 .i64 (by kernel_rfl) rfl Tryd.underlying85 sizeFound rfl rfl (by decide) ?_
        simp only [Act.put, List.setIfInBounds_toArray, List.set_cons_zero, List.set_cons_succ]
        refine wk_load_mid 81 _ b 9 C1 _ (by kernel_rfl) rfl rfl (fun w' hC => HC2.out w' hC) Tryd.underlying81 rfl (by rw [HS1.out.1]; exact sizeFound) ?_
        simp only [Act.put, List.setIfInBounds_toArray, List.set_cons_zero, List.set_cons_succ]
        refine wk_load_row 81 _ g5 81 X (0, 0) _ (by kernel_rfl) rfl rfl (fun w' hC => hC.row (R2.out.get 0 rfl)) Tryd.underlying81 rfl (by rw [HS0.out.1]; exact sizeFound) ?_
        simp only [Act.put, List.setIfInBounds_toArray, List.set_cons_zero, List.set_cons_succ]
        refine wk_callv 38 _ _ _ _ _ _ (by kernel_rfl) rfl rfl Tryd.func38 rfl (by kernel_rfl) (fun w' hC => hC.call (HC.out w')) ?_
        simp only [Act.put, List.setIfInBounds_toArray, List.set_cons_zero, List.set_cons_succ]
        refine wk_cmp_int .gtr (false) _ _ _ _ _ _ _ (by kernel_rfl) rfl rfl rfl (HD.out) ?_
        simp only [Act.put, List.setIfInBounds_toArray, List.set_cons_zero, List.set_cons_succ]
        repeat (first
          | (refine wk_move _ (by first | exact wanted_none rfl | exact wanted_yes _ _ rfl rfl) rfl ?_; simp only [Act.put, Act.eval, Array.getD_eq_getD_getElem?, List.getElem?_toArray, List.getElem?_cons_succ, List.getElem?_cons_zero, Option.getD_some, List.setIfInBounds_toArray, List.set_cons_zero, List.set_cons_succ])
          | (refine wk_assign _ (by first | exact wanted_none rfl | exact wanted_yes _ _ rfl rfl) rfl ?_; simp only [Act.put, Act.eval, Array.getD_eq_getD_getElem?, List.getElem?_toArray, List.getElem?_cons_succ, List.getElem?_cons_zero, Option.getD_some, List.setIfInBounds_toArray, List.set_cons_zero, List.set_cons_succ])
          | (refine wk_pickt _ _ _ _ (by first | exact wanted_none rfl | exact wanted_yes _ _ rfl rfl) rfl rfl rfl ?_; simp only [Act.put, Act.eval, Array.getD_eq_getD_getElem?, List.getElem?_toArray, List.getElem?_cons_succ, List.getElem?_cons_zero, Option.getD_some, List.setIfInBounds_toArray, List.set_cons_zero, List.set_cons_succ])
          | (refine wk_pickf _ _ _ _ (by first | exact wanted_none rfl | exact wanted_yes _ _ rfl rfl) rfl rfl rfl ?_; simp only [Act.put, Act.eval, Array.getD_eq_getD_getElem?, List.getElem?_toArray, List.getElem?_cons_succ, List.getElem?_cons_zero, Option.getD_some, List.setIfInBounds_toArray, List.set_cons_zero, List.set_cons_succ])
          | (refine wk_skip (wanted_not _ true false rfl rfl rfl) ?_; simp only [Act.put, List.setIfInBounds_toArray, List.set_cons_zero, List.set_cons_succ])
          | (refine wk_skip (wanted_not _ false true rfl rfl rfl) ?_; simp only [Act.put, List.setIfInBounds_toArray, List.set_cons_zero, List.set_cons_succ])
          | (refine wk_skip (wanted_undef _ _ rfl rfl) ?_; simp only [Act.put, List.setIfInBounds_toArray, List.set_cons_zero, List.set_cons_succ])
          | (refine wk_not true _ _ (by first | exact wanted_none rfl | exact wanted_yes _ _ rfl rfl) rfl rfl ?_; simp only [Act.put, List.setIfInBounds_toArray, List.set_cons_zero, List.set_cons_succ])
          | (refine wk_not false _ _ (by first | exact wanted_none rfl | exact wanted_yes _ _ rfl rfl) rfl rfl ?_; simp only [Act.put, List.setIfInBounds_toArray, List.set_cons_zero, List.set_cons_succ]))
        refine wk_nil ?_
        intro w' hC
        have R3 := Lib.hid (R2.out.since hC)
        have HC3 := Lib.hid (HC2.out _ hC)
        clear hC R2 HC2
        go_wp2_with fail
        exact ⟨⟨2, X, .inr ⟨rfl, HM2.out.symm⟩, by go_num, R3.out⟩, by simp [intOf]⟩
    · go_wp2_with (first
        | refine wpList_load_row rfl 81 _ rfl g5 rfl 81 X (0, 0) _ (R2.out.get 0 rfl) Tryd.underlying81 rfl (by rw [HMS.out.1]; exact sizeFound) ?_
        | refine wpList_store_row rfl 81 _ _ rfl g X rfl rfl 81 _ (R2.out.get 1 rfl) (by rw [HMS.out.1]; exact sizeFound) (by rw [HMS.out.1, HSZ.out]) HMS.out.2 ?_)
      have R3 := R2.out.setRow 1 X rfl
      exact bodyPost_ret (v := .agg X) (results_cell_row rfl _ _ g 81 _ (0, 0) _ rfl (R3.get 1 rfl) Tryd.underlying81 rfl (by rw [HMS.out.1]; exact sizeFound)) rfl ⟨rfl, R3.below⟩
end Go.Proofs.YtnphgaiiiiknpaaDoor
namespace Go.Proofs.YtnphgaiiiiknpaaDoor
open Go.RowKit
set_option linter.unusedSimpArgs false
set_option linter.unusedVariables false
set_option maxRecDepth 100000
def rootIn (b : List UInt8) : Root := if isRoot b then rootOf b else zeroRt
def lookF (s : Dv) (a : Nat) : Root × Bool := (rootIn (readB s a), isRoot (readB s a) && (decide ((rootIn (readB s a)).gen % 2 = a) && mayR (rootIn (readB s a)) s.size))
theorem rootIn_cells (b : List UInt8) : getC b = (rootIn b).cells := by
  unfold getC rootIn
  split <;> rfl
theorem zeroRt_ok : zeroRt.Ok := by constructor <;> decide
theorem rootIn_ok (b : List UInt8) (hb : b.length = 256) : (rootIn b).Ok := by
  unfold rootIn
  split
  · exact rootOf_ok b hb
  · exact zeroRt_ok
section
variable {P : Program} {ops : Array Oper} {C : World → Prop} {o : Oper} {a : Act} {rest : List Oper} {Q : Act → Prop}
theorem wk_rem2 (t ty : TypeId) (x y : Operand) (m : Nat) (hm : m < 2 ^ 64) (hw : Region.wanted o (yielded ops a.tmps) = true) (ho : o.op = .binOp .rem t x y ty) (hx : a.eval x = .int .u64 (m : Int)) (hy : a.eval y = .int .u64 2)
    (h : WQ P ops C Q rest (a.put o.dst (.int .u64 ((m % 2 : Nat) : Int)))) : WQ P ops C Q (o :: rest) a :=
  wk_bin _ .rem t ty x y hw ho (fun w => by
    have h0 : (eqGuard .rem t x y (.int .u64 (m : Int)) (.int .u64 2)).run P w = .ok () w := rfl
    have h2 : Int.tmod (m : Int) 2 = ((m % 2 : Nat) : Int) := by rw [Int.tmod_eq_emod_of_nonneg (by omega)]; omega
    have h1 : (binOp .rem t (.int .u64 (m : Int)) (.int .u64 2)).run P w = .ok (.int .u64 (Int.tmod (m : Int) 2)) w := by
      simp [binOp, Op.intArith, Op.intDiv]
    simp only [hx, hy, Sem.run_bind, h0, Result.andThen_ok, h1, h2]) h
end
theorem builtFound (x0 : Int) (x1 x2 x3 x4 x5 x6 x7 : Int) (b : Bool) : Tryd.prog.built 81 [(0, .agg #[.int .u64 x0, .int .u32 x1, .int .u32 x2, .int .u32 x3, .int .u32 x4, .int .u32 x5, .int .u32 x6, .int .u8 x7]), (1, .bool b)] = some #[.int .u64 x0, .int .u32 x1, .int .u32 x2, .int .u32 x3, .int .u32 x4, .int .u32 x5, .int .u32 x6, .int .u8 x7, .bool b] := by kernel_rfl
theorem builtFoundR (r : Root) (b : Bool) : Tryd.prog.built 81 [(0, .agg r.cells), (1, .bool b)] = some (foundC r b) := by
  unfold Root.cells foundC
  exact builtFound _ _ _ _ _ _ _ _ b
theorem oneRt (r : Root) : r.cells.all (·.oneCell') = true := by simp [Root.cells, Value.oneCell']
section
variable {w : World} {g : Nat} {s : Dv}
set_option maxHeartbeats 2000000 in
theorem look_is (h : (dvT g s).at w) (a : Nat) (ha : a < 2) :
    Calls Tryd.prog 36 #[.pointer (some ⟨g, 0, none⟩), .int .u32 (a : Int)] w fun e w' => e = .returned (.agg (foundC (lookF s a).1 (lookF s a).2)) ∧ Below w.heap.size w w' := by
  have hq := (Held.start w).alloc (foundC zeroRt false) 81
  obtain ⟨V0, hW⟩ : ∃ W, W = w.alloc (.cells (foundC zeroRt false) 81) := ⟨_, rfl⟩
  obtain ⟨g4, hg⟩ : ∃ g, g = w.heap.size := ⟨_, rfl⟩
  rw [← hW, ← hg] at hq
  have HW := Lib.hid hW
  have HG := Lib.hid hg
  have R0 := Lib.hid hq
  have HD := Lib.hid h
  have HRD := Lib.hid (read_dev (h.since hq.below) a (by omega))
  have HSZ : Hid (∀ w' : World, Below w.heap.size w w' → Calls Tryd.prog 25 #[.pointer (some ⟨g, 0, none⟩)] w' fun e w'' => e = .returned (.int .u32 (s.size : Int)) ∧ w' = w'') := Lib.hid (fun w' hb => size_dev (h.since hb))
  have hs : s.size < 4294967296 := (dv_open h).choose_spec.choose_spec.choose_spec.ok.size
  have hbl : (readB s a).length = 256 := length_readB s (dv_open h).choose_spec.choose_spec.choose_spec.ok a
  have HBL := Lib.hid hbl
  obtain ⟨Z, hZ⟩ : ∃ Z, Z = foundC zeroRt false := ⟨_, rfl⟩
  have HZ : Hid ((Tryd.prog.info? 81).bind (·.zero) = some (.agg Z)) := Lib.hid (by rw [hZ]; exact zeroFound)
  rw [← hZ] at R0 HW
  have HGT := Lib.hid (rget_any (readB s a) hbl)
  have HLF : Hid (lookF s a = (rootIn (readB s a), isRoot (readB s a) && (decide ((rootIn (readB s a)).gen % 2 = a) && mayR (rootIn (readB s a)) s.size))) := Lib.hid rfl
  have hgc := rootIn_cells (readB s a)
  have hok := rootIn_ok (readB s a) hbl
  have hge : getE (readB s a) = if isRoot (readB s a) then 0 else 250 := rfl
  obtain ⟨B, hB⟩ : ∃ B, B = readB s a := ⟨_, rfl⟩
  rw [← hB] at HRD HBL HGT HLF hgc hok hge
  obtain ⟨r, hr⟩ : ∃ r, r = rootIn B := ⟨_, rfl⟩
  rw [← hr] at HLF hgc hok
  obtain ⟨i, hi⟩ : ∃ i, i = isRoot B := ⟨_, rfl⟩
  rw [← hi] at HLF hge
  obtain ⟨E, hE⟩ : ∃ E, E = getE B := ⟨_, rfl⟩
  rw [← hE] at HGT hge
  rw [hgc] at HGT
  have HRM := Lib.hid (rootmay_is r hok s.size hs)
  clear hq hW hg h hbl hgc hB hr hi hE
  have HZS : Hid (Z.size = 9) := Lib.hid (by rw [hZ]; rfl)
  have HGE := Lib.hid hge
  have HU : Hid (IntKind.u64.wrap (a : Int) = (a : Int)) := Lib.hid (by rw [IntKind.wrap_u64]; omega)
  clear hge hZ
  go_enter Tryd.func36, Tryd.ntmps36
  go_upto_region 1 with (refine wpList_alloc_row rfl 81 rfl _ HZ.out ?_)
  rw [← HW.out, ← HG.out]
  go_wp2_with fail
  refine (HRD.out).mono ?_
  rintro e w1 ⟨rfl, hb⟩
  have q1 := (R0.out.call hb).alloc (blk B) 45
  clear hb
  go_upto_region 2 with (first | refine wpList_alloc_row rfl 45 rfl _ zeroB ?_ | refine wpList_store_new rfl 45 _ _ rfl _ (blk B) _ rfl rfl (by rw [size_blk, HBL.out]; exact sizeB) (by rw [size_blk, HBL.out, size_zeros]) (blk_one _) ?_)
  obtain ⟨W1, hW⟩ : ∃ W, W = w1.alloc (.cells (blk B) 45) := ⟨_, rfl⟩
  rw [← hW] at q1 ⊢
  clear hW
  obtain ⟨g5, hg⟩ : ∃ g, g = w1.heap.size := ⟨_, rfl⟩
  rw [← hg] at q1 ⊢
  clear hg
  have R1 := Lib.hid q1
  clear q1
  go_wp2_with (refine wpList_load_row rfl 45 _ rfl g5 rfl 45 (blk B) (0, 0) _ (R1.out.get 0 rfl) Tryd.underlying45 rfl (by rw [size_blk, HBL.out]; exact sizeB) ?_)
  refine (HGT.out _).mono ?_
  rintro e w2 ⟨rfl, hb⟩
  have q1 := (R1.out.call hb).alloc (r.cells) 34
  clear hb
  go_upto_region 3 with (first | refine wpList_alloc_row rfl 34 rfl _ zeroR ?_ | refine wpList_store_new rfl 34 _ _ rfl _ r.cells _ rfl rfl (sizeR) rfl (oneRt r) ?_)
  obtain ⟨W2, hW⟩ : ∃ W, W = w2.alloc (.cells (r.cells) 34) := ⟨_, rfl⟩
  rw [← hW] at q1 ⊢
  clear hW
  obtain ⟨g7, hg⟩ : ∃ g, g = w2.heap.size := ⟨_, rfl⟩
  rw [← hg] at q1 ⊢
  clear hg
  have R2 := Lib.hid q1
  clear q1
  have hge := HGE.out
  cases i with
  | false =>
    rw [if_neg (by decide)] at hge
    subst hge
    have HV : Hid (lookF s a = (r, false)) := Lib.hid (by rw [HLF.out]; rfl)
    refine wk_region_tail 18 (by kernel_rfl) (by kernel_rfl) ?_
    simp only [List.take_succ_cons, List.take_zero, List.drop_succ_cons, List.drop_zero]
    refine wk_load_row 34 _ g7 34 r.cells (0, 0) _ (by kernel_rfl) rfl rfl (fun w' hC => hC.row (R2.out.get 0 rfl)) Tryd.underlying34 rfl sizeR ?_
    simp only [Act.put, List.setIfInBounds_toArray, List.set_cons_zero, List.set_cons_succ]
    repeat (first
      | (refine wk_move _ (by first | exact wanted_none rfl | exact wanted_yes _ _ rfl rfl) rfl ?_; simp only [Act.put, Act.eval, Array.getD_eq_getD_getElem?, List.getElem?_toArray, List.getElem?_cons_succ, List.getElem?_cons_zero, Option.getD_some, List.setIfInBounds_toArray, List.set_cons_zero, List.set_cons_succ])
      | (refine wk_assign _ (by first | exact wanted_none rfl | exact wanted_yes _ _ rfl rfl) rfl ?_; simp only [Act.put, Act.eval, Array.getD_eq_getD_getElem?, List.getElem?_toArray, List.getElem?_cons_succ, List.getElem?_cons_zero, Option.getD_some, List.setIfInBounds_toArray, List.set_cons_zero, List.set_cons_succ])
      | (refine wk_pickt _ _ _ _ (by first | exact wanted_none rfl | exact wanted_yes _ _ rfl rfl) rfl rfl rfl ?_; simp only [Act.put, Act.eval, Array.getD_eq_getD_getElem?, List.getElem?_toArray, List.getElem?_cons_succ, List.getElem?_cons_zero, Option.getD_some, List.setIfInBounds_toArray, List.set_cons_zero, List.set_cons_succ])
      | (refine wk_pickf _ _ _ _ (by first | exact wanted_none rfl | exact wanted_yes _ _ rfl rfl) rfl rfl rfl ?_; simp only [Act.put, Act.eval, Array.getD_eq_getD_getElem?, List.getElem?_toArray, List.getElem?_cons_succ, List.getElem?_cons_zero, Option.getD_some, List.setIfInBounds_toArray, List.set_cons_zero, List.set_cons_succ])
      | (refine wk_skip (wanted_not _ true false rfl rfl rfl) ?_; simp only [Act.put, List.setIfInBounds_toArray, List.set_cons_zero, List.set_cons_succ])
      | (refine wk_skip (wanted_not _ false true rfl rfl rfl) ?_; simp only [Act.put, List.setIfInBounds_toArray, List.set_cons_zero, List.set_cons_succ])
      | (refine wk_skip (wanted_undef _ _ rfl rfl) ?_; simp only [Act.put, List.setIfInBounds_toArray, List.set_cons_zero, List.set_cons_succ])
      | (refine wk_not true _ _ (by first | exact wanted_none rfl | exact wanted_yes _ _ rfl rfl) rfl rfl ?_; simp only [Act.put, List.setIfInBounds_toArray, List.set_cons_zero, List.set_cons_succ])
      | (refine wk_not false _ _ (by first | exact wanted_none rfl | exact wanted_yes _ _ rfl rfl) rfl rfl ?_; simp only [Act.put, List.setIfInBounds_toArray, List.set_cons_zero, List.set_cons_succ]))
    refine wk_cmp_int .eql (false) _ _ _ _ _ _ _ (by kernel_rfl) rfl rfl rfl (rfl) ?_
    simp only [Act.put, List.setIfInBounds_toArray, List.set_cons_zero, List.set_cons_succ]
    repeat (first
      | (refine wk_move _ (by first | exact wanted_none rfl | exact wanted_yes _ _ rfl rfl) rfl ?_; simp only [Act.put, Act.eval, Array.getD_eq_getD_getElem?, List.getElem?_toArray, List.getElem?_cons_succ, List.getElem?_cons_zero, Option.getD_some, List.setIfInBounds_toArray, List.set_cons_zero, List.set_cons_succ])
      | (refine wk_assign _ (by first | exact wanted_none rfl | exact wanted_yes _ _ rfl rfl) rfl ?_; simp only [Act.put, Act.eval, Array.getD_eq_getD_getElem?, List.getElem?_toArray, List.getElem?_cons_succ, List.getElem?_cons_zero, Option.getD_some, List.setIfInBounds_toArray, List.set_cons_zero, List.set_cons_succ])
      | (refine wk_pickt _ _ _ _ (by first | exact wanted_none rfl | exact wanted_yes _ _ rfl rfl) rfl rfl rfl ?_; simp only [Act.put, Act.eval, Array.getD_eq_getD_getElem?, List.getElem?_toArray, List.getElem?_cons_succ, List.getElem?_cons_zero, Option.getD_some, List.setIfInBounds_toArray, List.set_cons_zero, List.set_cons_succ])
      | (refine wk_pickf _ _ _ _ (by first | exact wanted_none rfl | exact wanted_yes _ _ rfl rfl) rfl rfl rfl ?_; simp only [Act.put, Act.eval, Array.getD_eq_getD_getElem?, List.getElem?_toArray, List.getElem?_cons_succ, List.getElem?_cons_zero, Option.getD_some, List.setIfInBounds_toArray, List.set_cons_zero, List.set_cons_succ])
      | (refine wk_skip (wanted_not _ true false rfl rfl rfl) ?_; simp only [Act.put, List.setIfInBounds_toArray, List.set_cons_zero, List.set_cons_succ])
      | (refine wk_skip (wanted_not _ false true rfl rfl rfl) ?_; simp only [Act.put, List.setIfInBounds_toArray, List.set_cons_zero, List.set_cons_succ])
      | (refine wk_skip (wanted_undef _ _ rfl rfl) ?_; simp only [Act.put, List.setIfInBounds_toArray, List.set_cons_zero, List.set_cons_succ])
      | (refine wk_not true _ _ (by first | exact wanted_none rfl | exact wanted_yes _ _ rfl rfl) rfl rfl ?_; simp only [Act.put, List.setIfInBounds_toArray, List.set_cons_zero, List.set_cons_succ])
      | (refine wk_not false _ _ (by first | exact wanted_none rfl | exact wanted_yes _ _ rfl rfl) rfl rfl ?_; simp only [Act.put, List.setIfInBounds_toArray, List.set_cons_zero, List.set_cons_succ]))
    refine wk_build 81 _ [(0, .agg r.cells), (1, .bool false)] (foundC r false) (by exact wanted_none rfl) rfl (by simp [Act.eval]) (builtFoundR r false) ?_
    simp only [Act.put, List.setIfInBounds_toArray, List.set_cons_zero, List.set_cons_succ]
    refine wk_nil ?_
    intro w' hC
    have R3 := Lib.hid (R2.out.since hC)
    clear hC
    go_wp2_with (refine wpList_store_row rfl 81 _ _ rfl g4 (foundC r false) rfl rfl 81 _ (R3.out.get 2 rfl) sizeFound (by rw [HZS.out]; rfl) (foundC_one _ _) ?_)
    have R4 := R3.out.setRow 2 (foundC r false) rfl
    exact bodyPost_ret (v := .agg (foundC r false)) (results_cell_row rfl _ _ g4 81 _ (0, 0) _ rfl (R4.get 2 rfl) Tryd.underlying81 rfl sizeFound) rfl ⟨by rw [HV.out], R4.below⟩
  | true =>
    rw [if_pos rfl] at hge
    subst hge
    by_cases hg2 : r.gen % 2 = a
    · have HEQ : Hid (cmpInt .eql ((r.gen % 2 : Nat) : Int) (a : Int) = some true) := Lib.hid (by simp only [cmpInt]; congr 1; rw [hg2]; simp)
      obtain ⟨my, hmy⟩ : ∃ m, m = mayR r s.size := ⟨_, rfl⟩
      rw [← hmy] at HRM HLF
      have HV : Hid (lookF s a = (r, my)) := Lib.hid (by rw [HLF.out, decide_eq_true hg2]; rfl)
      clear hmy hg2
      refine wk_region_tail 18 (by kernel_rfl) (by kernel_rfl) ?_
      simp only [List.take_succ_cons, List.take_zero, List.drop_succ_cons, List.drop_zero]
      refine wk_load_row 34 _ g7 34 r.cells (0, 0) _ (by kernel_rfl) rfl rfl (fun w' hC => hC.row (R2.out.get 0 rfl)) Tryd.underlying34 rfl sizeR ?_
      simp only [Act.put, List.setIfInBounds_toArray, List.set_cons_zero, List.set_cons_succ]
      repeat (first
        | (refine wk_move _ (by first | exact wanted_none rfl | exact wanted_yes _ _ rfl rfl) rfl ?_; simp only [Act.put, Act.eval, Array.getD_eq_getD_getElem?, List.getElem?_toArray, List.getElem?_cons_succ, List.getElem?_cons_zero, Option.getD_some, List.setIfInBounds_toArray, List.set_cons_zero, List.set_cons_succ])
        | (refine wk_assign _ (by first | exact wanted_none rfl | exact wanted_yes _ _ rfl rfl) rfl ?_; simp only [Act.put, Act.eval, Array.getD_eq_getD_getElem?, List.getElem?_toArray, List.getElem?_cons_succ, List.getElem?_cons_zero, Option.getD_some, List.setIfInBounds_toArray, List.set_cons_zero, List.set_cons_succ])
        | (refine wk_pickt _ _ _ _ (by first | exact wanted_none rfl | exact wanted_yes _ _ rfl rfl) rfl rfl rfl ?_; simp only [Act.put, Act.eval, Array.getD_eq_getD_getElem?, List.getElem?_toArray, List.getElem?_cons_succ, List.getElem?_cons_zero, Option.getD_some, List.setIfInBounds_toArray, List.set_cons_zero, List.set_cons_succ])
        | (refine wk_pickf _ _ _ _ (by first | exact wanted_none rfl | exact wanted_yes _ _ rfl rfl) rfl rfl rfl ?_; simp only [Act.put, Act.eval, Array.getD_eq_getD_getElem?, List.getElem?_toArray, List.getElem?_cons_succ, List.getElem?_cons_zero, Option.getD_some, List.setIfInBounds_toArray, List.set_cons_zero, List.set_cons_succ])
        | (refine wk_skip (wanted_not _ true false rfl rfl rfl) ?_; simp only [Act.put, List.setIfInBounds_toArray, List.set_cons_zero, List.set_cons_succ])
        | (refine wk_skip (wanted_not _ false true rfl rfl rfl) ?_; simp only [Act.put, List.setIfInBounds_toArray, List.set_cons_zero, List.set_cons_succ])
        | (refine wk_skip (wanted_undef _ _ rfl rfl) ?_; simp only [Act.put, List.setIfInBounds_toArray, List.set_cons_zero, List.set_cons_succ])
        | (refine wk_not true _ _ (by first | exact wanted_none rfl | exact wanted_yes _ _ rfl rfl) rfl rfl ?_; simp only [Act.put, List.setIfInBounds_toArray, List.set_cons_zero, List.set_cons_succ])
        | (refine wk_not false _ _ (by first | exact wanted_none rfl | exact wanted_yes _ _ rfl rfl) rfl rfl ?_; simp only [Act.put, List.setIfInBounds_toArray, List.set_cons_zero, List.set_cons_succ]))
      refine wk_cmp_int .eql (true) _ _ _ _ _ _ _ (by kernel_rfl) rfl rfl rfl (rfl) ?_
      simp only [Act.put, List.setIfInBounds_toArray, List.set_cons_zero, List.set_cons_succ]
      repeat (first
        | (refine wk_move _ (by first | exact wanted_none rfl | exact wanted_yes _ _ rfl rfl) rfl ?_; simp only [Act.put, Act.eval, Array.getD_eq_getD_getElem?, List.getElem?_toArray, List.getElem?_cons_succ, List.getElem?_cons_zero, Option.getD_some, List.setIfInBounds_toArray, List.set_cons_zero, List.set_cons_succ])
        | (refine wk_assign _ (by first | exact wanted_none rfl | exact wanted_yes _ _ rfl rfl) rfl ?_; simp only [Act.put, Act.eval, Array.getD_eq_getD_getElem?, List.getElem?_toArray, List.getElem?_cons_succ, List.getElem?_cons_zero, Option.getD_some, List.setIfInBounds_toArray, List.set_cons_zero, List.set_cons_succ])
        | (refine wk_pickt _ _ _ _ (by first | exact wanted_none rfl | exact wanted_yes _ _ rfl rfl) rfl rfl rfl ?_; simp only [Act.put, Act.eval, Array.getD_eq_getD_getElem?, List.getElem?_toArray, List.getElem?_cons_succ, List.getElem?_cons_zero, Option.getD_some, List.setIfInBounds_toArray, List.set_cons_zero, List.set_cons_succ])
        | (refine wk_pickf _ _ _ _ (by first | exact wanted_none rfl | exact wanted_yes _ _ rfl rfl) rfl rfl rfl ?_; simp only [Act.put, Act.eval, Array.getD_eq_getD_getElem?, List.getElem?_toArray, List.getElem?_cons_succ, List.getElem?_cons_zero, Option.getD_some, List.setIfInBounds_toArray, List.set_cons_zero, List.set_cons_succ])
        | (refine wk_skip (wanted_not _ true false rfl rfl rfl) ?_; simp only [Act.put, List.setIfInBounds_toArray, List.set_cons_zero, List.set_cons_succ])
        | (refine wk_skip (wanted_not _ false true rfl rfl rfl) ?_; simp only [Act.put, List.setIfInBounds_toArray, List.set_cons_zero, List.set_cons_succ])
        | (refine wk_skip (wanted_undef _ _ rfl rfl) ?_; simp only [Act.put, List.setIfInBounds_toArray, List.set_cons_zero, List.set_cons_succ])
        | (refine wk_not true _ _ (by first | exact wanted_none rfl | exact wanted_yes _ _ rfl rfl) rfl rfl ?_; simp only [Act.put, List.setIfInBounds_toArray, List.set_cons_zero, List.set_cons_succ])
        | (refine wk_not false _ _ (by first | exact wanted_none rfl | exact wanted_yes _ _ rfl rfl) rfl rfl ?_; simp only [Act.put, List.setIfInBounds_toArray, List.set_cons_zero, List.set_cons_succ]))
      refine wk_field 34 _ 32 0 0 _ _ _ (by first | exact wanted_none rfl | exact wanted_yes _ _ rfl rfl) rfl (by kernel_rfl) (by kernel_rfl) (by kernel_rfl) rfl ?_
      simp only [Act.put, List.setIfInBounds_toArray, List.set_cons_zero, List.set_cons_succ, Nat.zero_add]
      refine wk_load1 _ _ _ _ _ rfl (by kernel_rfl) rfl rfl (fun w' hC => hC.cell (R2.out.cell 0 0 rfl rfl)) Tryd.underlying32 ?_
      simp only [Act.put, List.setIfInBounds_toArray, List.set_cons_zero, List.set_cons_succ]
      refine wk_rem2 _ _ _ _ r.gen hok.gen (wanted_yes _ _ rfl rfl) rfl rfl rfl ?_
      simp only [Act.put, List.setIfInBounds_toArray, List.set_cons_zero, List.set_cons_succ]
      repeat (first
        | (refine wk_move _ (by first | exact wanted_none rfl | exact wanted_yes _ _ rfl rfl) rfl ?_; simp only [Act.put, Act.eval, Array.getD_eq_getD_getElem?, List.getElem?_toArray, List.getElem?_cons_succ, List.getElem?_cons_zero, Option.getD_some, List.setIfInBounds_toArray, List.set_cons_zero, List.set_cons_succ])
        | (refine wk_assign _ (by first | exact wanted_none rfl | exact wanted_yes _ _ rfl rfl) rfl ?_; simp only [Act.put, Act.eval, Array.getD_eq_getD_getElem?, List.getElem?_toArray, List.getElem?_cons_succ, List.getElem?_cons_zero, Option.getD_some, List.setIfInBounds_toArray, List.set_cons_zero, List.set_cons_succ])
        | (refine wk_pickt _ _ _ _ (by first | exact wanted_none rfl | exact wanted_yes _ _ rfl rfl) rfl rfl rfl ?_; simp only [Act.put, Act.eval, Array.getD_eq_getD_getElem?, List.getElem?_toArray, List.getElem?_cons_succ, List.getElem?_cons_zero, Option.getD_some, List.setIfInBounds_toArray, List.set_cons_zero, List.set_cons_succ])
        | (refine wk_pickf _ _ _ _ (by first | exact wanted_none rfl | exact wanted_yes _ _ rfl rfl) rfl rfl rfl ?_; simp only [Act.put, Act.eval, Array.getD_eq_getD_getElem?, List.getElem?_toArray, List.getElem?_cons_succ, List.getElem?_cons_zero, Option.getD_some, List.setIfInBounds_toArray, List.set_cons_zero, List.set_cons_succ])
        | (refine wk_skip (wanted_not _ true false rfl rfl rfl) ?_; simp only [Act.put, List.setIfInBounds_toArray, List.set_cons_zero, List.set_cons_succ])
        | (refine wk_skip (wanted_not _ false true rfl rfl rfl) ?_; simp only [Act.put, List.setIfInBounds_toArray, List.set_cons_zero, List.set_cons_succ])
        | (refine wk_skip (wanted_undef _ _ rfl rfl) ?_; simp only [Act.put, List.setIfInBounds_toArray, List.set_cons_zero, List.set_cons_succ])
        | (refine wk_not true _ _ (by first | exact wanted_none rfl | exact wanted_yes _ _ rfl rfl) rfl rfl ?_; simp only [Act.put, List.setIfInBounds_toArray, List.set_cons_zero, List.set_cons_succ])
        | (refine wk_not false _ _ (by first | exact wanted_none rfl | exact wanted_yes _ _ rfl rfl) rfl rfl ?_; simp only [Act.put, List.setIfInBounds_toArray, List.set_cons_zero, List.set_cons_succ]))
      refine wk_convert _ _ _ _ (.int .u64 (a : Int)) (wanted_yes _ _ rfl rfl) rfl rfl (fun w => run_conv_int _ _ .u32 .u64 Tryd.underlying22 Tryd.underlying32 _ HU.out w) ?_
      simp only [Act.put, List.setIfInBounds_toArray, List.set_cons_zero, List.set_cons_succ]
      refine wk_cmp_int .eql (true) _ _ _ _ _ _ _ (by kernel_rfl) rfl rfl rfl (HEQ.out) ?_
      simp only [Act.put, List.setIfInBounds_toArray, List.set_cons_zero, List.set_cons_succ]
      repeat (first
        | (refine wk_move _ (by first | exact wanted_none rfl | exact wanted_yes _ _ rfl rfl) rfl ?_; simp only [Act.put, Act.eval, Array.getD_eq_getD_getElem?, List.getElem?_toArray, List.getElem?_cons_succ, List.getElem?_cons_zero, Option.getD_some, List.setIfInBounds_toArray, List.set_cons_zero, List.set_cons_succ])
        | (refine wk_assign _ (by first | exact wanted_none rfl | exact wanted_yes _ _ rfl rfl) rfl ?_; simp only [Act.put, Act.eval, Array.getD_eq_getD_getElem?, List.getElem?_toArray, List.getElem?_cons_succ, List.getElem?_cons_zero, Option.getD_some, List.setIfInBounds_toArray, List.set_cons_zero, List.set_cons_succ])
        | (refine wk_pickt _ _ _ _ (by first | exact wanted_none rfl | exact wanted_yes _ _ rfl rfl) rfl rfl rfl ?_; simp only [Act.put, Act.eval, Array.getD_eq_getD_getElem?, List.getElem?_toArray, List.getElem?_cons_succ, List.getElem?_cons_zero, Option.getD_some, List.setIfInBounds_toArray, List.set_cons_zero, List.set_cons_succ])
        | (refine wk_pickf _ _ _ _ (by first | exact wanted_none rfl | exact wanted_yes _ _ rfl rfl) rfl rfl rfl ?_; simp only [Act.put, Act.eval, Array.getD_eq_getD_getElem?, List.getElem?_toArray, List.getElem?_cons_succ, List.getElem?_cons_zero, Option.getD_some, List.setIfInBounds_toArray, List.set_cons_zero, List.set_cons_succ])
        | (refine wk_skip (wanted_not _ true false rfl rfl rfl) ?_; simp only [Act.put, List.setIfInBounds_toArray, List.set_cons_zero, List.set_cons_succ])
        | (refine wk_skip (wanted_not _ false true rfl rfl rfl) ?_; simp only [Act.put, List.setIfInBounds_toArray, List.set_cons_zero, List.set_cons_succ])
        | (refine wk_skip (wanted_undef _ _ rfl rfl) ?_; simp only [Act.put, List.setIfInBounds_toArray, List.set_cons_zero, List.set_cons_succ])
        | (refine wk_not true _ _ (by first | exact wanted_none rfl | exact wanted_yes _ _ rfl rfl) rfl rfl ?_; simp only [Act.put, List.setIfInBounds_toArray, List.set_cons_zero, List.set_cons_succ])
        | (refine wk_not false _ _ (by first | exact wanted_none rfl | exact wanted_yes _ _ rfl rfl) rfl rfl ?_; simp only [Act.put, List.setIfInBounds_toArray, List.set_cons_zero, List.set_cons_succ]))
      refine wk_load_row 34 _ g7 34 r.cells (0, 0) _ (by kernel_rfl) rfl rfl (fun w' hC => hC.row (R2.out.get 0 rfl)) Tryd.underlying34 rfl sizeR ?_
      simp only [Act.put, List.setIfInBounds_toArray, List.set_cons_zero, List.set_cons_succ]
      repeat (first
        | (refine wk_move _ (by first | exact wanted_none rfl | exact wanted_yes _ _ rfl rfl) rfl ?_; simp only [Act.put, Act.eval, Array.getD_eq_getD_getElem?, List.getElem?_toArray, List.getElem?_cons_succ, List.getElem?_cons_zero, Option.getD_some, List.setIfInBounds_toArray, List.set_cons_zero, List.set_cons_succ])
        | (refine wk_assign _ (by first | exact wanted_none rfl | exact wanted_yes _ _ rfl rfl) rfl ?_; simp only [Act.put, Act.eval, Array.getD_eq_getD_getElem?, List.getElem?_toArray, List.getElem?_cons_succ, List.getElem?_cons_zero, Option.getD_some, List.setIfInBounds_toArray, List.set_cons_zero, List.set_cons_succ])
        | (refine wk_pickt _ _ _ _ (by first | exact wanted_none rfl | exact wanted_yes _ _ rfl rfl) rfl rfl rfl ?_; simp only [Act.put, Act.eval, Array.getD_eq_getD_getElem?, List.getElem?_toArray, List.getElem?_cons_succ, List.getElem?_cons_zero, Option.getD_some, List.setIfInBounds_toArray, List.set_cons_zero, List.set_cons_succ])
        | (refine wk_pickf _ _ _ _ (by first | exact wanted_none rfl | exact wanted_yes _ _ rfl rfl) rfl rfl rfl ?_; simp only [Act.put, Act.eval, Array.getD_eq_getD_getElem?, List.getElem?_toArray, List.getElem?_cons_succ, List.getElem?_cons_zero, Option.getD_some, List.setIfInBounds_toArray, List.set_cons_zero, List.set_cons_succ])
        | (refine wk_skip (wanted_not _ true false rfl rfl rfl) ?_; simp only [Act.put, List.setIfInBounds_toArray, List.set_cons_zero, List.set_cons_succ])
        | (refine wk_skip (wanted_not _ false true rfl rfl rfl) ?_; simp only [Act.put, List.setIfInBounds_toArray, List.set_cons_zero, List.set_cons_succ])
        | (refine wk_skip (wanted_undef _ _ rfl rfl) ?_; simp only [Act.put, List.setIfInBounds_toArray, List.set_cons_zero, List.set_cons_succ])
        | (refine wk_not true _ _ (by first | exact wanted_none rfl | exact wanted_yes _ _ rfl rfl) rfl rfl ?_; simp only [Act.put, List.setIfInBounds_toArray, List.set_cons_zero, List.set_cons_succ])
        | (refine wk_not false _ _ (by first | exact wanted_none rfl | exact wanted_yes _ _ rfl rfl) rfl rfl ?_; simp only [Act.put, List.setIfInBounds_toArray, List.set_cons_zero, List.set_cons_succ]))
      refine wk_call 25 _ _ _ _ _ (by kernel_rfl) rfl Tryd.func25 rfl (by kernel_rfl) (fun w' hC => hC.same (HSZ.out w' (R2.out.since hC).below)) ?_
      simp only [Act.put, List.setIfInBounds_toArray, List.set_cons_zero, List.set_cons_succ]
      refine wk_call 31 _ _ _ _ _ (by kernel_rfl) rfl Tryd.func31 rfl (by kernel_rfl) (fun w' hC => hC.call (HRM.out w')) ?_
      simp only [Act.put, List.setIfInBounds_toArray, List.set_cons_zero, List.set_cons_succ]
      repeat (first
        | (refine wk_move _ (by first | exact wanted_none rfl | exact wanted_yes _ _ rfl rfl) rfl ?_; simp only [Act.put, Act.eval, Array.getD_eq_getD_getElem?, List.getElem?_toArray, List.getElem?_cons_succ, List.getElem?_cons_zero, Option.getD_some, List.setIfInBounds_toArray, List.set_cons_zero, List.set_cons_succ])
        | (refine wk_assign _ (by first | exact wanted_none rfl | exact wanted_yes _ _ rfl rfl) rfl ?_; simp only [Act.put, Act.eval, Array.getD_eq_getD_getElem?, List.getElem?_toArray, List.getElem?_cons_succ, List.getElem?_cons_zero, Option.getD_some, List.setIfInBounds_toArray, List.set_cons_zero, List.set_cons_succ])
        | (refine wk_pickt _ _ _ _ (by first | exact wanted_none rfl | exact wanted_yes _ _ rfl rfl) rfl rfl rfl ?_; simp only [Act.put, Act.eval, Array.getD_eq_getD_getElem?, List.getElem?_toArray, List.getElem?_cons_succ, List.getElem?_cons_zero, Option.getD_some, List.setIfInBounds_toArray, List.set_cons_zero, List.set_cons_succ])
        | (refine wk_pickf _ _ _ _ (by first | exact wanted_none rfl | exact wanted_yes _ _ rfl rfl) rfl rfl rfl ?_; simp only [Act.put, Act.eval, Array.getD_eq_getD_getElem?, List.getElem?_toArray, List.getElem?_cons_succ, List.getElem?_cons_zero, Option.getD_some, List.setIfInBounds_toArray, List.set_cons_zero, List.set_cons_succ])
        | (refine wk_skip (wanted_not _ true false rfl rfl rfl) ?_; simp only [Act.put, List.setIfInBounds_toArray, List.set_cons_zero, List.set_cons_succ])
        | (refine wk_skip (wanted_not _ false true rfl rfl rfl) ?_; simp only [Act.put, List.setIfInBounds_toArray, List.set_cons_zero, List.set_cons_succ])
        | (refine wk_skip (wanted_undef _ _ rfl rfl) ?_; simp only [Act.put, List.setIfInBounds_toArray, List.set_cons_zero, List.set_cons_succ])
        | (refine wk_not true _ _ (by first | exact wanted_none rfl | exact wanted_yes _ _ rfl rfl) rfl rfl ?_; simp only [Act.put, List.setIfInBounds_toArray, List.set_cons_zero, List.set_cons_succ])
        | (refine wk_not false _ _ (by first | exact wanted_none rfl | exact wanted_yes _ _ rfl rfl) rfl rfl ?_; simp only [Act.put, List.setIfInBounds_toArray, List.set_cons_zero, List.set_cons_succ]))
      refine wk_build 81 _ [(0, .agg r.cells), (1, .bool my)] (foundC r my) (by exact wanted_none rfl) rfl (by simp [Act.eval]) (builtFoundR r my) ?_
      simp only [Act.put, List.setIfInBounds_toArray, List.set_cons_zero, List.set_cons_succ]
      refine wk_nil ?_
      intro w' hC
      have R3 := Lib.hid (R2.out.since hC)
      clear hC
      go_wp2_with (refine wpList_store_row rfl 81 _ _ rfl g4 (foundC r my) rfl rfl 81 _ (R3.out.get 2 rfl) sizeFound (by rw [HZS.out]; rfl) (foundC_one _ _) ?_)
      have R4 := R3.out.setRow 2 (foundC r my) rfl
      exact bodyPost_ret (v := .agg (foundC r my)) (results_cell_row rfl _ _ g4 81 _ (0, 0) _ rfl (R4.get 2 rfl) Tryd.underlying81 rfl sizeFound) rfl ⟨by rw [HV.out], R4.below⟩
    · have HEQ : Hid (cmpInt .eql ((r.gen % 2 : Nat) : Int) (a : Int) = some false) := Lib.hid (by simp only [cmpInt]; congr 1; apply beq_eq_false_iff_ne.2; omega)
      have HV : Hid (lookF s a = (r, false)) := Lib.hid (by rw [HLF.out, decide_eq_false hg2]; rfl)
      clear hg2
      refine wk_region_tail 18 (by kernel_rfl) (by kernel_rfl) ?_
      simp only [List.take_succ_cons, List.take_zero, List.drop_succ_cons, List.drop_zero]
      refine wk_load_row 34 _ g7 34 r.cells (0, 0) _ (by kernel_rfl) rfl rfl (fun w' hC => hC.row (R2.out.get 0 rfl)) Tryd.underlying34 rfl sizeR ?_
      simp only [Act.put, List.setIfInBounds_toArray, List.set_cons_zero, List.set_cons_succ]
      repeat (first
        | (refine wk_move _ (by first | exact wanted_none rfl | exact wanted_yes _ _ rfl rfl) rfl ?_; simp only [Act.put, Act.eval, Array.getD_eq_getD_getElem?, List.getElem?_toArray, List.getElem?_cons_succ, List.getElem?_cons_zero, Option.getD_some, List.setIfInBounds_toArray, List.set_cons_zero, List.set_cons_succ])
        | (refine wk_assign _ (by first | exact wanted_none rfl | exact wanted_yes _ _ rfl rfl) rfl ?_; simp only [Act.put, Act.eval, Array.getD_eq_getD_getElem?, List.getElem?_toArray, List.getElem?_cons_succ, List.getElem?_cons_zero, Option.getD_some, List.setIfInBounds_toArray, List.set_cons_zero, List.set_cons_succ])
        | (refine wk_pickt _ _ _ _ (by first | exact wanted_none rfl | exact wanted_yes _ _ rfl rfl) rfl rfl rfl ?_; simp only [Act.put, Act.eval, Array.getD_eq_getD_getElem?, List.getElem?_toArray, List.getElem?_cons_succ, List.getElem?_cons_zero, Option.getD_some, List.setIfInBounds_toArray, List.set_cons_zero, List.set_cons_succ])
        | (refine wk_pickf _ _ _ _ (by first | exact wanted_none rfl | exact wanted_yes _ _ rfl rfl) rfl rfl rfl ?_; simp only [Act.put, Act.eval, Array.getD_eq_getD_getElem?, List.getElem?_toArray, List.getElem?_cons_succ, List.getElem?_cons_zero, Option.getD_some, List.setIfInBounds_toArray, List.set_cons_zero, List.set_cons_succ])
        | (refine wk_skip (wanted_not _ true false rfl rfl rfl) ?_; simp only [Act.put, List.setIfInBounds_toArray, List.set_cons_zero, List.set_cons_succ])
        | (refine wk_skip (wanted_not _ false true rfl rfl rfl) ?_; simp only [Act.put, List.setIfInBounds_toArray, List.set_cons_zero, List.set_cons_succ])
        | (refine wk_skip (wanted_undef _ _ rfl rfl) ?_; simp only [Act.put, List.setIfInBounds_toArray, List.set_cons_zero, List.set_cons_succ])
        | (refine wk_not true _ _ (by first | exact wanted_none rfl | exact wanted_yes _ _ rfl rfl) rfl rfl ?_; simp only [Act.put, List.setIfInBounds_toArray, List.set_cons_zero, List.set_cons_succ])
        | (refine wk_not false _ _ (by first | exact wanted_none rfl | exact wanted_yes _ _ rfl rfl) rfl rfl ?_; simp only [Act.put, List.setIfInBounds_toArray, List.set_cons_zero, List.set_cons_succ]))
      refine wk_cmp_int .eql (true) _ _ _ _ _ _ _ (by kernel_rfl) rfl rfl rfl (rfl) ?_
      simp only [Act.put, List.setIfInBounds_toArray, List.set_cons_zero, List.set_cons_succ]
      repeat (first
        | (refine wk_move _ (by first | exact wanted_none rfl | exact wanted_yes _ _ rfl rfl) rfl ?_; simp only [Act.put, Act.eval, Array.getD_eq_getD_getElem?, List.getElem?_toArray, List.getElem?_cons_succ, List.getElem?_cons_zero, Option.getD_some, List.setIfInBounds_toArray, List.set_cons_zero, List.set_cons_succ])
        | (refine wk_assign _ (by first | exact wanted_none rfl | exact wanted_yes _ _ rfl rfl) rfl ?_; simp only [Act.put, Act.eval, Array.getD_eq_getD_getElem?, List.getElem?_toArray, List.getElem?_cons_succ, List.getElem?_cons_zero, Option.getD_some, List.setIfInBounds_toArray, List.set_cons_zero, List.set_cons_succ])
        | (refine wk_pickt _ _ _ _ (by first | exact wanted_none rfl | exact wanted_yes _ _ rfl rfl) rfl rfl rfl ?_; simp only [Act.put, Act.eval, Array.getD_eq_getD_getElem?, List.getElem?_toArray, List.getElem?_cons_succ, List.getElem?_cons_zero, Option.getD_some, List.setIfInBounds_toArray, List.set_cons_zero, List.set_cons_succ])
        | (refine wk_pickf _ _ _ _ (by first | exact wanted_none rfl | exact wanted_yes _ _ rfl rfl) rfl rfl rfl ?_; simp only [Act.put, Act.eval, Array.getD_eq_getD_getElem?, List.getElem?_toArray, List.getElem?_cons_succ, List.getElem?_cons_zero, Option.getD_some, List.setIfInBounds_toArray, List.set_cons_zero, List.set_cons_succ])
        | (refine wk_skip (wanted_not _ true false rfl rfl rfl) ?_; simp only [Act.put, List.setIfInBounds_toArray, List.set_cons_zero, List.set_cons_succ])
        | (refine wk_skip (wanted_not _ false true rfl rfl rfl) ?_; simp only [Act.put, List.setIfInBounds_toArray, List.set_cons_zero, List.set_cons_succ])
        | (refine wk_skip (wanted_undef _ _ rfl rfl) ?_; simp only [Act.put, List.setIfInBounds_toArray, List.set_cons_zero, List.set_cons_succ])
        | (refine wk_not true _ _ (by first | exact wanted_none rfl | exact wanted_yes _ _ rfl rfl) rfl rfl ?_; simp only [Act.put, List.setIfInBounds_toArray, List.set_cons_zero, List.set_cons_succ])
        | (refine wk_not false _ _ (by first | exact wanted_none rfl | exact wanted_yes _ _ rfl rfl) rfl rfl ?_; simp only [Act.put, List.setIfInBounds_toArray, List.set_cons_zero, List.set_cons_succ]))
      refine wk_field 34 _ 32 0 0 _ _ _ (by first | exact wanted_none rfl | exact wanted_yes _ _ rfl rfl) rfl (by kernel_rfl) (by kernel_rfl) (by kernel_rfl) rfl ?_
      simp only [Act.put, List.setIfInBounds_toArray, List.set_cons_zero, List.set_cons_succ, Nat.zero_add]
      refine wk_load1 _ _ _ _ _ rfl (by kernel_rfl) rfl rfl (fun w' hC => hC.cell (R2.out.cell 0 0 rfl rfl)) Tryd.underlying32 ?_
      simp only [Act.put, List.setIfInBounds_toArray, List.set_cons_zero, List.set_cons_succ]
      refine wk_rem2 _ _ _ _ r.gen hok.gen (wanted_yes _ _ rfl rfl) rfl rfl rfl ?_
      simp only [Act.put, List.setIfInBounds_toArray, List.set_cons_zero, List.set_cons_succ]
      repeat (first
        | (refine wk_move _ (by first | exact wanted_none rfl | exact wanted_yes _ _ rfl rfl) rfl ?_; simp only [Act.put, Act.eval, Array.getD_eq_getD_getElem?, List.getElem?_toArray, List.getElem?_cons_succ, List.getElem?_cons_zero, Option.getD_some, List.setIfInBounds_toArray, List.set_cons_zero, List.set_cons_succ])
        | (refine wk_assign _ (by first | exact wanted_none rfl | exact wanted_yes _ _ rfl rfl) rfl ?_; simp only [Act.put, Act.eval, Array.getD_eq_getD_getElem?, List.getElem?_toArray, List.getElem?_cons_succ, List.getElem?_cons_zero, Option.getD_some, List.setIfInBounds_toArray, List.set_cons_zero, List.set_cons_succ])
        | (refine wk_pickt _ _ _ _ (by first | exact wanted_none rfl | exact wanted_yes _ _ rfl rfl) rfl rfl rfl ?_; simp only [Act.put, Act.eval, Array.getD_eq_getD_getElem?, List.getElem?_toArray, List.getElem?_cons_succ, List.getElem?_cons_zero, Option.getD_some, List.setIfInBounds_toArray, List.set_cons_zero, List.set_cons_succ])
        | (refine wk_pickf _ _ _ _ (by first | exact wanted_none rfl | exact wanted_yes _ _ rfl rfl) rfl rfl rfl ?_; simp only [Act.put, Act.eval, Array.getD_eq_getD_getElem?, List.getElem?_toArray, List.getElem?_cons_succ, List.getElem?_cons_zero, Option.getD_some, List.setIfInBounds_toArray, List.set_cons_zero, List.set_cons_succ])
        | (refine wk_skip (wanted_not _ true false rfl rfl rfl) ?_; simp only [Act.put, List.setIfInBounds_toArray, List.set_cons_zero, List.set_cons_succ])
        | (refine wk_skip (wanted_not _ false true rfl rfl rfl) ?_; simp only [Act.put, List.setIfInBounds_toArray, List.set_cons_zero, List.set_cons_succ])
        | (refine wk_skip (wanted_undef _ _ rfl rfl) ?_; simp only [Act.put, List.setIfInBounds_toArray, List.set_cons_zero, List.set_cons_succ])
        | (refine wk_not true _ _ (by first | exact wanted_none rfl | exact wanted_yes _ _ rfl rfl) rfl rfl ?_; simp only [Act.put, List.setIfInBounds_toArray, List.set_cons_zero, List.set_cons_succ])
        | (refine wk_not false _ _ (by first | exact wanted_none rfl | exact wanted_yes _ _ rfl rfl) rfl rfl ?_; simp only [Act.put, List.setIfInBounds_toArray, List.set_cons_zero, List.set_cons_succ]))
      refine wk_convert _ _ _ _ (.int .u64 (a : Int)) (wanted_yes _ _ rfl rfl) rfl rfl (fun w => run_conv_int _ _ .u32 .u64 Tryd.underlying22 Tryd.underlying32 _ HU.out w) ?_
      simp only [Act.put, List.setIfInBounds_toArray, List.set_cons_zero, List.set_cons_succ]
      refine wk_cmp_int .eql (false) _ _ _ _ _ _ _ (by kernel_rfl) rfl rfl rfl (HEQ.out) ?_
      simp only [Act.put, List.setIfInBounds_toArray, List.set_cons_zero, List.set_cons_succ]
      repeat (first
        | (refine wk_move _ (by first | exact wanted_none rfl | exact wanted_yes _ _ rfl rfl) rfl ?_; simp only [Act.put, Act.eval, Array.getD_eq_getD_getElem?, List.getElem?_toArray, List.getElem?_cons_succ, List.getElem?_cons_zero, Option.getD_some, List.setIfInBounds_toArray, List.set_cons_zero, List.set_cons_succ])
        | (refine wk_assign _ (by first | exact wanted_none rfl | exact wanted_yes _ _ rfl rfl) rfl ?_; simp only [Act.put, Act.eval, Array.getD_eq_getD_getElem?, List.getElem?_toArray, List.getElem?_cons_succ, List.getElem?_cons_zero, Option.getD_some, List.setIfInBounds_toArray, List.set_cons_zero, List.set_cons_succ])
        | (refine wk_pickt _ _ _ _ (by first | exact wanted_none rfl | exact wanted_yes _ _ rfl rfl) rfl rfl rfl ?_; simp only [Act.put, Act.eval, Array.getD_eq_getD_getElem?, List.getElem?_toArray, List.getElem?_cons_succ, List.getElem?_cons_zero, Option.getD_some, List.setIfInBounds_toArray, List.set_cons_zero, List.set_cons_succ])
        | (refine wk_pickf _ _ _ _ (by first | exact wanted_none rfl | exact wanted_yes _ _ rfl rfl) rfl rfl rfl ?_; simp only [Act.put, Act.eval, Array.getD_eq_getD_getElem?, List.getElem?_toArray, List.getElem?_cons_succ, List.getElem?_cons_zero, Option.getD_some, List.setIfInBounds_toArray, List.set_cons_zero, List.set_cons_succ])
        | (refine wk_skip (wanted_not _ true false rfl rfl rfl) ?_; simp only [Act.put, List.setIfInBounds_toArray, List.set_cons_zero, List.set_cons_succ])
        | (refine wk_skip (wanted_not _ false true rfl rfl rfl) ?_; simp only [Act.put, List.setIfInBounds_toArray, List.set_cons_zero, List.set_cons_succ])
        | (refine wk_skip (wanted_undef _ _ rfl rfl) ?_; simp only [Act.put, List.setIfInBounds_toArray, List.set_cons_zero, List.set_cons_succ])
        | (refine wk_not true _ _ (by first | exact wanted_none rfl | exact wanted_yes _ _ rfl rfl) rfl rfl ?_; simp only [Act.put, List.setIfInBounds_toArray, List.set_cons_zero, List.set_cons_succ])
        | (refine wk_not false _ _ (by first | exact wanted_none rfl | exact wanted_yes _ _ rfl rfl) rfl rfl ?_; simp only [Act.put, List.setIfInBounds_toArray, List.set_cons_zero, List.set_cons_succ]))
      refine wk_build 81 _ [(0, .agg r.cells), (1, .bool false)] (foundC r false) (by exact wanted_none rfl) rfl (by simp [Act.eval]) (builtFoundR r false) ?_
      simp only [Act.put, List.setIfInBounds_toArray, List.set_cons_zero, List.set_cons_succ]
      refine wk_nil ?_
      intro w' hC
      have R3 := Lib.hid (R2.out.since hC)
      clear hC
      go_wp2_with (refine wpList_store_row rfl 81 _ _ rfl g4 (foundC r false) rfl rfl 81 _ (R3.out.get 2 rfl) sizeFound (by rw [HZS.out]; rfl) (foundC_one _ _) ?_)
      have R4 := R3.out.setRow 2 (foundC r false) rfl
      exact bodyPost_ret (v := .agg (foundC r false)) (results_cell_row rfl _ _ g4 81 _ (0, 0) _ rfl (R4.get 2 rfl) Tryd.underlying81 rfl sizeFound) rfl ⟨by rw [HV.out], R4.below⟩
end
end Go.Proofs.YtnphgaiiiiknpaaDoor
