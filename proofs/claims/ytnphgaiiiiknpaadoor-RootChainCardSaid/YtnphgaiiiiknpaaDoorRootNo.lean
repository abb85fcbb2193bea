/- The root layer: == on plans; Mount of no device; a commit that is refused; a row of one block. The root layer's head, in plain Lean: what its device tells, step by step. -/
import Derived.Test.YtnphgaiiiiknpaaDoorRootFormat
import Derived.Test.YtnphgaiiiiknpaaDoorSlotEq
import Derived.Test.YtnphgaiiiiknpaaDoorDevNo
namespace Go.Proofs.YtnphgaiiiiknpaaDoor
open Go.RowKit
set_option linter.unusedSimpArgs false
set_option linter.unusedVariables false
set_option maxRecDepth 100000
def planV (a b c : Nat) : Array Value := #[.int .u32 (a : Int), .int .u32 (b : Int), .int .u32 (c : Int)]
def psame (a b c x y z : Nat) : Bool := decide (a = x) && (decide (b = y) && decide (c = z))
theorem structP : Tryd.prog.underlying 24 = some (.struct (Tryd.prog.fieldsOf 24)) := by kernel_rfl
theorem run_equalIn_plan (w : World) (a b c x y z : Nat) : (Op.equalIn 10000 24 (.agg (planV a b c)) (.agg (planV x y z))).run Tryd.prog w = .ok (psame a b c x y z) w := by
  rw [run_equalIn_struct w 9999 24 _ _ structP (by kernel_rfl)]
  rw [run_eqFields w 9999 _ _ _ [⟨22, 0, .int .u32 (a : Int), .int .u32 (x : Int), decide (a = x)⟩, ⟨22, 1, .int .u32 (b : Int), .int .u32 (y : Int), decide (b = y)⟩, ⟨22, 2, .int .u32 (c : Int), .int .u32 (z : Int), decide (c = z)⟩] (by kernel_rfl)]
  · simp [psame]
  · intro r hr
    simp only [List.mem_cons, List.not_mem_nil, or_false] at hr
    rcases hr with rfl | rfl | rfl
    · exact ⟨rpart_one w _ _ Tryd.underlying22 rfl _ _ _ rfl, rpart_one w _ _ Tryd.underlying22 rfl _ _ _ rfl, by rw [run_equalIn_int w 9998 _ .u32 .u32 _ _ Tryd.underlying22, rnat_beq]⟩
    · exact ⟨rpart_one w _ _ Tryd.underlying22 rfl _ _ _ rfl, rpart_one w _ _ Tryd.underlying22 rfl _ _ _ rfl, by rw [run_equalIn_int w 9998 _ .u32 .u32 _ _ Tryd.underlying22, rnat_beq]⟩
    · exact ⟨rpart_one w _ _ Tryd.underlying22 rfl _ _ _ rfl, rpart_one w _ _ Tryd.underlying22 rfl _ _ _ rfl, by rw [run_equalIn_int w 9998 _ .u32 .u32 _ _ Tryd.underlying22, rnat_beq]⟩
theorem run_eql_plan (w : World) (a b c x y z : Nat) : (binOp .eql 24 (.agg (planV a b c)) (.agg (planV x y z))).run Tryd.prog w = .ok (.bool (psame a b c x y z)) w := by
  rw [run_eql_struct, run_equalIn_plan]; rfl
theorem run_neq_plan (w : World) (a b c x y z : Nat) : (binOp .neq 24 (.agg (planV a b c)) (.agg (planV x y z))).run Tryd.prog w = .ok (.bool (!psame a b c x y z)) w := by
  rw [run_neq_struct, run_equalIn_plan]; rfl
theorem psame_refl (a b c : Nat) : psame a b c a b c = true := by simp [psame]
/-- No device. -/
theorem size_no (w : World) : Calls Tryd.prog 25 #[.pointer none] w fun e w' => e = .returned (.int .u32 0) ∧ w = w' := by
  go_enter Tryd.func25, Tryd.ntmps25
  go_wp2_with (go_at_call 33; refine (none_no (.inl rfl)).mono ?_; rintro e w1 ⟨rfl, rfl⟩)
  go_ret
  exact ⟨rfl, rfl⟩
theorem rnone_no (w : World) : Calls Tryd.prog 24 #[.pointer none] w fun e w' => e = .returned (.bool true) ∧ w = w' := by
  go_enter Tryd.func24, Tryd.ntmps24
  go_wp2_with (go_at_call 25; refine (size_no _).mono ?_; rintro e w1 ⟨rfl, rfl⟩)
  go_ret
  exact ⟨rfl, rfl⟩
set_option maxHeartbeats 2000000 in
theorem mount_nil (w : World) : Calls Tryd.prog 15 #[.pointer none] w fun e w' => e = .returned (.tuple #[.agg zeroRt.cells, .int .i64 1]) ∧ Below w.heap.size w w' := by
  have hq := (Held.start w).alloc zeroRt.cells 34
  obtain ⟨V0, hW⟩ : ∃ W, W = w.alloc (.cells zeroRt.cells 34) := ⟨_, rfl⟩
  obtain ⟨g2, hg⟩ : ∃ g, g = w.heap.size := ⟨_, rfl⟩
  rw [← hW, ← hg] at hq
  have HW := Lib.hid hW
  have HG := Lib.hid hg
  have R0 := Lib.hid hq
  obtain ⟨Z, hZ⟩ : ∃ Z, Z = zeroRt.cells := ⟨_, rfl⟩
  have HZ : Hid ((Tryd.prog.info? 34).bind (·.zero) = some (.agg Z)) := Lib.hid (by rw [hZ]; exact zeroR)
  have HZS : Hid (Z.size = 8 ∧ Z.all (·.oneCell') = true) := Lib.hid (by rw [hZ]; exact ⟨rfl, rcells_one _⟩)
  have HBZ : Hid (Tryd.prog.built 34 [] = some Z) := Lib.hid (by rw [hZ]; exact builtRoot0)
  rw [← hZ] at R0 HW ⊢
  clear hq hW hg hZ
  go_enter Tryd.func15, Tryd.ntmps15
  go_upto_region 1 with (refine wpList_alloc_row rfl 34 rfl _ HZ.out ?_)
  rw [← HW.out, ← HG.out]
  go_wp2_with (first
    | (go_at_call 24; refine (rnone_no _).mono ?_; rintro e w1 ⟨rfl, rfl⟩)
    | (refine wpList_builtC rfl 34 _ rfl [] Z (by simp) HBZ.out ?_)
    | (refine wpList_store_row rfl 34 _ _ rfl g2 Z rfl rfl 34 _ (R0.out.get 0 rfl) (by rw [HZS.out.1]; exact sizeR) rfl HZS.out.2 ?_))
  have R1 := R0.out.setRow 0 Z rfl
  exact bodyPost_ret (v := .tuple #[.agg Z, .int .i64 1]) (results_cell_slot rfl _ _ g2 34 _ (0, 0) _ _ rfl rfl (R1.get 0 rfl) Tryd.underlying34 rfl (by rw [HZS.out.1]; exact sizeR)) rfl ⟨rfl, R1.below⟩
theorem puts_row1 {W : World} {g : Nat} {a : Nat} {b : List UInt8} (h : W.heap[g]? = some (.cells (putV a b) 47 (0, 0))) (ha : a < 4294967296) (hb : b.length = 256) : PutsIn W (some ⟨g, 0, none⟩) 1 [(a, b)] := by
  refine ⟨rfl, .inr ⟨g, 0, rfl, (Array.getElem?_eq_some_iff.1 h).1, fun i hi => ?_⟩, by simpa using ⟨ha, hb⟩⟩
  obtain rfl : i = 0 := by simpa using hi
  intro j v hv
  rw [cell_of_row W g _ _ _ _ h, Nat.zero_mul, Nat.zero_add]
  simpa using hv
section
variable {w : World} {g : Nat} {s : Dv}
set_option maxHeartbeats 4000000 in
theorem commit_no (h : (dvT g s).at w) (r : Root) (hr : r.Ok) (A : Option Addr) (n c : Nat) (l : List (Nat × List UInt8)) (hn : n ≤ 9223372036854775807) (hp : PutsIn w A n l) (hs : 0 < s.size) (hno : (mayR r s.size && !farIn s.size l) = false) :
    Calls Tryd.prog 13 #[.pointer (some ⟨g, 0, none⟩), .slice A n c, .agg r.cells] w fun e w' => e = .returned (.int .i64 2) ∧ Below w.heap.size w w' := by
  have hsz : s.size < 4294967296 := (dv_open h).choose_spec.choose_spec.choose_spec.ok.size
  have q1 := ((Held.start w).alloc #[.pointer (some ⟨g, 0, none⟩)] 39).alloc r.cells 34
  have h0 : w.heap.size + 1 = (w.alloc (.cells #[.pointer (some ⟨g, 0, none⟩)] 39)).heap.size := by simp
  rw [← h0] at q1
  clear h0
  obtain ⟨V, hV⟩ : ∃ V, V = (w.alloc (.cells #[.pointer (some ⟨g, 0, none⟩)] 39)).alloc (.cells r.cells 34) := ⟨_, rfl⟩
  obtain ⟨gd, hgd⟩ : ∃ b, b = w.heap.size := ⟨_, rfl⟩
  rw [← hV, ← hgd] at q1
  have HV := Lib.hid hV
  have HGD := Lib.hid hgd
  have R0 := Lib.hid q1
  have hv := h.since q1.below
  have hpv := hp.below q1.below
  have HN := Lib.hid (rnone_dev hv hs)
  have HSZ : Hid (∀ w' : World, Below V.heap.size V w' → Calls Tryd.prog 25 #[.pointer (some ⟨g, 0, none⟩)] w' fun e w'' => e = .returned (.int .u32 (s.size : Int)) ∧ w' = w'') := Lib.hid (fun w' hb => size_dev (hv.since hb))
  have HMY := Lib.hid (rootmay_is r hr s.size hsz)
  have HCF : Hid (∀ w' : World, Below V.heap.size V w' → Calls Tryd.prog 32 #[.slice A n c, .func (.func 30) #[] #[.pointer (some ⟨gd, 0, none⟩)]] w' fun e w'' => e = .returned (.bool (farIn s.size l)) ∧ Below w'.heap.size w' w'') := Lib.hid (fun w' hb => by
    have hR := q1.call hb
    have hpi := hpv.below hb
    exact contains_func (farB s.size) 30 #[.pointer (some ⟨gd, 0, none⟩)] A n c l hn hpi ⟨_, _, Tryd.func30, rfl, by kernel_rfl⟩ (fun W' hb' x hx => by
      have hR' := hR.call hb'
      exact far_is ((hv.since hb).since hb') gd (hR'.cell 1 0 rfl rfl) (hR'.lt 1 rfl) x.1 x.2 (hpi.ok x hx).2))
  have cd : V.cell? ⟨gd, 0, none⟩ = some (.pointer (some ⟨g, 0, none⟩)) := q1.cell 1 0 rfl rfl
  have HD := Lib.hid cd
  obtain ⟨my, hmy⟩ : ∃ m, m = mayR r s.size := ⟨_, rfl⟩
  obtain ⟨fa, hfa⟩ : ∃ m, m = farIn s.size l := ⟨_, rfl⟩
  rw [← hmy] at HMY hno
  rw [← hfa] at HCF hno
  obtain ⟨rc, hrc⟩ : ∃ x, x = r.cells := ⟨_, rfl⟩
  have HRS : Hid (rc.size = 8) := Lib.hid (by rw [hrc]; rfl)
  rw [← hrc] at HMY R0 HV ⊢
  clear q1 hV hgd h hp hmy hfa hrc hsz hv hpv
  go_enter Tryd.func13, Tryd.ntmps13
  go_upto_region 1 with (fail)
  rw [← HV.out, ← HGD.out]
  go_upto_region 4 with (go_at_call 24; refine HN.out.mono ?_; rintro e w1 ⟨rfl, rfl⟩)
  cases my with
  | false =>
    clear hno
    refine wk_region_since (by kernel_rfl) (by kernel_rfl) ?_
    repeat (first
      | (refine wk_move _ (by first | exact wanted_none rfl | exact wanted_yes _ _ rfl rfl) rfl ?_; simp only [Act.put, Act.eval, Array.getD_eq_getD_getElem?, List.getElem?_toArray, List.getElem?_cons_succ, List.getElem?_cons_zero, Option.getD_some, List.setIfInBounds_toArray, List.set_cons_zero, List.set_cons_succ])
      | (refine wk_assign _ (by first | exact wanted_none rfl | exact wanted_yes _ _ rfl rfl) rfl ?_; simp only [Act.put, Act.eval, Array.getD_eq_getD_getElem?, List.getElem?_toArray, List.getElem?_cons_succ, List.getElem?_cons_zero, Option.getD_some, List.setIfInBounds_toArray, List.set_cons_zero, List.set_cons_succ])
      | (refine wk_pickt _ _ _ _ (by first | exact wanted_none rfl | exact wanted_yes _ _ rfl rfl) rfl rfl rfl ?_; simp only [Act.put, Act.eval, Array.getD_eq_getD_getElem?, List.getElem?_toArray, List.getElem?_cons_succ, List.getElem?_cons_zero, Option.getD_some, List.setIfInBounds_toArray, List.set_cons_zero, List.set_cons_succ])
      | (refine wk_pickf _ _ _ _ (by first | exact wanted_none rfl | exact wanted_yes _ _ rfl rfl) rfl rfl rfl ?_; simp only [Act.put, Act.eval, Array.getD_eq_getD_getElem?, List.getElem?_toArray, List.getElem?_cons_succ, List.getElem?_cons_zero, Option.getD_some, List.setIfInBounds_toArray, List.set_cons_zero, List.set_cons_succ])
      | (refine wk_skip (wanted_not _ true false rfl rfl rfl) ?_; simp only [Act.put, List.setIfInBounds_toArray, List.set_cons_zero, List.set_cons_succ])
      | (refine wk_skip (wanted_not _ false true rfl rfl rfl) ?_; simp only [Act.put, List.setIfInBounds_toArray, List.set_cons_zero, List.set_cons_succ])
      | (refine wk_skip (wanted_undef _ _ rfl rfl) ?_; simp only [Act.put, List.setIfInBounds_toArray, List.set_cons_zero, List.set_cons_succ])
      | (refine wk_not true _ _ (by first | exact wanted_none rfl | exact wanted_yes _ _ rfl rfl) rfl rfl ?_; simp only [Act.put, List.setIfInBounds_toArray, List.set_cons_zero, List.set_cons_succ])
      | (refine wk_not false _ _ (by first | exact wanted_none rfl | exact wanted_yes _ _ rfl rfl) rfl rfl ?_; simp only [Act.put, List.setIfInBounds_toArray, List.set_cons_zero, List.set_cons_succ]))
    refine wk_load_row 34 _ (gd + 1) 34 rc (0, 0) _ (by kernel_rfl) rfl rfl (fun w' hC => hC.row (R0.out.get 0 rfl)) Tryd.underlying34 rfl (by rw [HRS.out]; exact sizeR) ?_
    simp only [Act.put, List.setIfInBounds_toArray, List.set_cons_zero, List.set_cons_succ]
    refine wk_load1 _ _ _ _ _ rfl (by kernel_rfl) rfl rfl (fun w' hC => hC.cell HD.out) Tryd.underlying39 ?_
    simp only [Act.put, List.setIfInBounds_toArray, List.set_cons_zero, List.set_cons_succ]
    refine wk_call 25 _ _ _ _ _ (by kernel_rfl) rfl Tryd.func25 rfl (by kernel_rfl) (fun w' hC => hC.same (HSZ.out w' hC)) ?_
    simp only [Act.put, List.setIfInBounds_toArray, List.set_cons_zero, List.set_cons_succ]
    refine wk_call 31 _ _ _ _ _ (by kernel_rfl) rfl Tryd.func31 rfl (by kernel_rfl) (fun w' hC => hC.call (HMY.out w')) ?_
    simp only [Act.put, List.setIfInBounds_toArray, List.set_cons_zero, List.set_cons_succ]
    repeat (first
      | (refine wk_move _ (by first | exact wanted_none rfl | exact wanted_yes _ _ rfl rfl) rfl ?_; simp only [Act.put, Act.eval, Array.getD_eq_getD_getElem?, List.getElem?_toArray, List.getElem?_cons_succ, List.getElem?_cons_zero, Option.getD_some, List.setIfInBounds_toArray, List.set_cons_zero, List.set_cons_succ])
      | (refine wk_assign _ (by first | exact wanted_none rfl | exact wanted_yes _ _ rfl rfl) rfl ?_; simp only [Act.put, Act.eval, Array.getD_eq_getD_getElem?, List.getElem?_toArray, List.getElem?_cons_succ, List.getElem?_cons_zero, Option.getD_some, List.setIfInBounds_toArray, List.set_cons_zero, List.set_cons_succ])
      | (refine wk_pickt _ _ _ _ (by first | exact wanted_none rfl | exact wanted_yes _ _ rfl rfl) rfl rfl rfl ?_; simp only [Act.put, Act.eval, Array.getD_eq_getD_getElem?, List.getElem?_toArray, List.getElem?_cons_succ, List.getElem?_cons_zero, Option.getD_some, List.setIfInBounds_toArray, List.set_cons_zero, List.set_cons_succ])
      | (refine wk_pickf _ _ _ _ (by first | exact wanted_none rfl | exact wanted_yes _ _ rfl rfl) rfl rfl rfl ?_; simp only [Act.put, Act.eval, Array.getD_eq_getD_getElem?, List.getElem?_toArray, List.getElem?_cons_succ, List.getElem?_cons_zero, Option.getD_some, List.setIfInBounds_toArray, List.set_cons_zero, List.set_cons_succ])
      | (refine wk_skip (wanted_not _ true false rfl rfl rfl) ?_; simp only [Act.put, List.setIfInBounds_toArray, List.set_cons_zero, List.set_cons_succ])
      | (refine wk_skip (wanted_not _ false true rfl rfl rfl) ?_; simp only [Act.put, List.setIfInBounds_toArray, List.set_cons_zero, List.set_cons_succ])
      | (refine wk_skip (wanted_undef _ _ rfl rfl) ?_; simp only [Act.put, List.setIfInBounds_toArray, List.set_cons_zero, List.set_cons_succ])
      | (refine wk_not true _ _ (by first | exact wanted_none rfl | exact wanted_yes _ _ rfl rfl) rfl rfl ?_; simp only [Act.put, List.setIfInBounds_toArray, List.set_cons_zero, List.set_cons_succ])
      | (refine wk_not false _ _ (by first | exact wanted_none rfl | exact wanted_yes _ _ rfl rfl) rfl rfl ?_; simp only [Act.put, List.setIfInBounds_toArray, List.set_cons_zero, List.set_cons_succ]))
    refine wk_nil ?_
    intro w' hC
    have R3 := Lib.hid (R0.out.since hC)
    clear hC
    go_wp2_with fail
    go_ret
    exact ⟨rfl, R3.out.below⟩
  | true =>
    cases fa with
    | true =>
      clear hno
      refine wk_region_since (by kernel_rfl) (by kernel_rfl) ?_
      repeat (first
        | (refine wk_move _ (by first | exact wanted_none rfl | exact wanted_yes _ _ rfl rfl) rfl ?_; simp only [Act.put, Act.eval, Array.getD_eq_getD_getElem?, List.getElem?_toArray, List.getElem?_cons_succ, List.getElem?_cons_zero, Option.getD_some, List.setIfInBounds_toArray, List.set_cons_zero, List.set_cons_succ])
        | (refine wk_assign _ (by first | exact wanted_none rfl | exact wanted_yes _ _ rfl rfl) rfl ?_; simp only [Act.put, Act.eval, Array.getD_eq_getD_getElem?, List.getElem?_toArray, List.getElem?_cons_succ, List.getElem?_cons_zero, Option.getD_some, List.setIfInBounds_toArray, List.set_cons_zero, List.set_cons_succ])
        | (refine wk_pickt _ _ _ _ (by first | exact wanted_none rfl | exact wanted_yes _ _ rfl rfl) rfl rfl rfl ?_; simp only [Act.put, Act.eval, Array.getD_eq_getD_getElem?, List.getElem?_toArray, List.getElem?_cons_succ, List.getElem?_cons_zero, Option.getD_some, List.setIfInBounds_toArray, List.set_cons_zero, List.set_cons_succ])
        | (refine wk_pickf _ _ _ _ (by first | exact wanted_none rfl | exact wanted_yes _ _ rfl rfl) rfl rfl rfl ?_; simp only [Act.put, Act.eval, Array.getD_eq_getD_getElem?, List.getElem?_toArray, List.getElem?_cons_succ, List.getElem?_cons_zero, Option.getD_some, List.setIfInBounds_toArray, List.set_cons_zero, List.set_cons_succ])
        | (refine wk_skip (wanted_not _ true false rfl rfl rfl) ?_; simp only [Act.put, List.setIfInBounds_toArray, List.set_cons_zero, List.set_cons_succ])
        | (refine wk_skip (wanted_not _ false true rfl rfl rfl) ?_; simp only [Act.put, List.setIfInBounds_toArray, List.set_cons_zero, List.set_cons_succ])
        | (refine wk_skip (wanted_undef _ _ rfl rfl) ?_; simp only [Act.put, List.setIfInBounds_toArray, List.set_cons_zero, List.set_cons_succ])
        | (refine wk_not true _ _ (by first | exact wanted_none rfl | exact wanted_yes _ _ rfl rfl) rfl rfl ?_; simp only [Act.put, List.setIfInBounds_toArray, List.set_cons_zero, List.set_cons_succ])
        | (refine wk_not false _ _ (by first | exact wanted_none rfl | exact wanted_yes _ _ rfl rfl) rfl rfl ?_; simp only [Act.put, List.setIfInBounds_toArray, List.set_cons_zero, List.set_cons_succ]))
      refine wk_load_row 34 _ (gd + 1) 34 rc (0, 0) _ (by kernel_rfl) rfl rfl (fun w' hC => hC.row (R0.out.get 0 rfl)) Tryd.underlying34 rfl (by rw [HRS.out]; exact sizeR) ?_
      simp only [Act.put, List.setIfInBounds_toArray, List.set_cons_zero, List.set_cons_succ]
      refine wk_load1 _ _ _ _ _ rfl (by kernel_rfl) rfl rfl (fun w' hC => hC.cell HD.out) Tryd.underlying39 ?_
      simp only [Act.put, List.setIfInBounds_toArray, List.set_cons_zero, List.set_cons_succ]
      refine wk_call 25 _ _ _ _ _ (by kernel_rfl) rfl Tryd.func25 rfl (by kernel_rfl) (fun w' hC => hC.same (HSZ.out w' hC)) ?_
      simp only [Act.put, List.setIfInBounds_toArray, List.set_cons_zero, List.set_cons_succ]
      refine wk_call 31 _ _ _ _ _ (by kernel_rfl) rfl Tryd.func31 rfl (by kernel_rfl) (fun w' hC => hC.call (HMY.out w')) ?_
      simp only [Act.put, List.setIfInBounds_toArray, List.set_cons_zero, List.set_cons_succ]
      repeat (first
        | (refine wk_move _ (by first | exact wanted_none rfl | exact wanted_yes _ _ rfl rfl) rfl ?_; simp only [Act.put, Act.eval, Array.getD_eq_getD_getElem?, List.getElem?_toArray, List.getElem?_cons_succ, List.getElem?_cons_zero, Option.getD_some, List.setIfInBounds_toArray, List.set_cons_zero, List.set_cons_succ])
        | (refine wk_assign _ (by first | exact wanted_none rfl | exact wanted_yes _ _ rfl rfl) rfl ?_; simp only [Act.put, Act.eval, Array.getD_eq_getD_getElem?, List.getElem?_toArray, List.getElem?_cons_succ, List.getElem?_cons_zero, Option.getD_some, List.setIfInBounds_toArray, List.set_cons_zero, List.set_cons_succ])
        | (refine wk_pickt _ _ _ _ (by first | exact wanted_none rfl | exact wanted_yes _ _ rfl rfl) rfl rfl rfl ?_; simp only [Act.put, Act.eval, Array.getD_eq_getD_getElem?, List.getElem?_toArray, List.getElem?_cons_succ, List.getElem?_cons_zero, Option.getD_some, List.setIfInBounds_toArray, List.set_cons_zero, List.set_cons_succ])
        | (refine wk_pickf _ _ _ _ (by first | exact wanted_none rfl | exact wanted_yes _ _ rfl rfl) rfl rfl rfl ?_; simp only [Act.put, Act.eval, Array.getD_eq_getD_getElem?, List.getElem?_toArray, List.getElem?_cons_succ, List.getElem?_cons_zero, Option.getD_some, List.setIfInBounds_toArray, List.set_cons_zero, List.set_cons_succ])
        | (refine wk_skip (wanted_not _ true false rfl rfl rfl) ?_; simp only [Act.put, List.setIfInBounds_toArray, List.set_cons_zero, List.set_cons_succ])
        | (refine wk_skip (wanted_not _ false true rfl rfl rfl) ?_; simp only [Act.put, List.setIfInBounds_toArray, List.set_cons_zero, List.set_cons_succ])
        | (refine wk_skip (wanted_undef _ _ rfl rfl) ?_; simp only [Act.put, List.setIfInBounds_toArray, List.set_cons_zero, List.set_cons_succ])
        | (refine wk_not true _ _ (by first | exact wanted_none rfl | exact wanted_yes _ _ rfl rfl) rfl rfl ?_; simp only [Act.put, List.setIfInBounds_toArray, List.set_cons_zero, List.set_cons_succ])
        | (refine wk_not false _ _ (by first | exact wanted_none rfl | exact wanted_yes _ _ rfl rfl) rfl rfl ?_; simp only [Act.put, List.setIfInBounds_toArray, List.set_cons_zero, List.set_cons_succ]))
      refine wk_call 32 _ _ _ _ _ (by kernel_rfl) rfl Tryd.func32 rfl (by kernel_rfl) (fun w' hC => hC.call (HCF.out w' hC)) ?_
      simp only [Act.put, List.setIfInBounds_toArray, List.set_cons_zero, List.set_cons_succ]
      repeat (first
        | (refine wk_move _ (by first | exact wanted_none rfl | exact wanted_yes _ _ rfl rfl) rfl ?_; simp only [Act.put, Act.eval, Array.getD_eq_getD_getElem?, List.getElem?_toArray, List.getElem?_cons_succ, List.getElem?_cons_zero, Option.getD_some, List.setIfInBounds_toArray, List.set_cons_zero, List.set_cons_succ])
        | (refine wk_assign _ (by first | exact wanted_none rfl | exact wanted_yes _ _ rfl rfl) rfl ?_; simp only [Act.put, Act.eval, Array.getD_eq_getD_getElem?, List.getElem?_toArray, List.getElem?_cons_succ, List.getElem?_cons_zero, Option.getD_some, List.setIfInBounds_toArray, List.set_cons_zero, List.set_cons_succ])
        | (refine wk_pickt _ _ _ _ (by first | exact wanted_none rfl | exact wanted_yes _ _ rfl rfl) rfl rfl rfl ?_; simp only [Act.put, Act.eval, Array.getD_eq_getD_getElem?, List.getElem?_toArray, List.getElem?_cons_succ, List.getElem?_cons_zero, Option.getD_some, List.setIfInBounds_toArray, List.set_cons_zero, List.set_cons_succ])
        | (refine wk_pickf _ _ _ _ (by first | exact wanted_none rfl | exact wanted_yes _ _ rfl rfl) rfl rfl rfl ?_; simp only [Act.put, Act.eval, Array.getD_eq_getD_getElem?, List.getElem?_toArray, List.getElem?_cons_succ, List.getElem?_cons_zero, Option.getD_some, List.setIfInBounds_toArray, List.set_cons_zero, List.set_cons_succ])
        | (refine wk_skip (wanted_not _ true false rfl rfl rfl) ?_; simp only [Act.put, List.setIfInBounds_toArray, List.set_cons_zero, List.set_cons_succ])
        | (refine wk_skip (wanted_not _ false true rfl rfl rfl) ?_; simp only [Act.put, List.setIfInBounds_toArray, List.set_cons_zero, List.set_cons_succ])
        | (refine wk_skip (wanted_undef _ _ rfl rfl) ?_; simp only [Act.put, List.setIfInBounds_toArray, List.set_cons_zero, List.set_cons_succ])
        | (refine wk_not true _ _ (by first | exact wanted_none rfl | exact wanted_yes _ _ rfl rfl) rfl rfl ?_; simp only [Act.put, List.setIfInBounds_toArray, List.set_cons_zero, List.set_cons_succ])
        | (refine wk_not false _ _ (by first | exact wanted_none rfl | exact wanted_yes _ _ rfl rfl) rfl rfl ?_; simp only [Act.put, List.setIfInBounds_toArray, List.set_cons_zero, List.set_cons_succ]))
      refine wk_nil ?_
      intro w' hC
      have R3 := Lib.hid (R0.out.since hC)
      clear hC
      go_wp2_with fail
      go_ret
      exact ⟨rfl, R3.out.below⟩
    | false => cases hno
end
end Go.Proofs.YtnphgaiiiiknpaaDoor
namespace Go.Proofs.YtnphgaiiiiknpaaDoor
set_option linter.unusedSimpArgs false
set_option linter.unusedVariables false
def rA : Root := ⟨1, 64, 0, 0, 58, 1, 6, 0⟩
def rB : Root := ⟨2, 64, 0, 0, 58, 1, 6, 0⟩
def rC : Root := ⟨0, 64, 0, 0, 58, 1, 6, 0⟩
def sevenB : List UInt8 := 7 :: List.replicate 255 0
theorem fmtR_64 : fmtR 64 = rA := by simp [fmtR, rA, show firstL 64 = 6 by decide]
theorem rB_ok : rB.Ok := ⟨by decide, by decide, by decide, by decide, by decide, by decide, by decide, by decide⟩
theorem rC_ok : rC.Ok := ⟨by decide, by decide, by decide, by decide, by decide, by decide, by decide, by decide⟩
theorem rA_ok : rA.Ok := ⟨by decide, by decide, by decide, by decide, by decide, by decide, by decide, by decide⟩
theorem rB_may : mayR rB 64 = true := by decide
theorem rC_no : mayR rC 64 = false := by decide
theorem plan_64 : planC 64 = planV 1 1 6 ∧ planE 64 = 0 := by
  obtain ⟨h1, h2⟩ := planC_yes (n := 64) (by omega)
  exact ⟨h1.trans (by rw [show talL 64 = 1 by decide, show picL 64 = 1 by decide, show firstL 64 = 6 by decide]; rfl), h2⟩
theorem plan_65 : planC 65 = planV 2 1 8 ∧ planE 65 = 0 := by
  obtain ⟨h1, h2⟩ := planC_yes (n := 65) (by omega)
  exact ⟨h1.trans (by rw [show talL 65 = 2 by decide, show picL 65 = 1 by decide, show firstL 65 = 8 by decide]; rfl), h2⟩
theorem plan_big : planC 1048576 = planV 16384 16 32802 ∧ planE 1048576 = 0 := by
  obtain ⟨h1, h2⟩ := planC_yes (n := 1048576) (by omega)
  exact ⟨h1.trans (by rw [show talL 1048576 = 16384 by decide, show picL 1048576 = 16 by decide, show firstL 1048576 = 32802 by decide]; rfl), h2⟩
theorem plan_63 : planC 63 = planV 0 0 0 ∧ planE 63 = 2 := planC_no (n := 63) (by omega)
structure HeadF (s1 s2 : Dv) : Prop where
  m0 : mountR (newDv 64) = zeroRt ∧ mountE (newDv 64) = 80
  f : (newDv 64).format = (s1, 0) ∧ fmtO (newDv 64) = rA
  z1 : s1.size = 64 ∧ s1.pend.length = 0
  m1 : mountR s1 = rA ∧ mountE s1 = 0
  c : s1.commit [(9, sevenB)] rB = (s2, 0)
  z2 : s2.size = 64 ∧ s2.pend.length = 0
  m2 : mountR s2 = rB ∧ mountE s2 = 0
  r9 : readB s2 9 = sevenB
theorem new_mount (n : Nat) (hn : 2 ≤ n) : mountR (newDv n) = zeroRt ∧ mountE (newDv n) = 80 := by
  have h : ∀ a, a < n → readB (newDv n) a = zeroBlk := fun a ha => readB_calm rfl a ha
  exact mount_none (look_no (by rw [h 0 (by omega)]; exact zero_noroot)) (look_no (by rw [h 1 (by omega)]; exact zero_noroot))
theorem head_facts : ∃ s1 s2, HeadF s1 s2 := by
  obtain ⟨s1, f1, i1⟩ := is_format (is_new 64) (by omega)
  have sl1 := format_slots (n := 64) (by omega) (fun _ => zeroBlk)
  rw [fmtR_64] at i1 sl1
  obtain ⟨s2, c2, i2⟩ := is_commit i1 [(9, sevenB)] rB rB_may (by decide)
  have sl2 := slots_next sl1 rB_may rB_ok rfl [(9, sevenB)] (by simp)
  refine ⟨s1, s2, new_mount 64 (by omega), ⟨f1, ?_⟩, ⟨i1.size, by rw [i1.pend]; rfl⟩, slots_mount sl1 i1.size i1.good i1.pend, c2, ⟨i2.size, by rw [i2.pend]; rfl⟩, slots_mount sl2 i2.size i2.good i2.pend, ?_⟩
  · unfold fmtO
    rw [f1]; exact fmtR_64
  · rw [readB_calm i2.pend 9 (by rw [i2.size]; omega), i2.good, updB_other _ _ _ _ (by decide)]
    have h9 : ∀ g : Nat → List UInt8, putAllB g [(9, sevenB)] 9 = sevenB := fun g => updB_same g 9 sevenB
    exact h9 _
end Go.Proofs.YtnphgaiiiiknpaaDoor
