/- The shelf layer: the law ShelfKeeps holds of every shelf and act. -/
import Derived.Test.YtcepfmjebgklfaaDoorShArg
namespace Go.Proofs.YtcepfmjebgklfaaDoor
open Go.RowKit
set_option linter.unusedSimpArgs false
set_option linter.unusedVariables false
set_option maxRecDepth 100000
section
variable {w : World}
/-- What the slots of the drawn region hold. -/
def shKeepsR (g1 m : Nat) (Az : Option Addr) (cz : Nat) (ZS : ByteArray) (t : Tmp) (v : Value) (w : World) : Prop :=
  match t with
  | 112 => v = .int .i64 0
  | 113 => v = .bool false
  | 114 => v = .bool false
  | 115 => v = .slice Az m cz
  | 116 => v = .string ZS
  | 117 => v = .pointer (some ⟨g1, 0 + 4, none⟩)
  | 118 => v = .int .i64 (m : Int)
  | 119 => ∃ b, v = .slice (some ⟨b, 0, none⟩) m m ∧ b < w.heap.size ∧ BytesAt w b 0 (List.replicate m 0)
  | 120 => v = .string ZS
  | 121 => v = .bool false
  | 122 => v = .bool false
  | 123 => v = .bool false
  | 124 => v = .int .i64 210
  | 125 => v = .bool false
  | 126 => v = .bool false
  | _ => True
theorem shKeepsR_stab (g1 m : Nat) (Az : Option Addr) (cz : Nat) (ZS : ByteArray) : ∀ t v w w', shKeepsR g1 m Az cz ZS t v w → Below w.heap.size w w' → shKeepsR g1 m Az cz ZS t v w' := by
  intro t v w1 w2 h hb
  revert h
  unfold shKeepsR
  split <;> first | exact id | exact fun h => by obtain ⟨b, h1, h2, h3⟩ := h; exact ⟨b, h1, Nat.lt_of_lt_of_le h2 hb.size, h3.under h2 hb⟩
theorem infoU8' : ∃ i, Tryd.prog.info? 5 = some i ∧ i.zero = some (.int .u8 0) ∧ i.size = 1 ∧ i.bytes = 1 := by
  have := infoByte
  cases h : Tryd.prog.info? 5 with
  | none => rw [h] at this; cases this
  | some i =>
    rw [h] at this
    simp only [Option.map_some, Option.some.injEq, Prod.mk.injEq] at this
    exact ⟨i, rfl, this.1, this.2.1, this.2.2⟩
set_option maxHeartbeats 8000000 in
theorem shkeeps_any (hc : ClsAt w) (s : ShL) (A : Option Addr) (n c : Nat) (l : List CellH) (hs : ShArg w s A n c l) (wh ser : Nat) (pl off N : Int) (hser : ser < 18446744073709551616) (hoff : -9223372036854775808 ≤ off ∧ off ≤ 9223372036854775807) (B : Option Addr) (k cB : Nat) (d : List UInt8) (hd : BytesIn w B d) (hk : d.length = k) (hkm : k ≤ 9223372036854775807) :
    Calls Tryd.prog 3 #[.agg (shV s A n c), .agg #[.int .u8 (wh : Int), .int .i64 pl, .int .u64 (ser : Int), .int .i64 off, .int .i64 N, .slice B k cB]] w fun e w' => e = .returned (.bool true) ∧ Below w.heap.size w w' := by
  have hR := ((Held.start w).alloc (shV s A n c) 25).alloc #[.int .u8 (wh : Int), .int .i64 pl, .int .u64 (ser : Int), .int .i64 off, .int .i64 N, .slice B k cB] 29
  obtain ⟨W, hW⟩ : ∃ W, W = (w.alloc (.cells (shV s A n c) 25)).alloc (.cells #[.int .u8 (wh : Int), .int .i64 pl, .int .u64 (ser : Int), .int .i64 off, .int .i64 N, .slice B k cB] 29) := ⟨_, rfl⟩
  obtain ⟨g, hg⟩ : ∃ g, g = w.heap.size := ⟨_, rfl⟩
  rw [← hW, show (w.alloc (.cells (shV s A n c) 25)).heap.size = g + 1 by rw [hg]; simp, ← hg] at hR
  obtain ⟨g1, hg1⟩ : ∃ g1, g1 = g + 1 := ⟨_, rfl⟩
  rw [← hg1] at hR
  have HW := Lib.hid hW
  have HG := Lib.hid hg
  have HG1 := Lib.hid hg1
  have HC := Lib.hid hc
  have HS := Lib.hid hs
  have HD := Lib.hid hd
  have HK := Lib.hid hk
  have HSER := Lib.hid hser
  have HOFF := Lib.hid hoff
  have HKM := Lib.hid hkm
  unfold shV at HW ⊢
  clear hW hg hg1 hc hs hd hk hser hoff hkm
  have R0 := Lib.hid hR
  clear hR
  go_enter Tryd.func3, Tryd.ntmps3
  go_upto_region 1 with (fail)
  rw [← HW.out, ← HG.out, ← HG1.out]
  obtain ⟨⟨e0, e1, e2, e3⟩, _, _, _, _⟩ := R0.out.cells4 1 rfl
  go_wp2_with fail
  refine (shgreat_is (w := W) s A n c l (HS.out.below R0.out.below).cells HS.out.nmax HS.out.mmax).mono ?_
  rintro e w1 ⟨r, rfl, hr, hb⟩
  have HR := Lib.hid hr
  have R1 := Lib.hid (R0.out.call hb)
  clear hr hb R0 e0 e1 e2 e3
  have x2 := R1.out.cell 0 2 rfl rfl
  have x3 := R1.out.cell 0 3 rfl rfl
  have x4 := R1.out.cell 0 4 rfl rfl
  have x5 := R1.out.cell 0 5 rfl rfl
  cases r with
  | true =>
    go_wp2_with (go_at_call 9; refine (shhead_any (HC.out.below R1.out.below)).mono ?_; rintro e w2 ⟨rfl, hb⟩; have HB := Lib.hid (R1.out.call hb); clear hb)
    go_ret
    exact ⟨rfl, HB.out.below⟩
  | false =>
    by_cases hk4 : (400 : Int) < (k : Int)
    · go_wp2_with (go_at_call 9; refine (shhead_any (HC.out.below R1.out.below)).mono ?_; rintro e w2 ⟨rfl, hb⟩; have HB := Lib.hid (R1.out.call hb); clear hb)
      go_ret
      exact ⟨rfl, HB.out.below⟩
    · by_cases hN : (1000 : Int) < N
      · go_wp2_with (go_at_call 9; refine (shhead_any (HC.out.below R1.out.below)).mono ?_; rintro e w2 ⟨rfl, hb⟩; have HB := Lib.hid (R1.out.call hb); clear hb)
        go_ret
        exact ⟨rfl, HB.out.below⟩
      · have hsh := HS.out.shelf (HR.out rfl).1 (HR.out rfl).2
        have HSH := Lib.hid hsh
        clear hsh HR
        obtain ⟨⟨e0, e1, e2, e3⟩, _, _, _, _⟩ := R1.out.cells4 1 rfl
        go_wp2_with fail
        refine (take_is (HC.out.below R1.out.below) ⟨A, n, c, l, rfl, HSH.out.below R1.out.below⟩ ser HSER.out N).mono ?_
        rintro e w2 ⟨v, rfl, ⟨A1, n1, c1, l1, rfl, hs1, hfr⟩, hb⟩
        have q1 := (R1.out.call hb).alloc (shV (takeS s ser N) A1 n1 c1) 25
        have HS1 : Hid (ShelfOf (w2.alloc (.cells (shV (takeS s ser N) A1 n1 c1) 25)) (takeS s ser N) A1 n1 c1 l1) := Lib.hid (hs1.below ((Below.refl _ _).alloc (Nat.le_refl _) _))
        have HFR := Lib.hid hfr
        unfold shV at q1 HS1 ⊢
        clear hb hs1 hfr e0 e1 e2 e3 x2 x3 x4 x5
        obtain ⟨E, hE⟩ : ∃ E, E = takeE s ser N := ⟨_, rfl⟩
        obtain ⟨p, hp⟩ : ∃ p, p = takeP s ser N := ⟨_, rfl⟩
        obtain ⟨sa, hsa⟩ : ∃ sa, sa = takeS s ser N := ⟨_, rfl⟩
        rw [← hsa] at q1 HS1 ⊢
        rw [← hE, ← hp]
        have HE := Lib.hid hE
        have HP := Lib.hid hp
        have HSA := Lib.hid hsa
        clear hE hp hsa
        go_upto_region 4 with (fail)
        obtain ⟨W2, hW⟩ : ∃ W, W = w2.alloc (.cells #[.int .u8 (sa.cl : Int), .int .u16 (sa.prev : Int), .int .u16 (sa.next : Int), .slice A1 n1 c1] 25) := ⟨_, rfl⟩
        rw [← hW] at q1 HS1 ⊢
        clear hW
        obtain ⟨ga, hg⟩ : ∃ g, g = w2.heap.size := ⟨_, rfl⟩
        rw [← hg] at q1 ⊢
        clear hg
        have R2 := Lib.hid q1
        clear q1
        by_cases hE0 : E = 0
        · subst hE0
          obtain ⟨p', hT⟩ := taken_of HE.out.symm
          obtain rfl : p = p' := by rw [HP.out, hT.place]
          have hsa : sa = putC s p (ser, List.replicate N.toNat 0) := by rw [HSA.out, hT.sh]
          have HT := Lib.hid hT
          clear hT
          have hpn : p < n := by
            have h1 := HT.out.lt
            have h2 := HSH.out.len
            omega
          have hn1 : n1 = n := by
            have h1 := HS1.out.len
            have h2 := HSH.out.len
            rw [hsa, len_put] at h1
            omega
          have hus : usedL sa.cells = usedL s.cells + 1 := by
            rw [hsa]
            exact used_put _ _ _ HT.out.was (Nat.pos_of_ne_zero HT.out.ser0)
          obtain ⟨m, rfl⟩ : ∃ m : Nat, N = m := ⟨N.toNat, by have := HT.out.n1; omega⟩
          rw [Int.toNat_natCast] at hsa
          have HN : Hid (1 ≤ m ∧ m ≤ 237) := Lib.hid (by have := HT.out.n1; omega)
          have HSAE := Lib.hid hsa
          have HPN := Lib.hid hpn
          have HUS := Lib.hid hus
          have HUL : Hid (usedL s.cells ≤ 30) := Lib.hid (by
            have h1 := HSH.out.le30
            have h2 := HSH.out.len
            have h3 : usedL s.cells ≤ s.cells.length := List.length_filter_le _ _
            omega)
          subst hn1
          have C0 := Lib.hid (R2.out.cell 0 3 rfl rfl)
          have C2 := Lib.hid (R2.out.cell 2 3 rfl rfl)
          have HGE : Hid (cmpInt .geq (p : Int) (n1 : Int) = some false) := Lib.hid (by simp [cmpInt]; omega)
          have HAD : Hid (IntKind.i64.wrap ((usedL s.cells : Int) + 1) = ((usedL s.cells + 1 : Nat) : Int)) := Lib.hid (by have := HUL.out; rw [IntKind.wrap_i64]; omega)
          have HNE : Hid (cmpInt .neq (usedL sa.cells : Int) ((usedL s.cells + 1 : Nat) : Int) = some false) := Lib.hid (by rw [HUS.out]; simp [cmpInt])
          have H0 := Lib.hid (R2.out.get 0 rfl)
          have H1 := Lib.hid (R2.out.get 1 rfl)
          have H2 := Lib.hid (R2.out.get 2 rfl)
          clear hsa hus hpn HSA HP HE
          go_upto_region 6 with (fail)
          refine wk_region_since (by kernel_rfl) (by kernel_rfl) ?_
          repeat (first
            | (refine wk_move _ (by first | exact wanted_none rfl | exact wanted_yes _ _ rfl rfl) rfl ?_; simp only [Act.put, Act.eval, Array.getD_eq_getD_getElem?, List.getElem?_toArray, List.getElem?_cons_succ, List.getElem?_cons_zero, Option.getD_some, List.setIfInBounds_toArray, List.set_cons_zero, List.set_cons_succ])
            | (refine wk_assign _ (by first | exact wanted_none rfl | exact wanted_yes _ _ rfl rfl) rfl ?_; simp only [Act.put, Act.eval, Array.getD_eq_getD_getElem?, List.getElem?_toArray, List.getElem?_cons_succ, List.getElem?_cons_zero, Option.getD_some, List.setIfInBounds_toArray, List.set_cons_zero, List.set_cons_succ])
            | (refine wk_pickt _ _ _ _ (by first | exact wanted_none rfl | exact wanted_yes _ _ rfl rfl) rfl rfl rfl ?_; simp only [Act.put, Act.eval, Array.getD_eq_getD_getElem?, List.getElem?_toArray, List.getElem?_cons_succ, List.getElem?_cons_zero, Option.getD_some, List.setIfInBounds_toArray, List.set_cons_zero, List.set_cons_succ])
            | (refine wk_pickf _ _ _ _ (by first | exact wanted_none rfl | exact wanted_yes _ _ rfl rfl) rfl rfl rfl ?_; simp only [Act.put, Act.eval, Array.getD_eq_getD_getElem?, List.getElem?_toArray, List.getElem?_cons_succ, List.getElem?_cons_zero, Option.getD_some, List.setIfInBounds_toArray, List.set_cons_zero, List.set_cons_succ])
            | (refine wk_skip (wanted_not _ true false rfl rfl rfl) ?_; simp only [Act.put, List.setIfInBounds_toArray, List.set_cons_zero, List.set_cons_succ])
            | (refine wk_skip (wanted_not _ false true rfl rfl rfl) ?_; simp only [Act.put, List.setIfInBounds_toArray, List.set_cons_zero, List.set_cons_succ])
            | (refine wk_skip (wanted_undef _ _ rfl rfl) ?_; simp only [Act.put, List.setIfInBounds_toArray, List.set_cons_zero, List.set_cons_succ])
            | (refine wk_not true _ _ (by first | exact wanted_none rfl | exact wanted_yes _ _ rfl rfl) rfl rfl ?_; simp only [Act.put, List.setIfInBounds_toArray, List.set_cons_zero, List.set_cons_succ])
            | (refine wk_not false _ _ (by first | exact wanted_none rfl | exact wanted_yes _ _ rfl rfl) rfl rfl ?_; simp only [Act.put, List.setIfInBounds_toArray, List.set_cons_zero, List.set_cons_succ]))
          refine wk_cmp_int .lss (false) _ _ _ _ _ _ _ (by kernel_rfl) rfl rfl rfl (by simp [cmpInt]) ?_
          simp only [Act.put, List.setIfInBounds_toArray, List.set_cons_zero, List.set_cons_succ]
          repeat (first
            | (refine wk_move _ (by first | exact wanted_none rfl | exact wanted_yes _ _ rfl rfl) rfl ?_; simp only [Act.put, Act.eval, Array.getD_eq_getD_getElem?, List.getElem?_toArray, List.getElem?_cons_succ, List.getElem?_cons_zero, Option.getD_some, List.setIfInBounds_toArray, List.set_cons_zero, List.set_cons_succ])
            | (refine wk_assign _ (by first | exact wanted_none rfl | exact wanted_yes _ _ rfl rfl) rfl ?_; simp only [Act.put, Act.eval, Array.getD_eq_getD_getElem?, List.getElem?_toArray, List.getElem?_cons_succ, List.getElem?_cons_zero, Option.getD_some, List.setIfInBounds_toArray, List.set_cons_zero, List.set_cons_succ])
            | (refine wk_pickt _ _ _ _ (by first | exact wanted_none rfl | exact wanted_yes _ _ rfl rfl) rfl rfl rfl ?_; simp only [Act.put, Act.eval, Array.getD_eq_getD_getElem?, List.getElem?_toArray, List.getElem?_cons_succ, List.getElem?_cons_zero, Option.getD_some, List.setIfInBounds_toArray, List.set_cons_zero, List.set_cons_succ])
            | (refine wk_pickf _ _ _ _ (by first | exact wanted_none rfl | exact wanted_yes _ _ rfl rfl) rfl rfl rfl ?_; simp only [Act.put, Act.eval, Array.getD_eq_getD_getElem?, List.getElem?_toArray, List.getElem?_cons_succ, List.getElem?_cons_zero, Option.getD_some, List.setIfInBounds_toArray, List.set_cons_zero, List.set_cons_succ])
            | (refine wk_skip (wanted_not _ true false rfl rfl rfl) ?_; simp only [Act.put, List.setIfInBounds_toArray, List.set_cons_zero, List.set_cons_succ])
            | (refine wk_skip (wanted_not _ false true rfl rfl rfl) ?_; simp only [Act.put, List.setIfInBounds_toArray, List.set_cons_zero, List.set_cons_succ])
            | (refine wk_skip (wanted_undef _ _ rfl rfl) ?_; simp only [Act.put, List.setIfInBounds_toArray, List.set_cons_zero, List.set_cons_succ])
            | (refine wk_not true _ _ (by first | exact wanted_none rfl | exact wanted_yes _ _ rfl rfl) rfl rfl ?_; simp only [Act.put, List.setIfInBounds_toArray, List.set_cons_zero, List.set_cons_succ])
            | (refine wk_not false _ _ (by first | exact wanted_none rfl | exact wanted_yes _ _ rfl rfl) rfl rfl ?_; simp only [Act.put, List.setIfInBounds_toArray, List.set_cons_zero, List.set_cons_succ]))
          refine wk_field 25 _ 23 3 0 _ _ _ (by first | exact wanted_none rfl | exact wanted_yes _ _ rfl rfl) rfl (by kernel_rfl) (by kernel_rfl) (by kernel_rfl) rfl ?_
          simp only [Act.put, List.setIfInBounds_toArray, List.set_cons_zero, List.set_cons_succ, Nat.zero_add]
          refine wk_load1 _ _ _ _ _ rfl (by kernel_rfl) rfl rfl (fun w' hC => hC.cell C2.out) Tryd.underlying23 ?_
          simp only [Act.put, List.setIfInBounds_toArray, List.set_cons_zero, List.set_cons_succ]
          refine wk_len_slice _ _ _ _ _ _ Tryd.underlying23 (by kernel_rfl) rfl rfl ?_
          simp only [Act.put, List.setIfInBounds_toArray, List.set_cons_zero, List.set_cons_succ]
          refine wk_cmp_int .geq (false) _ _ _ _ _ _ _ (by kernel_rfl) rfl rfl rfl (HGE.out) ?_
          simp only [Act.put, List.setIfInBounds_toArray, List.set_cons_zero, List.set_cons_succ]
          repeat (first
            | (refine wk_move _ (by first | exact wanted_none rfl | exact wanted_yes _ _ rfl rfl) rfl ?_; simp only [Act.put, Act.eval, Array.getD_eq_getD_getElem?, List.getElem?_toArray, List.getElem?_cons_succ, List.getElem?_cons_zero, Option.getD_some, List.setIfInBounds_toArray, List.set_cons_zero, List.set_cons_succ])
            | (refine wk_assign _ (by first | exact wanted_none rfl | exact wanted_yes _ _ rfl rfl) rfl ?_; simp only [Act.put, Act.eval, Array.getD_eq_getD_getElem?, List.getElem?_toArray, List.getElem?_cons_succ, List.getElem?_cons_zero, Option.getD_some, List.setIfInBounds_toArray, List.set_cons_zero, List.set_cons_succ])
            | (refine wk_pickt _ _ _ _ (by first | exact wanted_none rfl | exact wanted_yes _ _ rfl rfl) rfl rfl rfl ?_; simp only [Act.put, Act.eval, Array.getD_eq_getD_getElem?, List.getElem?_toArray, List.getElem?_cons_succ, List.getElem?_cons_zero, Option.getD_some, List.setIfInBounds_toArray, List.set_cons_zero, List.set_cons_succ])
            | (refine wk_pickf _ _ _ _ (by first | exact wanted_none rfl | exact wanted_yes _ _ rfl rfl) rfl rfl rfl ?_; simp only [Act.put, Act.eval, Array.getD_eq_getD_getElem?, List.getElem?_toArray, List.getElem?_cons_succ, List.getElem?_cons_zero, Option.getD_some, List.setIfInBounds_toArray, List.set_cons_zero, List.set_cons_succ])
            | (refine wk_skip (wanted_not _ true false rfl rfl rfl) ?_; simp only [Act.put, List.setIfInBounds_toArray, List.set_cons_zero, List.set_cons_succ])
            | (refine wk_skip (wanted_not _ false true rfl rfl rfl) ?_; simp only [Act.put, List.setIfInBounds_toArray, List.set_cons_zero, List.set_cons_succ])
            | (refine wk_skip (wanted_undef _ _ rfl rfl) ?_; simp only [Act.put, List.setIfInBounds_toArray, List.set_cons_zero, List.set_cons_succ])
            | (refine wk_not true _ _ (by first | exact wanted_none rfl | exact wanted_yes _ _ rfl rfl) rfl rfl ?_; simp only [Act.put, List.setIfInBounds_toArray, List.set_cons_zero, List.set_cons_succ])
            | (refine wk_not false _ _ (by first | exact wanted_none rfl | exact wanted_yes _ _ rfl rfl) rfl rfl ?_; simp only [Act.put, List.setIfInBounds_toArray, List.set_cons_zero, List.set_cons_succ]))
          refine wk_field 25 _ 23 3 0 _ _ _ (by first | exact wanted_none rfl | exact wanted_yes _ _ rfl rfl) rfl (by kernel_rfl) (by kernel_rfl) (by kernel_rfl) rfl ?_
          simp only [Act.put, List.setIfInBounds_toArray, List.set_cons_zero, List.set_cons_succ, Nat.zero_add]
          refine wk_load1 _ _ _ _ _ rfl (by kernel_rfl) rfl rfl (fun w' hC => hC.cell C0.out) Tryd.underlying23 ?_
          simp only [Act.put, List.setIfInBounds_toArray, List.set_cons_zero, List.set_cons_succ]
          refine wk_len_slice _ _ _ _ _ _ Tryd.underlying23 (by kernel_rfl) rfl rfl ?_
          simp only [Act.put, List.setIfInBounds_toArray, List.set_cons_zero, List.set_cons_succ]
          refine wk_field 25 _ 23 3 0 _ _ _ (by first | exact wanted_none rfl | exact wanted_yes _ _ rfl rfl) rfl (by kernel_rfl) (by kernel_rfl) (by kernel_rfl) rfl ?_
          simp only [Act.put, List.setIfInBounds_toArray, List.set_cons_zero, List.set_cons_succ, Nat.zero_add]
          refine wk_load1 _ _ _ _ _ rfl (by kernel_rfl) rfl rfl (fun w' hC => hC.cell C2.out) Tryd.underlying23 ?_
          simp only [Act.put, List.setIfInBounds_toArray, List.set_cons_zero, List.set_cons_succ]
          refine wk_len_slice _ _ _ _ _ _ Tryd.underlying23 (by kernel_rfl) rfl rfl ?_
          simp only [Act.put, List.setIfInBounds_toArray, List.set_cons_zero, List.set_cons_succ]
          refine wk_cmp_int .neq (false) _ _ _ _ _ _ _ (by kernel_rfl) rfl rfl rfl (by simp [cmpInt]) ?_
          simp only [Act.put, List.setIfInBounds_toArray, List.set_cons_zero, List.set_cons_succ]
          repeat (first
            | (refine wk_move _ (by first | exact wanted_none rfl | exact wanted_yes _ _ rfl rfl) rfl ?_; simp only [Act.put, Act.eval, Array.getD_eq_getD_getElem?, List.getElem?_toArray, List.getElem?_cons_succ, List.getElem?_cons_zero, Option.getD_some, List.setIfInBounds_toArray, List.set_cons_zero, List.set_cons_succ])
            | (refine wk_assign _ (by first | exact wanted_none rfl | exact wanted_yes _ _ rfl rfl) rfl ?_; simp only [Act.put, Act.eval, Array.getD_eq_getD_getElem?, List.getElem?_toArray, List.getElem?_cons_succ, List.getElem?_cons_zero, Option.getD_some, List.setIfInBounds_toArray, List.set_cons_zero, List.set_cons_succ])
            | (refine wk_pickt _ _ _ _ (by first | exact wanted_none rfl | exact wanted_yes _ _ rfl rfl) rfl rfl rfl ?_; simp only [Act.put, Act.eval, Array.getD_eq_getD_getElem?, List.getElem?_toArray, List.getElem?_cons_succ, List.getElem?_cons_zero, Option.getD_some, List.setIfInBounds_toArray, List.set_cons_zero, List.set_cons_succ])
            | (refine wk_pickf _ _ _ _ (by first | exact wanted_none rfl | exact wanted_yes _ _ rfl rfl) rfl rfl rfl ?_; simp only [Act.put, Act.eval, Array.getD_eq_getD_getElem?, List.getElem?_toArray, List.getElem?_cons_succ, List.getElem?_cons_zero, Option.getD_some, List.setIfInBounds_toArray, List.set_cons_zero, List.set_cons_succ])
            | (refine wk_skip (wanted_not _ true false rfl rfl rfl) ?_; simp only [Act.put, List.setIfInBounds_toArray, List.set_cons_zero, List.set_cons_succ])
            | (refine wk_skip (wanted_not _ false true rfl rfl rfl) ?_; simp only [Act.put, List.setIfInBounds_toArray, List.set_cons_zero, List.set_cons_succ])
            | (refine wk_skip (wanted_undef _ _ rfl rfl) ?_; simp only [Act.put, List.setIfInBounds_toArray, List.set_cons_zero, List.set_cons_succ])
            | (refine wk_not true _ _ (by first | exact wanted_none rfl | exact wanted_yes _ _ rfl rfl) rfl rfl ?_; simp only [Act.put, List.setIfInBounds_toArray, List.set_cons_zero, List.set_cons_succ])
            | (refine wk_not false _ _ (by first | exact wanted_none rfl | exact wanted_yes _ _ rfl rfl) rfl rfl ?_; simp only [Act.put, List.setIfInBounds_toArray, List.set_cons_zero, List.set_cons_succ]))
          refine wk_load_row 25 _ ga 25 #[.int .u8 (sa.cl : Int), .int .u16 (sa.prev : Int), .int .u16 (sa.next : Int), .slice A1 n1 c1] (0, 0) _ (by kernel_rfl) rfl rfl (fun w' hC => hC.row H0.out) Tryd.underlying25 rfl sizeShelf ?_
          simp only [Act.put, List.setIfInBounds_toArray, List.set_cons_zero, List.set_cons_succ]
          refine wk_call 11 _ _ _ _ _ (by kernel_rfl) rfl Tryd.func11 rfl (by kernel_rfl) (fun w' hC => hC.call (used_is ⟨A1, n1, c1, l1, rfl, HS1.out.below hC⟩)) ?_
          simp only [Act.put, List.setIfInBounds_toArray, List.set_cons_zero, List.set_cons_succ]
          refine wk_load_row 25 _ g 25 #[.int .u8 (s.cl : Int), .int .u16 (s.prev : Int), .int .u16 (s.next : Int), .slice A n1 c] (0, 0) _ (by kernel_rfl) rfl rfl (fun w' hC => hC.row H2.out) Tryd.underlying25 rfl sizeShelf ?_
          simp only [Act.put, List.setIfInBounds_toArray, List.set_cons_zero, List.set_cons_succ]
          refine wk_call 11 _ _ _ _ _ (by kernel_rfl) rfl Tryd.func11 rfl (by kernel_rfl) (fun w' hC => hC.call (used_is ⟨A, n1, c, l, rfl, HSH.out.below (R2.out.below.trans (Below.mono hC R2.out.below.size))⟩)) ?_
          simp only [Act.put, List.setIfInBounds_toArray, List.set_cons_zero, List.set_cons_succ]
          refine wk_addk .i64 _ _ _ _ _ _ _ (by first | exact wanted_none rfl | exact wanted_yes _ _ rfl rfl) rfl rfl rfl (HAD.out) ?_
          simp only [Act.put, List.setIfInBounds_toArray, List.set_cons_zero, List.set_cons_succ]
          refine wk_cmp_int .neq (false) _ _ _ _ _ _ _ (by kernel_rfl) rfl rfl rfl (HNE.out) ?_
          simp only [Act.put, List.setIfInBounds_toArray, List.set_cons_zero, List.set_cons_succ]
          repeat (first
            | (refine wk_move _ (by first | exact wanted_none rfl | exact wanted_yes _ _ rfl rfl) rfl ?_; simp only [Act.put, Act.eval, Array.getD_eq_getD_getElem?, List.getElem?_toArray, List.getElem?_cons_succ, List.getElem?_cons_zero, Option.getD_some, List.setIfInBounds_toArray, List.set_cons_zero, List.set_cons_succ])
            | (refine wk_assign _ (by first | exact wanted_none rfl | exact wanted_yes _ _ rfl rfl) rfl ?_; simp only [Act.put, Act.eval, Array.getD_eq_getD_getElem?, List.getElem?_toArray, List.getElem?_cons_succ, List.getElem?_cons_zero, Option.getD_some, List.setIfInBounds_toArray, List.set_cons_zero, List.set_cons_succ])
            | (refine wk_pickt _ _ _ _ (by first | exact wanted_none rfl | exact wanted_yes _ _ rfl rfl) rfl rfl rfl ?_; simp only [Act.put, Act.eval, Array.getD_eq_getD_getElem?, List.getElem?_toArray, List.getElem?_cons_succ, List.getElem?_cons_zero, Option.getD_some, List.setIfInBounds_toArray, List.set_cons_zero, List.set_cons_succ])
            | (refine wk_pickf _ _ _ _ (by first | exact wanted_none rfl | exact wanted_yes _ _ rfl rfl) rfl rfl rfl ?_; simp only [Act.put, Act.eval, Array.getD_eq_getD_getElem?, List.getElem?_toArray, List.getElem?_cons_succ, List.getElem?_cons_zero, Option.getD_some, List.setIfInBounds_toArray, List.set_cons_zero, List.set_cons_succ])
            | (refine wk_skip (wanted_not _ true false rfl rfl rfl) ?_; simp only [Act.put, List.setIfInBounds_toArray, List.set_cons_zero, List.set_cons_succ])
            | (refine wk_skip (wanted_not _ false true rfl rfl rfl) ?_; simp only [Act.put, List.setIfInBounds_toArray, List.set_cons_zero, List.set_cons_succ])
            | (refine wk_skip (wanted_undef _ _ rfl rfl) ?_; simp only [Act.put, List.setIfInBounds_toArray, List.set_cons_zero, List.set_cons_succ])
            | (refine wk_not true _ _ (by first | exact wanted_none rfl | exact wanted_yes _ _ rfl rfl) rfl rfl ?_; simp only [Act.put, List.setIfInBounds_toArray, List.set_cons_zero, List.set_cons_succ])
            | (refine wk_not false _ _ (by first | exact wanted_none rfl | exact wanted_yes _ _ rfl rfl) rfl rfl ?_; simp only [Act.put, List.setIfInBounds_toArray, List.set_cons_zero, List.set_cons_succ]))
          refine wk_nil ?_
          intro w' hC
          have R3 := Lib.hid (R2.out.since hC)
          have HS3 := Lib.hid (HS1.out.below hC)
          clear hC R2 HS1 H0 H1 H2 C0 C2 HGE HAD HNE HUS HUL
          have HW1 : Hid (IntKind.u64.wrap ((ser : Int) + 1) = ((ser + 1 : Nat) : Int)) := Lib.hid (by have := HT.out.ser1; rw [IntKind.wrap_u64]; omega)
          have h0 := HT.out.part (List.replicate m 0) (by simp) 0 (m : Int)
          rw [if_pos (by have := HN.out.1; omega)] at h0
          have h1 := HT.out.read (List.replicate m 0) (by simp) 0 m (by simp)
          rw [List.drop_zero, List.take_of_length_le (by simp)] at h1
          have h2 := HT.out.stale (List.replicate m 0) (by simp) (ser + 1) (by omega) 0 0
          have h3 : readB18 (putC s p (ser, List.replicate m 0)) (p : Int) (ser + 1) 0 0 = [] := by unfold readB18; rw [if_neg (by rw [h2]; decide)]
          have h4 := HT.out.part (List.replicate m 0) (by simp) off (d.length : Int)
          rw [← HSAE.out] at h0 h1 h2 h3 h4
          have H0 := Lib.hid h0
          have H1 := Lib.hid h1
          have H2 := Lib.hid h2
          have H3 := Lib.hid h3
          have H4 := Lib.hid h4
          clear h0 h1 h2 h3 h4
          have x2 := R3.out.cell 1 2 rfl rfl
          have x3 := R3.out.cell 1 3 rfl rfl
          have x4 := R3.out.cell 1 4 rfl rfl
          have x5 := R3.out.cell 1 5 rfl rfl
          obtain ⟨⟨e0, e1, e2, e3⟩, _, _, _, _⟩ := R3.out.cells4 0 rfl
          go_wp2_with fail
          have N1 := read_is (HC.out.below R3.out.below) ⟨A1, n1, c1, l1, rfl, HS3.out⟩ (p : Int) ser 0 (m : Int)
          rw [H0.out, show readB18 sa (p : Int) ser 0 (m : Int) = _ from H1.out] at N1
          refine N1.mono ?_
          rintro e w4 ⟨Az, cz, rfl, hcap, hby, hb⟩
          have R4 := Lib.hid (R3.out.call hb)
          have HS4 := Lib.hid (HS3.out.below hb)
          have HZ := Lib.hid hby
          clear N1 hcap hby hb R3 HS3 e0 e1 e2 e3 x2 x3 x4 x5
          go_upto_region 9 with (fail)
          have x2 := R4.out.cell 1 2 rfl rfl
          have x3 := R4.out.cell 1 3 rfl rfl
          have x4 := R4.out.cell 1 4 rfl rfl
          have x5 := R4.out.cell 1 5 rfl rfl
          obtain ⟨⟨e0, e1, e2, e3⟩, _, _, _, _⟩ := R4.out.cells4 0 rfl
          go_wp2_with fail
          rw [HW1.out]
          have N1 := read_is (HC.out.below R4.out.below) ⟨A1, n1, c1, l1, rfl, HS4.out⟩ (p : Int) (ser + 1) 0 0
          rw [H2.out, H3.out] at N1
          refine N1.mono ?_
          rintro e w5 ⟨Ay, cy, rfl, hcap, hby, hb⟩
          have R5 := Lib.hid (R4.out.call hb)
          have HS5 := Lib.hid (HS4.out.below hb)
          have HZ5 := Lib.hid (HZ.out.below hb)
          clear N1 hcap hby hb R4 HS4 HZ e0 e1 e2 e3 x2 x3 x4 x5
          go_upto_region 10 with (fail)
          have x2 := R5.out.cell 1 2 rfl rfl
          have x3 := R5.out.cell 1 3 rfl rfl
          have x4 := R5.out.cell 1 4 rfl rfl
          have x5 := R5.out.cell 1 5 rfl rfl
          obtain ⟨⟨e0, e1, e2, e3⟩, _, _, _, _⟩ := R5.out.cells4 0 rfl
          go_wp2_with fail
          have N1 := write_is (HC.out.below R5.out.below) ⟨A1, n1, c1, l1, rfl, HS5.out⟩ (p : Int) ser off B k cB d (HD.out.below R5.out.below) HK.out (by omega)
          rw [H4.out] at N1
          obtain ⟨F, hF⟩ : ∃ F : Int, F = if 0 ≤ off ∧ 0 ≤ (d.length : Int) ∧ off + (d.length : Int) ≤ (m : Int) then 0 else 211 := ⟨_, rfl⟩
          rw [← hF] at N1
          have HF := Lib.hid hF
          clear hF
          refine N1.mono ?_
          rintro e w6 ⟨v, rfl, ⟨A2, n2, c2, l2, rfl, hs2, hfr⟩, hb⟩
          obtain ⟨sb, hsb⟩ : ∃ sb, sb = writeS sa (p : Int) ser off d := ⟨_, rfl⟩
          rw [← hsb] at hs2 ⊢
          have HSB := Lib.hid hsb
          have q1 := (R5.out.call hb).alloc (shV sb A2 n2 c2) 25
          have hbb : Below w5.heap.size w5 (w6.alloc (.cells (shV sb A2 n2 c2) 25)) := hb.alloc hb.size _
          have HS6 := Lib.hid (HS5.out.below hbb)
          have HZ6 := Lib.hid (HZ5.out.below hbb)
          have HT6 : Hid (ShelfOf (w6.alloc (.cells (shV sb A2 n2 c2) 25)) sb A2 n2 c2 l2) := Lib.hid (hs2.below ((Below.refl _ _).alloc (Nat.le_refl _) _))
          have HFR2 : Hid (Avoids ga A2 n2 l2) := Lib.hid (hfr.avoids (R5.out.lt 0 rfl))
          unfold shV at q1 HT6 HS6 HZ6 ⊢
          clear hb hbb hs2 hfr hsb N1 e0 e1 e2 e3 x2 x3 x4 x5
          go_upto_region 11 with (fail)
          obtain ⟨W6, hW⟩ : ∃ W, W = w6.alloc (.cells #[.int .u8 (sb.cl : Int), .int .u16 (sb.prev : Int), .int .u16 (sb.next : Int), .slice A2 n2 c2] 25) := ⟨_, rfl⟩
          rw [← hW] at q1 HS6 HZ6 HT6 ⊢
          clear hW
          obtain ⟨gb, hg⟩ : ∃ g, g = w6.heap.size := ⟨_, rfl⟩
          rw [← hg] at q1 ⊢
          clear hg
          have R6 := Lib.hid q1
          clear q1 R5 HS5 HZ5
          obtain ⟨ZS, hZS⟩ : ∃ ZS : ByteArray, ZS = ⟨(List.replicate m (0 : UInt8)).toArray⟩ := ⟨_, rfl⟩
          have HZC : Hid (∀ (w' : World) (A' : Option Addr) (n' c' : Nat), (List.replicate m (0 : UInt8)).length = n' → BytesIn w' A' (List.replicate m 0) → (convert 27 9 (.slice A' n' c')).run Tryd.prog w' = .ok (.string ZS) w') := Lib.hid (fun w' A' n' c' h1 h2 => by rw [hZS]; exact run_bytes_in w' _ _ 5 A' n' c' Tryd.underlying27 Tryd.underlying5 Tryd.underlying9 _ h1 h2)
          clear hZS
          refine wp_region_pred (by kernel_rfl) (shKeepsR g1 m Az cz ZS) (shKeepsR_stab g1 m Az cz ZS) (by kernel_rfl) (by kernel_rfl) (by kernel_rfl) ?pops ?pfin
          case pops =>
            refine ⟨⟨112, rfl, fun a w hB hO hD K hK => ?_⟩, ?_⟩
            · rw [if_pos (wanted_none rfl)]
              exact wpo_move (.tmp 9) (.int .i64 0) rfl (eval_of (v := .int .i64 0) (hO 9 (not_dst 9 (by kernel_rfl)))) (hK _ w (Below.refl _ _) rfl)
            refine ⟨⟨113, rfl, fun a w hB hO hD K hK => ?_⟩, ?_⟩
            · rw [if_pos (wanted_none rfl)]
              exact wpo_cmp .neq _ 32 32 (.tmp 112) (.const (.int .i64 0)) _ _ _ rfl (pred_val (R := shKeepsR g1 m Az cz ZS) hD 0 (by kernel_rfl) 112 rfl (.int .i64 0) (fun v h => h)) rfl (by simp [cmpInt]) (hK _ w (Below.refl _ _) rfl)
            refine ⟨⟨114, rfl, fun a w hB hO hD K hK => ?_⟩, ?_⟩
            · rw [if_pos (wanted_none rfl)]
              exact wpo_move (.tmp 113) (.bool false) rfl (pred_val (R := shKeepsR g1 m Az cz ZS) hD 1 (by kernel_rfl) 113 rfl (.bool false) (fun v h => h)) (hK _ w (Below.refl _ _) rfl)
            refine ⟨⟨115, rfl, fun a w hB hO hD K hK => ?_⟩, ?_⟩
            · rw [if_pos (pred_yes (R := shKeepsR g1 m Az cz ZS) hD 2 false rfl (by kernel_rfl) 114 rfl (fun v h => h))]
              exact wpo_move (.tmp 8) (.slice Az m cz) rfl (eval_of (v := .slice Az m cz) (hO 8 (not_dst 8 (by kernel_rfl)))) (hK _ w (Below.refl _ _) rfl)
            refine ⟨⟨116, rfl, fun a w hB hO hD K hK => ?_⟩, ?_⟩
            · rw [if_pos (pred_yes (R := shKeepsR g1 m Az cz ZS) hD 2 false rfl (by kernel_rfl) 114 rfl (fun v h => h))]
              exact wp_convert 27 9 (.tmp 115) (.slice Az m cz) (.string ZS) rfl (pred_val (R := shKeepsR g1 m Az cz ZS) hD 3 (by kernel_rfl) 115 rfl (.slice Az m cz) (fun v h => h)) (HZC.out w Az m cz List.length_replicate (HZ6.out.below hB)) (hK _ w (Below.refl _ _) rfl)
            refine ⟨⟨117, rfl, fun a w hB hO hD K hK => ?_⟩, ?_⟩
            · rw [if_pos (pred_yes (R := shKeepsR g1 m Az cz ZS) hD 2 false rfl (by kernel_rfl) 114 rfl (fun v h => h))]
              exact wpg_field 29 4 3 4 0 (.tmp 3) g1 0 rfl (by kernel_rfl) (by kernel_rfl) (by kernel_rfl) (eval_of (v := .pointer (some ⟨g1, 0, none⟩)) (hO 3 (not_dst 3 (by kernel_rfl)))) (hK _ w (Below.refl _ _) rfl)
            refine ⟨⟨118, rfl, fun a w hB hO hD K hK => ?_⟩, ?_⟩
            · rw [if_pos (pred_yes (R := shKeepsR g1 m Az cz ZS) hD 2 false rfl (by kernel_rfl) 114 rfl (fun v h => h))]
              exact wp_load_cell 3 (.tmp 117) ⟨g1, 0 + 4, none⟩ (.int .i64 (m : Int)) _ rfl rfl (pred_val (R := shKeepsR g1 m Az cz ZS) hD 5 (by kernel_rfl) 117 rfl (.pointer (some ⟨g1, 0 + 4, none⟩)) (fun v h => h)) ((R6.out.since hB).cell 2 4 rfl rfl) Tryd.underlying3 (hK _ w (Below.refl _ _) rfl)
            refine ⟨⟨119, rfl, fun a w hB hO hD K hK => ?_⟩, ?_⟩
            · rw [if_pos (pred_yes (R := shKeepsR g1 m Az cz ZS) hD 2 false rfl (by kernel_rfl) 114 rfl (fun v h => h))]
              exact wpo_make0 27 5 (.tmp 118) (.tmp 118) (Classical.choose infoU8') (.int .u8 0) m 1 1 rfl Tryd.underlying27 (Classical.choose_spec infoU8').1 (Classical.choose_spec infoU8').2.1 (Classical.choose_spec infoU8').2.2.1 (Classical.choose_spec infoU8').2.2.2 (pred_val (R := shKeepsR g1 m Az cz ZS) hD 6 (by kernel_rfl) 118 rfl (.int .i64 (m : Int)) (fun v h => h)) (pred_val (R := shKeepsR g1 m Az cz ZS) hD 6 (by kernel_rfl) 118 rfl (.int .i64 (m : Int)) (fun v h => h)) (by have := HN.out.2; omega) (by decide) (by decide) (hK _ _ ((Below.refl _ _).alloc (Nat.le_refl _) _) ⟨w.heap.size, rfl, by simp, made_bytes w m _⟩)
            refine ⟨⟨120, rfl, fun a w hB hO hD K hK => ?_⟩, ?_⟩
            · rw [if_pos (pred_yes (R := shKeepsR g1 m Az cz ZS) hD 2 false rfl (by kernel_rfl) 114 rfl (fun v h => h))]
              obtain ⟨v, e1, b, rfl, hb1, hb2⟩ := pred_dep (R := shKeepsR g1 m Az cz ZS) hD 7 (by kernel_rfl) 119 rfl
              exact wp_convert 27 9 (.tmp 119) (.slice (some ⟨b, 0, none⟩) m m) (.string ZS) rfl (eval_of e1) (HZC.out w _ m m List.length_replicate (.inr ⟨b, 0, rfl, hb1, hb2⟩)) (hK _ w (Below.refl _ _) rfl)
            refine ⟨⟨121, rfl, fun a w hB hO hD K hK => ?_⟩, ?_⟩
            · rw [if_pos (pred_yes (R := shKeepsR g1 m Az cz ZS) hD 2 false rfl (by kernel_rfl) 114 rfl (fun v h => h))]
              exact wpo_neq_str false 9 9 (.tmp 116) (.tmp 120) ZS ZS rfl (pred_val (R := shKeepsR g1 m Az cz ZS) hD 4 (by kernel_rfl) 116 rfl (.string ZS) (fun v h => h)) (pred_val (R := shKeepsR g1 m Az cz ZS) hD 8 (by kernel_rfl) 120 rfl (.string ZS) (fun v h => h)) (by simp) (hK _ w (Below.refl _ _) rfl)
            refine ⟨⟨122, rfl, fun a w hB hO hD K hK => ?_⟩, ?_⟩
            · rw [if_pos (wanted_none rfl)]
              exact wpo_pick false (.tmp 114) (.const (.bool true)) (.tmp 121) (.bool false) rfl (pred_val (R := shKeepsR g1 m Az cz ZS) hD 2 (by kernel_rfl) 114 rfl (.bool false) (fun v h => h)) (pred_val (R := shKeepsR g1 m Az cz ZS) hD 9 (by kernel_rfl) 121 rfl (.bool false) (fun v h => h)) (hK _ w (Below.refl _ _) rfl)
            refine ⟨⟨123, rfl, fun a w hB hO hD K hK => ?_⟩, ?_⟩
            · rw [if_pos (wanted_none rfl)]
              exact wpo_move (.tmp 122) (.bool false) rfl (pred_val (R := shKeepsR g1 m Az cz ZS) hD 10 (by kernel_rfl) 122 rfl (.bool false) (fun v h => h)) (hK _ w (Below.refl _ _) rfl)
            refine ⟨⟨124, rfl, fun a w hB hO hD K hK => ?_⟩, ?_⟩
            · rw [if_pos (pred_yes (R := shKeepsR g1 m Az cz ZS) hD 11 false rfl (by kernel_rfl) 123 rfl (fun v h => h))]
              exact wpo_move (.tmp 11) (.int .i64 210) rfl (eval_of (v := .int .i64 210) (hO 11 (not_dst 11 (by kernel_rfl)))) (hK _ w (Below.refl _ _) rfl)
            refine ⟨⟨125, rfl, fun a w hB hO hD K hK => ?_⟩, ?_⟩
            · rw [if_pos (pred_yes (R := shKeepsR g1 m Az cz ZS) hD 11 false rfl (by kernel_rfl) 123 rfl (fun v h => h))]
              exact wpo_cmp .neq _ 32 32 (.tmp 124) (.const (.int .i64 210)) _ _ _ rfl (pred_val (R := shKeepsR g1 m Az cz ZS) hD 12 (by kernel_rfl) 124 rfl (.int .i64 210) (fun v h => h)) rfl (by simp [cmpInt]) (hK _ w (Below.refl _ _) rfl)
            refine ⟨⟨126, rfl, fun a w hB hO hD K hK => ?_⟩, ?_⟩
            · rw [if_pos (wanted_none rfl)]
              exact wpo_pick false (.tmp 123) (.const (.bool true)) (.tmp 125) (.bool false) rfl (pred_val (R := shKeepsR g1 m Az cz ZS) hD 11 (by kernel_rfl) 123 rfl (.bool false) (fun v h => h)) (pred_val (R := shKeepsR g1 m Az cz ZS) hD 13 (by kernel_rfl) 125 rfl (.bool false) (fun v h => h)) (hK _ w (Below.refl _ _) rfl)
            exact trivial
          case pfin =>
            intro V w7 hb hV
            have R7 := Lib.hid (R6.out.since hb)
            have HS7 := Lib.hid (HS6.out.below hb)
            have HT7 := Lib.hid (HT6.out.below hb)
            simp only [putAll, List.setIfInBounds_toArray, List.set_cons_zero, List.set_cons_succ]
            have e126 : V 126 = .bool false := hV 14 _ 126 rfl rfl
            rw [e126]
            clear hb hV e126 R6 HS6 HT6 HZ6 HZC
            have hfe := HF.out
            by_cases hfit : 0 ≤ off ∧ off + (k : Int) ≤ (m : Int)
            · rw [if_pos (by have := HK.out; omega)] at hfe
              subst hfe
              obtain ⟨o, rfl⟩ : ∃ o : Nat, off = o := ⟨off.toNat, by omega⟩
              have h2 : (o : Int) ≤ (m : Int) := by omega
              have h3 : (k : Int) ≤ (m : Int) - (o : Int) := by omega
              have HFIT : Hid (o + k ≤ m) := Lib.hid (by omega)
              clear hfit
              have hmm : m ≤ 237 := HN.out.2
              have x2 := R7.out.cell 2 2 rfl rfl
              have x3 := R7.out.cell 2 3 rfl rfl
              have x4 := R7.out.cell 2 4 rfl rfl
              have x5 := R7.out.cell 2 5 rfl rfl
              obtain ⟨D2, hD2⟩ : ∃ D2, D2 = overL (List.replicate m (0 : UInt8)) o d := ⟨_, rfl⟩
              have hD2l : D2.length = m := by rw [hD2, length_overL _ _ _ (by rw [List.length_replicate]; have := HK.out; have := HFIT.out; omega), List.length_replicate]
              have hsb : sb = putC s p (ser, D2) := by rw [HSB.out, HSAE.out, HT.out.write _ _ (by simp) o (by have := HK.out; omega), hD2]
              have hp0 := HT.out.part D2 (by rw [hD2l]) (o : Int) (k : Int)
              rw [if_pos (by omega), ← hsb] at hp0
              have hr0 := HT.out.read D2 (by rw [hD2l]) o k (by rw [hD2l]; exact HFIT.out)
              rw [← hsb, show (D2.drop o).take k = d by rw [hD2, ← HK.out]; exact over_read _ _ _ (by rw [List.length_replicate, HK.out]; exact HFIT.out)] at hr0
              have hn2 : n2 = n1 := by
                have h1 := HT7.out.len
                have h2 := HSH.out.len
                rw [hsb, len_put] at h1
                omega
              have HP0 := Lib.hid hp0
              have HR0 := Lib.hid hr0
              have HSBE := Lib.hid hsb
              have HD2L := Lib.hid hD2l
              subst hn2
              clear hp0 hr0 hsb hD2l hD2 H0 H1 H2 H3 H4
              obtain ⟨⟨e0, e1, e2, e3⟩, _, _, _, _⟩ := R7.out.cells4 0 rfl
              go_wp2_with fail
              have N1 := read_is (HC.out.below R7.out.below) ⟨A2, n2, c2, l2, rfl, HT7.out⟩ (p : Int) ser (o : Int) (k : Int)
              rw [HP0.out, HR0.out] at N1
              refine N1.mono ?_
              rintro e w8 ⟨Ar, cr, rfl, hcap, hby, hb⟩
              rw [HK.out]
              have R8 := Lib.hid (R7.out.call hb)
              have HS8 := Lib.hid (HS7.out.below hb)
              have HT8 := Lib.hid (HT7.out.below hb)
              have HZ := Lib.hid hby
              obtain ⟨SD, hSD⟩ : ∃ SD : ByteArray, SD = ⟨d.toArray⟩ := ⟨_, rfl⟩
              have HSD := Lib.hid hSD
              have C0 := Lib.hid (R8.out.cell 0 3 rfl rfl)
              have C2 := Lib.hid (R8.out.cell 3 3 rfl rfl)
              have C5 := Lib.hid (R8.out.cell 2 5 rfl rfl)
              clear N1 hcap hby hb R7 HS7 HT7 e0 e1 e2 e3 x2 x3 x4 x5 hSD h2 h3
              go_upto_region 18 with (fail)
              refine wk_plain_since ?_
              repeat (first
                | (refine wk_move _ (by first | exact wanted_none rfl | exact wanted_yes _ _ rfl rfl) rfl ?_; simp only [Act.put, Act.eval, Array.getD_eq_getD_getElem?, List.getElem?_toArray, List.getElem?_cons_succ, List.getElem?_cons_zero, Option.getD_some, List.setIfInBounds_toArray, List.set_cons_zero, List.set_cons_succ])
                | (refine wk_assign _ (by first | exact wanted_none rfl | exact wanted_yes _ _ rfl rfl) rfl ?_; simp only [Act.put, Act.eval, Array.getD_eq_getD_getElem?, List.getElem?_toArray, List.getElem?_cons_succ, List.getElem?_cons_zero, Option.getD_some, List.setIfInBounds_toArray, List.set_cons_zero, List.set_cons_succ])
                | (refine wk_pickt _ _ _ _ (by first | exact wanted_none rfl | exact wanted_yes _ _ rfl rfl) rfl rfl rfl ?_; simp only [Act.put, Act.eval, Array.getD_eq_getD_getElem?, List.getElem?_toArray, List.getElem?_cons_succ, List.getElem?_cons_zero, Option.getD_some, List.setIfInBounds_toArray, List.set_cons_zero, List.set_cons_succ])
                | (refine wk_pickf _ _ _ _ (by first | exact wanted_none rfl | exact wanted_yes _ _ rfl rfl) rfl rfl rfl ?_; simp only [Act.put, Act.eval, Array.getD_eq_getD_getElem?, List.getElem?_toArray, List.getElem?_cons_succ, List.getElem?_cons_zero, Option.getD_some, List.setIfInBounds_toArray, List.set_cons_zero, List.set_cons_succ])
                | (refine wk_skip (wanted_not _ true false rfl rfl rfl) ?_; simp only [Act.put, List.setIfInBounds_toArray, List.set_cons_zero, List.set_cons_succ])
                | (refine wk_skip (wanted_not _ false true rfl rfl rfl) ?_; simp only [Act.put, List.setIfInBounds_toArray, List.set_cons_zero, List.set_cons_succ])
                | (refine wk_skip (wanted_undef _ _ rfl rfl) ?_; simp only [Act.put, List.setIfInBounds_toArray, List.set_cons_zero, List.set_cons_succ])
                | (refine wk_not true _ _ (by first | exact wanted_none rfl | exact wanted_yes _ _ rfl rfl) rfl rfl ?_; simp only [Act.put, List.setIfInBounds_toArray, List.set_cons_zero, List.set_cons_succ])
                | (refine wk_not false _ _ (by first | exact wanted_none rfl | exact wanted_yes _ _ rfl rfl) rfl rfl ?_; simp only [Act.put, List.setIfInBounds_toArray, List.set_cons_zero, List.set_cons_succ]))
              refine wk_cmp_int .neq (false) _ _ _ _ _ _ _ (by kernel_rfl) rfl rfl rfl (by simp [cmpInt]) ?_
              simp only [Act.put, List.setIfInBounds_toArray, List.set_cons_zero, List.set_cons_succ]
              repeat (first
                | (refine wk_move _ (by first | exact wanted_none rfl | exact wanted_yes _ _ rfl rfl) rfl ?_; simp only [Act.put, Act.eval, Array.getD_eq_getD_getElem?, List.getElem?_toArray, List.getElem?_cons_succ, List.getElem?_cons_zero, Option.getD_some, List.setIfInBounds_toArray, List.set_cons_zero, List.set_cons_succ])
                | (refine wk_assign _ (by first | exact wanted_none rfl | exact wanted_yes _ _ rfl rfl) rfl ?_; simp only [Act.put, Act.eval, Array.getD_eq_getD_getElem?, List.getElem?_toArray, List.getElem?_cons_succ, List.getElem?_cons_zero, Option.getD_some, List.setIfInBounds_toArray, List.set_cons_zero, List.set_cons_succ])
                | (refine wk_pickt _ _ _ _ (by first | exact wanted_none rfl | exact wanted_yes _ _ rfl rfl) rfl rfl rfl ?_; simp only [Act.put, Act.eval, Array.getD_eq_getD_getElem?, List.getElem?_toArray, List.getElem?_cons_succ, List.getElem?_cons_zero, Option.getD_some, List.setIfInBounds_toArray, List.set_cons_zero, List.set_cons_succ])
                | (refine wk_pickf _ _ _ _ (by first | exact wanted_none rfl | exact wanted_yes _ _ rfl rfl) rfl rfl rfl ?_; simp only [Act.put, Act.eval, Array.getD_eq_getD_getElem?, List.getElem?_toArray, List.getElem?_cons_succ, List.getElem?_cons_zero, Option.getD_some, List.setIfInBounds_toArray, List.set_cons_zero, List.set_cons_succ])
                | (refine wk_skip (wanted_not _ true false rfl rfl rfl) ?_; simp only [Act.put, List.setIfInBounds_toArray, List.set_cons_zero, List.set_cons_succ])
                | (refine wk_skip (wanted_not _ false true rfl rfl rfl) ?_; simp only [Act.put, List.setIfInBounds_toArray, List.set_cons_zero, List.set_cons_succ])
                | (refine wk_skip (wanted_undef _ _ rfl rfl) ?_; simp only [Act.put, List.setIfInBounds_toArray, List.set_cons_zero, List.set_cons_succ])
                | (refine wk_not true _ _ (by first | exact wanted_none rfl | exact wanted_yes _ _ rfl rfl) rfl rfl ?_; simp only [Act.put, List.setIfInBounds_toArray, List.set_cons_zero, List.set_cons_succ])
                | (refine wk_not false _ _ (by first | exact wanted_none rfl | exact wanted_yes _ _ rfl rfl) rfl rfl ?_; simp only [Act.put, List.setIfInBounds_toArray, List.set_cons_zero, List.set_cons_succ]))
              refine wk_bytes_in _ _ _ _ _ (k) _ (d) (SD) (by first | exact wanted_none rfl | exact wanted_yes _ _ rfl rfl) rfl rfl Tryd.underlying27 Tryd.underlying5 Tryd.underlying9 (HK.out) (HSD.out) (fun w' hC => HZ.out.below hC) ?_
              simp only [Act.put, List.setIfInBounds_toArray, List.set_cons_zero, List.set_cons_succ]
              refine wk_field 29 _ 27 5 0 _ _ _ (by first | exact wanted_none rfl | exact wanted_yes _ _ rfl rfl) rfl (by kernel_rfl) (by kernel_rfl) (by kernel_rfl) rfl ?_
              simp only [Act.put, List.setIfInBounds_toArray, List.set_cons_zero, List.set_cons_succ, Nat.zero_add]
              refine wk_load1 _ _ _ _ _ rfl (by kernel_rfl) rfl rfl (fun w' hC => hC.cell C5.out) Tryd.underlying27 ?_
              simp only [Act.put, List.setIfInBounds_toArray, List.set_cons_zero, List.set_cons_succ]
              refine wk_bytes_in _ _ _ _ _ (k) _ (d) (SD) (by first | exact wanted_none rfl | exact wanted_yes _ _ rfl rfl) rfl rfl Tryd.underlying27 Tryd.underlying5 Tryd.underlying9 (HK.out) (HSD.out) (fun w' hC => HD.out.below (R8.out.below.trans (Below.mono hC R8.out.below.size))) ?_
              simp only [Act.put, List.setIfInBounds_toArray, List.set_cons_zero, List.set_cons_succ]
              refine wk_neq_str false _ _ _ _ _ _ (by first | exact wanted_none rfl | exact wanted_yes _ _ rfl rfl) rfl rfl rfl (by simp) ?_
              simp only [Act.put, List.setIfInBounds_toArray, List.set_cons_zero, List.set_cons_succ]
              repeat (first
                | (refine wk_move _ (by first | exact wanted_none rfl | exact wanted_yes _ _ rfl rfl) rfl ?_; simp only [Act.put, Act.eval, Array.getD_eq_getD_getElem?, List.getElem?_toArray, List.getElem?_cons_succ, List.getElem?_cons_zero, Option.getD_some, List.setIfInBounds_toArray, List.set_cons_zero, List.set_cons_succ])
                | (refine wk_assign _ (by first | exact wanted_none rfl | exact wanted_yes _ _ rfl rfl) rfl ?_; simp only [Act.put, Act.eval, Array.getD_eq_getD_getElem?, List.getElem?_toArray, List.getElem?_cons_succ, List.getElem?_cons_zero, Option.getD_some, List.setIfInBounds_toArray, List.set_cons_zero, List.set_cons_succ])
                | (refine wk_pickt _ _ _ _ (by first | exact wanted_none rfl | exact wanted_yes _ _ rfl rfl) rfl rfl rfl ?_; simp only [Act.put, Act.eval, Array.getD_eq_getD_getElem?, List.getElem?_toArray, List.getElem?_cons_succ, List.getElem?_cons_zero, Option.getD_some, List.setIfInBounds_toArray, List.set_cons_zero, List.set_cons_succ])
                | (refine wk_pickf _ _ _ _ (by first | exact wanted_none rfl | exact wanted_yes _ _ rfl rfl) rfl rfl rfl ?_; simp only [Act.put, Act.eval, Array.getD_eq_getD_getElem?, List.getElem?_toArray, List.getElem?_cons_succ, List.getElem?_cons_zero, Option.getD_some, List.setIfInBounds_toArray, List.set_cons_zero, List.set_cons_succ])
                | (refine wk_skip (wanted_not _ true false rfl rfl rfl) ?_; simp only [Act.put, List.setIfInBounds_toArray, List.set_cons_zero, List.set_cons_succ])
                | (refine wk_skip (wanted_not _ false true rfl rfl rfl) ?_; simp only [Act.put, List.setIfInBounds_toArray, List.set_cons_zero, List.set_cons_succ])
                | (refine wk_skip (wanted_undef _ _ rfl rfl) ?_; simp only [Act.put, List.setIfInBounds_toArray, List.set_cons_zero, List.set_cons_succ])
                | (refine wk_not true _ _ (by first | exact wanted_none rfl | exact wanted_yes _ _ rfl rfl) rfl rfl ?_; simp only [Act.put, List.setIfInBounds_toArray, List.set_cons_zero, List.set_cons_succ])
                | (refine wk_not false _ _ (by first | exact wanted_none rfl | exact wanted_yes _ _ rfl rfl) rfl rfl ?_; simp only [Act.put, List.setIfInBounds_toArray, List.set_cons_zero, List.set_cons_succ]))
              refine wk_field 25 _ 23 3 0 _ _ _ (by first | exact wanted_none rfl | exact wanted_yes _ _ rfl rfl) rfl (by kernel_rfl) (by kernel_rfl) (by kernel_rfl) rfl ?_
              simp only [Act.put, List.setIfInBounds_toArray, List.set_cons_zero, List.set_cons_succ, Nat.zero_add]
              refine wk_load1 _ _ _ _ _ rfl (by kernel_rfl) rfl rfl (fun w' hC => hC.cell C0.out) Tryd.underlying23 ?_
              simp only [Act.put, List.setIfInBounds_toArray, List.set_cons_zero, List.set_cons_succ]
              refine wk_len_slice _ _ _ _ _ _ Tryd.underlying23 (by kernel_rfl) rfl rfl ?_
              simp only [Act.put, List.setIfInBounds_toArray, List.set_cons_zero, List.set_cons_succ]
              refine wk_field 25 _ 23 3 0 _ _ _ (by first | exact wanted_none rfl | exact wanted_yes _ _ rfl rfl) rfl (by kernel_rfl) (by kernel_rfl) (by kernel_rfl) rfl ?_
              simp only [Act.put, List.setIfInBounds_toArray, List.set_cons_zero, List.set_cons_succ, Nat.zero_add]
              refine wk_load1 _ _ _ _ _ rfl (by kernel_rfl) rfl rfl (fun w' hC => hC.cell C2.out) Tryd.underlying23 ?_
              simp only [Act.put, List.setIfInBounds_toArray, List.set_cons_zero, List.set_cons_succ]
              refine wk_len_slice _ _ _ _ _ _ Tryd.underlying23 (by kernel_rfl) rfl rfl ?_
              simp only [Act.put, List.setIfInBounds_toArray, List.set_cons_zero, List.set_cons_succ]
              refine wk_cmp_int .neq (false) _ _ _ _ _ _ _ (by kernel_rfl) rfl rfl rfl (by simp [cmpInt]) ?_
              simp only [Act.put, List.setIfInBounds_toArray, List.set_cons_zero, List.set_cons_succ]
              repeat (first
                | (refine wk_move _ (by first | exact wanted_none rfl | exact wanted_yes _ _ rfl rfl) rfl ?_; simp only [Act.put, Act.eval, Array.getD_eq_getD_getElem?, List.getElem?_toArray, List.getElem?_cons_succ, List.getElem?_cons_zero, Option.getD_some, List.setIfInBounds_toArray, List.set_cons_zero, List.set_cons_succ])
                | (refine wk_assign _ (by first | exact wanted_none rfl | exact wanted_yes _ _ rfl rfl) rfl ?_; simp only [Act.put, Act.eval, Array.getD_eq_getD_getElem?, List.getElem?_toArray, List.getElem?_cons_succ, List.getElem?_cons_zero, Option.getD_some, List.setIfInBounds_toArray, List.set_cons_zero, List.set_cons_succ])
                | (refine wk_pickt _ _ _ _ (by first | exact wanted_none rfl | exact wanted_yes _ _ rfl rfl) rfl rfl rfl ?_; simp only [Act.put, Act.eval, Array.getD_eq_getD_getElem?, List.getElem?_toArray, List.getElem?_cons_succ, List.getElem?_cons_zero, Option.getD_some, List.setIfInBounds_toArray, List.set_cons_zero, List.set_cons_succ])
                | (refine wk_pickf _ _ _ _ (by first | exact wanted_none rfl | exact wanted_yes _ _ rfl rfl) rfl rfl rfl ?_; simp only [Act.put, Act.eval, Array.getD_eq_getD_getElem?, List.getElem?_toArray, List.getElem?_cons_succ, List.getElem?_cons_zero, Option.getD_some, List.setIfInBounds_toArray, List.set_cons_zero, List.set_cons_succ])
                | (refine wk_skip (wanted_not _ true false rfl rfl rfl) ?_; simp only [Act.put, List.setIfInBounds_toArray, List.set_cons_zero, List.set_cons_succ])
                | (refine wk_skip (wanted_not _ false true rfl rfl rfl) ?_; simp only [Act.put, List.setIfInBounds_toArray, List.set_cons_zero, List.set_cons_succ])
                | (refine wk_skip (wanted_undef _ _ rfl rfl) ?_; simp only [Act.put, List.setIfInBounds_toArray, List.set_cons_zero, List.set_cons_succ])
                | (refine wk_not true _ _ (by first | exact wanted_none rfl | exact wanted_yes _ _ rfl rfl) rfl rfl ?_; simp only [Act.put, List.setIfInBounds_toArray, List.set_cons_zero, List.set_cons_succ])
                | (refine wk_not false _ _ (by first | exact wanted_none rfl | exact wanted_yes _ _ rfl rfl) rfl rfl ?_; simp only [Act.put, List.setIfInBounds_toArray, List.set_cons_zero, List.set_cons_succ]))
              refine wk_nil ?_
              intro w9 hC
              have R9 := Lib.hid (R8.out.since hC)
              have HS9 := Lib.hid (HS8.out.below hC)
              have HT9 := Lib.hid (HT8.out.below hC)
              clear hC R8 HS8 HT8 HZ HSD C0 C2 C5
              go_wp2_with fail
              go_loopw [17] (fun i wr => ∃ j : Nat, j ≤ n2 ∧ i = .int .i64 (j : Int) ∧ Below w9.heap.size w9 wr) (fun i _ => n2 - (intOf i).toNat)
              case atStart => exact ⟨0, by omega, rfl, Below.refl _ _⟩
              case round =>
                obtain ⟨j, hj, rfl, hb⟩ := hrel
                have R10 := Lib.hid (R9.out.call hb)
                have HS10 := Lib.hid (HS9.out.below hb)
                have HT10 := Lib.hid (HT9.out.below hb)
                have HB := Lib.hid hb
                have HSH10 := Lib.hid (HSH.out.below R10.out.below)
                clear hb
                have cc := R10.out.cell 3 3 rfl rfl
                have h30 : n2 ≤ 30 := HSH.out.le30
                by_cases hlt : j < n2
                · by_cases hjp : j = p
                  · subst hjp
                    clear HSH10
                    go_upto_region 23 with (fail)
                    refine wk_region_since (by kernel_rfl) (by kernel_rfl) ?_
                    repeat (first
                      | (refine wk_move _ (by first | exact wanted_none rfl | exact wanted_yes _ _ rfl rfl) rfl ?_; simp only [Act.put, Act.eval, Array.getD_eq_getD_getElem?, List.getElem?_toArray, List.getElem?_cons_succ, List.getElem?_cons_zero, Option.getD_some, List.setIfInBounds_toArray, List.set_cons_zero, List.set_cons_succ])
                      | (refine wk_assign _ (by first | exact wanted_none rfl | exact wanted_yes _ _ rfl rfl) rfl ?_; simp only [Act.put, Act.eval, Array.getD_eq_getD_getElem?, List.getElem?_toArray, List.getElem?_cons_succ, List.getElem?_cons_zero, Option.getD_some, List.setIfInBounds_toArray, List.set_cons_zero, List.set_cons_succ])
                      | (refine wk_pickt _ _ _ _ (by first | exact wanted_none rfl | exact wanted_yes _ _ rfl rfl) rfl rfl rfl ?_; simp only [Act.put, Act.eval, Array.getD_eq_getD_getElem?, List.getElem?_toArray, List.getElem?_cons_succ, List.getElem?_cons_zero, Option.getD_some, List.setIfInBounds_toArray, List.set_cons_zero, List.set_cons_succ])
                      | (refine wk_pickf _ _ _ _ (by first | exact wanted_none rfl | exact wanted_yes _ _ rfl rfl) rfl rfl rfl ?_; simp only [Act.put, Act.eval, Array.getD_eq_getD_getElem?, List.getElem?_toArray, List.getElem?_cons_succ, List.getElem?_cons_zero, Option.getD_some, List.setIfInBounds_toArray, List.set_cons_zero, List.set_cons_succ])
                      | (refine wk_skip (wanted_not _ true false rfl rfl rfl) ?_; simp only [Act.put, List.setIfInBounds_toArray, List.set_cons_zero, List.set_cons_succ])
                      | (refine wk_skip (wanted_not _ false true rfl rfl rfl) ?_; simp only [Act.put, List.setIfInBounds_toArray, List.set_cons_zero, List.set_cons_succ])
                      | (refine wk_skip (wanted_undef _ _ rfl rfl) ?_; simp only [Act.put, List.setIfInBounds_toArray, List.set_cons_zero, List.set_cons_succ])
                      | (refine wk_not true _ _ (by first | exact wanted_none rfl | exact wanted_yes _ _ rfl rfl) rfl rfl ?_; simp only [Act.put, List.setIfInBounds_toArray, List.set_cons_zero, List.set_cons_succ])
                      | (refine wk_not false _ _ (by first | exact wanted_none rfl | exact wanted_yes _ _ rfl rfl) rfl rfl ?_; simp only [Act.put, List.setIfInBounds_toArray, List.set_cons_zero, List.set_cons_succ]))
                    refine wk_cmp_int .neq (false) _ _ _ _ _ _ _ (by kernel_rfl) rfl rfl rfl (by simp [cmpInt]) ?_
                    simp only [Act.put, List.setIfInBounds_toArray, List.set_cons_zero, List.set_cons_succ]
                    repeat (first
                      | (refine wk_move _ (by first | exact wanted_none rfl | exact wanted_yes _ _ rfl rfl) rfl ?_; simp only [Act.put, Act.eval, Array.getD_eq_getD_getElem?, List.getElem?_toArray, List.getElem?_cons_succ, List.getElem?_cons_zero, Option.getD_some, List.setIfInBounds_toArray, List.set_cons_zero, List.set_cons_succ])
                      | (refine wk_assign _ (by first | exact wanted_none rfl | exact wanted_yes _ _ rfl rfl) rfl ?_; simp only [Act.put, Act.eval, Array.getD_eq_getD_getElem?, List.getElem?_toArray, List.getElem?_cons_succ, List.getElem?_cons_zero, Option.getD_some, List.setIfInBounds_toArray, List.set_cons_zero, List.set_cons_succ])
                      | (refine wk_pickt _ _ _ _ (by first | exact wanted_none rfl | exact wanted_yes _ _ rfl rfl) rfl rfl rfl ?_; simp only [Act.put, Act.eval, Array.getD_eq_getD_getElem?, List.getElem?_toArray, List.getElem?_cons_succ, List.getElem?_cons_zero, Option.getD_some, List.setIfInBounds_toArray, List.set_cons_zero, List.set_cons_succ])
                      | (refine wk_pickf _ _ _ _ (by first | exact wanted_none rfl | exact wanted_yes _ _ rfl rfl) rfl rfl rfl ?_; simp only [Act.put, Act.eval, Array.getD_eq_getD_getElem?, List.getElem?_toArray, List.getElem?_cons_succ, List.getElem?_cons_zero, Option.getD_some, List.setIfInBounds_toArray, List.set_cons_zero, List.set_cons_succ])
                      | (refine wk_skip (wanted_not _ true false rfl rfl rfl) ?_; simp only [Act.put, List.setIfInBounds_toArray, List.set_cons_zero, List.set_cons_succ])
                      | (refine wk_skip (wanted_not _ false true rfl rfl rfl) ?_; simp only [Act.put, List.setIfInBounds_toArray, List.set_cons_zero, List.set_cons_succ])
                      | (refine wk_skip (wanted_undef _ _ rfl rfl) ?_; simp only [Act.put, List.setIfInBounds_toArray, List.set_cons_zero, List.set_cons_succ])
                      | (refine wk_not true _ _ (by first | exact wanted_none rfl | exact wanted_yes _ _ rfl rfl) rfl rfl ?_; simp only [Act.put, List.setIfInBounds_toArray, List.set_cons_zero, List.set_cons_succ])
                      | (refine wk_not false _ _ (by first | exact wanted_none rfl | exact wanted_yes _ _ rfl rfl) rfl rfl ?_; simp only [Act.put, List.setIfInBounds_toArray, List.set_cons_zero, List.set_cons_succ]))
                    refine wk_nil ?_
                    intro w' hC
                    have HBC : Hid (Below w9.heap.size w9 w') := Lib.hid (HB.out.trans (Below.mono hC HB.out.size))
                    clear hC
                    go_wp2_with fail
                    go_roundw
                    case rel => exact ⟨j + 1, by omega, by go_num, HBC.out⟩
                    case measure => simp [intOf]; omega
                  · have hgb : sb.cells[j]? = s.cells[j]? := by rw [HSBE.out]; exact get_put_ne s p j _ hjp
                    obtain ⟨x, hx1, hx2, hx3, hx4, b2, off2, rfl, hb2, hr2⟩ := HT10.out.get j hlt
                    obtain ⟨y, hy1, hy2, hy3, hy4, b1, off1, rfl, hb1, hr1⟩ := HSH10.out.get j hlt
                    rw [List.getD_eq_getElem?_getD, hgb, ← List.getD_eq_getElem?_getD, hy2] at hx2
                    simp only [CellH.dat, Prod.mk.injEq] at hx2
                    obtain ⟨xs, xA, xm, xc, xd⟩ := x
                    obtain ⟨ys, yA, ym, yc, yd⟩ := y
                    simp only at hx2 hx3 hx4 hr2 hy3 hy4 hr1
                    obtain ⟨rfl, rfl⟩ := hx2
                    have X0 := Lib.hid (hr2 0 _ rfl)
                    have X1 := Lib.hid (hr2 1 _ rfl)
                    have Y0 := Lib.hid (hr1 0 _ rfl)
                    have Y1 := Lib.hid (hr1 1 _ rfl)
                    have HX := Lib.hid hx3
                    have HY := Lib.hid hy3
                    obtain ⟨SX, hSX⟩ : ∃ SX : ByteArray, SX = ⟨yd.toArray⟩ := ⟨_, rfl⟩
                    have HSX := Lib.hid hSX
                    have C0 := Lib.hid (R10.out.cell 0 3 rfl rfl)
                    have C2 := Lib.hid (R10.out.cell 3 3 rfl rfl)
                    have HJP : Hid (cmpInt .neq (j : Int) (p : Int) = some true) := Lib.hid (by simp [cmpInt]; omega)
                    clear hgb hx1 hx3 hx4 hb2 hr2 hy1 hy2 hy3 hy4 hb1 hr1 hSX
                    go_upto_region 23 with (fail)
                    refine wk_region_since (by kernel_rfl) (by kernel_rfl) ?_
                    repeat (first
                      | (refine wk_move _ (by first | exact wanted_none rfl | exact wanted_yes _ _ rfl rfl) rfl ?_; simp only [Act.put, Act.eval, Array.getD_eq_getD_getElem?, List.getElem?_toArray, List.getElem?_cons_succ, List.getElem?_cons_zero, Option.getD_some, List.setIfInBounds_toArray, List.set_cons_zero, List.set_cons_succ])
                      | (refine wk_assign _ (by first | exact wanted_none rfl | exact wanted_yes _ _ rfl rfl) rfl ?_; simp only [Act.put, Act.eval, Array.getD_eq_getD_getElem?, List.getElem?_toArray, List.getElem?_cons_succ, List.getElem?_cons_zero, Option.getD_some, List.setIfInBounds_toArray, List.set_cons_zero, List.set_cons_succ])
                      | (refine wk_pickt _ _ _ _ (by first | exact wanted_none rfl | exact wanted_yes _ _ rfl rfl) rfl rfl rfl ?_; simp only [Act.put, Act.eval, Array.getD_eq_getD_getElem?, List.getElem?_toArray, List.getElem?_cons_succ, List.getElem?_cons_zero, Option.getD_some, List.setIfInBounds_toArray, List.set_cons_zero, List.set_cons_succ])
                      | (refine wk_pickf _ _ _ _ (by first | exact wanted_none rfl | exact wanted_yes _ _ rfl rfl) rfl rfl rfl ?_; simp only [Act.put, Act.eval, Array.getD_eq_getD_getElem?, List.getElem?_toArray, List.getElem?_cons_succ, List.getElem?_cons_zero, Option.getD_some, List.setIfInBounds_toArray, List.set_cons_zero, List.set_cons_succ])
                      | (refine wk_skip (wanted_not _ true false rfl rfl rfl) ?_; simp only [Act.put, List.setIfInBounds_toArray, List.set_cons_zero, List.set_cons_succ])
                      | (refine wk_skip (wanted_not _ false true rfl rfl rfl) ?_; simp only [Act.put, List.setIfInBounds_toArray, List.set_cons_zero, List.set_cons_succ])
                      | (refine wk_skip (wanted_undef _ _ rfl rfl) ?_; simp only [Act.put, List.setIfInBounds_toArray, List.set_cons_zero, List.set_cons_succ])
                      | (refine wk_not true _ _ (by first | exact wanted_none rfl | exact wanted_yes _ _ rfl rfl) rfl rfl ?_; simp only [Act.put, List.setIfInBounds_toArray, List.set_cons_zero, List.set_cons_succ])
                      | (refine wk_not false _ _ (by first | exact wanted_none rfl | exact wanted_yes _ _ rfl rfl) rfl rfl ?_; simp only [Act.put, List.setIfInBounds_toArray, List.set_cons_zero, List.set_cons_succ]))
                    refine wk_cmp_int .neq (true) _ _ _ _ _ _ _ (by kernel_rfl) rfl rfl rfl (HJP.out) ?_
                    simp only [Act.put, List.setIfInBounds_toArray, List.set_cons_zero, List.set_cons_succ]
                    repeat (first
                      | (refine wk_move _ (by first | exact wanted_none rfl | exact wanted_yes _ _ rfl rfl) rfl ?_; simp only [Act.put, Act.eval, Array.getD_eq_getD_getElem?, List.getElem?_toArray, List.getElem?_cons_succ, List.getElem?_cons_zero, Option.getD_some, List.setIfInBounds_toArray, List.set_cons_zero, List.set_cons_succ])
                      | (refine wk_assign _ (by first | exact wanted_none rfl | exact wanted_yes _ _ rfl rfl) rfl ?_; simp only [Act.put, Act.eval, Array.getD_eq_getD_getElem?, List.getElem?_toArray, List.getElem?_cons_succ, List.getElem?_cons_zero, Option.getD_some, List.setIfInBounds_toArray, List.set_cons_zero, List.set_cons_succ])
                      | (refine wk_pickt _ _ _ _ (by first | exact wanted_none rfl | exact wanted_yes _ _ rfl rfl) rfl rfl rfl ?_; simp only [Act.put, Act.eval, Array.getD_eq_getD_getElem?, List.getElem?_toArray, List.getElem?_cons_succ, List.getElem?_cons_zero, Option.getD_some, List.setIfInBounds_toArray, List.set_cons_zero, List.set_cons_succ])
                      | (refine wk_pickf _ _ _ _ (by first | exact wanted_none rfl | exact wanted_yes _ _ rfl rfl) rfl rfl rfl ?_; simp only [Act.put, Act.eval, Array.getD_eq_getD_getElem?, List.getElem?_toArray, List.getElem?_cons_succ, List.getElem?_cons_zero, Option.getD_some, List.setIfInBounds_toArray, List.set_cons_zero, List.set_cons_succ])
                      | (refine wk_skip (wanted_not _ true false rfl rfl rfl) ?_; simp only [Act.put, List.setIfInBounds_toArray, List.set_cons_zero, List.set_cons_succ])
                      | (refine wk_skip (wanted_not _ false true rfl rfl rfl) ?_; simp only [Act.put, List.setIfInBounds_toArray, List.set_cons_zero, List.set_cons_succ])
                      | (refine wk_skip (wanted_undef _ _ rfl rfl) ?_; simp only [Act.put, List.setIfInBounds_toArray, List.set_cons_zero, List.set_cons_succ])
                      | (refine wk_not true _ _ (by first | exact wanted_none rfl | exact wanted_yes _ _ rfl rfl) rfl rfl ?_; simp only [Act.put, List.setIfInBounds_toArray, List.set_cons_zero, List.set_cons_succ])
                      | (refine wk_not false _ _ (by first | exact wanted_none rfl | exact wanted_yes _ _ rfl rfl) rfl rfl ?_; simp only [Act.put, List.setIfInBounds_toArray, List.set_cons_zero, List.set_cons_succ]))
                    refine wk_field 25 _ 23 3 0 _ _ _ (by first | exact wanted_none rfl | exact wanted_yes _ _ rfl rfl) rfl (by kernel_rfl) (by kernel_rfl) (by kernel_rfl) rfl ?_
                    simp only [Act.put, List.setIfInBounds_toArray, List.set_cons_zero, List.set_cons_succ, Nat.zero_add]
                    refine wk_load1 _ _ _ _ _ rfl (by kernel_rfl) rfl rfl (fun w' hC => hC.cell C0.out) Tryd.underlying23 ?_
                    simp only [Act.put, List.setIfInBounds_toArray, List.set_cons_zero, List.set_cons_succ]
                    repeat (first
                      | (refine wk_move _ (by first | exact wanted_none rfl | exact wanted_yes _ _ rfl rfl) rfl ?_; simp only [Act.put, Act.eval, Array.getD_eq_getD_getElem?, List.getElem?_toArray, List.getElem?_cons_succ, List.getElem?_cons_zero, Option.getD_some, List.setIfInBounds_toArray, List.set_cons_zero, List.set_cons_succ])
                      | (refine wk_assign _ (by first | exact wanted_none rfl | exact wanted_yes _ _ rfl rfl) rfl ?_; simp only [Act.put, Act.eval, Array.getD_eq_getD_getElem?, List.getElem?_toArray, List.getElem?_cons_succ, List.getElem?_cons_zero, Option.getD_some, List.setIfInBounds_toArray, List.set_cons_zero, List.set_cons_succ])
                      | (refine wk_pickt _ _ _ _ (by first | exact wanted_none rfl | exact wanted_yes _ _ rfl rfl) rfl rfl rfl ?_; simp only [Act.put, Act.eval, Array.getD_eq_getD_getElem?, List.getElem?_toArray, List.getElem?_cons_succ, List.getElem?_cons_zero, Option.getD_some, List.setIfInBounds_toArray, List.set_cons_zero, List.set_cons_succ])
                      | (refine wk_pickf _ _ _ _ (by first | exact wanted_none rfl | exact wanted_yes _ _ rfl rfl) rfl rfl rfl ?_; simp only [Act.put, Act.eval, Array.getD_eq_getD_getElem?, List.getElem?_toArray, List.getElem?_cons_succ, List.getElem?_cons_zero, Option.getD_some, List.setIfInBounds_toArray, List.set_cons_zero, List.set_cons_succ])
                      | (refine wk_skip (wanted_not _ true false rfl rfl rfl) ?_; simp only [Act.put, List.setIfInBounds_toArray, List.set_cons_zero, List.set_cons_succ])
                      | (refine wk_skip (wanted_not _ false true rfl rfl rfl) ?_; simp only [Act.put, List.setIfInBounds_toArray, List.set_cons_zero, List.set_cons_succ])
                      | (refine wk_skip (wanted_undef _ _ rfl rfl) ?_; simp only [Act.put, List.setIfInBounds_toArray, List.set_cons_zero, List.set_cons_succ])
                      | (refine wk_not true _ _ (by first | exact wanted_none rfl | exact wanted_yes _ _ rfl rfl) rfl rfl ?_; simp only [Act.put, List.setIfInBounds_toArray, List.set_cons_zero, List.set_cons_succ])
                      | (refine wk_not false _ _ (by first | exact wanted_none rfl | exact wanted_yes _ _ rfl rfl) rfl rfl ?_; simp only [Act.put, List.setIfInBounds_toArray, List.set_cons_zero, List.set_cons_succ]))
                    refine wk_index _ _ _ _ _ _ (n2) _ (j) 2 .i64 (by first | exact wanted_none rfl | exact wanted_yes _ _ rfl rfl) rfl Tryd.underlying23 sizeCell rfl rfl (by omega) ?_
                    simp only [Act.put, List.setIfInBounds_toArray, List.set_cons_zero, List.set_cons_succ]
                    refine wk_field 41 _ 26 0 0 _ _ _ (by first | exact wanted_none rfl | exact wanted_yes _ _ rfl rfl) rfl (by kernel_rfl) (by kernel_rfl) (by kernel_rfl) rfl ?_
                    simp only [Act.put, List.setIfInBounds_toArray, List.set_cons_zero, List.set_cons_succ, Nat.zero_add]
                    refine wk_load1 _ _ _ _ _ rfl (by kernel_rfl) rfl rfl (fun w' hC => hC.cell X0.out) Tryd.underlying26 ?_
                    simp only [Act.put, List.setIfInBounds_toArray, List.set_cons_zero, List.set_cons_succ]
                    refine wk_field 25 _ 23 3 0 _ _ _ (by first | exact wanted_none rfl | exact wanted_yes _ _ rfl rfl) rfl (by kernel_rfl) (by kernel_rfl) (by kernel_rfl) rfl ?_
                    simp only [Act.put, List.setIfInBounds_toArray, List.set_cons_zero, List.set_cons_succ, Nat.zero_add]
                    refine wk_load1 _ _ _ _ _ rfl (by kernel_rfl) rfl rfl (fun w' hC => hC.cell C2.out) Tryd.underlying23 ?_
                    simp only [Act.put, List.setIfInBounds_toArray, List.set_cons_zero, List.set_cons_succ]
                    repeat (first
                      | (refine wk_move _ (by first | exact wanted_none rfl | exact wanted_yes _ _ rfl rfl) rfl ?_; simp only [Act.put, Act.eval, Array.getD_eq_getD_getElem?, List.getElem?_toArray, List.getElem?_cons_succ, List.getElem?_cons_zero, Option.getD_some, List.setIfInBounds_toArray, List.set_cons_zero, List.set_cons_succ])
                      | (refine wk_assign _ (by first | exact wanted_none rfl | exact wanted_yes _ _ rfl rfl) rfl ?_; simp only [Act.put, Act.eval, Array.getD_eq_getD_getElem?, List.getElem?_toArray, List.getElem?_cons_succ, List.getElem?_cons_zero, Option.getD_some, List.setIfInBounds_toArray, List.set_cons_zero, List.set_cons_succ])
                      | (refine wk_pickt _ _ _ _ (by first | exact wanted_none rfl | exact wanted_yes _ _ rfl rfl) rfl rfl rfl ?_; simp only [Act.put, Act.eval, Array.getD_eq_getD_getElem?, List.getElem?_toArray, List.getElem?_cons_succ, List.getElem?_cons_zero, Option.getD_some, List.setIfInBounds_toArray, List.set_cons_zero, List.set_cons_succ])
                      | (refine wk_pickf _ _ _ _ (by first | exact wanted_none rfl | exact wanted_yes _ _ rfl rfl) rfl rfl rfl ?_; simp only [Act.put, Act.eval, Array.getD_eq_getD_getElem?, List.getElem?_toArray, List.getElem?_cons_succ, List.getElem?_cons_zero, Option.getD_some, List.setIfInBounds_toArray, List.set_cons_zero, List.set_cons_succ])
                      | (refine wk_skip (wanted_not _ true false rfl rfl rfl) ?_; simp only [Act.put, List.setIfInBounds_toArray, List.set_cons_zero, List.set_cons_succ])
                      | (refine wk_skip (wanted_not _ false true rfl rfl rfl) ?_; simp only [Act.put, List.setIfInBounds_toArray, List.set_cons_zero, List.set_cons_succ])
                      | (refine wk_skip (wanted_undef _ _ rfl rfl) ?_; simp only [Act.put, List.setIfInBounds_toArray, List.set_cons_zero, List.set_cons_succ])
                      | (refine wk_not true _ _ (by first | exact wanted_none rfl | exact wanted_yes _ _ rfl rfl) rfl rfl ?_; simp only [Act.put, List.setIfInBounds_toArray, List.set_cons_zero, List.set_cons_succ])
                      | (refine wk_not false _ _ (by first | exact wanted_none rfl | exact wanted_yes _ _ rfl rfl) rfl rfl ?_; simp only [Act.put, List.setIfInBounds_toArray, List.set_cons_zero, List.set_cons_succ]))
                    refine wk_index _ _ _ _ _ _ (n2) _ (j) 2 .i64 (by first | exact wanted_none rfl | exact wanted_yes _ _ rfl rfl) rfl Tryd.underlying23 sizeCell rfl rfl (by omega) ?_
                    simp only [Act.put, List.setIfInBounds_toArray, List.set_cons_zero, List.set_cons_succ]
                    refine wk_field 41 _ 26 0 0 _ _ _ (by first | exact wanted_none rfl | exact wanted_yes _ _ rfl rfl) rfl (by kernel_rfl) (by kernel_rfl) (by kernel_rfl) rfl ?_
                    simp only [Act.put, List.setIfInBounds_toArray, List.set_cons_zero, List.set_cons_succ, Nat.zero_add]
                    refine wk_load1 _ _ _ _ _ rfl (by kernel_rfl) rfl rfl (fun w' hC => hC.cell Y0.out) Tryd.underlying26 ?_
                    simp only [Act.put, List.setIfInBounds_toArray, List.set_cons_zero, List.set_cons_succ]
                    refine wk_cmp_int .neq (false) _ _ _ _ _ _ _ (by kernel_rfl) rfl rfl rfl (by simp [cmpInt]) ?_
                    simp only [Act.put, List.setIfInBounds_toArray, List.set_cons_zero, List.set_cons_succ]
                    repeat (first
                      | (refine wk_move _ (by first | exact wanted_none rfl | exact wanted_yes _ _ rfl rfl) rfl ?_; simp only [Act.put, Act.eval, Array.getD_eq_getD_getElem?, List.getElem?_toArray, List.getElem?_cons_succ, List.getElem?_cons_zero, Option.getD_some, List.setIfInBounds_toArray, List.set_cons_zero, List.set_cons_succ])
                      | (refine wk_assign _ (by first | exact wanted_none rfl | exact wanted_yes _ _ rfl rfl) rfl ?_; simp only [Act.put, Act.eval, Array.getD_eq_getD_getElem?, List.getElem?_toArray, List.getElem?_cons_succ, List.getElem?_cons_zero, Option.getD_some, List.setIfInBounds_toArray, List.set_cons_zero, List.set_cons_succ])
                      | (refine wk_pickt _ _ _ _ (by first | exact wanted_none rfl | exact wanted_yes _ _ rfl rfl) rfl rfl rfl ?_; simp only [Act.put, Act.eval, Array.getD_eq_getD_getElem?, List.getElem?_toArray, List.getElem?_cons_succ, List.getElem?_cons_zero, Option.getD_some, List.setIfInBounds_toArray, List.set_cons_zero, List.set_cons_succ])
                      | (refine wk_pickf _ _ _ _ (by first | exact wanted_none rfl | exact wanted_yes _ _ rfl rfl) rfl rfl rfl ?_; simp only [Act.put, Act.eval, Array.getD_eq_getD_getElem?, List.getElem?_toArray, List.getElem?_cons_succ, List.getElem?_cons_zero, Option.getD_some, List.setIfInBounds_toArray, List.set_cons_zero, List.set_cons_succ])
                      | (refine wk_skip (wanted_not _ true false rfl rfl rfl) ?_; simp only [Act.put, List.setIfInBounds_toArray, List.set_cons_zero, List.set_cons_succ])
                      | (refine wk_skip (wanted_not _ false true rfl rfl rfl) ?_; simp only [Act.put, List.setIfInBounds_toArray, List.set_cons_zero, List.set_cons_succ])
                      | (refine wk_skip (wanted_undef _ _ rfl rfl) ?_; simp only [Act.put, List.setIfInBounds_toArray, List.set_cons_zero, List.set_cons_succ])
                      | (refine wk_not true _ _ (by first | exact wanted_none rfl | exact wanted_yes _ _ rfl rfl) rfl rfl ?_; simp only [Act.put, List.setIfInBounds_toArray, List.set_cons_zero, List.set_cons_succ])
                      | (refine wk_not false _ _ (by first | exact wanted_none rfl | exact wanted_yes _ _ rfl rfl) rfl rfl ?_; simp only [Act.put, List.setIfInBounds_toArray, List.set_cons_zero, List.set_cons_succ]))
                    refine wk_field 25 _ 23 3 0 _ _ _ (by first | exact wanted_none rfl | exact wanted_yes _ _ rfl rfl) rfl (by kernel_rfl) (by kernel_rfl) (by kernel_rfl) rfl ?_
                    simp only [Act.put, List.setIfInBounds_toArray, List.set_cons_zero, List.set_cons_succ, Nat.zero_add]
                    refine wk_load1 _ _ _ _ _ rfl (by kernel_rfl) rfl rfl (fun w' hC => hC.cell C0.out) Tryd.underlying23 ?_
                    simp only [Act.put, List.setIfInBounds_toArray, List.set_cons_zero, List.set_cons_succ]
                    repeat (first
                      | (refine wk_move _ (by first | exact wanted_none rfl | exact wanted_yes _ _ rfl rfl) rfl ?_; simp only [Act.put, Act.eval, Array.getD_eq_getD_getElem?, List.getElem?_toArray, List.getElem?_cons_succ, List.getElem?_cons_zero, Option.getD_some, List.setIfInBounds_toArray, List.set_cons_zero, List.set_cons_succ])
                      | (refine wk_assign _ (by first | exact wanted_none rfl | exact wanted_yes _ _ rfl rfl) rfl ?_; simp only [Act.put, Act.eval, Array.getD_eq_getD_getElem?, List.getElem?_toArray, List.getElem?_cons_succ, List.getElem?_cons_zero, Option.getD_some, List.setIfInBounds_toArray, List.set_cons_zero, List.set_cons_succ])
                      | (refine wk_pickt _ _ _ _ (by first | exact wanted_none rfl | exact wanted_yes _ _ rfl rfl) rfl rfl rfl ?_; simp only [Act.put, Act.eval, Array.getD_eq_getD_getElem?, List.getElem?_toArray, List.getElem?_cons_succ, List.getElem?_cons_zero, Option.getD_some, List.setIfInBounds_toArray, List.set_cons_zero, List.set_cons_succ])
                      | (refine wk_pickf _ _ _ _ (by first | exact wanted_none rfl | exact wanted_yes _ _ rfl rfl) rfl rfl rfl ?_; simp only [Act.put, Act.eval, Array.getD_eq_getD_getElem?, List.getElem?_toArray, List.getElem?_cons_succ, List.getElem?_cons_zero, Option.getD_some, List.setIfInBounds_toArray, List.set_cons_zero, List.set_cons_succ])
                      | (refine wk_skip (wanted_not _ true false rfl rfl rfl) ?_; simp only [Act.put, List.setIfInBounds_toArray, List.set_cons_zero, List.set_cons_succ])
                      | (refine wk_skip (wanted_not _ false true rfl rfl rfl) ?_; simp only [Act.put, List.setIfInBounds_toArray, List.set_cons_zero, List.set_cons_succ])
                      | (refine wk_skip (wanted_undef _ _ rfl rfl) ?_; simp only [Act.put, List.setIfInBounds_toArray, List.set_cons_zero, List.set_cons_succ])
                      | (refine wk_not true _ _ (by first | exact wanted_none rfl | exact wanted_yes _ _ rfl rfl) rfl rfl ?_; simp only [Act.put, List.setIfInBounds_toArray, List.set_cons_zero, List.set_cons_succ])
                      | (refine wk_not false _ _ (by first | exact wanted_none rfl | exact wanted_yes _ _ rfl rfl) rfl rfl ?_; simp only [Act.put, List.setIfInBounds_toArray, List.set_cons_zero, List.set_cons_succ]))
                    refine wk_index _ _ _ _ _ _ (n2) _ (j) 2 .i64 (by first | exact wanted_none rfl | exact wanted_yes _ _ rfl rfl) rfl Tryd.underlying23 sizeCell rfl rfl (by omega) ?_
                    simp only [Act.put, List.setIfInBounds_toArray, List.set_cons_zero, List.set_cons_succ]
                    refine wk_field 41 _ 27 1 0 _ _ _ (by first | exact wanted_none rfl | exact wanted_yes _ _ rfl rfl) rfl (by kernel_rfl) (by kernel_rfl) (by kernel_rfl) rfl ?_
                    simp only [Act.put, List.setIfInBounds_toArray, List.set_cons_zero, List.set_cons_succ, Nat.zero_add]
                    refine wk_load1 _ _ _ _ _ rfl (by kernel_rfl) rfl rfl (fun w' hC => hC.cell X1.out) Tryd.underlying27 ?_
                    simp only [Act.put, List.setIfInBounds_toArray, List.set_cons_zero, List.set_cons_succ]
                    refine wk_bytes_in _ _ _ _ _ (xm) _ (yd) (SX) (by first | exact wanted_none rfl | exact wanted_yes _ _ rfl rfl) rfl rfl Tryd.underlying27 Tryd.underlying5 Tryd.underlying9 (HX.out.len) (HSX.out) (fun w' hC => HX.out.by_.below hC) ?_
                    simp only [Act.put, List.setIfInBounds_toArray, List.set_cons_zero, List.set_cons_succ]
                    refine wk_field 25 _ 23 3 0 _ _ _ (by first | exact wanted_none rfl | exact wanted_yes _ _ rfl rfl) rfl (by kernel_rfl) (by kernel_rfl) (by kernel_rfl) rfl ?_
                    simp only [Act.put, List.setIfInBounds_toArray, List.set_cons_zero, List.set_cons_succ, Nat.zero_add]
                    refine wk_load1 _ _ _ _ _ rfl (by kernel_rfl) rfl rfl (fun w' hC => hC.cell C2.out) Tryd.underlying23 ?_
                    simp only [Act.put, List.setIfInBounds_toArray, List.set_cons_zero, List.set_cons_succ]
                    repeat (first
                      | (refine wk_move _ (by first | exact wanted_none rfl | exact wanted_yes _ _ rfl rfl) rfl ?_; simp only [Act.put, Act.eval, Array.getD_eq_getD_getElem?, List.getElem?_toArray, List.getElem?_cons_succ, List.getElem?_cons_zero, Option.getD_some, List.setIfInBounds_toArray, List.set_cons_zero, List.set_cons_succ])
                      | (refine wk_assign _ (by first | exact wanted_none rfl | exact wanted_yes _ _ rfl rfl) rfl ?_; simp only [Act.put, Act.eval, Array.getD_eq_getD_getElem?, List.getElem?_toArray, List.getElem?_cons_succ, List.getElem?_cons_zero, Option.getD_some, List.setIfInBounds_toArray, List.set_cons_zero, List.set_cons_succ])
                      | (refine wk_pickt _ _ _ _ (by first | exact wanted_none rfl | exact wanted_yes _ _ rfl rfl) rfl rfl rfl ?_; simp only [Act.put, Act.eval, Array.getD_eq_getD_getElem?, List.getElem?_toArray, List.getElem?_cons_succ, List.getElem?_cons_zero, Option.getD_some, List.setIfInBounds_toArray, List.set_cons_zero, List.set_cons_succ])
                      | (refine wk_pickf _ _ _ _ (by first | exact wanted_none rfl | exact wanted_yes _ _ rfl rfl) rfl rfl rfl ?_; simp only [Act.put, Act.eval, Array.getD_eq_getD_getElem?, List.getElem?_toArray, List.getElem?_cons_succ, List.getElem?_cons_zero, Option.getD_some, List.setIfInBounds_toArray, List.set_cons_zero, List.set_cons_succ])
                      | (refine wk_skip (wanted_not _ true false rfl rfl rfl) ?_; simp only [Act.put, List.setIfInBounds_toArray, List.set_cons_zero, List.set_cons_succ])
                      | (refine wk_skip (wanted_not _ false true rfl rfl rfl) ?_; simp only [Act.put, List.setIfInBounds_toArray, List.set_cons_zero, List.set_cons_succ])
                      | (refine wk_skip (wanted_undef _ _ rfl rfl) ?_; simp only [Act.put, List.setIfInBounds_toArray, List.set_cons_zero, List.set_cons_succ])
                      | (refine wk_not true _ _ (by first | exact wanted_none rfl | exact wanted_yes _ _ rfl rfl) rfl rfl ?_; simp only [Act.put, List.setIfInBounds_toArray, List.set_cons_zero, List.set_cons_succ])
                      | (refine wk_not false _ _ (by first | exact wanted_none rfl | exact wanted_yes _ _ rfl rfl) rfl rfl ?_; simp only [Act.put, List.setIfInBounds_toArray, List.set_cons_zero, List.set_cons_succ]))
                    refine wk_index _ _ _ _ _ _ (n2) _ (j) 2 .i64 (by first | exact wanted_none rfl | exact wanted_yes _ _ rfl rfl) rfl Tryd.underlying23 sizeCell rfl rfl (by omega) ?_
                    simp only [Act.put, List.setIfInBounds_toArray, List.set_cons_zero, List.set_cons_succ]
                    refine wk_field 41 _ 27 1 0 _ _ _ (by first | exact wanted_none rfl | exact wanted_yes _ _ rfl rfl) rfl (by kernel_rfl) (by kernel_rfl) (by kernel_rfl) rfl ?_
                    simp only [Act.put, List.setIfInBounds_toArray, List.set_cons_zero, List.set_cons_succ, Nat.zero_add]
                    refine wk_load1 _ _ _ _ _ rfl (by kernel_rfl) rfl rfl (fun w' hC => hC.cell Y1.out) Tryd.underlying27 ?_
                    simp only [Act.put, List.setIfInBounds_toArray, List.set_cons_zero, List.set_cons_succ]
                    refine wk_bytes_in _ _ _ _ _ (ym) _ (yd) (SX) (by first | exact wanted_none rfl | exact wanted_yes _ _ rfl rfl) rfl rfl Tryd.underlying27 Tryd.underlying5 Tryd.underlying9 (HY.out.len) (HSX.out) (fun w' hC => HY.out.by_.below hC) ?_
                    simp only [Act.put, List.setIfInBounds_toArray, List.set_cons_zero, List.set_cons_succ]
                    refine wk_neq_str false _ _ _ _ _ _ (by first | exact wanted_none rfl | exact wanted_yes _ _ rfl rfl) rfl rfl rfl (by simp) ?_
                    simp only [Act.put, List.setIfInBounds_toArray, List.set_cons_zero, List.set_cons_succ]
                    repeat (first
                      | (refine wk_move _ (by first | exact wanted_none rfl | exact wanted_yes _ _ rfl rfl) rfl ?_; simp only [Act.put, Act.eval, Array.getD_eq_getD_getElem?, List.getElem?_toArray, List.getElem?_cons_succ, List.getElem?_cons_zero, Option.getD_some, List.setIfInBounds_toArray, List.set_cons_zero, List.set_cons_succ])
                      | (refine wk_assign _ (by first | exact wanted_none rfl | exact wanted_yes _ _ rfl rfl) rfl ?_; simp only [Act.put, Act.eval, Array.getD_eq_getD_getElem?, List.getElem?_toArray, List.getElem?_cons_succ, List.getElem?_cons_zero, Option.getD_some, List.setIfInBounds_toArray, List.set_cons_zero, List.set_cons_succ])
                      | (refine wk_pickt _ _ _ _ (by first | exact wanted_none rfl | exact wanted_yes _ _ rfl rfl) rfl rfl rfl ?_; simp only [Act.put, Act.eval, Array.getD_eq_getD_getElem?, List.getElem?_toArray, List.getElem?_cons_succ, List.getElem?_cons_zero, Option.getD_some, List.setIfInBounds_toArray, List.set_cons_zero, List.set_cons_succ])
                      | (refine wk_pickf _ _ _ _ (by first | exact wanted_none rfl | exact wanted_yes _ _ rfl rfl) rfl rfl rfl ?_; simp only [Act.put, Act.eval, Array.getD_eq_getD_getElem?, List.getElem?_toArray, List.getElem?_cons_succ, List.getElem?_cons_zero, Option.getD_some, List.setIfInBounds_toArray, List.set_cons_zero, List.set_cons_succ])
                      | (refine wk_skip (wanted_not _ true false rfl rfl rfl) ?_; simp only [Act.put, List.setIfInBounds_toArray, List.set_cons_zero, List.set_cons_succ])
                      | (refine wk_skip (wanted_not _ false true rfl rfl rfl) ?_; simp only [Act.put, List.setIfInBounds_toArray, List.set_cons_zero, List.set_cons_succ])
                      | (refine wk_skip (wanted_undef _ _ rfl rfl) ?_; simp only [Act.put, List.setIfInBounds_toArray, List.set_cons_zero, List.set_cons_succ])
                      | (refine wk_not true _ _ (by first | exact wanted_none rfl | exact wanted_yes _ _ rfl rfl) rfl rfl ?_; simp only [Act.put, List.setIfInBounds_toArray, List.set_cons_zero, List.set_cons_succ])
                      | (refine wk_not false _ _ (by first | exact wanted_none rfl | exact wanted_yes _ _ rfl rfl) rfl rfl ?_; simp only [Act.put, List.setIfInBounds_toArray, List.set_cons_zero, List.set_cons_succ]))
                    refine wk_nil ?_
                    intro w' hC
                    have HBC : Hid (Below w9.heap.size w9 w') := Lib.hid (HB.out.trans (Below.mono hC HB.out.size))
                    clear hC
                    go_wp2_with fail
                    go_roundw
                    case rel => exact ⟨j + 1, by omega, by go_num, HBC.out⟩
                    case measure => simp [intOf]; omega
                · obtain rfl : j = n2 := by omega
                  obtain ⟨⟨e0, e1, e2, e3⟩, f0, f1, f2, f3⟩ := R10.out.cells4 1 rfl
                  obtain ⟨⟨b0, b1, b2, b3⟩, _, _, _, _⟩ := R10.out.cells4 0 rfl
                  have q1 := R10.out.store4 1 rfl (.int .u8 (sb.cl : Int)) (.int .u16 (sb.prev : Int)) (.int .u16 (sb.next : Int)) (.slice A2 j c2)
                  have hon := only4 wr ga (.int .u8 (sb.cl : Int)) (.int .u16 (sb.prev : Int)) (.int .u16 (sb.next : Int)) (.slice A2 j c2)
                  go_upto_region 26 with (fail)
                  obtain ⟨WX, hWX⟩ : ∃ WX, WX = (((wr.setCell ⟨ga, 0, none⟩ (.int .u8 (sb.cl : Int))).setCell ⟨ga, 1, none⟩ (.int .u16 (sb.prev : Int))).setCell ⟨ga, 2, none⟩ (.int .u16 (sb.next : Int))).setCell ⟨ga, 3, none⟩ (.slice A2 j c2) := ⟨_, rfl⟩
                  rw [← hWX] at q1 hon ⊢
                  have R11 := Lib.hid q1
                  have HX := Lib.hid (HT10.out.only HFR2.out hon)
                  clear q1 hon hWX e0 e1 e2 e3 f0 f1 f2 f3 b0 b1 b2 b3 HS10 HT10 HSH10 R10 cc
                  have x2 := R11.out.cell 2 2 rfl rfl
                  have x3 := R11.out.cell 2 3 rfl rfl
                  have x4 := R11.out.cell 2 4 rfl rfl
                  have x5 := R11.out.cell 2 5 rfl rfl
                  obtain ⟨⟨e0, e1, e2, e3⟩, _, _, _, _⟩ := R11.out.cells4 1 rfl
                  go_wp2_with fail
                  have z1 : findE sb (p : Int) ser = 0 := by rw [HSBE.out]; exact HT.out.found D2 (by rw [HD2L.out])
                  have z2 : giveS sb (p : Int) ser = s := by rw [HSBE.out]; exact HT.out.give D2 (by rw [HD2L.out])
                  have N1 := give_is (HC.out.below R11.out.below) ⟨A2, j, c2, l2, rfl, HX.out⟩ (p : Int) ser
                  rw [z1, z2] at N1
                  refine N1.mono ?_
                  clear z1 z2 N1
                  rintro e wA ⟨v, rfl, ⟨A3, n3, c3, l3, rfl, hs3, hfr⟩, hb⟩
                  have q1 := (R11.out.call hb).alloc (shV s A3 n3 c3) 25
                  have HS3 : Hid (ShelfOf (wA.alloc (.cells (shV s A3 n3 c3) 25)) s A3 n3 c3 l3) := Lib.hid (hs3.below ((Below.refl _ _).alloc (Nat.le_refl _) _))
                  unfold shV at q1 HS3 ⊢
                  clear hb hs3 hfr R11 HX e0 e1 e2 e3 x2 x3 x4 x5
                  go_upto_region 27 with (fail)
                  obtain ⟨WA, hW⟩ : ∃ W, W = wA.alloc (.cells #[.int .u8 (s.cl : Int), .int .u16 (s.prev : Int), .int .u16 (s.next : Int), .slice A3 n3 c3] 25) := ⟨_, rfl⟩
                  rw [← hW] at q1 HS3 ⊢
                  clear hW
                  obtain ⟨gc, hg⟩ : ∃ g, g = wA.heap.size := ⟨_, rfl⟩
                  rw [← hg] at q1 ⊢
                  clear hg
                  have RA := Lib.hid q1
                  clear q1
                  have x2 := RA.out.cell 3 2 rfl rfl
                  have x3 := RA.out.cell 3 3 rfl rfl
                  have x4 := RA.out.cell 3 4 rfl rfl
                  have x5 := RA.out.cell 3 5 rfl rfl
                  obtain ⟨⟨e0, e1, e2, e3⟩, _, _, _, _⟩ := RA.out.cells4 0 rfl
                  go_wp2_with fail
                  have z1 := HT.out.gone
                  have z2 : readB18 s (p : Int) ser 0 0 = [] := by unfold readB18; rw [if_neg (by rw [z1]; decide)]
                  have N1 := read_is (HC.out.below RA.out.below) ⟨A3, n3, c3, l3, rfl, HS3.out⟩ (p : Int) ser 0 0
                  rw [z1, z2] at N1
                  refine N1.mono ?_
                  rintro e wB ⟨Aq, cq, rfl, hcap, hby, hb⟩
                  have RB := Lib.hid (RA.out.call hb)
                  have HSB3 := Lib.hid (HS3.out.below hb)
                  clear z1 z2 N1 hcap hby hb RA HS3 e0 e1 e2 e3 x2 x3 x4 x5
                  go_upto_region 28 with (fail)
                  obtain ⟨⟨e0, e1, e2, e3⟩, _, _, _, _⟩ := RB.out.cells4 0 rfl
                  obtain ⟨⟨f0, f1, f2, f3⟩, _, _, _, _⟩ := RB.out.cells4 4 rfl
                  have N1 := same_is (w := wB) ⟨A3, n3, c3, l3, rfl, HSB3.out⟩ ⟨A, _, c, l, rfl, HSH.out.below RB.out.below⟩
                  rw [(sameL_iff s s).2 rfl] at N1
                  go_wp2_with fail
                  refine N1.mono ?_
                  rintro e wC ⟨rfl, hb⟩
                  have RC := Lib.hid (RB.out.call hb)
                  clear N1 hb RB HSB3 e0 e1 e2 e3 f0 f1 f2 f3
                  go_wp2_with (go_at_call 9; refine (shhead_any (HC.out.below RC.out.below)).mono ?_; rintro e w2 ⟨rfl, hb⟩; have HB := Lib.hid (RC.out.call hb); clear hb)
                  go_ret
                  exact ⟨rfl, HB.out.below⟩
            · rw [if_neg (by have := HK.out; omega)] at hfe
              subst hfe
              have HRL : Hid ((List.replicate m (0 : UInt8)).length = m) := Lib.hid List.length_replicate
              have hmm : m ≤ 237 := HN.out.2
              have HOF := HOFF.out
              clear H0 H1 H2 H3 H4
              by_cases h2 : 0 ≤ off
              · by_cases h3 : off ≤ (m : Int)
                · have h4 : ¬ (k : Int) ≤ (m : Int) - off := by omega
                  clear hfit
                  have x2 := R7.out.cell 2 2 rfl rfl
                  have x3 := R7.out.cell 2 3 rfl rfl
                  have x4 := R7.out.cell 2 4 rfl rfl
                  have x5 := R7.out.cell 2 5 rfl rfl
                  go_upto_region 26 with (fail)
                  clear x2 x3 x4 x5
                  have x2 := R7.out.cell 2 2 rfl rfl
                  have x3 := R7.out.cell 2 3 rfl rfl
                  have x4 := R7.out.cell 2 4 rfl rfl
                  have x5 := R7.out.cell 2 5 rfl rfl
                  obtain ⟨⟨e0, e1, e2, e3⟩, _, _, _, _⟩ := R7.out.cells4 1 rfl
                  go_wp2_with fail
                  have z1 : findE sa (p : Int) ser = 0 := by rw [HSAE.out]; exact HT.out.found (List.replicate m 0) (by rw [HRL.out])
                  have z2 : giveS sa (p : Int) ser = s := by rw [HSAE.out]; exact HT.out.give (List.replicate m 0) (by rw [HRL.out])
                  have N1 := give_is (HC.out.below R7.out.below) ⟨A1, n1, c1, l1, rfl, HS7.out⟩ (p : Int) ser
                  rw [z1, z2] at N1
                  refine N1.mono ?_
                  clear z1 z2 N1
                  rintro e wA ⟨v, rfl, ⟨A3, n3, c3, l3, rfl, hs3, hfr⟩, hb⟩
                  have q1 := (R7.out.call hb).alloc (shV s A3 n3 c3) 25
                  have HS3 : Hid (ShelfOf (wA.alloc (.cells (shV s A3 n3 c3) 25)) s A3 n3 c3 l3) := Lib.hid (hs3.below ((Below.refl _ _).alloc (Nat.le_refl _) _))
                  unfold shV at q1 HS3 ⊢
                  clear hb hs3 hfr R7 HS7 e0 e1 e2 e3 x2 x3 x4 x5
                  go_upto_region 27 with (fail)
                  obtain ⟨WA, hW⟩ : ∃ W, W = wA.alloc (.cells #[.int .u8 (s.cl : Int), .int .u16 (s.prev : Int), .int .u16 (s.next : Int), .slice A3 n3 c3] 25) := ⟨_, rfl⟩
                  rw [← hW] at q1 HS3 ⊢
                  clear hW
                  obtain ⟨gc, hg⟩ : ∃ g, g = wA.heap.size := ⟨_, rfl⟩
                  rw [← hg] at q1 ⊢
                  clear hg
                  have RA := Lib.hid q1
                  clear q1
                  have x2 := RA.out.cell 3 2 rfl rfl
                  have x3 := RA.out.cell 3 3 rfl rfl
                  have x4 := RA.out.cell 3 4 rfl rfl
                  have x5 := RA.out.cell 3 5 rfl rfl
                  obtain ⟨⟨e0, e1, e2, e3⟩, _, _, _, _⟩ := RA.out.cells4 0 rfl
                  go_wp2_with fail
                  have z1 := HT.out.gone
                  have z2 : readB18 s (p : Int) ser 0 0 = [] := by unfold readB18; rw [if_neg (by rw [z1]; decide)]
                  have N1 := read_is (HC.out.below RA.out.below) ⟨A3, n3, c3, l3, rfl, HS3.out⟩ (p : Int) ser 0 0
                  rw [z1, z2] at N1
                  refine N1.mono ?_
                  rintro e wB ⟨Aq, cq, rfl, hcap, hby, hb⟩
                  have RB := Lib.hid (RA.out.call hb)
                  have HSB3 := Lib.hid (HS3.out.below hb)
                  clear z1 z2 N1 hcap hby hb RA HS3 e0 e1 e2 e3 x2 x3 x4 x5
                  go_upto_region 28 with (fail)
                  obtain ⟨⟨e0, e1, e2, e3⟩, _, _, _, _⟩ := RB.out.cells4 0 rfl
                  obtain ⟨⟨f0, f1, f2, f3⟩, _, _, _, _⟩ := RB.out.cells4 4 rfl
                  have N1 := same_is (w := wB) ⟨A3, n3, c3, l3, rfl, HSB3.out⟩ ⟨A, _, c, l, rfl, HSH.out.below RB.out.below⟩
                  rw [(sameL_iff s s).2 rfl] at N1
                  go_wp2_with fail
                  refine N1.mono ?_
                  rintro e wC ⟨rfl, hb⟩
                  have RC := Lib.hid (RB.out.call hb)
                  clear N1 hb RB HSB3 e0 e1 e2 e3 f0 f1 f2 f3
                  go_wp2_with (go_at_call 9; refine (shhead_any (HC.out.below RC.out.below)).mono ?_; rintro e w2 ⟨rfl, hb⟩; have HB := Lib.hid (RC.out.call hb); clear hb)
                  go_ret
                  exact ⟨rfl, HB.out.below⟩
                · clear hfit
                  have x2 := R7.out.cell 2 2 rfl rfl
                  have x3 := R7.out.cell 2 3 rfl rfl
                  have x4 := R7.out.cell 2 4 rfl rfl
                  have x5 := R7.out.cell 2 5 rfl rfl
                  go_upto_region 26 with (fail)
                  clear x2 x3 x4 x5
                  have x2 := R7.out.cell 2 2 rfl rfl
                  have x3 := R7.out.cell 2 3 rfl rfl
                  have x4 := R7.out.cell 2 4 rfl rfl
                  have x5 := R7.out.cell 2 5 rfl rfl
                  obtain ⟨⟨e0, e1, e2, e3⟩, _, _, _, _⟩ := R7.out.cells4 1 rfl
                  go_wp2_with fail
                  have z1 : findE sa (p : Int) ser = 0 := by rw [HSAE.out]; exact HT.out.found (List.replicate m 0) (by rw [HRL.out])
                  have z2 : giveS sa (p : Int) ser = s := by rw [HSAE.out]; exact HT.out.give (List.replicate m 0) (by rw [HRL.out])
                  have N1 := give_is (HC.out.below R7.out.below) ⟨A1, n1, c1, l1, rfl, HS7.out⟩ (p : Int) ser
                  rw [z1, z2] at N1
                  refine N1.mono ?_
                  clear z1 z2 N1
                  rintro e wA ⟨v, rfl, ⟨A3, n3, c3, l3, rfl, hs3, hfr⟩, hb⟩
                  have q1 := (R7.out.call hb).alloc (shV s A3 n3 c3) 25
                  have HS3 : Hid (ShelfOf (wA.alloc (.cells (shV s A3 n3 c3) 25)) s A3 n3 c3 l3) := Lib.hid (hs3.below ((Below.refl _ _).alloc (Nat.le_refl _) _))
                  unfold shV at q1 HS3 ⊢
                  clear hb hs3 hfr R7 HS7 e0 e1 e2 e3 x2 x3 x4 x5
                  go_upto_region 27 with (fail)
                  obtain ⟨WA, hW⟩ : ∃ W, W = wA.alloc (.cells #[.int .u8 (s.cl : Int), .int .u16 (s.prev : Int), .int .u16 (s.next : Int), .slice A3 n3 c3] 25) := ⟨_, rfl⟩
                  rw [← hW] at q1 HS3 ⊢
                  clear hW
                  obtain ⟨gc, hg⟩ : ∃ g, g = wA.heap.size := ⟨_, rfl⟩
                  rw [← hg] at q1 ⊢
                  clear hg
                  have RA := Lib.hid q1
                  clear q1
                  have x2 := RA.out.cell 3 2 rfl rfl
                  have x3 := RA.out.cell 3 3 rfl rfl
                  have x4 := RA.out.cell 3 4 rfl rfl
                  have x5 := RA.out.cell 3 5 rfl rfl
                  obtain ⟨⟨e0, e1, e2, e3⟩, _, _, _, _⟩ := RA.out.cells4 0 rfl
                  go_wp2_with fail
                  have z1 := HT.out.gone
                  have z2 : readB18 s (p : Int) ser 0 0 = [] := by unfold readB18; rw [if_neg (by rw [z1]; decide)]
                  have N1 := read_is (HC.out.below RA.out.below) ⟨A3, n3, c3, l3, rfl, HS3.out⟩ (p : Int) ser 0 0
                  rw [z1, z2] at N1
                  refine N1.mono ?_
                  rintro e wB ⟨Aq, cq, rfl, hcap, hby, hb⟩
                  have RB := Lib.hid (RA.out.call hb)
                  have HSB3 := Lib.hid (HS3.out.below hb)
                  clear z1 z2 N1 hcap hby hb RA HS3 e0 e1 e2 e3 x2 x3 x4 x5
                  go_upto_region 28 with (fail)
                  obtain ⟨⟨e0, e1, e2, e3⟩, _, _, _, _⟩ := RB.out.cells4 0 rfl
                  obtain ⟨⟨f0, f1, f2, f3⟩, _, _, _, _⟩ := RB.out.cells4 4 rfl
                  have N1 := same_is (w := wB) ⟨A3, n3, c3, l3, rfl, HSB3.out⟩ ⟨A, _, c, l, rfl, HSH.out.below RB.out.below⟩
                  rw [(sameL_iff s s).2 rfl] at N1
                  go_wp2_with fail
                  refine N1.mono ?_
                  rintro e wC ⟨rfl, hb⟩
                  have RC := Lib.hid (RB.out.call hb)
                  clear N1 hb RB HSB3 e0 e1 e2 e3 f0 f1 f2 f3
                  go_wp2_with (go_at_call 9; refine (shhead_any (HC.out.below RC.out.below)).mono ?_; rintro e w2 ⟨rfl, hb⟩; have HB := Lib.hid (RC.out.call hb); clear hb)
                  go_ret
                  exact ⟨rfl, HB.out.below⟩
              · clear hfit
                have x2 := R7.out.cell 2 2 rfl rfl
                have x3 := R7.out.cell 2 3 rfl rfl
                have x4 := R7.out.cell 2 4 rfl rfl
                have x5 := R7.out.cell 2 5 rfl rfl
                go_upto_region 26 with (fail)
                clear x2 x3 x4 x5
                have x2 := R7.out.cell 2 2 rfl rfl
                have x3 := R7.out.cell 2 3 rfl rfl
                have x4 := R7.out.cell 2 4 rfl rfl
                have x5 := R7.out.cell 2 5 rfl rfl
                obtain ⟨⟨e0, e1, e2, e3⟩, _, _, _, _⟩ := R7.out.cells4 1 rfl
                go_wp2_with fail
                have z1 : findE sa (p : Int) ser = 0 := by rw [HSAE.out]; exact HT.out.found (List.replicate m 0) (by rw [HRL.out])
                have z2 : giveS sa (p : Int) ser = s := by rw [HSAE.out]; exact HT.out.give (List.replicate m 0) (by rw [HRL.out])
                have N1 := give_is (HC.out.below R7.out.below) ⟨A1, n1, c1, l1, rfl, HS7.out⟩ (p : Int) ser
                rw [z1, z2] at N1
                refine N1.mono ?_
                clear z1 z2 N1
                rintro e wA ⟨v, rfl, ⟨A3, n3, c3, l3, rfl, hs3, hfr⟩, hb⟩
                have q1 := (R7.out.call hb).alloc (shV s A3 n3 c3) 25
                have HS3 : Hid (ShelfOf (wA.alloc (.cells (shV s A3 n3 c3) 25)) s A3 n3 c3 l3) := Lib.hid (hs3.below ((Below.refl _ _).alloc (Nat.le_refl _) _))
                unfold shV at q1 HS3 ⊢
                clear hb hs3 hfr R7 HS7 e0 e1 e2 e3 x2 x3 x4 x5
                go_upto_region 27 with (fail)
                obtain ⟨WA, hW⟩ : ∃ W, W = wA.alloc (.cells #[.int .u8 (s.cl : Int), .int .u16 (s.prev : Int), .int .u16 (s.next : Int), .slice A3 n3 c3] 25) := ⟨_, rfl⟩
                rw [← hW] at q1 HS3 ⊢
                clear hW
                obtain ⟨gc, hg⟩ : ∃ g, g = wA.heap.size := ⟨_, rfl⟩
                rw [← hg] at q1 ⊢
                clear hg
                have RA := Lib.hid q1
                clear q1
                have x2 := RA.out.cell 3 2 rfl rfl
                have x3 := RA.out.cell 3 3 rfl rfl
                have x4 := RA.out.cell 3 4 rfl rfl
                have x5 := RA.out.cell 3 5 rfl rfl
                obtain ⟨⟨e0, e1, e2, e3⟩, _, _, _, _⟩ := RA.out.cells4 0 rfl
                go_wp2_with fail
                have z1 := HT.out.gone
                have z2 : readB18 s (p : Int) ser 0 0 = [] := by unfold readB18; rw [if_neg (by rw [z1]; decide)]
                have N1 := read_is (HC.out.below RA.out.below) ⟨A3, n3, c3, l3, rfl, HS3.out⟩ (p : Int) ser 0 0
                rw [z1, z2] at N1
                refine N1.mono ?_
                rintro e wB ⟨Aq, cq, rfl, hcap, hby, hb⟩
                have RB := Lib.hid (RA.out.call hb)
                have HSB3 := Lib.hid (HS3.out.below hb)
                clear z1 z2 N1 hcap hby hb RA HS3 e0 e1 e2 e3 x2 x3 x4 x5
                go_upto_region 28 with (fail)
                obtain ⟨⟨e0, e1, e2, e3⟩, _, _, _, _⟩ := RB.out.cells4 0 rfl
                obtain ⟨⟨f0, f1, f2, f3⟩, _, _, _, _⟩ := RB.out.cells4 4 rfl
                have N1 := same_is (w := wB) ⟨A3, n3, c3, l3, rfl, HSB3.out⟩ ⟨A, _, c, l, rfl, HSH.out.below RB.out.below⟩
                rw [(sameL_iff s s).2 rfl] at N1
                go_wp2_with fail
                refine N1.mono ?_
                rintro e wC ⟨rfl, hb⟩
                have RC := Lib.hid (RB.out.call hb)
                clear N1 hb RB HSB3 e0 e1 e2 e3 f0 f1 f2 f3
                go_wp2_with (go_at_call 9; refine (shhead_any (HC.out.below RC.out.below)).mono ?_; rintro e w2 ⟨rfl, hb⟩; have HB := Lib.hid (RC.out.call hb); clear hb)
                go_ret
                exact ⟨rfl, HB.out.below⟩
        · have h1 : n1 = 0 := by
            have := HS1.out.len
            rw [HSA.out, take_err (by rw [← HE.out]; exact hE0)] at this
            rw [← this]; rfl
          subst h1
          obtain ⟨⟨e0, e1, e2, e3⟩, _, _, _, _⟩ := R2.out.cells4 0 rfl
          go_wp2_with (go_at_call 9; refine (shhead_any (HC.out.below R2.out.below)).mono ?_; rintro e w3 ⟨rfl, hb⟩; have HB := Lib.hid (R2.out.call hb); clear hb)
          go_ret
          exact ⟨rfl, HB.out.below⟩
end
end Go.Proofs.YtcepfmjebgklfaaDoor
