/- The device layer: the law DevCrashes holds of every row of acts and every row of keeps. -/
import Derived.Test.YtnbdnnlomgjlmaaDevCrashEnd
import Derived.Test.YtnbdnnlomgjlmaaDevApart
namespace Go.Proofs.Ytnbdnnlomgjlmaa
open Go.RowKit
set_option linter.unusedSimpArgs false
set_option linter.unusedVariables false
set_option maxRecDepth 100000
section
variable {P : Program} {ops : Array Oper} {o : Oper} {rest : List Oper} {a : Act} {C : World → Prop} {Q : Act → Prop}
theorem wk_index_val (t e : TypeId) (len : Nat) (cs : Array Value) (k : IntKind) (i : Nat) (v : Value) (d : TypeDesc) (x y : Operand) (hw : Region.wanted o (yielded ops a.tmps) = true) (ho : o.op = .index t x y) (hx : a.eval x = .agg cs) (hy : a.eval y = .int k (i : Int))
    (ht : P.underlying t = some (.array len e)) (he : P.underlying e = some d) (hd : (match d with | .struct _ | .array _ _ => true | _ => false) = false) (hs : (P.info? e).map (·.size) = some 1) (hl : i < len) (hv : cs[i]? = some v)
    (h : WQ P ops C Q rest (a.put o.dst v)) : WQ P ops C Q (o :: rest) a :=
  wk_val v hw (fun w _ => by
    unfold execOp
    simp only [ho, hx, hy, Sem.run_bind, run_index_one w t e len cs k i v d ht he hd hs hl hv, Result.andThen_ok, Sem.run_pure]) h
end
theorem blk_atC (b : List UInt8) (i : Nat) (h : i < b.length) : (blk b)[i]? = some (.int .u8 ((b.getD i 0).toNat : Int)) := by
  rw [blk_get b i h, List.getD_eq_getElem?_getD, List.getElem?_eq_getElem h]; rfl
/-- What 'is' knows behind the first j acts. -/
def crIs (l : List ActL) (y p : Nat) (zc xc : UInt8) (j : Nat) (t : Bool) : Prop := (zc = xc ∨ ∃ x ∈ l.take j, x.a = y ∧ zc = (actB x.c).getD p 0) → t = true
theorem crIs_start (l : List ActL) (y p : Nat) (zc xc : UInt8) (r : Bool) (hr : ((zc.toNat : Int) == (xc.toNat : Int)) = r) : crIs l y p zc xc 0 r := by
  rintro (h | ⟨x, hx, _⟩)
  · rw [← hr, h]; simp
  · simp at hx
theorem crIs_true (l : List ActL) (y p : Nat) (zc xc : UInt8) (j : Nat) : crIs l y p zc xc j true := fun _ => rfl
theorem crIs_step {l : List ActL} {y p : Nat} {zc xc : UInt8} {j : Nat} (h : crIs l y p zc xc j false) (hj : j < l.length) (t : Bool) (ht : l[j].a = y → zc = (actB l[j].c).getD p 0 → t = true) : crIs l y p zc xc (j + 1) t := by
  rintro (e | ⟨x, hx, e1, e2⟩)
  · exact absurd (h (.inl e)) (by decide)
  · rw [List.take_succ_eq_append_getElem hj] at hx
    rcases List.mem_append.1 hx with hx | hx
    · exact absurd (h (.inr ⟨x, hx, e1, e2⟩)) (by decide)
    · rw [List.mem_singleton] at hx
      subst hx
      exact ht e1 e2
set_option maxHeartbeats 8000000 in
theorem devcrashes_any (A : Option Addr) (n c : Nat) (l : List ActL) (A2 : Option Addr) (m c2 : Nat) (ks : List (Nat × Nat)) (hn : n ≤ 9223372036854775807) (hm : m ≤ 9223372036854775807) (w : World) (hl : ActsIn w A n l) (hk : KeepsIn w A2 m ks []) :
    Calls Try.prog 13 #[.slice A n c, .slice A2 m c2] w fun e w' => e = .returned (.bool true) ∧ Below w.heap.size w w' := by
  have HL := Lib.hid hl
  have HKS := Lib.hid hk
  have HM := Lib.hid hm
  clear hl hk
  go_enter Try.func13, Try.ntmps13
  go_wp2_with fail
  refine (great_any _ A n c hn l HL.out).mono ?_
  rintro e w2 ⟨r, rfl, hr, rfl⟩
  cases r with
  | true =>
    clear hr
    go_wp2_with (go_at_call 40; refine (devhead_any _).mono ?_; rintro e w3 ⟨rfl, hb⟩; have HB := Lib.hid hb; clear hb)
    go_ret
    exact ⟨rfl, HB.out⟩
  | false =>
    have hn60 : n ≤ 60 := hr rfl
    clear hr hn
    by_cases hm2 : 200 < m
    · have hm3 : (200 : Int) < (m : Int) := by omega
      go_wp2_with (go_at_call 40; refine (devhead_any _).mono ?_; rintro e w3 ⟨rfl, hb⟩; have HB := Lib.hid hb; clear hb)
      go_ret
      exact ⟨rfl, HB.out⟩
    · have hm3 : ¬ (200 : Int) < (m : Int) := by omega
      go_wp2_with (go_at_call 38; refine (new_dev _ 64 (by decide) (by decide)).mono ?_; rintro e w1 ⟨g, rfl, hM⟩; have R1 := Lib.hid ((Held.start w).made hM); clear hM)
      clear hm2 hm3
      go_loopw [7, 8] (fun i _ wr => ∃ (j : Nat) (s : Dv) (tl : List Thing), j ≤ n ∧ i = .int .i64 (j : Int) ∧ Held w wr (dvT g s :: tl) ∧ CrInv l j s) (fun i _ _ => n - (intOf i).toNat)
      case atStart => exact ⟨0, _, [], by omega, rfl, R1.out, cr_start l⟩
      case round =>
        obtain ⟨j, s, tl, hj, rfl, hR, hI⟩ := hrel
        have HR := Lib.hid hR
        have HI := Lib.hid hI
        clear hR hI R1
        by_cases hlt : j < n
        · obtain ⟨b, off, hA, hb, hr⟩ := HL.out.cells j (by rw [HL.out.len]; exact hlt)
          subst hA
          have hmem := List.getElem_mem (h := (by rw [HL.out.len]; exact hlt : j < l.length))
          have hx := HL.out.ok _ hmem
          generalize l[j]'(by rw [HL.out.len]; exact hlt) = x at hr hx hmem
          have HX := Lib.hid hx
          have HMEM := Lib.hid hmem
          have HRG := Lib.hid hr
          have HBL := Lib.hid hb
          have hc0 : wr.cell? ⟨b, off + j * 5, none⟩ = some (.int .u8 (x.what : Int)) := (HR.out.below.cell hb).trans (rangeAt_cell hr 0 _ rfl)
          have hlen : s.pend.length < 100000 := by have := HI.out.len; omega
          have HLEN := Lib.hid hlen
          clear hx hmem hr hb hlen
          by_cases h4 : x.what % 5 < 4
          · have h4' : ((x.what : Int) % 5 < 4) := by omega
            have hrg : (wr.alloc (.cells (rfV false 0 0) 75)).rangeAt b (off + j * 5) (actV x).toList := fun i v hv => ((HR.out.alloc2 (rfV false 0 0) 75).below.cell HBL.out).trans (HRG.out i v hv)
            have q1 := HR.out.alloc2 (rfV false 0 0) 75
            go_upto_region 11 with (refine wpList_alloc_row rfl 75 rfl _ zeroRf ?_)
            obtain ⟨W1, hW⟩ : ∃ V, V = wr.alloc (.cells (rfV false 0 0) 75) := ⟨_, rfl⟩
            rw [← hW] at q1 hrg ⊢
            clear hW
            obtain ⟨gq, hg⟩ : ∃ g, g = wr.heap.size := ⟨_, rfl⟩
            rw [← hg] at q1 ⊢
            clear hg
            have R2 := Lib.hid q1
            have HRGW := Lib.hid hrg
            clear q1 hrg hc0 h4'
            refine wk_region_tail 6 (by kernel_rfl) (by kernel_rfl) ?_
            simp only [List.take_succ_cons, List.take_zero, List.drop_succ_cons, List.drop_zero]
            repeat (first
              | (refine wk_move _ (by first | exact wanted_none rfl | exact wanted_yes _ _ rfl rfl) rfl ?_; simp only [Act.put, Act.eval, Array.getD_eq_getD_getElem?, List.getElem?_toArray, List.getElem?_cons_succ, List.getElem?_cons_zero, Option.getD_some, List.setIfInBounds_toArray, List.set_cons_zero, List.set_cons_succ])
              | (refine wk_assign _ (by first | exact wanted_none rfl | exact wanted_yes _ _ rfl rfl) rfl ?_; simp only [Act.put, Act.eval, Array.getD_eq_getD_getElem?, List.getElem?_toArray, List.getElem?_cons_succ, List.getElem?_cons_zero, Option.getD_some, List.setIfInBounds_toArray, List.set_cons_zero, List.set_cons_succ])
              | (refine wk_pickt _ _ _ _ (by first | exact wanted_none rfl | exact wanted_yes _ _ rfl rfl) rfl rfl rfl ?_; simp only [Act.put, Act.eval, Array.getD_eq_getD_getElem?, List.getElem?_toArray, List.getElem?_cons_succ, List.getElem?_cons_zero, Option.getD_some, List.setIfInBounds_toArray, List.set_cons_zero, List.set_cons_succ])
              | (refine wk_pickf _ _ _ _ (by first | exact wanted_none rfl | exact wanted_yes _ _ rfl rfl) rfl rfl rfl ?_; simp only [Act.put, Act.eval, Array.getD_eq_getD_getElem?, List.getElem?_toArray, List.getElem?_cons_succ, List.getElem?_cons_zero, Option.getD_some, List.setIfInBounds_toArray, List.set_cons_zero, List.set_cons_succ])
              | (refine wk_skip (wanted_not _ true false rfl rfl rfl) ?_; simp only [Act.put, List.setIfInBounds_toArray, List.set_cons_zero, List.set_cons_succ])
              | (refine wk_skip (wanted_not _ false true rfl rfl rfl) ?_; simp only [Act.put, List.setIfInBounds_toArray, List.set_cons_zero, List.set_cons_succ])
              | (refine wk_skip (wanted_undef _ _ rfl rfl) ?_; simp only [Act.put, List.setIfInBounds_toArray, List.set_cons_zero, List.set_cons_succ])
              | (refine wk_not true _ _ (by first | exact wanted_none rfl | exact wanted_yes _ _ rfl rfl) rfl rfl ?_; simp only [Act.put, List.setIfInBounds_toArray, List.set_cons_zero, List.set_cons_succ])
              | (refine wk_not false _ _ (by first | exact wanted_none rfl | exact wanted_yes _ _ rfl rfl) rfl rfl ?_; simp only [Act.put, List.setIfInBounds_toArray, List.set_cons_zero, List.set_cons_succ]))
            refine wk_load_row 75 _ gq 75 (rfV false 0 0) (0, 0) _ (by kernel_rfl) rfl rfl (fun w' hC => hC.row (R2.out.get 1 rfl)) Try.underlying75 rfl sizeRf ?_
            simp only [Act.put, List.setIfInBounds_toArray, List.set_cons_zero, List.set_cons_succ]
            repeat (first
              | (refine wk_move _ (by first | exact wanted_none rfl | exact wanted_yes _ _ rfl rfl) rfl ?_; simp only [Act.put, Act.eval, Array.getD_eq_getD_getElem?, List.getElem?_toArray, List.getElem?_cons_succ, List.getElem?_cons_zero, Option.getD_some, List.setIfInBounds_toArray, List.set_cons_zero, List.set_cons_succ])
              | (refine wk_assign _ (by first | exact wanted_none rfl | exact wanted_yes _ _ rfl rfl) rfl ?_; simp only [Act.put, Act.eval, Array.getD_eq_getD_getElem?, List.getElem?_toArray, List.getElem?_cons_succ, List.getElem?_cons_zero, Option.getD_some, List.setIfInBounds_toArray, List.set_cons_zero, List.set_cons_succ])
              | (refine wk_pickt _ _ _ _ (by first | exact wanted_none rfl | exact wanted_yes _ _ rfl rfl) rfl rfl rfl ?_; simp only [Act.put, Act.eval, Array.getD_eq_getD_getElem?, List.getElem?_toArray, List.getElem?_cons_succ, List.getElem?_cons_zero, Option.getD_some, List.setIfInBounds_toArray, List.set_cons_zero, List.set_cons_succ])
              | (refine wk_pickf _ _ _ _ (by first | exact wanted_none rfl | exact wanted_yes _ _ rfl rfl) rfl rfl rfl ?_; simp only [Act.put, Act.eval, Array.getD_eq_getD_getElem?, List.getElem?_toArray, List.getElem?_cons_succ, List.getElem?_cons_zero, Option.getD_some, List.setIfInBounds_toArray, List.set_cons_zero, List.set_cons_succ])
              | (refine wk_skip (wanted_not _ true false rfl rfl rfl) ?_; simp only [Act.put, List.setIfInBounds_toArray, List.set_cons_zero, List.set_cons_succ])
              | (refine wk_skip (wanted_not _ false true rfl rfl rfl) ?_; simp only [Act.put, List.setIfInBounds_toArray, List.set_cons_zero, List.set_cons_succ])
              | (refine wk_skip (wanted_undef _ _ rfl rfl) ?_; simp only [Act.put, List.setIfInBounds_toArray, List.set_cons_zero, List.set_cons_succ])
              | (refine wk_not true _ _ (by first | exact wanted_none rfl | exact wanted_yes _ _ rfl rfl) rfl rfl ?_; simp only [Act.put, List.setIfInBounds_toArray, List.set_cons_zero, List.set_cons_succ])
              | (refine wk_not false _ _ (by first | exact wanted_none rfl | exact wanted_yes _ _ rfl rfl) rfl rfl ?_; simp only [Act.put, List.setIfInBounds_toArray, List.set_cons_zero, List.set_cons_succ]))
            refine wk_index 55 63 _ _ b off n c j 5 .i64 (by first | exact wanted_none rfl | exact wanted_yes _ _ rfl rfl) rfl Try.underlying55 sizeAct rfl rfl hlt ?_
            simp only [Act.put, List.setIfInBounds_toArray, List.set_cons_zero, List.set_cons_succ]
            refine wk_load_mid 63 _ b (off + j * 5) (actV x) _ (by first | exact wanted_none rfl | exact wanted_yes _ _ rfl rfl) rfl rfl (fun w' hC => (fun i v hv => (Below.cell hC (Nat.lt_of_lt_of_le HBL.out R2.out.below.size)).trans (HRGW.out i v hv))) Try.underlying63 rfl (sizeAct) ?_
            simp only [Act.put, List.setIfInBounds_toArray, List.set_cons_zero, List.set_cons_succ]
            refine wk_nil ?_
            intro w' hC
            have R3 := Lib.hid (R2.out.since hC)
            clear hC R2 HR
            go_wp2_with (go_at_call 50; refine (does_any x R3.out HLEN.out ⟨HX.out.2.1, HX.out.2.2.2.1, HX.out.2.2.2.2⟩ h4 rfl).mono ?_; rintro e w6 ⟨q, r, rfl, l', hR⟩; have R4 := Lib.hid hR; clear hR)
            exact ⟨⟨j + 1, s.does x, _, by omega, by simp, R4.out, cr_does HI.out x HMEM.out⟩, by simp [intOf]; omega⟩
          · have h4' : ¬ ((x.what : Int) % 5 < 4) := by omega
            go_wp2_with fail
            exact ⟨⟨j + 1, s, tl, by omega, by simp, HR.out, cr_up HI.out⟩, by simp [intOf]; omega⟩
        · obtain rfl : j = n := by omega
          have hz : ¬ ((j : Int) < (j : Int)) := by omega
          have hpl : s.pend.length < 100000 := by have := HI.out.len; omega
          have HPL := Lib.hid hpl
          obtain ⟨p, hp⟩ : ∃ p, p = s.pend.length := ⟨_, rfl⟩
          have HP := Lib.hid hp
          have hp60 : p ≤ 60 := by have := HI.out.len; omega
          clear hpl hz hp
          have hz : ¬ ((j : Int) < (j : Int)) := by omega
          go_wp2_with (first
            | (go_at_call 51; refine (copy_dev (HR.out.thing 0 rfl) HPL.out).mono ?_; rintro e w1 ⟨g1, rfl, hM⟩; have K1 := Lib.hid (HR.out.made hM); clear hM HR)
            | (go_at_call 51; refine (copy_dev (K1.out.thing 1 rfl) HPL.out).mono ?_; rintro e w2 ⟨g2, rfl, hM⟩; have K2 := Lib.hid (K1.out.made hM); clear hM K1)
            | (go_at_call 51; refine (copy_dev (K2.out.thing 2 rfl) HPL.out).mono ?_; rintro e w3 ⟨g3, rfl, hM⟩; have K3 := Lib.hid (K2.out.made hM); clear hM K2)
            | (go_at_call 51; refine (copy_dev (K3.out.thing 3 rfl) HPL.out).mono ?_; rintro e w4 ⟨g4, rfl, hM⟩; have K4 := Lib.hid (K3.out.made hM); clear hM K3))
          obtain ⟨ik, hik, hzk, hsk, hbk⟩ := info_parts Try.infoKeep
          have HIK := Lib.hid hik
          have HZK := Lib.hid hzk
          clear hik hzk hz
          obtain ⟨B0, hB0⟩ : ∃ B, B = w4.heap.size := ⟨_, rfl⟩
          have HB0 := Lib.hid hB0
          clear hB0
          go_loopw [13, 14] (fun t i wl => ∃ (k : Nat) (A' : Option Addr) (c' : Nat), k ≤ p ∧ i = .int .i64 (k : Int) ∧ t = .slice A' k c' ∧ wl.ownsRow B0 80 2 (.slice A' k c') k (keepCells ((List.range k).map fun i => (i, 15))) ∧ Below w4.heap.size w4 wl) (fun _ i _ => p - (intOf i).toNat)
          case atStart => exact ⟨0, none, 0, by omega, by simp, rfl, World.ownsRow_nil _ _ _ _, Below.refl _ _⟩
          case round =>
            obtain ⟨k, A', c', hk, rfl, rfl, hown, hB⟩ := hrel
            have HOWN := Lib.hid hown
            have HB := Lib.hid hB
            have RK := Lib.hid (K4.out.call HB.out)
            clear hown hB
            by_cases hkp : k < p
            · have hxs : keepCells ((List.range (k + 1)).map fun i => (i, 15)) = keepCells ((List.range k).map fun i => (i, 15)) ++ (keepV (k, 15)).toList := by
                rw [List.range_succ, List.map_append, List.map_cons, List.map_nil, keepCells_snoc]
              have HXS := Lib.hid hxs
              have hbase : B0 ≤ wr.heap.size := by rw [HB0.out]; exact HB.out.size
              have HBS := Lib.hid hbase
              clear hxs hbase
              have hcv : ∀ w : World, (convert 3 32 (.int .i64 (k : Int))).run Try.prog w = .ok (.int .u16 (k : Int)) w := fun w => run_conv_int _ _ .i64 .u16 Try.underlying3 Try.underlying32 _ (by rw [IntKind.wrap_u16]; omega) w
              go_wp2_with (first
                | (go_at_call 49; refine (pending_is (RK.out.thing 4 rfl) p HP.out.symm).mono ?_; rintro e wx ⟨rfl, rfl⟩)
                | refine wpList_plain rfl fun K hK' => wp_build_one 61 80 _ rfl (keepV (k, 15)) rfl ik _ Try.underlying61 HIK.out HZK.out (by rw [hsk]; rfl) (by omega) (by omega) (hK' _ _ ?_)
                | refine wpList_append_own_at _ rfl _ _ 61 rfl B0 80 ik _ 2 4 Try.underlying61 HIK.out HZK.out hsk hbk rfl (by decide) (.slice A' k c') k (keepCells ((List.range k).map fun i => (i, 15))) rfl (ownsRow_below HOWN.out ((Below.refl _ _).alloc (Nat.le_refl _) _)) ⟨wr.heap.size, 0, none⟩ 1 1 (keepV (k, 15)).toList rfl rfl (keepRow_cells _ _) (keepRow_one _) (by unfold maxLen; omega) (by omega) (by have := HBS.out; simp; omega) ?_)
              intro v' w6 hown6 hgrow _ _
              obtain ⟨A6, c6, rfl⟩ := own_len hown6
              have hB6 : Below B0 wr w6 := ((Below.refl _ wr).alloc HBS.out _).grown hgrow (by have := HBS.out; simp; omega) (fun k hk => (World.ownsRow.lt HOWN.out k hk).1)
              rw [← HXS.out] at hown6
              have HO6 := Lib.hid hown6
              have HB6 := Lib.hid (HB.out.trans (by rw [HB0.out] at hB6; exact hB6))
              clear hown6 hgrow hB6 hcv
              go_wp2_with fail
              exact ⟨⟨k + 1, A6, c6, by omega, by simp, rfl, HO6.out, HB6.out⟩, by simp [intOf]; omega⟩
            · obtain rfl : k = p := by omega
              obtain ⟨tl2, HT, htl⟩ : ∃ tl2 : List Thing, Held w wr (dvT g4 s :: dvT g3 s :: dvT g2 s :: dvT g1 s :: dvT g s :: tl2) ∧ ((A' = none ∧ k = 0 ∧ c' = 0) ∨ ∃ gt cur, A' = some ⟨gt, 0, none⟩ ∧ rowT gt cur 80 ∈ tl2 ∧ cur.toList.take (k * 2) = keepCells ((List.range k).map fun i => (i, 15))) := by
                rcases HOWN.out.2 with ⟨e, h0⟩ | ⟨gt, cap, cur, e, hbt, hgt, _, _, _, hcur⟩
                · simp only [Value.slice.injEq] at e
                  exact ⟨tl, RK.out, .inl ⟨e.1, h0, e.2.2⟩⟩
                · simp only [Value.slice.injEq] at e
                  have hm1 := K4.out.more HB.out (x := rowT gt cur 80) (F := [gt]) ⟨rfl, hgt⟩ (by rw [← HB0.out]; simpa using hbt) (by simp)
                  exact ⟨tl ++ [rowT gt cur 80], hm1.perm (List.perm_append_comm (l₁ := [_]) (l₂ := dvT g4 s :: dvT g3 s :: dvT g2 s :: dvT g1 s :: dvT g s :: tl)), .inr ⟨gt, cur, e.1, by simp, hcur⟩⟩
              have HTL := Lib.hid htl
              have RT := Lib.hid HT
              clear HT htl K4 RK HB HOWN HB0
              have hz : ¬ ((k : Int) < (k : Int)) := by omega
              obtain ⟨s4, hf, hci4, hg4, hp4⟩ := cr_flush HI.out
              obtain ⟨s1, h1⟩ : ∃ s1, s.crash [] = s1 := ⟨_, rfl⟩
              obtain ⟨s2, h2⟩ : ∃ s2, s.crash ((List.range k).map fun i => (i, 15)) = s2 := ⟨_, rfl⟩
              obtain ⟨s3, h3⟩ : ∃ s3, s.crash ks = s3 := ⟨_, rfl⟩
              have HS1 := Lib.hid h1
              have HS2 := Lib.hid h2
              have HS3 := Lib.hid h3
              have HS4 := Lib.hid hf
              have HG4 := Lib.hid hg4
              have HP4 := Lib.hid hp4
              have HSZ4 := Lib.hid hci4.size
              have HP3 : Hid (s3.pend.length = 0) := Lib.hid (by rw [← h3]; rfl)
              have HPM : Hid (∀ x ∈ (List.range k).map (fun i => (i, 15)), x.1 < 65536 ∧ x.2 < 256) := Lib.hid (by
                intro x hx
                obtain ⟨i, hi, rfl⟩ := List.mem_map.1 hx
                have := List.mem_range.1 hi
                exact ⟨by show i < 65536; omega, by show 15 < 256; omega⟩)
              clear h1 h2 h3 hf hg4 hp4 hci4
              have P1 : Hid (Held w wr (dvT g1 s :: dvT g4 s :: dvT g3 s :: dvT g2 s :: dvT g s :: tl2)) := Lib.hid (RT.out.perm (List.perm_middle (l₁ := [dvT g4 s, dvT g3 s, dvT g2 s]) (a := dvT g1 s) (l₂ := dvT g s :: tl2)))
              clear RT
              go_wp2_with (first
                | (go_at_call 49; refine (pending_is (P1.out.thing 4 rfl) k HP.out.symm).mono ?_; rintro e wx ⟨rfl, rfl⟩)
                | (go_at_call 48; refine (crash_nil P1.out HS1.out).mono ?_; rintro e v1 ⟨rfl, hR⟩; have P2 := Lib.hid (hR.perm (List.perm_middle (l₁ := [dvT g1 s1, dvT g4 s, dvT g3 s]) (a := dvT g2 s) (l₂ := dvT g s :: tl2))); clear hR P1)
                | (go_at_call 48; refine (crash_turned P2.out A' k c' _ (HTL.out.imp id (fun ⟨gt, cur, e1, e2, e3⟩ => ⟨gt, cur, e1, by simp [e2], e3⟩)) (by simp) (by omega) HPM.out HS2.out).mono ?_; rintro e v2 ⟨rfl, hR⟩; have P3 := Lib.hid (hR.perm (List.perm_middle (l₁ := [dvT g2 s2, dvT g1 s1, dvT g4 s]) (a := dvT g3 s) (l₂ := dvT g s :: tl2))); clear hR P2)
                | (go_at_call 48; refine (crash_old P3.out A2 m c2 HM.out ks HKS.out HS3.out).mono ?_; rintro e v3 ⟨rfl, hR⟩; have P4 := Lib.hid (hR.perm (List.perm_middle (l₁ := [dvT g3 s3, dvT g2 s2, dvT g1 s1]) (a := dvT g4 s) (l₂ := dvT g s :: tl2))); clear hR P3)
                | (go_at_call 42; refine (flush_is P4.out HS4.out).mono ?_; rintro e v4 ⟨rfl, hR⟩; have P5 := Lib.hid hR; clear hR P4)
                | (go_at_call 49; refine (pending_is (P5.out.thing 1 rfl) 0 HP3.out).mono ?_; rintro e wx ⟨rfl, rfl⟩))
              have hok : s.Ok := by
                obtain ⟨F0, gm0, pv0, fv0, _, hv0⟩ := P5.out.thing 4 rfl
                exact hv0.ok
              have HEND := Lib.hid (cr_end HI.out hok HP.out ks HS1.out HS2.out HS3.out HG4.out HP4.out HSZ4.out)
              clear hok hz
              go_loopw [15, 16, 17, 18, 19, 20, 21, 22, 23, 24, 25, 26, 27, 28] (fun a _ _ _ _ _ _ _ _ _ _ _ _ _ wr => ∃ y : Nat, y ≤ 64 ∧ a = .int .u32 (y : Int) ∧ Held w wr (dvT g4 s4 :: dvT g3 s3 :: dvT g2 s2 :: dvT g1 s1 :: dvT g s :: tl2)) (fun a _ _ _ _ _ _ _ _ _ _ _ _ _ _ => 64 - (intOf a).toNat)
              case atStart => exact ⟨0, by omega, rfl, P5.out⟩
              case round =>
                obtain ⟨y, hy, rfl, hR⟩ := hrel
                have RY := Lib.hid hR
                clear hR P5
                by_cases hy64 : y < 64
                · obtain ⟨⟨hE0, hE1, hE2, hE3, hE4⟩, hB2, hB4, hsec⟩ := HEND.out y hy64
                  obtain ⟨B, hB⟩ : ∃ B, B = readB s y := ⟨_, rfl⟩
                  obtain ⟨Bx, hBx⟩ : ∃ B, B = readB s1 y := ⟨_, rfl⟩
                  obtain ⟨Bz, hBz⟩ : ∃ B, B = readB s3 y := ⟨_, rfl⟩
                  rw [← hB] at hB2 hB4
                  rw [← hBx, ← hBz] at hsec
                  have HBL : Hid (B.length = 256) := Lib.hid (by
                    rw [hB]
                    obtain ⟨F0, gm0, pv0, fv0, _, hv0⟩ := RY.out.thing 4 rfl
                    exact length_readB s hv0.ok _)
                  have HXL : Hid (Bx.length = 256) := Lib.hid (by
                    rw [hBx]
                    obtain ⟨F0, gm0, pv0, fv0, _, hv0⟩ := RY.out.thing 3 rfl
                    exact length_readB s1 hv0.ok _)
                  have HZL : Hid (Bz.length = 256) := Lib.hid (by
                    rw [hBz]
                    obtain ⟨F0, gm0, pv0, fv0, _, hv0⟩ := RY.out.thing 1 rfl
                    exact length_readB s3 hv0.ok _)
                  have RD0 : Hid (readB s y = B ∧ readE s y = 0) := Lib.hid ⟨hB.symm, hE0⟩
                  have RD1 : Hid (readB s1 y = Bx ∧ readE s1 y = 0) := Lib.hid ⟨hBx.symm, hE1⟩
                  have RD2 : Hid (readB s2 y = B ∧ readE s2 y = 0) := Lib.hid ⟨hB2, hE2⟩
                  have RD3 : Hid (readB s3 y = Bz ∧ readE s3 y = 0) := Lib.hid ⟨hBz.symm, hE3⟩
                  have RD4 : Hid (readB s4 y = B ∧ readE s4 y = 0) := Lib.hid ⟨hB4, hE4⟩
                  have HSEC := Lib.hid hsec
                  have HNQ := Lib.hid (fun w => neqSame w B HBL.out)
                  have HY32 : Hid (y < 4294967296) := Lib.hid (by omega)
                  clear hE0 hE1 hE2 hE3 hE4 hB2 hB4 hsec hB hBx hBz
                  go_wp2_with fail
                  refine (read_is (RY.out.thing 4 rfl) y HY32.out B 0 RD0.out).mono ?_
                  rintro e w5 ⟨rfl, hb⟩
                  have q1 := (RY.out.call hb).alloc (blk B) 23
                  clear hb
                  go_upto_region 24 with (first | refine wpList_alloc_row rfl 23 rfl _ zeroB ?_ | refine wpList_store_new rfl 23 _ _ rfl _ (blk B) _ rfl rfl (by rw [size_blk, HBL.out]; exact sizeB) (by rw [size_blk, HBL.out, size_zeros]) (blk_one _) ?_)
                  obtain ⟨W5, hW⟩ : ∃ W, W = w5.alloc (.cells (blk B) 23) := ⟨_, rfl⟩
                  rw [← hW] at q1 ⊢
                  clear hW
                  obtain ⟨b5, hg⟩ : ∃ g, g = w5.heap.size := ⟨_, rfl⟩
                  rw [← hg] at q1 ⊢
                  clear hg
                  have R5 := Lib.hid q1
                  clear q1
                  go_wp2_with fail
                  refine (read_is (R5.out.thing 4 rfl) y HY32.out Bx 0 RD1.out).mono ?_
                  rintro e w6 ⟨rfl, hb⟩
                  have q1 := (R5.out.call hb).alloc (blk Bx) 23
                  clear hb
                  go_upto_region 25 with (first | refine wpList_alloc_row rfl 23 rfl _ zeroB ?_ | refine wpList_store_new rfl 23 _ _ rfl _ (blk Bx) _ rfl rfl (by rw [size_blk, HXL.out]; exact sizeB) (by rw [size_blk, HXL.out, size_zeros]) (blk_one _) ?_)
                  obtain ⟨W6, hW⟩ : ∃ W, W = w6.alloc (.cells (blk Bx) 23) := ⟨_, rfl⟩
                  rw [← hW] at q1 ⊢
                  clear hW
                  obtain ⟨b6, hg⟩ : ∃ g, g = w6.heap.size := ⟨_, rfl⟩
                  rw [← hg] at q1 ⊢
                  clear hg
                  have R6 := Lib.hid q1
                  clear q1
                  go_wp2_with fail
                  refine (read_is (R6.out.thing 4 rfl) y HY32.out B 0 RD2.out).mono ?_
                  rintro e w7 ⟨rfl, hb⟩
                  have q1 := (R6.out.call hb).alloc (blk B) 23
                  clear hb
                  go_upto_region 26 with (first | refine wpList_alloc_row rfl 23 rfl _ zeroB ?_ | refine wpList_store_new rfl 23 _ _ rfl _ (blk B) _ rfl rfl (by rw [size_blk, HBL.out]; exact sizeB) (by rw [size_blk, HBL.out, size_zeros]) (blk_one _) ?_)
                  obtain ⟨W7, hW⟩ : ∃ W, W = w7.alloc (.cells (blk B) 23) := ⟨_, rfl⟩
                  rw [← hW] at q1 ⊢
                  clear hW
                  obtain ⟨b7, hg⟩ : ∃ g, g = w7.heap.size := ⟨_, rfl⟩
                  rw [← hg] at q1 ⊢
                  clear hg
                  have R7 := Lib.hid q1
                  clear q1
                  go_wp2_with fail
                  refine (read_is (R7.out.thing 4 rfl) y HY32.out Bz 0 RD3.out).mono ?_
                  rintro e w8 ⟨rfl, hb⟩
                  have q1 := (R7.out.call hb).alloc (blk Bz) 23
                  clear hb
                  go_upto_region 27 with (first | refine wpList_alloc_row rfl 23 rfl _ zeroB ?_ | refine wpList_store_new rfl 23 _ _ rfl _ (blk Bz) _ rfl rfl (by rw [size_blk, HZL.out]; exact sizeB) (by rw [size_blk, HZL.out, size_zeros]) (blk_one _) ?_)
                  obtain ⟨W8, hW⟩ : ∃ W, W = w8.alloc (.cells (blk Bz) 23) := ⟨_, rfl⟩
                  rw [← hW] at q1 ⊢
                  clear hW
                  obtain ⟨b8, hg⟩ : ∃ g, g = w8.heap.size := ⟨_, rfl⟩
                  rw [← hg] at q1 ⊢
                  clear hg
                  have R8 := Lib.hid q1
                  clear q1
                  go_wp2_with fail
                  refine (read_is (R8.out.thing 4 rfl) y HY32.out B 0 RD4.out).mono ?_
                  rintro e w9 ⟨rfl, hb⟩
                  have q1 := (R8.out.call hb).alloc (blk B) 23
                  clear hb
                  go_upto_region 28 with (first | refine wpList_alloc_row rfl 23 rfl _ zeroB ?_ | refine wpList_store_new rfl 23 _ _ rfl _ (blk B) _ rfl rfl (by rw [size_blk, HBL.out]; exact sizeB) (by rw [size_blk, HBL.out, size_zeros]) (blk_one _) ?_)
                  obtain ⟨W9, hW⟩ : ∃ W, W = w9.alloc (.cells (blk B) 23) := ⟨_, rfl⟩
                  rw [← hW] at q1 ⊢
                  clear hW
                  obtain ⟨b9, hg⟩ : ∃ g, g = w9.heap.size := ⟨_, rfl⟩
                  rw [← hg] at q1 ⊢
                  clear hg
                  have R9 := Lib.hid q1
                  clear q1
                  clear R5 R6 R7 R8 RY RD0 RD1 RD2 RD3 RD4
                  refine wk_plain_since ?_
                  refine wk_load_row 23 _ b7 23 (blk B) (0, 0) _ (by kernel_rfl) rfl rfl (fun w' hC => hC.row (R9.out.get 2 rfl)) Try.underlying23 rfl (by rw [size_blk, HBL.out]; exact sizeB) ?_
                  simp only [Act.put, List.setIfInBounds_toArray, List.set_cons_zero, List.set_cons_succ]
                  refine wk_load_row 23 _ b5 23 (blk B) (0, 0) _ (by kernel_rfl) rfl rfl (fun w' hC => hC.row (R9.out.get 4 rfl)) Try.underlying23 rfl (by rw [size_blk, HBL.out]; exact sizeB) ?_
                  simp only [Act.put, List.setIfInBounds_toArray, List.set_cons_zero, List.set_cons_succ]
                  refine wk_eql .neq (false) 23 23 _ _ (by first | exact wanted_none rfl | exact wanted_yes _ _ rfl rfl) rfl _ _ rfl rfl (by kernel_rfl) (fun w => HNQ.out w) ?_
                  simp only [Act.put, List.setIfInBounds_toArray, List.set_cons_zero, List.set_cons_succ]
                  repeat (first
                    | (refine wk_move _ (by first | exact wanted_none rfl | exact wanted_yes _ _ rfl rfl) rfl ?_; simp only [Act.put, Act.eval, Array.getD_eq_getD_getElem?, List.getElem?_toArray, List.getElem?_cons_succ, List.getElem?_cons_zero, Option.getD_some, List.setIfInBounds_toArray, List.set_cons_zero, List.set_cons_succ])
                    | (refine wk_assign _ (by first | exact wanted_none rfl | exact wanted_yes _ _ rfl rfl) rfl ?_; simp only [Act.put, Act.eval, Array.getD_eq_getD_getElem?, List.getElem?_toArray, List.getElem?_cons_succ, List.getElem?_cons_zero, Option.getD_some, List.setIfInBounds_toArray, List.set_cons_zero, List.set_cons_succ])
                    | (refine wk_pickt _ _ _ _ (by first | exact wanted_none rfl | exact wanted_yes _ _ rfl rfl) rfl rfl rfl ?_; simp only [Act.put, Act.eval, Array.getD_eq_getD_getElem?, List.getElem?_toArray, List.getElem?_cons_succ, List.getElem?_cons_zero, Option.getD_some, List.setIfInBounds_toArray, List.set_cons_zero, List.set_cons_succ])
                    | (refine wk_pickf _ _ _ _ (by first | exact wanted_none rfl | exact wanted_yes _ _ rfl rfl) rfl rfl rfl ?_; simp only [Act.put, Act.eval, Array.getD_eq_getD_getElem?, List.getElem?_toArray, List.getElem?_cons_succ, List.getElem?_cons_zero, Option.getD_some, List.setIfInBounds_toArray, List.set_cons_zero, List.set_cons_succ])
                    | (refine wk_skip (wanted_not _ true false rfl rfl rfl) ?_; simp only [Act.put, List.setIfInBounds_toArray, List.set_cons_zero, List.set_cons_succ])
                    | (refine wk_skip (wanted_not _ false true rfl rfl rfl) ?_; simp only [Act.put, List.setIfInBounds_toArray, List.set_cons_zero, List.set_cons_succ])
                    | (refine wk_skip (wanted_undef _ _ rfl rfl) ?_; simp only [Act.put, List.setIfInBounds_toArray, List.set_cons_zero, List.set_cons_succ])
                    | (refine wk_not true _ _ (by first | exact wanted_none rfl | exact wanted_yes _ _ rfl rfl) rfl rfl ?_; simp only [Act.put, List.setIfInBounds_toArray, List.set_cons_zero, List.set_cons_succ])
                    | (refine wk_not false _ _ (by first | exact wanted_none rfl | exact wanted_yes _ _ rfl rfl) rfl rfl ?_; simp only [Act.put, List.setIfInBounds_toArray, List.set_cons_zero, List.set_cons_succ]))
                  refine wk_load_row 23 _ b9 23 (blk B) (0, 0) _ (by kernel_rfl) rfl rfl (fun w' hC => hC.row (R9.out.get 0 rfl)) Try.underlying23 rfl (by rw [size_blk, HBL.out]; exact sizeB) ?_
                  simp only [Act.put, List.setIfInBounds_toArray, List.set_cons_zero, List.set_cons_succ]
                  refine wk_load_row 23 _ b5 23 (blk B) (0, 0) _ (by kernel_rfl) rfl rfl (fun w' hC => hC.row (R9.out.get 4 rfl)) Try.underlying23 rfl (by rw [size_blk, HBL.out]; exact sizeB) ?_
                  simp only [Act.put, List.setIfInBounds_toArray, List.set_cons_zero, List.set_cons_succ]
                  refine wk_eql .neq (false) 23 23 _ _ (by first | exact wanted_none rfl | exact wanted_yes _ _ rfl rfl) rfl _ _ rfl rfl (by kernel_rfl) (fun w => HNQ.out w) ?_
                  simp only [Act.put, List.setIfInBounds_toArray, List.set_cons_zero, List.set_cons_succ]
                  repeat (first
                    | (refine wk_move _ (by first | exact wanted_none rfl | exact wanted_yes _ _ rfl rfl) rfl ?_; simp only [Act.put, Act.eval, Array.getD_eq_getD_getElem?, List.getElem?_toArray, List.getElem?_cons_succ, List.getElem?_cons_zero, Option.getD_some, List.setIfInBounds_toArray, List.set_cons_zero, List.set_cons_succ])
                    | (refine wk_assign _ (by first | exact wanted_none rfl | exact wanted_yes _ _ rfl rfl) rfl ?_; simp only [Act.put, Act.eval, Array.getD_eq_getD_getElem?, List.getElem?_toArray, List.getElem?_cons_succ, List.getElem?_cons_zero, Option.getD_some, List.setIfInBounds_toArray, List.set_cons_zero, List.set_cons_succ])
                    | (refine wk_pickt _ _ _ _ (by first | exact wanted_none rfl | exact wanted_yes _ _ rfl rfl) rfl rfl rfl ?_; simp only [Act.put, Act.eval, Array.getD_eq_getD_getElem?, List.getElem?_toArray, List.getElem?_cons_succ, List.getElem?_cons_zero, Option.getD_some, List.setIfInBounds_toArray, List.set_cons_zero, List.set_cons_succ])
                    | (refine wk_pickf _ _ _ _ (by first | exact wanted_none rfl | exact wanted_yes _ _ rfl rfl) rfl rfl rfl ?_; simp only [Act.put, Act.eval, Array.getD_eq_getD_getElem?, List.getElem?_toArray, List.getElem?_cons_succ, List.getElem?_cons_zero, Option.getD_some, List.setIfInBounds_toArray, List.set_cons_zero, List.set_cons_succ])
                    | (refine wk_skip (wanted_not _ true false rfl rfl rfl) ?_; simp only [Act.put, List.setIfInBounds_toArray, List.set_cons_zero, List.set_cons_succ])
                    | (refine wk_skip (wanted_not _ false true rfl rfl rfl) ?_; simp only [Act.put, List.setIfInBounds_toArray, List.set_cons_zero, List.set_cons_succ])
                    | (refine wk_skip (wanted_undef _ _ rfl rfl) ?_; simp only [Act.put, List.setIfInBounds_toArray, List.set_cons_zero, List.set_cons_succ])
                    | (refine wk_not true _ _ (by first | exact wanted_none rfl | exact wanted_yes _ _ rfl rfl) rfl rfl ?_; simp only [Act.put, List.setIfInBounds_toArray, List.set_cons_zero, List.set_cons_succ])
                    | (refine wk_not false _ _ (by first | exact wanted_none rfl | exact wanted_yes _ _ rfl rfl) rfl rfl ?_; simp only [Act.put, List.setIfInBounds_toArray, List.set_cons_zero, List.set_cons_succ]))
                  refine wk_nil ?_
                  intro w' hC
                  have R10 := Lib.hid (R9.out.since hC)
                  clear hC R9
                  go_wp2_with fail
                  obtain ⟨wo, rfl⟩ : ∃ wo : World, wo = w' := ⟨_, rfl⟩
                  go_loopw [26, 27, 28] (fun k _ _ wr => ∃ q : Nat, q ≤ 4 ∧ k = .int .i64 (q : Int) ∧ Held w wr (rowT b9 (blk B) 23 :: rowT b8 (blk Bz) 23 :: rowT b7 (blk B) 23 :: rowT b6 (blk Bx) 23 :: rowT b5 (blk B) 23 :: dvT g4 s4 :: dvT g3 s3 :: dvT g2 s2 :: dvT g1 s1 :: dvT g s :: tl2)) (fun k _ _ _ => 4 - (intOf k).toNat)
                  case atStart => exact ⟨0, by omega, rfl, R10.out⟩
                  case round =>
                    obtain ⟨q, hq, rfl, hR⟩ := hrel
                    have R11 := Lib.hid hR
                    clear hR R10
                    by_cases hq4 : q < 4
                    · obtain ⟨p, hp⟩ : ∃ p, p = 64 * q := ⟨_, rfl⟩
                      have hp256 : p < 256 := by omega
                      obtain ⟨zc, hzc⟩ : ∃ c, c = Bz.getD p 0 := ⟨_, rfl⟩
                      obtain ⟨xc, hxc⟩ : ∃ c, c = Bx.getD p 0 := ⟨_, rfl⟩
                      have KZ : Hid ((blk Bz)[p]? = some (.int .u8 (zc.toNat : Int))) := Lib.hid (by rw [hzc]; exact blk_atC Bz p (by rw [HZL.out]; exact hp256))
                      have KX : Hid ((blk Bx)[p]? = some (.int .u8 (xc.toNat : Int))) := Lib.hid (by rw [hxc]; exact blk_atC Bx p (by rw [HXL.out]; exact hp256))
                      have HS : Hid (zc = xc ∨ ∃ x ∈ l, x.a = y ∧ zc = (actB x.c).getD p 0) := Lib.hid (by rw [hzc, hxc]; exact HSEC.out p hp256)
                      have HMU : Hid (IntKind.i64.wrap ((64 : Int) * (q : Int)) = (p : Int)) := Lib.hid (by rw [IntKind.wrap_i64, hp]; omega)
                      obtain ⟨r0, hr0⟩ : ∃ r, ((zc.toNat : Int) == (xc.toNat : Int)) = r := ⟨_, rfl⟩
                      have HR0 := Lib.hid hr0
                      have HP256 := Lib.hid hp256
                      clear hzc hxc hr0 hp hp256
                      go_wp2_with fail
                      refine wk_region_since (by kernel_rfl) (by kernel_rfl) ?_
                      repeat (first
                        | (refine wk_move _ (by first | exact wanted_none rfl | exact wanted_yes _ _ rfl rfl) rfl ?_; simp only [Act.put, Act.eval, Array.getD_eq_getD_getElem?, List.getElem?_toArray, List.getElem?_cons_succ, List.getElem?_cons_zero, Option.getD_some, List.setIfInBounds_toArray, List.set_cons_zero, List.set_cons_succ])
                        | (refine wk_assign _ (by first | exact wanted_none rfl | exact wanted_yes _ _ rfl rfl) rfl ?_; simp only [Act.put, Act.eval, Array.getD_eq_getD_getElem?, List.getElem?_toArray, List.getElem?_cons_succ, List.getElem?_cons_zero, Option.getD_some, List.setIfInBounds_toArray, List.set_cons_zero, List.set_cons_succ])
                        | (refine wk_pickt _ _ _ _ (by first | exact wanted_none rfl | exact wanted_yes _ _ rfl rfl) rfl rfl rfl ?_; simp only [Act.put, Act.eval, Array.getD_eq_getD_getElem?, List.getElem?_toArray, List.getElem?_cons_succ, List.getElem?_cons_zero, Option.getD_some, List.setIfInBounds_toArray, List.set_cons_zero, List.set_cons_succ])
                        | (refine wk_pickf _ _ _ _ (by first | exact wanted_none rfl | exact wanted_yes _ _ rfl rfl) rfl rfl rfl ?_; simp only [Act.put, Act.eval, Array.getD_eq_getD_getElem?, List.getElem?_toArray, List.getElem?_cons_succ, List.getElem?_cons_zero, Option.getD_some, List.setIfInBounds_toArray, List.set_cons_zero, List.set_cons_succ])
                        | (refine wk_skip (wanted_not _ true false rfl rfl rfl) ?_; simp only [Act.put, List.setIfInBounds_toArray, List.set_cons_zero, List.set_cons_succ])
                        | (refine wk_skip (wanted_not _ false true rfl rfl rfl) ?_; simp only [Act.put, List.setIfInBounds_toArray, List.set_cons_zero, List.set_cons_succ])
                        | (refine wk_skip (wanted_undef _ _ rfl rfl) ?_; simp only [Act.put, List.setIfInBounds_toArray, List.set_cons_zero, List.set_cons_succ])
                        | (refine wk_not true _ _ (by first | exact wanted_none rfl | exact wanted_yes _ _ rfl rfl) rfl rfl ?_; simp only [Act.put, List.setIfInBounds_toArray, List.set_cons_zero, List.set_cons_succ])
                        | (refine wk_not false _ _ (by first | exact wanted_none rfl | exact wanted_yes _ _ rfl rfl) rfl rfl ?_; simp only [Act.put, List.setIfInBounds_toArray, List.set_cons_zero, List.set_cons_succ]))
                      refine wk_mulk .i64 _ _ _ _ _ _ _ (by first | exact wanted_none rfl | exact wanted_yes _ _ rfl rfl) rfl rfl rfl (HMU.out) ?_
                      simp only [Act.put, List.setIfInBounds_toArray, List.set_cons_zero, List.set_cons_succ]
                      refine wk_index_arr _ _ _ _ _ (p) (256) .i64 (by kernel_rfl) rfl Try.underlying23 sizeU8 rfl rfl (HP256.out) ?_
                      simp only [Act.put, List.setIfInBounds_toArray, List.set_cons_zero, List.set_cons_succ]
                      refine wk_load1 _ _ _ _ _ rfl (by kernel_rfl) rfl rfl (fun w' hC => hC.cell (R11.out.cell 1 p rfl KZ.out)) Try.underlying5 ?_
                      simp only [Act.put, List.setIfInBounds_toArray, List.set_cons_zero, List.set_cons_succ]
                      repeat (first
                        | (refine wk_move _ (by first | exact wanted_none rfl | exact wanted_yes _ _ rfl rfl) rfl ?_; simp only [Act.put, Act.eval, Array.getD_eq_getD_getElem?, List.getElem?_toArray, List.getElem?_cons_succ, List.getElem?_cons_zero, Option.getD_some, List.setIfInBounds_toArray, List.set_cons_zero, List.set_cons_succ])
                        | (refine wk_assign _ (by first | exact wanted_none rfl | exact wanted_yes _ _ rfl rfl) rfl ?_; simp only [Act.put, Act.eval, Array.getD_eq_getD_getElem?, List.getElem?_toArray, List.getElem?_cons_succ, List.getElem?_cons_zero, Option.getD_some, List.setIfInBounds_toArray, List.set_cons_zero, List.set_cons_succ])
                        | (refine wk_pickt _ _ _ _ (by first | exact wanted_none rfl | exact wanted_yes _ _ rfl rfl) rfl rfl rfl ?_; simp only [Act.put, Act.eval, Array.getD_eq_getD_getElem?, List.getElem?_toArray, List.getElem?_cons_succ, List.getElem?_cons_zero, Option.getD_some, List.setIfInBounds_toArray, List.set_cons_zero, List.set_cons_succ])
                        | (refine wk_pickf _ _ _ _ (by first | exact wanted_none rfl | exact wanted_yes _ _ rfl rfl) rfl rfl rfl ?_; simp only [Act.put, Act.eval, Array.getD_eq_getD_getElem?, List.getElem?_toArray, List.getElem?_cons_succ, List.getElem?_cons_zero, Option.getD_some, List.setIfInBounds_toArray, List.set_cons_zero, List.set_cons_succ])
                        | (refine wk_skip (wanted_not _ true false rfl rfl rfl) ?_; simp only [Act.put, List.setIfInBounds_toArray, List.set_cons_zero, List.set_cons_succ])
                        | (refine wk_skip (wanted_not _ false true rfl rfl rfl) ?_; simp only [Act.put, List.setIfInBounds_toArray, List.set_cons_zero, List.set_cons_succ])
                        | (refine wk_skip (wanted_undef _ _ rfl rfl) ?_; simp only [Act.put, List.setIfInBounds_toArray, List.set_cons_zero, List.set_cons_succ])
                        | (refine wk_not true _ _ (by first | exact wanted_none rfl | exact wanted_yes _ _ rfl rfl) rfl rfl ?_; simp only [Act.put, List.setIfInBounds_toArray, List.set_cons_zero, List.set_cons_succ])
                        | (refine wk_not false _ _ (by first | exact wanted_none rfl | exact wanted_yes _ _ rfl rfl) rfl rfl ?_; simp only [Act.put, List.setIfInBounds_toArray, List.set_cons_zero, List.set_cons_succ]))
                      refine wk_mulk .i64 _ _ _ _ _ _ _ (by first | exact wanted_none rfl | exact wanted_yes _ _ rfl rfl) rfl rfl rfl (HMU.out) ?_
                      simp only [Act.put, List.setIfInBounds_toArray, List.set_cons_zero, List.set_cons_succ]
                      refine wk_index_arr _ _ _ _ _ (p) (256) .i64 (by kernel_rfl) rfl Try.underlying23 sizeU8 rfl rfl (HP256.out) ?_
                      simp only [Act.put, List.setIfInBounds_toArray, List.set_cons_zero, List.set_cons_succ]
                      refine wk_load1 _ _ _ _ _ rfl (by kernel_rfl) rfl rfl (fun w' hC => hC.cell (R11.out.cell 3 p rfl KX.out)) Try.underlying5 ?_
                      simp only [Act.put, List.setIfInBounds_toArray, List.set_cons_zero, List.set_cons_succ]
                      refine wk_eql_int r0 _ _ _ _ _ _ _ (by kernel_rfl) rfl rfl rfl (HR0.out) ?_
                      simp only [Act.put, List.setIfInBounds_toArray, List.set_cons_zero, List.set_cons_succ]
                      repeat (first
                        | (refine wk_move _ (by first | exact wanted_none rfl | exact wanted_yes _ _ rfl rfl) rfl ?_; simp only [Act.put, Act.eval, Array.getD_eq_getD_getElem?, List.getElem?_toArray, List.getElem?_cons_succ, List.getElem?_cons_zero, Option.getD_some, List.setIfInBounds_toArray, List.set_cons_zero, List.set_cons_succ])
                        | (refine wk_assign _ (by first | exact wanted_none rfl | exact wanted_yes _ _ rfl rfl) rfl ?_; simp only [Act.put, Act.eval, Array.getD_eq_getD_getElem?, List.getElem?_toArray, List.getElem?_cons_succ, List.getElem?_cons_zero, Option.getD_some, List.setIfInBounds_toArray, List.set_cons_zero, List.set_cons_succ])
                        | (refine wk_pickt _ _ _ _ (by first | exact wanted_none rfl | exact wanted_yes _ _ rfl rfl) rfl rfl rfl ?_; simp only [Act.put, Act.eval, Array.getD_eq_getD_getElem?, List.getElem?_toArray, List.getElem?_cons_succ, List.getElem?_cons_zero, Option.getD_some, List.setIfInBounds_toArray, List.set_cons_zero, List.set_cons_succ])
                        | (refine wk_pickf _ _ _ _ (by first | exact wanted_none rfl | exact wanted_yes _ _ rfl rfl) rfl rfl rfl ?_; simp only [Act.put, Act.eval, Array.getD_eq_getD_getElem?, List.getElem?_toArray, List.getElem?_cons_succ, List.getElem?_cons_zero, Option.getD_some, List.setIfInBounds_toArray, List.set_cons_zero, List.set_cons_succ])
                        | (refine wk_skip (wanted_not _ true false rfl rfl rfl) ?_; simp only [Act.put, List.setIfInBounds_toArray, List.set_cons_zero, List.set_cons_succ])
                        | (refine wk_skip (wanted_not _ false true rfl rfl rfl) ?_; simp only [Act.put, List.setIfInBounds_toArray, List.set_cons_zero, List.set_cons_succ])
                        | (refine wk_skip (wanted_undef _ _ rfl rfl) ?_; simp only [Act.put, List.setIfInBounds_toArray, List.set_cons_zero, List.set_cons_succ])
                        | (refine wk_not true _ _ (by first | exact wanted_none rfl | exact wanted_yes _ _ rfl rfl) rfl rfl ?_; simp only [Act.put, List.setIfInBounds_toArray, List.set_cons_zero, List.set_cons_succ])
                        | (refine wk_not false _ _ (by first | exact wanted_none rfl | exact wanted_yes _ _ rfl rfl) rfl rfl ?_; simp only [Act.put, List.setIfInBounds_toArray, List.set_cons_zero, List.set_cons_succ]))
                      refine wk_nil ?_
                      intro w' hC
                      have R12 := Lib.hid (R11.out.since hC)
                      clear hC R11
                      go_wp2_with fail
                      obtain ⟨wp, rfl⟩ : ∃ wp : World, wp = w' := ⟨_, rfl⟩
                      go_loopw [27, 28] (fun t i wr => ∃ (ji : Nat) (b : Bool), ji ≤ j ∧ i = .int .i64 (ji : Int) ∧ t = .bool b ∧ crIs l y p zc xc ji b ∧ Held w wr (rowT b9 (blk B) 23 :: rowT b8 (blk Bz) 23 :: rowT b7 (blk B) 23 :: rowT b6 (blk Bx) 23 :: rowT b5 (blk B) 23 :: dvT g4 s4 :: dvT g3 s3 :: dvT g2 s2 :: dvT g1 s1 :: dvT g s :: tl2)) (fun _ i _ => j - (intOf i).toNat)
                      case atStart => exact ⟨0, r0, by omega, rfl, rfl, crIs_start l y p zc xc r0 HR0.out, R12.out⟩
                      case round =>
                        obtain ⟨ji, t, hj, rfl, rfl, hcr, hR⟩ := hrel
                        have R13 := Lib.hid hR
                        have HCR := Lib.hid hcr
                        clear hR R12 hcr
                        by_cases hjn : ji < j
                        · obtain ⟨b, off, hA, hb, hr⟩ := HL.out.cells ji (by rw [HL.out.len]; exact hjn)
                          subst hA
                          have hjl : ji < l.length := by rw [HL.out.len]; exact hjn
                          obtain ⟨x, hx⟩ : ∃ x, x = l[ji] := ⟨_, rfl⟩
                          rw [← hx] at hr
                          have HBL2 : Hid (b < wr.heap.size) := Lib.hid (Nat.lt_of_lt_of_le hb R13.out.below.size)
                          have HRG : Hid (wr.rangeAt b (off + ji * 5) (actV x).toList) := Lib.hid (fun i v hv => (R13.out.below.cell hb).trans (hr i v hv))
                          have HC1 : Hid (wr.cell? ⟨b, off + ji * 5 + 1, none⟩ = some (.int .u32 (x.a : Int))) := Lib.hid ((R13.out.below.cell hb).trans (rangeAt_cell hr 1 _ rfl))
                          have HST : Hid (t = false → ∀ u, (x.a = y → zc = (actB x.c).getD p 0 → u = true) → crIs l y p zc xc (ji + 1) u) := Lib.hid (fun e u hu => crIs_step (by rw [← e]; exact HCR.out) hjl u (by rw [← hx]; exact hu))
                          clear hr hb hjl hx
                          cases t with
                          | true =>
                            go_wp2_with fail
                            refine wk_region_since (by kernel_rfl) (by kernel_rfl) ?_
                            repeat (first
                              | (refine wk_move _ (by first | exact wanted_none rfl | exact wanted_yes _ _ rfl rfl) rfl ?_; simp only [Act.put, Act.eval, Array.getD_eq_getD_getElem?, List.getElem?_toArray, List.getElem?_cons_succ, List.getElem?_cons_zero, Option.getD_some, List.setIfInBounds_toArray, List.set_cons_zero, List.set_cons_succ])
                              | (refine wk_assign _ (by first | exact wanted_none rfl | exact wanted_yes _ _ rfl rfl) rfl ?_; simp only [Act.put, Act.eval, Array.getD_eq_getD_getElem?, List.getElem?_toArray, List.getElem?_cons_succ, List.getElem?_cons_zero, Option.getD_some, List.setIfInBounds_toArray, List.set_cons_zero, List.set_cons_succ])
                              | (refine wk_pickt _ _ _ _ (by first | exact wanted_none rfl | exact wanted_yes _ _ rfl rfl) rfl rfl rfl ?_; simp only [Act.put, Act.eval, Array.getD_eq_getD_getElem?, List.getElem?_toArray, List.getElem?_cons_succ, List.getElem?_cons_zero, Option.getD_some, List.setIfInBounds_toArray, List.set_cons_zero, List.set_cons_succ])
                              | (refine wk_pickf _ _ _ _ (by first | exact wanted_none rfl | exact wanted_yes _ _ rfl rfl) rfl rfl rfl ?_; simp only [Act.put, Act.eval, Array.getD_eq_getD_getElem?, List.getElem?_toArray, List.getElem?_cons_succ, List.getElem?_cons_zero, Option.getD_some, List.setIfInBounds_toArray, List.set_cons_zero, List.set_cons_succ])
                              | (refine wk_skip (wanted_not _ true false rfl rfl rfl) ?_; simp only [Act.put, List.setIfInBounds_toArray, List.set_cons_zero, List.set_cons_succ])
                              | (refine wk_skip (wanted_not _ false true rfl rfl rfl) ?_; simp only [Act.put, List.setIfInBounds_toArray, List.set_cons_zero, List.set_cons_succ])
                              | (refine wk_skip (wanted_undef _ _ rfl rfl) ?_; simp only [Act.put, List.setIfInBounds_toArray, List.set_cons_zero, List.set_cons_succ])
                              | (refine wk_not true _ _ (by first | exact wanted_none rfl | exact wanted_yes _ _ rfl rfl) rfl rfl ?_; simp only [Act.put, List.setIfInBounds_toArray, List.set_cons_zero, List.set_cons_succ])
                              | (refine wk_not false _ _ (by first | exact wanted_none rfl | exact wanted_yes _ _ rfl rfl) rfl rfl ?_; simp only [Act.put, List.setIfInBounds_toArray, List.set_cons_zero, List.set_cons_succ]))
                            refine wk_nil ?_
                            intro w' hC
                            have R14 := Lib.hid (R13.out.since hC)
                            clear hC R13
                            go_wp2_with fail
                            exact ⟨⟨ji + 1, true, by omega, by simp, rfl, crIs_true _ _ _ _ _ _, R14.out⟩, by simp [intOf]; omega⟩
                          | false =>
                            have HST2 := Lib.hid (HST.out rfl)
                            clear HST HCR
                            by_cases hxy : x.a = y
                            · have HEQ : Hid (((x.a : Int) == (y : Int)) = true) := Lib.hid (by simp [hxy])
                              obtain ⟨bc, hbc⟩ : ∃ c, c = (actB x.c).getD p 0 := ⟨_, rfl⟩
                              have KB : Hid ((blk (actB x.c))[p]? = some (.int .u8 (bc.toNat : Int))) := Lib.hid (by rw [hbc]; exact blk_atC _ p (by rw [length_actB]; exact HP256.out))
                              obtain ⟨r1, hr1⟩ : ∃ r, ((zc.toNat : Int) == (bc.toNat : Int)) = r := ⟨_, rfl⟩
                              have HR1 := Lib.hid hr1
                              have HST3 : Hid (crIs l y p zc xc (ji + 1) r1) := Lib.hid (HST2.out r1 (fun _ e => by rw [← hr1, e, hbc]; simp))
                              clear hxy hbc hr1 HST2
                              go_wp2_with fail
                              refine wk_region_since (by kernel_rfl) (by kernel_rfl) ?_
                              repeat (first
                                | (refine wk_move _ (by first | exact wanted_none rfl | exact wanted_yes _ _ rfl rfl) rfl ?_; simp only [Act.put, Act.eval, Array.getD_eq_getD_getElem?, List.getElem?_toArray, List.getElem?_cons_succ, List.getElem?_cons_zero, Option.getD_some, List.setIfInBounds_toArray, List.set_cons_zero, List.set_cons_succ])
                                | (refine wk_assign _ (by first | exact wanted_none rfl | exact wanted_yes _ _ rfl rfl) rfl ?_; simp only [Act.put, Act.eval, Array.getD_eq_getD_getElem?, List.getElem?_toArray, List.getElem?_cons_succ, List.getElem?_cons_zero, Option.getD_some, List.setIfInBounds_toArray, List.set_cons_zero, List.set_cons_succ])
                                | (refine wk_pickt _ _ _ _ (by first | exact wanted_none rfl | exact wanted_yes _ _ rfl rfl) rfl rfl rfl ?_; simp only [Act.put, Act.eval, Array.getD_eq_getD_getElem?, List.getElem?_toArray, List.getElem?_cons_succ, List.getElem?_cons_zero, Option.getD_some, List.setIfInBounds_toArray, List.set_cons_zero, List.set_cons_succ])
                                | (refine wk_pickf _ _ _ _ (by first | exact wanted_none rfl | exact wanted_yes _ _ rfl rfl) rfl rfl rfl ?_; simp only [Act.put, Act.eval, Array.getD_eq_getD_getElem?, List.getElem?_toArray, List.getElem?_cons_succ, List.getElem?_cons_zero, Option.getD_some, List.setIfInBounds_toArray, List.set_cons_zero, List.set_cons_succ])
                                | (refine wk_skip (wanted_not _ true false rfl rfl rfl) ?_; simp only [Act.put, List.setIfInBounds_toArray, List.set_cons_zero, List.set_cons_succ])
                                | (refine wk_skip (wanted_not _ false true rfl rfl rfl) ?_; simp only [Act.put, List.setIfInBounds_toArray, List.set_cons_zero, List.set_cons_succ])
                                | (refine wk_skip (wanted_undef _ _ rfl rfl) ?_; simp only [Act.put, List.setIfInBounds_toArray, List.set_cons_zero, List.set_cons_succ])
                                | (refine wk_not true _ _ (by first | exact wanted_none rfl | exact wanted_yes _ _ rfl rfl) rfl rfl ?_; simp only [Act.put, List.setIfInBounds_toArray, List.set_cons_zero, List.set_cons_succ])
                                | (refine wk_not false _ _ (by first | exact wanted_none rfl | exact wanted_yes _ _ rfl rfl) rfl rfl ?_; simp only [Act.put, List.setIfInBounds_toArray, List.set_cons_zero, List.set_cons_succ]))
                              refine wk_index 55 63 _ _ b off j c ji 5 .i64 (by first | exact wanted_none rfl | exact wanted_yes _ _ rfl rfl) rfl Try.underlying55 sizeAct rfl rfl hjn ?_
                              simp only [Act.put, List.setIfInBounds_toArray, List.set_cons_zero, List.set_cons_succ]
                              refine wk_field 63 _ 25 1 0 _ _ _ (by first | exact wanted_none rfl | exact wanted_yes _ _ rfl rfl) rfl (by kernel_rfl) (by kernel_rfl) (by kernel_rfl) rfl ?_
                              simp only [Act.put, List.setIfInBounds_toArray, List.set_cons_zero, List.set_cons_succ, Nat.zero_add]
                              refine wk_load1 _ _ _ _ _ rfl (by kernel_rfl) rfl rfl (fun w' hC => hC.cell HC1.out) Try.underlying25 ?_
                              simp only [Act.put, List.setIfInBounds_toArray, List.set_cons_zero, List.set_cons_succ]
                              repeat (first
                                | (refine wk_move _ (by first | exact wanted_none rfl | exact wanted_yes _ _ rfl rfl) rfl ?_; simp only [Act.put, Act.eval, Array.getD_eq_getD_getElem?, List.getElem?_toArray, List.getElem?_cons_succ, List.getElem?_cons_zero, Option.getD_some, List.setIfInBounds_toArray, List.set_cons_zero, List.set_cons_succ])
                                | (refine wk_assign _ (by first | exact wanted_none rfl | exact wanted_yes _ _ rfl rfl) rfl ?_; simp only [Act.put, Act.eval, Array.getD_eq_getD_getElem?, List.getElem?_toArray, List.getElem?_cons_succ, List.getElem?_cons_zero, Option.getD_some, List.setIfInBounds_toArray, List.set_cons_zero, List.set_cons_succ])
                                | (refine wk_pickt _ _ _ _ (by first | exact wanted_none rfl | exact wanted_yes _ _ rfl rfl) rfl rfl rfl ?_; simp only [Act.put, Act.eval, Array.getD_eq_getD_getElem?, List.getElem?_toArray, List.getElem?_cons_succ, List.getElem?_cons_zero, Option.getD_some, List.setIfInBounds_toArray, List.set_cons_zero, List.set_cons_succ])
                                | (refine wk_pickf _ _ _ _ (by first | exact wanted_none rfl | exact wanted_yes _ _ rfl rfl) rfl rfl rfl ?_; simp only [Act.put, Act.eval, Array.getD_eq_getD_getElem?, List.getElem?_toArray, List.getElem?_cons_succ, List.getElem?_cons_zero, Option.getD_some, List.setIfInBounds_toArray, List.set_cons_zero, List.set_cons_succ])
                                | (refine wk_skip (wanted_not _ true false rfl rfl rfl) ?_; simp only [Act.put, List.setIfInBounds_toArray, List.set_cons_zero, List.set_cons_succ])
                                | (refine wk_skip (wanted_not _ false true rfl rfl rfl) ?_; simp only [Act.put, List.setIfInBounds_toArray, List.set_cons_zero, List.set_cons_succ])
                                | (refine wk_skip (wanted_undef _ _ rfl rfl) ?_; simp only [Act.put, List.setIfInBounds_toArray, List.set_cons_zero, List.set_cons_succ])
                                | (refine wk_not true _ _ (by first | exact wanted_none rfl | exact wanted_yes _ _ rfl rfl) rfl rfl ?_; simp only [Act.put, List.setIfInBounds_toArray, List.set_cons_zero, List.set_cons_succ])
                                | (refine wk_not false _ _ (by first | exact wanted_none rfl | exact wanted_yes _ _ rfl rfl) rfl rfl ?_; simp only [Act.put, List.setIfInBounds_toArray, List.set_cons_zero, List.set_cons_succ]))
                              refine wk_eql_int true _ _ _ _ _ _ _ (by kernel_rfl) rfl rfl rfl (HEQ.out) ?_
                              simp only [Act.put, List.setIfInBounds_toArray, List.set_cons_zero, List.set_cons_succ]
                              repeat (first
                                | (refine wk_move _ (by first | exact wanted_none rfl | exact wanted_yes _ _ rfl rfl) rfl ?_; simp only [Act.put, Act.eval, Array.getD_eq_getD_getElem?, List.getElem?_toArray, List.getElem?_cons_succ, List.getElem?_cons_zero, Option.getD_some, List.setIfInBounds_toArray, List.set_cons_zero, List.set_cons_succ])
                                | (refine wk_assign _ (by first | exact wanted_none rfl | exact wanted_yes _ _ rfl rfl) rfl ?_; simp only [Act.put, Act.eval, Array.getD_eq_getD_getElem?, List.getElem?_toArray, List.getElem?_cons_succ, List.getElem?_cons_zero, Option.getD_some, List.setIfInBounds_toArray, List.set_cons_zero, List.set_cons_succ])
                                | (refine wk_pickt _ _ _ _ (by first | exact wanted_none rfl | exact wanted_yes _ _ rfl rfl) rfl rfl rfl ?_; simp only [Act.put, Act.eval, Array.getD_eq_getD_getElem?, List.getElem?_toArray, List.getElem?_cons_succ, List.getElem?_cons_zero, Option.getD_some, List.setIfInBounds_toArray, List.set_cons_zero, List.set_cons_succ])
                                | (refine wk_pickf _ _ _ _ (by first | exact wanted_none rfl | exact wanted_yes _ _ rfl rfl) rfl rfl rfl ?_; simp only [Act.put, Act.eval, Array.getD_eq_getD_getElem?, List.getElem?_toArray, List.getElem?_cons_succ, List.getElem?_cons_zero, Option.getD_some, List.setIfInBounds_toArray, List.set_cons_zero, List.set_cons_succ])
                                | (refine wk_skip (wanted_not _ true false rfl rfl rfl) ?_; simp only [Act.put, List.setIfInBounds_toArray, List.set_cons_zero, List.set_cons_succ])
                                | (refine wk_skip (wanted_not _ false true rfl rfl rfl) ?_; simp only [Act.put, List.setIfInBounds_toArray, List.set_cons_zero, List.set_cons_succ])
                                | (refine wk_skip (wanted_undef _ _ rfl rfl) ?_; simp only [Act.put, List.setIfInBounds_toArray, List.set_cons_zero, List.set_cons_succ])
                                | (refine wk_not true _ _ (by first | exact wanted_none rfl | exact wanted_yes _ _ rfl rfl) rfl rfl ?_; simp only [Act.put, List.setIfInBounds_toArray, List.set_cons_zero, List.set_cons_succ])
                                | (refine wk_not false _ _ (by first | exact wanted_none rfl | exact wanted_yes _ _ rfl rfl) rfl rfl ?_; simp only [Act.put, List.setIfInBounds_toArray, List.set_cons_zero, List.set_cons_succ]))
                              refine wk_mulk .i64 _ _ _ _ _ _ _ (by first | exact wanted_none rfl | exact wanted_yes _ _ rfl rfl) rfl rfl rfl (HMU.out) ?_
                              simp only [Act.put, List.setIfInBounds_toArray, List.set_cons_zero, List.set_cons_succ]
                              refine wk_index_arr _ _ _ _ _ (p) (256) .i64 (by kernel_rfl) rfl Try.underlying23 sizeU8 rfl rfl (HP256.out) ?_
                              simp only [Act.put, List.setIfInBounds_toArray, List.set_cons_zero, List.set_cons_succ]
                              refine wk_load1 _ _ _ _ _ rfl (by kernel_rfl) rfl rfl (fun w' hC => hC.cell (R13.out.cell 1 p rfl KZ.out)) Try.underlying5 ?_
                              simp only [Act.put, List.setIfInBounds_toArray, List.set_cons_zero, List.set_cons_succ]
                              repeat (first
                                | (refine wk_move _ (by first | exact wanted_none rfl | exact wanted_yes _ _ rfl rfl) rfl ?_; simp only [Act.put, Act.eval, Array.getD_eq_getD_getElem?, List.getElem?_toArray, List.getElem?_cons_succ, List.getElem?_cons_zero, Option.getD_some, List.setIfInBounds_toArray, List.set_cons_zero, List.set_cons_succ])
                                | (refine wk_assign _ (by first | exact wanted_none rfl | exact wanted_yes _ _ rfl rfl) rfl ?_; simp only [Act.put, Act.eval, Array.getD_eq_getD_getElem?, List.getElem?_toArray, List.getElem?_cons_succ, List.getElem?_cons_zero, Option.getD_some, List.setIfInBounds_toArray, List.set_cons_zero, List.set_cons_succ])
                                | (refine wk_pickt _ _ _ _ (by first | exact wanted_none rfl | exact wanted_yes _ _ rfl rfl) rfl rfl rfl ?_; simp only [Act.put, Act.eval, Array.getD_eq_getD_getElem?, List.getElem?_toArray, List.getElem?_cons_succ, List.getElem?_cons_zero, Option.getD_some, List.setIfInBounds_toArray, List.set_cons_zero, List.set_cons_succ])
                                | (refine wk_pickf _ _ _ _ (by first | exact wanted_none rfl | exact wanted_yes _ _ rfl rfl) rfl rfl rfl ?_; simp only [Act.put, Act.eval, Array.getD_eq_getD_getElem?, List.getElem?_toArray, List.getElem?_cons_succ, List.getElem?_cons_zero, Option.getD_some, List.setIfInBounds_toArray, List.set_cons_zero, List.set_cons_succ])
                                | (refine wk_skip (wanted_not _ true false rfl rfl rfl) ?_; simp only [Act.put, List.setIfInBounds_toArray, List.set_cons_zero, List.set_cons_succ])
                                | (refine wk_skip (wanted_not _ false true rfl rfl rfl) ?_; simp only [Act.put, List.setIfInBounds_toArray, List.set_cons_zero, List.set_cons_succ])
                                | (refine wk_skip (wanted_undef _ _ rfl rfl) ?_; simp only [Act.put, List.setIfInBounds_toArray, List.set_cons_zero, List.set_cons_succ])
                                | (refine wk_not true _ _ (by first | exact wanted_none rfl | exact wanted_yes _ _ rfl rfl) rfl rfl ?_; simp only [Act.put, List.setIfInBounds_toArray, List.set_cons_zero, List.set_cons_succ])
                                | (refine wk_not false _ _ (by first | exact wanted_none rfl | exact wanted_yes _ _ rfl rfl) rfl rfl ?_; simp only [Act.put, List.setIfInBounds_toArray, List.set_cons_zero, List.set_cons_succ]))
                              refine wk_index 55 63 _ _ b off j c ji 5 .i64 (by first | exact wanted_none rfl | exact wanted_yes _ _ rfl rfl) rfl Try.underlying55 sizeAct rfl rfl hjn ?_
                              simp only [Act.put, List.setIfInBounds_toArray, List.set_cons_zero, List.set_cons_succ]
                              refine wk_load_mid 63 _ b (off + ji * 5) (actV x) _ (by first | exact wanted_none rfl | exact wanted_yes _ _ rfl rfl) rfl rfl (fun w' hC => (fun i v hv => (Below.cell hC HBL2.out).trans (HRG.out i v hv))) Try.underlying63 rfl (sizeAct) ?_
                              simp only [Act.put, List.setIfInBounds_toArray, List.set_cons_zero, List.set_cons_succ]
                              refine wk_call 44 _ _ _ _ _ (by kernel_rfl) rfl Try.func44 rfl (by kernel_rfl) (fun w' hC => hC.call (block_any x w')) ?_
                              simp only [Act.put, List.setIfInBounds_toArray, List.set_cons_zero, List.set_cons_succ]
                              repeat (first
                                | (refine wk_move _ (by first | exact wanted_none rfl | exact wanted_yes _ _ rfl rfl) rfl ?_; simp only [Act.put, Act.eval, Array.getD_eq_getD_getElem?, List.getElem?_toArray, List.getElem?_cons_succ, List.getElem?_cons_zero, Option.getD_some, List.setIfInBounds_toArray, List.set_cons_zero, List.set_cons_succ])
                                | (refine wk_assign _ (by first | exact wanted_none rfl | exact wanted_yes _ _ rfl rfl) rfl ?_; simp only [Act.put, Act.eval, Array.getD_eq_getD_getElem?, List.getElem?_toArray, List.getElem?_cons_succ, List.getElem?_cons_zero, Option.getD_some, List.setIfInBounds_toArray, List.set_cons_zero, List.set_cons_succ])
                                | (refine wk_pickt _ _ _ _ (by first | exact wanted_none rfl | exact wanted_yes _ _ rfl rfl) rfl rfl rfl ?_; simp only [Act.put, Act.eval, Array.getD_eq_getD_getElem?, List.getElem?_toArray, List.getElem?_cons_succ, List.getElem?_cons_zero, Option.getD_some, List.setIfInBounds_toArray, List.set_cons_zero, List.set_cons_succ])
                                | (refine wk_pickf _ _ _ _ (by first | exact wanted_none rfl | exact wanted_yes _ _ rfl rfl) rfl rfl rfl ?_; simp only [Act.put, Act.eval, Array.getD_eq_getD_getElem?, List.getElem?_toArray, List.getElem?_cons_succ, List.getElem?_cons_zero, Option.getD_some, List.setIfInBounds_toArray, List.set_cons_zero, List.set_cons_succ])
                                | (refine wk_skip (wanted_not _ true false rfl rfl rfl) ?_; simp only [Act.put, List.setIfInBounds_toArray, List.set_cons_zero, List.set_cons_succ])
                                | (refine wk_skip (wanted_not _ false true rfl rfl rfl) ?_; simp only [Act.put, List.setIfInBounds_toArray, List.set_cons_zero, List.set_cons_succ])
                                | (refine wk_skip (wanted_undef _ _ rfl rfl) ?_; simp only [Act.put, List.setIfInBounds_toArray, List.set_cons_zero, List.set_cons_succ])
                                | (refine wk_not true _ _ (by first | exact wanted_none rfl | exact wanted_yes _ _ rfl rfl) rfl rfl ?_; simp only [Act.put, List.setIfInBounds_toArray, List.set_cons_zero, List.set_cons_succ])
                                | (refine wk_not false _ _ (by first | exact wanted_none rfl | exact wanted_yes _ _ rfl rfl) rfl rfl ?_; simp only [Act.put, List.setIfInBounds_toArray, List.set_cons_zero, List.set_cons_succ]))
                              refine wk_mulk .i64 _ _ _ _ _ _ _ (by first | exact wanted_none rfl | exact wanted_yes _ _ rfl rfl) rfl rfl rfl (HMU.out) ?_
                              simp only [Act.put, List.setIfInBounds_toArray, List.set_cons_zero, List.set_cons_succ]
                              refine wk_index_val 23 5 256 _ .i64 p _ _ _ _ (by first | exact wanted_none rfl | exact wanted_yes _ _ rfl rfl) rfl rfl rfl Try.underlying23 Try.underlying5 rfl sizeU8 HP256.out KB.out ?_
                              simp only [Act.put, List.setIfInBounds_toArray, List.set_cons_zero, List.set_cons_succ]
                              refine wk_eql_int r1 _ _ _ _ _ _ _ (by kernel_rfl) rfl rfl rfl (HR1.out) ?_
                              simp only [Act.put, List.setIfInBounds_toArray, List.set_cons_zero, List.set_cons_succ]
                              repeat (first
                                | (refine wk_move _ (by first | exact wanted_none rfl | exact wanted_yes _ _ rfl rfl) rfl ?_; simp only [Act.put, Act.eval, Array.getD_eq_getD_getElem?, List.getElem?_toArray, List.getElem?_cons_succ, List.getElem?_cons_zero, Option.getD_some, List.setIfInBounds_toArray, List.set_cons_zero, List.set_cons_succ])
                                | (refine wk_assign _ (by first | exact wanted_none rfl | exact wanted_yes _ _ rfl rfl) rfl ?_; simp only [Act.put, Act.eval, Array.getD_eq_getD_getElem?, List.getElem?_toArray, List.getElem?_cons_succ, List.getElem?_cons_zero, Option.getD_some, List.setIfInBounds_toArray, List.set_cons_zero, List.set_cons_succ])
                                | (refine wk_pickt _ _ _ _ (by first | exact wanted_none rfl | exact wanted_yes _ _ rfl rfl) rfl rfl rfl ?_; simp only [Act.put, Act.eval, Array.getD_eq_getD_getElem?, List.getElem?_toArray, List.getElem?_cons_succ, List.getElem?_cons_zero, Option.getD_some, List.setIfInBounds_toArray, List.set_cons_zero, List.set_cons_succ])
                                | (refine wk_pickf _ _ _ _ (by first | exact wanted_none rfl | exact wanted_yes _ _ rfl rfl) rfl rfl rfl ?_; simp only [Act.put, Act.eval, Array.getD_eq_getD_getElem?, List.getElem?_toArray, List.getElem?_cons_succ, List.getElem?_cons_zero, Option.getD_some, List.setIfInBounds_toArray, List.set_cons_zero, List.set_cons_succ])
                                | (refine wk_skip (wanted_not _ true false rfl rfl rfl) ?_; simp only [Act.put, List.setIfInBounds_toArray, List.set_cons_zero, List.set_cons_succ])
                                | (refine wk_skip (wanted_not _ false true rfl rfl rfl) ?_; simp only [Act.put, List.setIfInBounds_toArray, List.set_cons_zero, List.set_cons_succ])
                                | (refine wk_skip (wanted_undef _ _ rfl rfl) ?_; simp only [Act.put, List.setIfInBounds_toArray, List.set_cons_zero, List.set_cons_succ])
                                | (refine wk_not true _ _ (by first | exact wanted_none rfl | exact wanted_yes _ _ rfl rfl) rfl rfl ?_; simp only [Act.put, List.setIfInBounds_toArray, List.set_cons_zero, List.set_cons_succ])
                                | (refine wk_not false _ _ (by first | exact wanted_none rfl | exact wanted_yes _ _ rfl rfl) rfl rfl ?_; simp only [Act.put, List.setIfInBounds_toArray, List.set_cons_zero, List.set_cons_succ]))
                              refine wk_nil ?_
                              intro w' hC
                              have R14 := Lib.hid (R13.out.since hC)
                              clear hC R13
                              go_wp2_with fail
                              exact ⟨⟨ji + 1, r1, by omega, by simp, rfl, HST3.out, R14.out⟩, by simp [intOf]; omega⟩
                            · have HEQ : Hid (((x.a : Int) == (y : Int)) = false) := Lib.hid (by
                                have : ¬ (x.a : Int) = (y : Int) := by omega
                                simp [this])
                              have HST3 : Hid (crIs l y p zc xc (ji + 1) false) := Lib.hid (HST2.out false (fun e => absurd e hxy))
                              clear hxy HST2
                              go_wp2_with fail
                              refine wk_region_since (by kernel_rfl) (by kernel_rfl) ?_
                              repeat (first
                                | (refine wk_move _ (by first | exact wanted_none rfl | exact wanted_yes _ _ rfl rfl) rfl ?_; simp only [Act.put, Act.eval, Array.getD_eq_getD_getElem?, List.getElem?_toArray, List.getElem?_cons_succ, List.getElem?_cons_zero, Option.getD_some, List.setIfInBounds_toArray, List.set_cons_zero, List.set_cons_succ])
                                | (refine wk_assign _ (by first | exact wanted_none rfl | exact wanted_yes _ _ rfl rfl) rfl ?_; simp only [Act.put, Act.eval, Array.getD_eq_getD_getElem?, List.getElem?_toArray, List.getElem?_cons_succ, List.getElem?_cons_zero, Option.getD_some, List.setIfInBounds_toArray, List.set_cons_zero, List.set_cons_succ])
                                | (refine wk_pickt _ _ _ _ (by first | exact wanted_none rfl | exact wanted_yes _ _ rfl rfl) rfl rfl rfl ?_; simp only [Act.put, Act.eval, Array.getD_eq_getD_getElem?, List.getElem?_toArray, List.getElem?_cons_succ, List.getElem?_cons_zero, Option.getD_some, List.setIfInBounds_toArray, List.set_cons_zero, List.set_cons_succ])
                                | (refine wk_pickf _ _ _ _ (by first | exact wanted_none rfl | exact wanted_yes _ _ rfl rfl) rfl rfl rfl ?_; simp only [Act.put, Act.eval, Array.getD_eq_getD_getElem?, List.getElem?_toArray, List.getElem?_cons_succ, List.getElem?_cons_zero, Option.getD_some, List.setIfInBounds_toArray, List.set_cons_zero, List.set_cons_succ])
                                | (refine wk_skip (wanted_not _ true false rfl rfl rfl) ?_; simp only [Act.put, List.setIfInBounds_toArray, List.set_cons_zero, List.set_cons_succ])
                                | (refine wk_skip (wanted_not _ false true rfl rfl rfl) ?_; simp only [Act.put, List.setIfInBounds_toArray, List.set_cons_zero, List.set_cons_succ])
                                | (refine wk_skip (wanted_undef _ _ rfl rfl) ?_; simp only [Act.put, List.setIfInBounds_toArray, List.set_cons_zero, List.set_cons_succ])
                                | (refine wk_not true _ _ (by first | exact wanted_none rfl | exact wanted_yes _ _ rfl rfl) rfl rfl ?_; simp only [Act.put, List.setIfInBounds_toArray, List.set_cons_zero, List.set_cons_succ])
                                | (refine wk_not false _ _ (by first | exact wanted_none rfl | exact wanted_yes _ _ rfl rfl) rfl rfl ?_; simp only [Act.put, List.setIfInBounds_toArray, List.set_cons_zero, List.set_cons_succ]))
                              refine wk_index 55 63 _ _ b off j c ji 5 .i64 (by first | exact wanted_none rfl | exact wanted_yes _ _ rfl rfl) rfl Try.underlying55 sizeAct rfl rfl hjn ?_
                              simp only [Act.put, List.setIfInBounds_toArray, List.set_cons_zero, List.set_cons_succ]
                              refine wk_field 63 _ 25 1 0 _ _ _ (by first | exact wanted_none rfl | exact wanted_yes _ _ rfl rfl) rfl (by kernel_rfl) (by kernel_rfl) (by kernel_rfl) rfl ?_
                              simp only [Act.put, List.setIfInBounds_toArray, List.set_cons_zero, List.set_cons_succ, Nat.zero_add]
                              refine wk_load1 _ _ _ _ _ rfl (by kernel_rfl) rfl rfl (fun w' hC => hC.cell HC1.out) Try.underlying25 ?_
                              simp only [Act.put, List.setIfInBounds_toArray, List.set_cons_zero, List.set_cons_succ]
                              repeat (first
                                | (refine wk_move _ (by first | exact wanted_none rfl | exact wanted_yes _ _ rfl rfl) rfl ?_; simp only [Act.put, Act.eval, Array.getD_eq_getD_getElem?, List.getElem?_toArray, List.getElem?_cons_succ, List.getElem?_cons_zero, Option.getD_some, List.setIfInBounds_toArray, List.set_cons_zero, List.set_cons_succ])
                                | (refine wk_assign _ (by first | exact wanted_none rfl | exact wanted_yes _ _ rfl rfl) rfl ?_; simp only [Act.put, Act.eval, Array.getD_eq_getD_getElem?, List.getElem?_toArray, List.getElem?_cons_succ, List.getElem?_cons_zero, Option.getD_some, List.setIfInBounds_toArray, List.set_cons_zero, List.set_cons_succ])
                                | (refine wk_pickt _ _ _ _ (by first | exact wanted_none rfl | exact wanted_yes _ _ rfl rfl) rfl rfl rfl ?_; simp only [Act.put, Act.eval, Array.getD_eq_getD_getElem?, List.getElem?_toArray, List.getElem?_cons_succ, List.getElem?_cons_zero, Option.getD_some, List.setIfInBounds_toArray, List.set_cons_zero, List.set_cons_succ])
                                | (refine wk_pickf _ _ _ _ (by first | exact wanted_none rfl | exact wanted_yes _ _ rfl rfl) rfl rfl rfl ?_; simp only [Act.put, Act.eval, Array.getD_eq_getD_getElem?, List.getElem?_toArray, List.getElem?_cons_succ, List.getElem?_cons_zero, Option.getD_some, List.setIfInBounds_toArray, List.set_cons_zero, List.set_cons_succ])
                                | (refine wk_skip (wanted_not _ true false rfl rfl rfl) ?_; simp only [Act.put, List.setIfInBounds_toArray, List.set_cons_zero, List.set_cons_succ])
                                | (refine wk_skip (wanted_not _ false true rfl rfl rfl) ?_; simp only [Act.put, List.setIfInBounds_toArray, List.set_cons_zero, List.set_cons_succ])
                                | (refine wk_skip (wanted_undef _ _ rfl rfl) ?_; simp only [Act.put, List.setIfInBounds_toArray, List.set_cons_zero, List.set_cons_succ])
                                | (refine wk_not true _ _ (by first | exact wanted_none rfl | exact wanted_yes _ _ rfl rfl) rfl rfl ?_; simp only [Act.put, List.setIfInBounds_toArray, List.set_cons_zero, List.set_cons_succ])
                                | (refine wk_not false _ _ (by first | exact wanted_none rfl | exact wanted_yes _ _ rfl rfl) rfl rfl ?_; simp only [Act.put, List.setIfInBounds_toArray, List.set_cons_zero, List.set_cons_succ]))
                              refine wk_eql_int false _ _ _ _ _ _ _ (by kernel_rfl) rfl rfl rfl (HEQ.out) ?_
                              simp only [Act.put, List.setIfInBounds_toArray, List.set_cons_zero, List.set_cons_succ]
                              repeat (first
                                | (refine wk_move _ (by first | exact wanted_none rfl | exact wanted_yes _ _ rfl rfl) rfl ?_; simp only [Act.put, Act.eval, Array.getD_eq_getD_getElem?, List.getElem?_toArray, List.getElem?_cons_succ, List.getElem?_cons_zero, Option.getD_some, List.setIfInBounds_toArray, List.set_cons_zero, List.set_cons_succ])
                                | (refine wk_assign _ (by first | exact wanted_none rfl | exact wanted_yes _ _ rfl rfl) rfl ?_; simp only [Act.put, Act.eval, Array.getD_eq_getD_getElem?, List.getElem?_toArray, List.getElem?_cons_succ, List.getElem?_cons_zero, Option.getD_some, List.setIfInBounds_toArray, List.set_cons_zero, List.set_cons_succ])
                                | (refine wk_pickt _ _ _ _ (by first | exact wanted_none rfl | exact wanted_yes _ _ rfl rfl) rfl rfl rfl ?_; simp only [Act.put, Act.eval, Array.getD_eq_getD_getElem?, List.getElem?_toArray, List.getElem?_cons_succ, List.getElem?_cons_zero, Option.getD_some, List.setIfInBounds_toArray, List.set_cons_zero, List.set_cons_succ])
                                | (refine wk_pickf _ _ _ _ (by first | exact wanted_none rfl | exact wanted_yes _ _ rfl rfl) rfl rfl rfl ?_; simp only [Act.put, Act.eval, Array.getD_eq_getD_getElem?, List.getElem?_toArray, List.getElem?_cons_succ, List.getElem?_cons_zero, Option.getD_some, List.setIfInBounds_toArray, List.set_cons_zero, List.set_cons_succ])
                                | (refine wk_skip (wanted_not _ true false rfl rfl rfl) ?_; simp only [Act.put, List.setIfInBounds_toArray, List.set_cons_zero, List.set_cons_succ])
                                | (refine wk_skip (wanted_not _ false true rfl rfl rfl) ?_; simp only [Act.put, List.setIfInBounds_toArray, List.set_cons_zero, List.set_cons_succ])
                                | (refine wk_skip (wanted_undef _ _ rfl rfl) ?_; simp only [Act.put, List.setIfInBounds_toArray, List.set_cons_zero, List.set_cons_succ])
                                | (refine wk_not true _ _ (by first | exact wanted_none rfl | exact wanted_yes _ _ rfl rfl) rfl rfl ?_; simp only [Act.put, List.setIfInBounds_toArray, List.set_cons_zero, List.set_cons_succ])
                                | (refine wk_not false _ _ (by first | exact wanted_none rfl | exact wanted_yes _ _ rfl rfl) rfl rfl ?_; simp only [Act.put, List.setIfInBounds_toArray, List.set_cons_zero, List.set_cons_succ]))
                              refine wk_nil ?_
                              intro w' hC
                              have R14 := Lib.hid (R13.out.since hC)
                              clear hC R13
                              go_wp2_with fail
                              exact ⟨⟨ji + 1, false, by omega, by simp, rfl, HST3.out, R14.out⟩, by simp [intOf]; omega⟩
                        · obtain rfl : j = ji := by omega
                          clear hjn hj
                          obtain rfl : t = true := HCR.out (by rw [List.take_of_length_le (by rw [HL.out.len]; exact Nat.le_refl _)]; exact HS.out)
                          have hz : ¬ ((j : Int) < (j : Int)) := by omega
                          go_wp2_with fail
                          exact ⟨⟨q + 1, by omega, by simp, R13.out⟩, by simp [intOf]; omega⟩
                    · obtain rfl : q = 4 := by omega
                      have R11b := Lib.hid (R11.out.drop 5)
                      go_wp2_with fail
                      exact ⟨⟨y + 1, by omega, by simp, R11b.out⟩, by simp [intOf]; omega⟩
                · obtain rfl : y = 64 := by omega
                  go_wp2_with (go_at_call 40; refine (devhead_any _).mono ?_; rintro e w9 ⟨rfl, hb⟩; have HB := Lib.hid (RY.out.call hb); clear hb)
                  go_ret
                  exact ⟨rfl, HB.out.below⟩
end Go.Proofs.Ytnbdnnlomgjlmaa
