/- The shelf layer: the law ShelfOrder holds of every class and every row of bits. -/
import Derived.Test.YtcepfmjebgklfaaDoorShOrd
namespace Go.Proofs.YtcepfmjebgklfaaDoor
open Go.RowKit
set_option linter.unusedSimpArgs false
set_option linter.unusedVariables false
set_option maxRecDepth 100000
theorem infoInt : (Tryd.prog.info? 3).map (fun i => (i.zero, i.size, i.bytes)) = some (some (.int .i64 0), 1, 8) := by kernel_rfl
def OrdX (w0 W : World) (gs ge : Nat) (S E : ShL) (A0 : Option Addr) (n0 c0 : Nat) (l0 : List CellH) (fv : Value) (L : List Nat) : Prop := ∃ A n c l, OrdI w0 W gs ge S E A n c l A0 n0 c0 l0 fv L
section
variable {w : World}
set_option maxHeartbeats 8000000 in
theorem shorder_any (hc : ClsAt w) (k0 gone : Nat) (hk0 : k0 < 256) (hg0 : gone < 65536) :
    Calls Tryd.prog 4 #[.int .u8 (k0 : Int), .int .u16 (gone : Int)] w fun e w' => e = .returned (.bool true) ∧ Below w.heap.size w w' := by
  have HC := Lib.hid hc
  have HG0 := Lib.hid hg0
  have hc' := hc
  clear hc hg0
  obtain ⟨k, hkk⟩ : ∃ k, k = k0 % 7 := ⟨_, rfl⟩
  have hrem : (k0 : Int) % 7 = (k : Int) := by rw [hkk]; rfl
  have hk7 : k < 7 := by omega
  have HK7 := Lib.hid hk7
  have HREM := Lib.hid hrem
  clear hkk hrem hk0
  go_enter Tryd.func4, Tryd.ntmps4
  go_upto_region 2 with (fail)
  rw [HREM.out]
  have hn := ord_new hk7
  have N1 := new_is hc' k (by omega)
  rw [hn.2] at N1
  clear hn
  go_wp2_with fail
  refine N1.mono ?_
  clear N1
  rintro e w1 ⟨v, rfl, ⟨A0, n0, c0, l0, rfl, hs1, hfr⟩, hb⟩
  obtain ⟨E, hE⟩ : ∃ E, E = newS k := ⟨_, rfl⟩
  rw [← hE] at hs1 ⊢
  have hq := (((Held.start w).call hb).alloc (shV E A0 n0 c0) 25)
  have hq2 := hq.alloc (shV E A0 n0 c0) 25
  have hb1 : Below w1.heap.size w1 (w1.alloc (.cells (shV E A0 n0 c0) 25)) := (Below.refl _ _).alloc (Nat.le_refl _) _
  have hb2 : Below w1.heap.size w1 ((w1.alloc (.cells (shV E A0 n0 c0) 25)).alloc (.cells (shV E A0 n0 c0) 25)) := hb1.alloc hb1.size _
  have hI : OrdI w ((w1.alloc (.cells (shV E A0 n0 c0) 25)).alloc (.cells (shV E A0 n0 c0) 25)) w1.heap.size (w1.alloc (.cells (shV E A0 n0 c0) 25)).heap.size E E A0 n0 c0 l0 A0 n0 c0 l0 (.slice none 0 0) [] :=
    ⟨(hq2.none_ints).perm (by exact List.Perm.trans (List.Perm.cons _ (List.Perm.swap _ _ _)) (List.Perm.trans (List.Perm.swap _ _ _) (List.Perm.cons _ (List.Perm.swap _ _ _)))), hs1.below hb2, hs1.below hb2, fun g hg => (by cases hg), hs1.avoids (Nat.le_refl _)⟩
  have kc0 := hq.cell 0 0 rfl rfl
  have kc1 := hq.cell 0 1 rfl rfl
  have kc2 := hq.cell 0 2 rfl rfl
  have kc3 := hq.cell 0 3 rfl rfl
  have HI := Lib.hid hI
  unfold shV at kc0 kc1 kc2 kc3 ⊢
  have HE := Lib.hid hE
  clear hb hq hq2 hb1 hb2 hI hs1 hfr hE
  go_upto_region 6 with (fail)
  obtain ⟨W2, hW⟩ : ∃ W, W = (w1.alloc (.cells #[.int .u8 (E.cl : Int), .int .u16 (E.prev : Int), .int .u16 (E.next : Int), .slice A0 n0 c0] 25)).alloc (.cells #[.int .u8 (E.cl : Int), .int .u16 (E.prev : Int), .int .u16 (E.next : Int), .slice A0 n0 c0] 25) := ⟨_, rfl⟩
  obtain ⟨gs, hgs⟩ : ∃ g, g = w1.heap.size := ⟨_, rfl⟩
  obtain ⟨ge, hge⟩ : ∃ g, g = gs + 1 := ⟨_, rfl⟩
  have hI : OrdI w W2 gs ge E E A0 n0 c0 l0 A0 n0 c0 l0 (.slice none 0 0) [] := by
    rw [hge, hgs, hW]
    have := HI.out
    rw [show (w1.alloc (.cells (shV E A0 n0 c0) 25)).heap.size = w1.heap.size + 1 by simp] at this
    exact this
  rw [← hW, ← hgs, ← hge]
  clear HI hW kc0 kc1 kc2 kc3 hgs hge
  have I1 := Lib.hid hI
  clear hI
  have N1 := places_is (HC.out.below I1.out.held.below) k (by omega)
  go_wp2_with fail
  refine N1.mono ?_
  clear N1
  rintro e w2 ⟨rfl, hb⟩
  have I2 := Lib.hid (I1.out.call hb)
  clear hb I1
  go_wp2_with fail
  have N1 := room_is (HC.out.below I2.out.held.below) k (by omega)
  refine N1.mono ?_
  clear N1
  rintro e w3 ⟨rfl, hb⟩
  have I3 := Lib.hid (I2.out.call hb)
  clear hb I2
  obtain ⟨P, hP⟩ : ∃ P, P = placesL k := ⟨_, rfl⟩
  obtain ⟨r, hr⟩ : ∃ r, r = roomL k := ⟨_, rfl⟩
  rw [← hP, ← hr]
  have HP := Lib.hid hP
  have HR := Lib.hid hr
  have hP14 : P ≤ 14 := by rw [hP]; exact (placesL_pos hk7).2
  clear hP hr
  go_wp2_with fail
  have hS : OrdX w w3 gs ge (ordF k (f1 0)) E A0 n0 c0 l0 (.slice none 0 0) [] := ⟨A0, n0, c0, l0, by
    have e : ordF k (f1 0) = E := by rw [HE.out, (ord_new hk7).1]; rfl
    rw [e]; exact I3.out⟩
  have HS := Lib.hid hS
  clear hS I3
  go_loopw [11] (fun i wr => ∃ j : Nat, j ≤ P ∧ i = .int .i64 (j : Int) ∧ OrdX w wr gs ge (ordF k (f1 j)) E A0 n0 c0 l0 (.slice none 0 0) []) (fun i _ => P - (intOf i).toNat)
  case atStart => exact ⟨0, by omega, rfl, HS.out⟩
  case round =>
    obtain ⟨j, hj, rfl, A1, n1, c1, l1, hI⟩ := hrel
    have I1 := Lib.hid hI
    clear hI HS
    by_cases hlt : j < P
    · obtain ⟨h1, h2, h3⟩ := step1 hk7 (show j < placesL k by rw [← HP.out]; exact hlt)
      have T1 := Lib.hid h1
      have T2 := Lib.hid h2
      have T3 := Lib.hid h3
      clear h1 h2 h3
      obtain ⟨S, hSd⟩ : ∃ S, S = ordF k (f1 j) := ⟨_, rfl⟩
      rw [← hSd] at I1 T1 T2 T3
      obtain ⟨S', hSd'⟩ : ∃ S, S = ordF k (f1 (j + 1)) := ⟨_, rfl⟩
      rw [← hSd'] at T3
      have HSD' := Lib.hid hSd'
      clear hSd hSd'
      obtain ⟨⟨y0, y1, y2, y3⟩, _, _, _, _⟩ := I1.out.held.cells4 0 rfl
      go_wp2_with fail
      have N1 := take_is (HC.out.below I1.out.held.below) ⟨A1, n1, c1, l1, rfl, I1.out.s⟩ (j + 1) (by omega) (r : Int)
      rw [HR.out, T1.out, T2.out, T3.out, ← HR.out, show ((j + 1 : Nat) : Int) = (j : Int) + 1 by push_cast; rfl] at N1
      refine N1.mono ?_
      clear N1 y0 y1 y2 y3
      rintro e w4 ⟨v, rfl, ⟨A2, n2, c2, l2, rfl, hs2, hfr⟩, hb⟩
      obtain ⟨q1, q2⟩ := I1.out.made hb hs2 hfr
      have Q2 := Lib.hid (q2 _ rfl)
      unfold shT shV at q1
      unfold shV at Q2 ⊢
      clear q2 hb hs2 hfr I1
      go_upto_region 11 with (fail)
      obtain ⟨W5, hW⟩ : ∃ W, W = w4.alloc (.cells #[.int .u8 (S'.cl : Int), .int .u16 (S'.prev : Int), .int .u16 (S'.next : Int), .slice A2 n2 c2] 25) := ⟨_, rfl⟩
      rw [← hW] at q1 Q2 ⊢
      clear hW
      obtain ⟨gn, hg⟩ : ∃ g, g = w4.heap.size := ⟨_, rfl⟩
      rw [← hg] at q1 ⊢
      clear hg
      have R5 := Lib.hid q1
      clear q1
      obtain ⟨⟨z0, z1, z2, z3⟩, _, _, _, _⟩ := R5.out.cells4 0 rfl
      obtain ⟨⟨y0, y1, y2, y3⟩, o0, o1, o2, o3⟩ := R5.out.cells4 1 rfl
      go_wp2_with fail
      have hsd := HSD'.out
      subst hsd
      go_roundw
      case rel => exact ⟨j + 1, by omega, by go_num, A2, n2, c2, l2, Q2.out⟩
      case measure => simp [intOf]; omega
    · obtain rfl : j = P := by omega
      obtain ⟨b, hbd⟩ : ∃ b : Nat → Bool, b = fun q => decide (gone / 2 ^ q % 2 = 1) := ⟨_, rfl⟩
      have HBD := Lib.hid hbd
      have hS : OrdX w wr gs ge (ordF k (f2 b 0)) E A0 n0 c0 l0 (.slice none 0 0) (freeB b 0) := ⟨A1, n1, c1, l1, by
        rw [show freeB b 0 = [] from rfl, ← start2 (k := k) b, ← HP.out]
        exact I1.out⟩
      have HS := Lib.hid hS
      clear hS I1 hbd
      go_wp2_with fail
      go_loopw [15, 16] (fun fv i wr => ∃ m : Nat, m ≤ j ∧ i = .int .i64 (m : Int) ∧ OrdX w wr gs ge (ordF k (f2 b m)) E A0 n0 c0 l0 fv (freeB b m)) (fun _ i _ => j - (intOf i).toNat)
      case atStart => exact ⟨0, by omega, rfl, HS.out⟩
      case round =>
        obtain ⟨m, hm, rfl, A1, n1, c1, l1, hI⟩ := hrel
        have I1 := Lib.hid hI
        clear hI HS
        by_cases hlt : m < j
        · have hbm : b m = decide (gone / 2 ^ m % 2 = 1) := by rw [HBD.out]
          have hcast : (((gone : Int) / 2 ^ m).tmod 2) = ((gone / 2 ^ m % 2 : Nat) : Int) := by
            rw [show ((gone : Int) / 2 ^ m) = ((gone / 2 ^ m : Nat) : Int) by push_cast; rfl]
            rfl
          have hfs := freeB_succ b m
          by_cases hbit : b m = true
          · have hne : (((gone : Int) / 2 ^ m).tmod 2 == 0) = false := by
              rw [hbm, decide_eq_true_eq] at hbit
              rw [hcast, hbit]; rfl
            have HBIT := Lib.hid hbit
            obtain ⟨h1, h2⟩ := step2 (b := b) hk7 (show m < placesL k by rw [← HP.out]; exact hlt) hbit
            have T1 := Lib.hid h1
            have T3 := Lib.hid h2
            rw [if_pos hbit] at hfs
            have HFS := Lib.hid hfs
            clear h1 h2 hfs hcast hbm hbit
            obtain ⟨S, hSd⟩ : ∃ S, S = ordF k (f2 b m) := ⟨_, rfl⟩
            rw [← hSd] at I1 T1 T3
            obtain ⟨S', hSd'⟩ : ∃ S, S = ordF k (f2 b (m + 1)) := ⟨_, rfl⟩
            rw [← hSd'] at T3
            have HSD' := Lib.hid hSd'
            clear hSd hSd'
            obtain ⟨⟨y0, y1, y2, y3⟩, _, _, _, _⟩ := I1.out.held.cells4 0 rfl
            go_wp2_with fail
            have N1 := give_is (HC.out.below I1.out.held.below) ⟨A1, n1, c1, l1, rfl, I1.out.s⟩ (m : Int) (m + 1)
            rw [T1.out, T3.out, show ((m + 1 : Nat) : Int) = (m : Int) + 1 by push_cast; rfl] at N1
            refine N1.mono ?_
            clear N1 y0 y1 y2 y3
            rintro e w4 ⟨v, rfl, ⟨A2, n2, c2, l2, rfl, hs2, hfr⟩, hb⟩
            obtain ⟨q1, q2⟩ := I1.out.made hb hs2 hfr
            have Q2 := Lib.hid (q2 _ rfl)
            unfold shT shV at q1
            unfold shV at Q2 ⊢
            clear q2 hb hs2 hfr I1
            go_upto_region 20 with (fail)
            obtain ⟨W5, hW⟩ : ∃ W, W = w4.alloc (.cells #[.int .u8 (S'.cl : Int), .int .u16 (S'.prev : Int), .int .u16 (S'.next : Int), .slice A2 n2 c2] 25) := ⟨_, rfl⟩
            rw [← hW] at q1 Q2 ⊢
            clear hW
            obtain ⟨gn, hg⟩ : ∃ g, g = w4.heap.size := ⟨_, rfl⟩
            rw [← hg] at q1 ⊢
            clear hg
            have R5 := Lib.hid q1
            clear q1
            obtain ⟨⟨z0, z1, z2, z3⟩, _, _, _, _⟩ := R5.out.cells4 0 rfl
            obtain ⟨⟨y0, y1, y2, y3⟩, o0, o1, o2, o3⟩ := R5.out.cells4 1 rfl
            go_upto_region 23 with (fail)
            obtain ⟨WX, hWX⟩ : ∃ WX, WX = (((W5.setCell ⟨gs, 0, none⟩ (.int .u8 (S'.cl : Int))).setCell ⟨gs, 1, none⟩ (.int .u16 (S'.prev : Int))).setCell ⟨gs, 2, none⟩ (.int .u16 (S'.next : Int))).setCell ⟨gs, 3, none⟩ (.slice A2 n2 c2) := ⟨_, rfl⟩
            rw [← hWX] at Q2 ⊢
            clear hWX y0 y1 y2 y3 z0 z1 z2 z3 o0 o1 o2 o3 R5
            have hfl : (freeB b m).length ≤ m := rank_le b m
            obtain ⟨i0, hi, hz0, hz1, hz2⟩ := info_parts infoInt
            go_wp2_with (at_builtin; refine wpList_append_own_at _ rfl _ _ 47 rfl 0 3 i0 (.int .i64 0) 1 8 Tryd.underlying47 hi hz0 hz1 hz2 rfl (by decide) _ _ _ rfl (World.ownsRow.alloc (Q2.out.held.ints 2 rfl) _) ⟨WX.heap.size, 0, none⟩ 1 1 [.int .i64 (m : Int)] rfl rfl (news_one _ _ _) (by intro u hu; simp at hu; subst hu; rfl) (by unfold maxLen; omega) (by omega) (by simp) ?_; intro v' w7 hown' hgrow hq hat; have HOW := Lib.hid hown'; have HGR := Lib.hid hgrow; have HAT := Lib.hid hat; clear hown' hgrow hq hat)
            have hsd := HSD'.out
            subst hsd
            have HI7 := Lib.hid (Q2.out.app (i := m) ((Below.refl _ _).alloc (Nat.le_refl _) _) HOW.out HGR.out HAT.out)
            go_roundw
            case rel => exact ⟨m + 1, by omega, by go_num, A2, n2, c2, l2, by rw [HFS.out]; exact HI7.out⟩
            case measure => simp [intOf]; omega
          · have hb0 : b m = false := by simpa using hbit
            have hne : (((gone : Int) / 2 ^ m).tmod 2 == 0) = true := by
              rw [hb0] at hbm
              have := of_decide_eq_false hbm.symm
              have h3 : gone / 2 ^ m % 2 = 0 := by omega
              rw [hcast, h3]; rfl
            rw [if_neg hbit, List.append_nil] at hfs
            have HFS := Lib.hid hfs
            have HSK := Lib.hid (skip2 (k := k) hb0)
            clear hfs hcast hbm hbit hb0
            go_wp2_with fail
            go_roundw
            case rel => exact ⟨m + 1, by omega, by go_num, A1, n1, c1, l1, by rw [HFS.out, ← HSK.out]; exact I1.out⟩
            case measure => simp [intOf]; omega
        · obtain rfl : m = j := by omega
          obtain ⟨FA, fc, rfl, hfa, hfb⟩ := ints_form (I1.out.held.ints 2 rfl)
          obtain ⟨L, hL⟩ : ∃ L, L = freeB b m := ⟨_, rfl⟩
          obtain ⟨N, hN⟩ : ∃ N, N = L.length := ⟨_, rfl⟩
          rw [← hL] at I1 hfa ⊢
          rw [← hN] at I1 hfa ⊢
          have HNL := Lib.hid hN
          have HL := Lib.hid hL
          have HFA := Lib.hid hfa
          have HFB := Lib.hid hfb
          have hN14 : N ≤ 14 := by
            have : (freeB b m).length ≤ m := rank_le b m
            rw [hN, hL]; omega
          have hS : OrdX w wr gs ge (ordF k (f3 b 0)) E A0 n0 c0 l0 (.slice FA N fc) L := ⟨A1, n1, c1, l1, by
            rw [← start3 (k := k), ← HP.out]
            exact I1.out⟩
          have HS := Lib.hid hS
          clear hS I1 hN hL hfa hfb
          go_wp2_with fail
          go_loopw [19] (fun i wr => ∃ q : Nat, q ≤ N ∧ i = .int .i64 (q : Int) ∧ OrdX w wr gs ge (ordF k (f3 b q)) E A0 n0 c0 l0 (.slice FA N fc) L) (fun i _ => N - (intOf i).toNat)
          case atStart => exact ⟨0, by omega, rfl, HS.out⟩
          case round =>
            obtain ⟨q, hq, rfl, A1, n1, c1, l1, hI⟩ := hrel
            have I1 := Lib.hid hI
            clear hI HS
            by_cases hlt : q < N
            · obtain ⟨h1, h2, h3⟩ := step3 (b := b) (i := q) hk7 (show q < (freeB b (placesL k)).length by rw [← HP.out, ← HL.out, ← HNL.out]; exact hlt)
              obtain ⟨z, hz⟩ : ∃ z, z = (freeB b (placesL k))[q]'(by rw [← HP.out, ← HL.out, ← HNL.out]; exact hlt) := ⟨_, rfl⟩
              rw [← hz] at h2
              have HZ : Hid (L[q]? = some z) := Lib.hid (by
                rw [HL.out, HP.out, hz]
                exact List.getElem?_eq_getElem _)
              obtain ⟨fg, hfg⟩ : ∃ fg, FA = some ⟨fg, 0, none⟩ := by
                cases hF : FA with
                | none => have := HFA.out hF; omega
                | some a =>
                  obtain ⟨g, rfl⟩ := HFB.out a hF
                  exact ⟨g, rfl⟩
              subst hfg
              have T1 := Lib.hid h1
              have T2 := Lib.hid h2
              have T3 := Lib.hid h3
              clear h1 h2 h3 hz
              obtain ⟨S, hSd⟩ : ∃ S, S = ordF k (f3 b q) := ⟨_, rfl⟩
              rw [← hSd] at I1 T1 T2 T3
              obtain ⟨S', hSd'⟩ : ∃ S, S = ordF k (f3 b (q + 1)) := ⟨_, rfl⟩
              rw [← hSd'] at T3
              have HSD' := Lib.hid hSd'
              clear hSd hSd'
              obtain ⟨⟨y0, y1, y2, y3⟩, _, _, _, _⟩ := I1.out.held.cells4 0 rfl
              go_wp2_with fail
              have N1 := take_is (HC.out.below I1.out.held.below) ⟨A1, n1, c1, l1, rfl, I1.out.s⟩ (100 + q) (by omega) (r : Int)
              rw [HR.out, T1.out, T2.out, T3.out, ← HR.out, show ((100 + q : Nat) : Int) = 100 + (q : Int) by push_cast; rfl] at N1
              refine N1.mono ?_
              clear N1 y0 y1 y2 y3
              rintro e w4 ⟨v, rfl, ⟨A2, n2, c2, l2, rfl, hs2, hfr⟩, hb⟩
              obtain ⟨q1, q2⟩ := I1.out.made hb hs2 hfr
              have Q2 := Lib.hid (q2 _ rfl)
              unfold shT shV at q1
              unfold shV at Q2 ⊢
              clear q2 hb hs2 hfr I1
              go_upto_region 28 with (fail)
              obtain ⟨W5, hW⟩ : ∃ W, W = w4.alloc (.cells #[.int .u8 (S'.cl : Int), .int .u16 (S'.prev : Int), .int .u16 (S'.next : Int), .slice A2 n2 c2] 25) := ⟨_, rfl⟩
              rw [← hW] at q1 Q2 ⊢
              clear hW
              obtain ⟨gn, hg⟩ : ∃ g, g = w4.heap.size := ⟨_, rfl⟩
              rw [← hg] at q1 ⊢
              clear hg
              have R5 := Lib.hid q1
              clear q1
              obtain ⟨⟨z0, z1, z2, z3⟩, _, _, _, _⟩ := R5.out.cells4 0 rfl
              obtain ⟨⟨y0, y1, y2, y3⟩, o0, o1, o2, o3⟩ := R5.out.cells4 1 rfl
              have hfc : W5.cell? ⟨fg, q, none⟩ = some (.int .i64 (z : Int)) := ints_cell (N := N) (c := fc) (R5.out.ints 3 rfl) HZ.out
              go_wp2_with fail
              have hsd := HSD'.out
              subst hsd
              go_roundw
              case rel => exact ⟨q + 1, by omega, by go_num, A2, n2, c2, l2, Q2.out⟩
              case measure => simp [intOf]; omega
            · obtain rfl : q = N := by omega
              have HQR : Hid (q = rankB b (placesL k)) := Lib.hid (by rw [HNL.out, HL.out, HP.out]; rfl)
              have hus : usedL (ordF k (f3 b q)).cells = m := by
                rw [HP.out, HQR.out]
                exact ord_used (fun q hq => all3 q _ hq)
              have hS : OrdX w wr gs ge (ordF k (f4 b (placesL k) 0)) E A0 n0 c0 l0 (.slice FA q fc) L := ⟨A1, n1, c1, l1, by
                rw [← start4, ← HQR.out]
                exact I1.out⟩
              have HS := Lib.hid hS
              clear hS
              obtain ⟨S, hSd⟩ : ∃ S, S = ordF k (f3 b q) := ⟨_, rfl⟩
              rw [← hSd] at I1 hus
              have HUS := Lib.hid hus
              clear hSd hus
              obtain ⟨⟨y0, y1, y2, y3⟩, _, _, _, _⟩ := I1.out.held.cells4 0 rfl
              go_wp2_with fail
              refine (used_is (w := wr) ⟨A1, n1, c1, l1, rfl, I1.out.s⟩).mono ?_
              rintro e w4 ⟨rfl, hb⟩
              rw [HUS.out]
              have hS : OrdX w w4 gs ge (ordF k (f4 b (placesL k) 0)) E A0 n0 c0 l0 (.slice FA q fc) L := by
                obtain ⟨A, n, c, l, h⟩ := HS.out
                exact ⟨A, n, c, l, h.call hb⟩
              have HS4 := Lib.hid hS
              clear hS hb y0 y1 y2 y3 HS I1
              go_wp2_with fail
              go_loopw [23] (fun i wr => ∃ i4 : Nat, i4 ≤ m ∧ i = .int .i64 (i4 : Int) ∧ OrdX w wr gs ge (ordF k (f4 b (placesL k) i4)) E A0 n0 c0 l0 (.slice FA q fc) L) (fun i _ => m - (intOf i).toNat)
              case atStart => exact ⟨0, by omega, rfl, HS4.out⟩
              case round =>
                obtain ⟨i4, hi4, rfl, A1, n1, c1, l1, hI⟩ := hrel
                have I1 := Lib.hid hI
                clear hI HS4
                by_cases hlt : i4 < m
                · obtain ⟨hz0, hz1, h1, h2⟩ := step4 (b := b) hk7 (show i4 < placesL k by rw [← HP.out]; exact hlt)
                  obtain ⟨z, hz⟩ : ∃ z, z = f3 b (rankB b (placesL k)) i4 := ⟨_, rfl⟩
                  rw [← hz] at hz0 hz1 h1 h2
                  have hcg := ord_get k (f4 b (placesL k) i4) i4 (by rw [← HP.out]; exact hlt)
                  rw [hz1] at hcg
                  unfold ordC at hcg
                  rw [if_neg hz0] at hcg
                  have T1 := Lib.hid h1
                  have T3 := Lib.hid h2
                  have HCG := Lib.hid hcg
                  have hd2 := ord_data2 (f4 b (placesL k) (i4 + 1)) hk7
                  clear h1 h2 hcg hz0 hz1 hz
                  obtain ⟨S, hSd⟩ : ∃ S, S = ordF k (f4 b (placesL k) i4) := ⟨_, rfl⟩
                  rw [← hSd] at I1 T1 T3 HCG
                  obtain ⟨S', hSd'⟩ : ∃ S, S = ordF k (f4 b (placesL k) (i4 + 1)) := ⟨_, rfl⟩
                  rw [← hSd'] at T3 hd2
                  have hlS : S.cells.length = m := by rw [hSd, ord_len, HP.out]
                  have HSD' := Lib.hid hSd'
                  have HD2 := Lib.hid hd2
                  clear hSd hSd' hd2
                  have hn1 : n1 = m := by
                    have h1 := I1.out.s.len
                    omega
                  obtain ⟨x, hxl, hxd, _, _, ab, ao, rfl, hab, hxr⟩ := I1.out.s.get i4 (by rw [hn1]; exact hlt)
                  have hxs : x.ser = z := by
                    rw [List.getD_eq_getElem?_getD, HCG.out] at hxd
                    exact (congrArg Prod.fst hxd).symm
                  have HX0 : Hid (wr.cell? ⟨ab, ao + i4 * 2, none⟩ = some (.int .u64 (z : Int))) := Lib.hid (by
                    have := hxr 0 (.int .u64 (x.ser : Int)) rfl
                    rw [hxs] at this
                    exact this)
                  subst hn1
                  clear hxl hxd hxr hxs hab
                  go_wp2_with fail
                  refine wp_region_box (by kernel_rfl) 12 13 10 (givV wr.heap.size gs S S' (some ⟨ab, ao, none⟩) n1 c1 ab ao i4 z) zeroShC 25 24 136 givV_below (givV_only HD2.out) (by kernel_rfl) (by kernel_rfl) (by kernel_rfl) ⟨_, rfl, rfl, rfl, rfl⟩ (by kernel_rfl) ⟨_, rfl, rfl, rfl, rfl, by kernel_rfl, by kernel_rfl⟩ (by kernel_rfl) (by decide) (by decide) ?qc ?heads ?fin
                  case qc =>
                    rintro v w ⟨A, n, c, l, rfl, _, _⟩
                    exact ⟨_, rfl, sizeShelf, rfl, shV_one _ _ _ _⟩
                  case heads =>
                    refine ⟨.inr (.inr ⟨rfl, 127, rfl, fun a v hB hO hD K hK => ?_⟩), .inr (.inr ⟨rfl, 128, rfl, fun a v hB hO hD K hK => ?_⟩), .inr (.inr ⟨rfl, 129, rfl, fun a v hB hO hD K hK => ?_⟩), .inr (.inr ⟨rfl, 130, rfl, fun a v hB hO hD K hK => ?_⟩), .inr (.inr ⟨rfl, 131, rfl, fun a v hB hO hD K hK => ?_⟩), .inr (.inr ⟨rfl, 132, rfl, fun a v hB hO hD K hK => ?_⟩), .inr (.inr ⟨rfl, 133, rfl, fun a v hB hO hD K hK => ?_⟩), .inr (.inr ⟨rfl, 134, rfl, fun a v hB hO hD K hK => ?_⟩), .inr (.inr ⟨rfl, 135, rfl, fun a v hB hO hD K hK => ?_⟩), .inr (.inr ⟨rfl, 126, rfl, fun a v hB hO hD K hK => ?_⟩), .inr (.inr ⟨rfl, 136, rfl, fun a v hB hO hD K hK => ?_⟩), .inr (.inr ⟨rfl, 137, rfl, fun a v hB hO hD K hK => ?_⟩), .inl rfl, .inr (.inl rfl), .inr (.inr ⟨rfl, 25, rfl, fun a v hB hO hD K hK => ?_⟩), trivial⟩
                    · exact wp_load_all 25 _ gs 25 (shV S (some ⟨ab, ao, none⟩) n1 c1) (0, 0) _ rfl (eval_of (t := 6) (by rw [hO 6 (not_dst 6 (by kernel_rfl))]; rfl)) ((I1.out.held.call hB).get 0 rfl) Tryd.underlying25 rfl sizeShelf (hK _ _ rfl (Below.refl _ _))
                    · exact wpg_move _ _ rfl (eval_of (t := 23) (by rw [hO 23 (not_dst 23 (by kernel_rfl))]; rfl)) (hK _ _ rfl (Below.refl _ _))
                    · exact wpg_field 25 3 23 3 0 _ gs 0 rfl (by kernel_rfl) (by kernel_rfl) (by kernel_rfl) (eval_of (t := 6) (by rw [hO 6 (not_dst 6 (by kernel_rfl))]; rfl)) (hK _ _ rfl (Below.refl _ _))
                    · obtain ⟨u, hu, hv⟩ := box_of hD 2 (by kernel_rfl) (by decide) 129 (by kernel_rfl)
                      exact wp_load_cell 23 _ ⟨gs, 3, none⟩ (.slice (some ⟨ab, ao, none⟩) n1 c1) _ rfl rfl (hu.trans hv) ((I1.out.held.call hB).cell 0 3 rfl rfl) Tryd.underlying23 (hK _ _ rfl (Below.refl _ _))
                    · exact wpg_move _ _ rfl (eval_of (t := 23) (by rw [hO 23 (not_dst 23 (by kernel_rfl))]; rfl)) (hK _ _ rfl (Below.refl _ _))
                    · obtain ⟨u, hu, hv⟩ := box_of hD 3 (by kernel_rfl) (by decide) 130 (by kernel_rfl)
                      obtain ⟨u2, hu2, hv2⟩ := box_of hD 4 (by kernel_rfl) (by decide) 131 (by kernel_rfl)
                      exact wpg_index 23 41 _ _ ab ao i4 n1 c1 2 .i64 rfl Tryd.underlying23 sizeCell (hu.trans hv) (hu2.trans hv2) hlt (hK _ _ rfl (Below.refl _ _))
                    · obtain ⟨u, hu, hv⟩ := box_of hD 5 (by kernel_rfl) (by decide) 132 (by kernel_rfl)
                      exact wpg_field 41 0 26 0 0 _ ab (ao + i4 * 2) rfl (by kernel_rfl) (by kernel_rfl) (by kernel_rfl) (hu.trans hv) (hK _ _ rfl (Below.refl _ _))
                    · obtain ⟨u, hu, hv⟩ := box_of hD 6 (by kernel_rfl) (by decide) 133 (by kernel_rfl)
                      exact wp_load_cell 26 _ ⟨ab, ao + i4 * 2, none⟩ (.int .u64 (z : Int)) _ rfl rfl (hu.trans hv) (Since.cell hB HX0.out) Tryd.underlying26 (hK _ _ rfl (Below.refl _ _))
                    · obtain ⟨u, hu, hv⟩ := box_of hD 0 (by kernel_rfl) (by decide) 127 (by kernel_rfl)
                      obtain ⟨u2, hu2, hv2⟩ := box_of hD 1 (by kernel_rfl) (by decide) 128 (by kernel_rfl)
                      obtain ⟨u3, hu3, hv3⟩ := box_of hD 7 (by kernel_rfl) (by decide) 134 (by kernel_rfl)
                      have N1 := give_is ((HC.out.below I1.out.held.below).below hB) ⟨some ⟨ab, ao, none⟩, n1, c1, l1, rfl, I1.out.s.below hB⟩ (i4 : Int) z
                      rw [T1.out, T3.out] at N1
                      refine wpo_call 14 [.tmp 127, .tmp 128, .tmp 134] _ _ _ _ (boxT wr.heap.size S' 0) rfl Tryd.func14 rfl (by kernel_rfl) (by simp only [List.map_cons, List.map_nil, hu.trans hv, hu2.trans hv2, hu3.trans hv3]) (N1.mono ?_) (fun v w' hb h => hK v w' h hb)
                      rintro e w' ⟨v, rfl, ⟨A2, n2, c2, l2, rfl, hs2, hfr⟩, hb⟩
                      exact ⟨_, rfl, ⟨A2, n2, c2, l2, rfl, hs2, hfr.mono hB.size⟩, hb⟩
                    · obtain ⟨u, hu, hv⟩ := box_of hD 8 (by kernel_rfl) (by decide) 135 (by kernel_rfl)
                      exact wpg_move _ _ rfl hu (hK _ _ hv (Below.refl _ _))
                    · obtain ⟨u, hu, hv⟩ := box_of hD 9 (by kernel_rfl) (by decide) 126 (by kernel_rfl)
                      obtain ⟨A2, n2, c2, l2, rfl, hs2, hfr⟩ := hv
                      exact wpb_extract _ _ _ _ rfl hu rfl (hK _ _ ⟨A2, n2, c2, l2, rfl, hs2, hfr⟩ (Below.refl _ _))
                    · obtain ⟨u, hu, hv⟩ := box_of hD 9 (by kernel_rfl) (by decide) 126 (by kernel_rfl)
                      obtain ⟨A2, n2, c2, l2, rfl, hs2, hfr⟩ := hv
                      exact wpb_extract _ _ _ _ rfl hu rfl (hK _ _ rfl (Below.refl _ _))
                    · obtain ⟨u, hu, hv⟩ := box_of hD 11 (by kernel_rfl) (by decide) 137 (by kernel_rfl)
                      exact wpb_assign _ _ rfl (hu.trans hv) (hK _ _ rfl (Below.refl _ _))
                  case fin =>
                    intro F W5 gn C hgB hF24 hF136 hgn ⟨A2, n2, c2, l2, hCe, hs2, hfr⟩ hV hB
                    obtain rfl : C = shV S' A2 n2 c2 := by cases hCe; rfl
                    have e137 : F 137 = .int .i64 0 := hV 11 _ 137 rfl (by decide) rfl
                    have e25 : F 25 = .int .i64 0 := hV 14 _ 25 rfl (by decide) rfl
                    have hR5 : Held w W5 [shT gn S' A2 n2 c2, shT gs S (some ⟨ab, ao, none⟩) n1 c1, shT ge E A0 n0 c0, intsT (.slice FA q fc) L] := I1.out.held.more hB (x := shT gn S' A2 n2 c2) (F := [gn]) ⟨rfl, hgn⟩ (by simpa using hgB) (by simp)
                    have Q2 := Lib.hid (OrdI.put hR5 hs2 (hfr.avoids (I1.out.held.lt 0 rfl)) (fun g hg => hfr.avoids (I1.out.lt g hg)) (I1.out.e.below hB) (fun g hg => (I1.out.ap g hg).2) I1.out.es)
                    simp only [putAll, List.setIfInBounds_toArray, List.set_cons_zero, List.set_cons_succ]
                    rw [e137, e25, hF24, hF136]
                    unfold shT shV at hR5
                    unfold shV
                    have R5 := Lib.hid hR5
                    clear hR5 hV hB hs2 hfr hCe hgn hgB hF24 hF136 e137 e25 I1
                    obtain ⟨⟨z0, z1, z2, z3⟩, _, _, _, _⟩ := R5.out.cells4 0 rfl
                    obtain ⟨⟨y0, y1, y2, y3⟩, o0, o1, o2, o3⟩ := R5.out.cells4 1 rfl
                    go_wp2_with fail
                    have hsd := HSD'.out
                    subst hsd
                    go_roundw
                    case rel => exact ⟨i4 + 1, by omega, by go_num, A2, n2, c2, l2, Q2.out⟩
                    case measure => simp [intOf]; omega
                · obtain rfl : i4 = m := by omega
                  have hI2 := I1.out
                  rw [show ordF k (f4 b (placesL k) i4) = E by rw [HE.out, HP.out]; exact end4 hk7] at hI2
                  have I2 := Lib.hid hI2
                  clear hI2 I1
                  obtain ⟨⟨y0, y1, y2, y3⟩, _, _, _, _⟩ := I2.out.held.cells4 0 rfl
                  obtain ⟨⟨z0, z1, z2, z3⟩, _, _, _, _⟩ := I2.out.held.cells4 1 rfl
                  go_wp2_with fail
                  have N1 := same_is (w := wr) ⟨A1, n1, c1, l1, rfl, I2.out.s⟩ ⟨A0, n0, c0, l0, rfl, I2.out.e⟩
                  rw [(sameL_iff E E).2 rfl] at N1
                  refine N1.mono ?_
                  rintro e w4 ⟨rfl, hb⟩
                  have R5 := Lib.hid (I2.out.held.call hb)
                  clear N1 hb y0 y1 y2 y3 z0 z1 z2 z3
                  go_wp2_with (go_at_call 9; refine (shhead_any (HC.out.below R5.out.below)).mono ?_; rintro e w2 ⟨rfl, hb⟩; have HB := Lib.hid (R5.out.call hb); clear hb)
                  go_ret
                  exact ⟨rfl, HB.out.below⟩
end
end Go.Proofs.YtcepfmjebgklfaaDoor
