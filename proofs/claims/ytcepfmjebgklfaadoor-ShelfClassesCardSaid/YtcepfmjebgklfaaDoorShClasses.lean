/- The shelf layer: the law ShelfClasses holds of every two lengths. -/
import Derived.Test.YtcepfmjebgklfaaDoorShOrdM
import Derived.Test.YtcepfmjebgklfaaDoorShPut
namespace Go.Proofs.YtcepfmjebgklfaaDoor
open Go.RowKit
set_option linter.unusedSimpArgs false
set_option linter.unusedVariables false
set_option maxRecDepth 100000
theorem classL_ok {N : Nat} (h1 : 1 ≤ N) (h2 : N ≤ 237) : ∃ k, classL (N : Int) = some k ∧ k < 7 ∧ N ≤ roomL k := by
  have r0 : roomL 0 = 8 := rfl
  have r1 : roomL 1 = 16 := rfl
  have r2 : roomL 2 = 24 := rfl
  have r3 : roomL 3 = 40 := rfl
  have r4 : roomL 4 = 72 := rfl
  have r5 : roomL 5 = 114 := rfl
  have r6 : roomL 6 = 237 := rfl
  unfold classL
  rw [if_neg (by omega)]
  repeat' split
  all_goals first | exact ⟨_, rfl, by omega, by omega⟩ | (exfalso; omega)
theorem classE_ok {N : Nat} (h1 : 1 ≤ N) (h2 : N ≤ 237) : classE (N : Int) = 0 := by
  obtain ⟨k, h, _⟩ := classL_ok h1 h2
  unfold classE
  rw [h]; rfl
theorem classE_no {N : Nat} (h : ¬ (1 ≤ N ∧ N ≤ 237)) : classE (N : Int) = 211 := by
  unfold classE
  rw [classL_none (N : Int) (fun h1 => by have r6 : roomL 6 = 237 := rfl; omega)]; rfl
theorem classL_min {n : Int} {k : Nat} (h : classL n = some k) : ∀ j, j < k → (roomL j : Int) < n := by
  have hk := (classL_lt h).1
  have r0 : roomL 0 = 8 := rfl
  have r1 : roomL 1 = 16 := rfl
  have r2 : roomL 2 = 24 := rfl
  have r3 : roomL 3 = 40 := rfl
  have r4 : roomL 4 = 72 := rfl
  have r5 : roomL 5 = 114 := rfl
  intro j hj
  have hr : (j < 1 ∧ roomL j = 8) ∨ (j = 1 ∧ roomL j = 16) ∨ (j = 2 ∧ roomL j = 24) ∨ (j = 3 ∧ roomL j = 40) ∨ (j = 4 ∧ roomL j = 72) ∨ (j = 5 ∧ roomL j = 114) := by
    rcases (by omega : j = 0 ∨ j = 1 ∨ j = 2 ∨ j = 3 ∨ j = 4 ∨ j = 5) with rfl | rfl | rfl | rfl | rfl | rfl
    · exact .inl ⟨by omega, rfl⟩
    · exact .inr (.inl ⟨rfl, rfl⟩)
    · exact .inr (.inr (.inl ⟨rfl, rfl⟩))
    · exact .inr (.inr (.inr (.inl ⟨rfl, rfl⟩)))
    · exact .inr (.inr (.inr (.inr (.inl ⟨rfl, rfl⟩))))
    · exact .inr (.inr (.inr (.inr (.inr ⟨rfl, rfl⟩))))
  obtain ⟨R, hR⟩ : ∃ R, R = roomL j := ⟨_, rfl⟩
  rw [← hR] at hr ⊢
  clear hR r0 r1 r2 r3 r4 r5 hk
  unfold classL at h
  split at h
  · cases h
  all_goals (split at h)
  · cases h; omega
  all_goals (split at h)
  · cases h; omega
  all_goals (split at h)
  · cases h; omega
  all_goals (split at h)
  · cases h; omega
  all_goals (split at h)
  · cases h; omega
  all_goals (split at h)
  · cases h; omega
  all_goals (split at h)
  · cases h; omega
  · cases h
theorem classV_mono {N M : Nat} (h1 : 1 ≤ N) (h2 : N ≤ M) (h3 : M ≤ 237) : classV (N : Int) ≤ classV (M : Int) := by
  obtain ⟨a, ha, ha7, haN⟩ := classL_ok h1 (by omega : N ≤ 237)
  obtain ⟨b, hb, hb7, hbM⟩ := classL_ok (by omega : 1 ≤ M) h3
  unfold classV
  rw [ha, hb]
  show a ≤ b
  apply Classical.byContradiction
  intro hn
  have := classL_min ha b (by omega)
  omega
theorem classV_room {N : Nat} (h1 : 1 ≤ N) (h2 : N ≤ 237) : N ≤ roomL (classV (N : Int)) := by
  obtain ⟨k, h, _, h4⟩ := classL_ok h1 h2
  unfold classV
  rw [h]; exact h4
theorem class_room {k : Nat} (hk : k < 7) : classE (roomL k : Int) = 0 ∧ classV (roomL k : Int) = k := by
  rcases (by omega : k = 0 ∨ k = 1 ∨ k = 2 ∨ k = 3 ∨ k = 4 ∨ k = 5 ∨ k = 6) with rfl | rfl | rfl | rfl | rfl | rfl | rfl <;> decide
theorem class_more {k : Nat} (hk : k < 7) : (k < 6 ∧ classE ((roomL k : Int) + 1) = 0 ∧ classV ((roomL k : Int) + 1) = k + 1) ∨ (k = 6 ∧ classE ((roomL k : Int) + 1) = 211) := by
  rcases (by omega : k = 0 ∨ k = 1 ∨ k = 2 ∨ k = 3 ∨ k = 4 ∨ k = 5 ∨ k = 6) with rfl | rfl | rfl | rfl | rfl | rfl | rfl <;> decide
def f5 (i q : Nat) : Nat := if q < i then q + 4398046511104 else 0
theorem f5_le {k i q : Nat} (hk : k < 7) (hq : q < placesL k) : f5 i q ≤ 8796093022207 := by
  have := placesL_pos hk
  unfold f5; split <;> omega
theorem step5 {k i : Nat} (hk : k < 7) (hi : i < placesL k) : takeE (ordF k (f5 i)) (i + 4398046511104) (roomL k : Int) = 0 ∧ takeP (ordF k (f5 i)) (i + 4398046511104) (roomL k : Int) = i ∧ takeS (ordF k (f5 i)) (i + 4398046511104) (roomL k : Int) = ordF k (f5 (i + 1)) := by
  have hp := placesL_pos hk
  obtain ⟨h1, h2, h3⟩ := ord_take (k := k) (f := f5 i) (p := i) (z := i + 4398046511104) hk (fun q hq => f5_le hk hq) hi (by unfold f5; rw [if_neg (by omega)]) (fun q hq => by unfold f5; rw [if_pos hq]; omega) (by omega) (by omega)
  refine ⟨h1, h2, h3.trans (ord_congr fun q _ => ?_)⟩
  unfold updN f5
  by_cases e : q = i
  · subst e; rw [if_pos rfl, if_pos (by omega)]
  · rw [if_neg e]
    by_cases h : q < i
    · rw [if_pos h, if_pos (by omega)]
    · rw [if_neg h, if_neg (by omega)]
theorem end5 {k : Nat} (hk : k < 7) : takeE (ordF k (f5 (placesL k))) 1 (roomL k : Int) = 6 ∧ putE18 (ordF k (f5 (placesL k))) = 0 ∧ usedL (ordF k (f5 (placesL k))).cells = placesL k := by
  have h : ∀ q, q < placesL k → f5 (placesL k) q ≠ 0 := fun q hq => by unfold f5; rw [if_pos hq]; omega
  refine ⟨ord_full hk (fun q hq => f5_le hk hq) h (by omega) (by omega), ?_, ord_used h⟩
  unfold putE18
  rw [if_pos (ord_may hk (fun q hq => f5_le hk hq))]
def ClsX (w0 W : World) (gs : Nat) (S : ShL) : Prop := ∃ A n c l, Held w0 W [shT gs S A n c] ∧ ShelfOf W S A n c l
theorem put_next {w0 W : World} {gn gs : Nat} {r : Array Value} {S S' : ShL} {A A1 : Option Addr} {n c n1 c1 : Nat} {l1 : List CellH} (hR : Held w0 W [rowT gn r 25, shT gs S A n c]) (hs : ShelfOf W S' A1 n1 c1 l1) (hav : Avoids gs A1 n1 l1) :
    ClsX w0 ((((W.setCell ⟨gs, 0, none⟩ (.int .u8 (S'.cl : Int))).setCell ⟨gs, 1, none⟩ (.int .u16 (S'.prev : Int))).setCell ⟨gs, 2, none⟩ (.int .u16 (S'.next : Int))).setCell ⟨gs, 3, none⟩ (.slice A1 n1 c1)) gs S' := by
  have q := hR.store4 1 rfl (.int .u8 (S'.cl : Int)) (.int .u16 (S'.prev : Int)) (.int .u16 (S'.next : Int)) (.slice A1 n1 c1)
  have ho := only4 W gs (.int .u8 (S'.cl : Int)) (.int .u16 (S'.prev : Int)) (.int .u16 (S'.next : Int)) (.slice A1 n1 c1)
  exact ⟨A1, n1, c1, l1, q.drop 1, hs.only hav ho⟩
section
variable {w : World}
set_option maxHeartbeats 4000000 in
theorem shclasses_any (hc : ClsAt w) (n0 m0 : Nat) (hn0 : n0 < 65536) (hm0 : m0 < 65536) :
    Calls Tryd.prog 6 #[.int .u16 (n0 : Int), .int .u16 (m0 : Int)] w fun e w' => e = .returned (.bool true) ∧ Below w.heap.size w w' := by
  have HC := Lib.hid hc
  clear hc
  obtain ⟨N, hN⟩ : ∃ N, N = n0 % 300 := ⟨_, rfl⟩
  obtain ⟨M, hM⟩ : ∃ M, M = m0 % 300 := ⟨_, rfl⟩
  have hrn : (n0 : Int) % 300 = (N : Int) := by rw [hN]; rfl
  have hrm : (m0 : Int) % 300 = (M : Int) := by rw [hM]; rfl
  have hN3 : N < 300 := by omega
  have hM3 : M < 300 := by omega
  clear hN hM
  have HF := Lib.hid (fun w => class_is (w := w) (n := (M : Int)))
  have HCA := Lib.hid (classV_lt (N : Int))
  have HCB := Lib.hid (classV_lt (M : Int))
  have HMO : Hid (1 ≤ N → N ≤ M → M ≤ 237 → classV (N : Int) ≤ classV (M : Int)) := Lib.hid (fun h1 h2 h3 => classV_mono h1 h2 h3)
  have HEN : Hid (classE (N : Int) = if 1 ≤ N ∧ N ≤ 237 then 0 else 211) := Lib.hid (by
    by_cases h : 1 ≤ N ∧ N ≤ 237
    · rw [if_pos h]; exact classE_ok h.1 h.2
    · rw [if_neg h]; exact classE_no h)
  have HEM : Hid (classE (M : Int) = if 1 ≤ M ∧ M ≤ 237 then 0 else 211) := Lib.hid (by
    by_cases h : 1 ≤ M ∧ M ≤ 237
    · rw [if_pos h]; exact classE_ok h.1 h.2
    · rw [if_neg h]; exact classE_no h)
  have HAR : Hid (1 ≤ N → N ≤ 237 → N ≤ roomL (classV (N : Int))) := Lib.hid (fun h1 h2 => classV_room h1 h2)
  have N1 := Lib.hid (class_is (w := w) HC.out (N : Int))
  have N2 := Lib.hid (fun w (h : ClsAt w) => class_is (w := w) h (M : Int))
  obtain ⟨a, ha⟩ : ∃ a, a = classV (N : Int) := ⟨_, rfl⟩
  obtain ⟨b, hb⟩ : ∃ b, b = classV (M : Int) := ⟨_, rfl⟩
  obtain ⟨E, hE⟩ : ∃ E, E = classE (N : Int) := ⟨_, rfl⟩
  obtain ⟨F, hF⟩ : ∃ F, F = classE (M : Int) := ⟨_, rfl⟩
  rw [← ha] at HCA HMO HAR N1
  rw [← hb] at HCB HMO N2
  rw [← hE] at HEN N1
  rw [← hF] at HEM N2
  have ha7 : a < 7 := HCA.out
  have hb7 : b < 7 := HCB.out
  clear ha hb hE hF HCA HCB HF
  go_enter Tryd.func6, Tryd.ntmps6
  go_wp2_with fail
  refine N1.out.mono ?_
  rintro e w1 ⟨rfl, hb⟩
  have R1 := Lib.hid ((Held.start w).call hb)
  clear hb N1
  go_wp2_with fail
  refine (N2.out _ (HC.out.below R1.out.below)).mono ?_
  rintro e w2 ⟨rfl, hb⟩
  have R2 := Lib.hid (R1.out.call hb)
  clear hb N2 R1
  go_upto_region 3 with fail
  go_cut [69] (fun s w' => s = .bool false ∧ w' = w2)
  case first =>
    by_cases h1 : 1 ≤ N ∧ N ≤ 237
    · obtain rfl : E = 0 := by rw [HEN.out, if_pos h1]
      by_cases h2 : 1 ≤ M ∧ M ≤ 237
      · obtain rfl : F = 0 := by rw [HEM.out, if_pos h2]
        by_cases h3 : N ≤ M
        · have hab : ¬ ((b : Int) < (a : Int)) := by have := HMO.out h1.1 h3 h2.2; omega
          obtain ⟨h1a, h1b⟩ := h1
          go_wp2
          go_meet
          exact ⟨by first | rfl | (simp; omega), rfl⟩
        · obtain ⟨h1a, h1b⟩ := h1
          go_wp2
          go_meet
          exact ⟨by first | rfl | (simp; omega), rfl⟩
      · obtain rfl : F = 211 := by rw [HEM.out, if_neg h2]
        obtain ⟨h1a, h1b⟩ := h1
        clear h2
        go_wp2
        go_meet
        exact ⟨by first | rfl | (simp; omega), rfl⟩
    · obtain rfl : E = 211 := by rw [HEN.out, if_neg h1]
      by_cases h2 : 1 ≤ N
      · have h3 : ¬ N ≤ 237 := by omega
        clear h1
        go_wp2
        go_meet
        exact ⟨by first | rfl | (simp; omega), rfl⟩
      · clear h1
        go_wp2
        go_meet
        exact ⟨by first | rfl | (simp; omega), rfl⟩
  case rest =>
    obtain ⟨rfl, rfl⟩ := hcut
    by_cases h1 : 1 ≤ N ∧ N ≤ 237
    · obtain rfl : E = 0 := by rw [HEN.out, if_pos h1]
      have HNR := Lib.hid (HAR.out h1.1 h1.2)
      have HR7 := Lib.hid ha7
      obtain ⟨rm, hrm2⟩ : ∃ rm, rm = roomL a := ⟨_, rfl⟩
      rw [← hrm2] at HNR
      have HRM := Lib.hid hrm2
      have hrm237 : rm ≤ 237 := by rw [hrm2]; exact roomL_le a
      have N1 := Lib.hid (room_is (w := wc) (HC.out.below R2.out.below) a (by omega))
      rw [← hrm2] at N1
      clear h1 HAR HMO HEM hrm2
      go_wp2_with fail
      refine N1.out.mono ?_
      rintro e w3 ⟨rfl, hb⟩
      have R3 := Lib.hid (R2.out.call hb)
      clear hb N1 R2
      have N1 := Lib.hid (class_is (w := w3) (HC.out.below R3.out.below) (rm : Int))
      rw [HRM.out, (class_room ha7).1, (class_room ha7).2, ← HRM.out] at N1
      go_wp2_with fail
      refine N1.out.mono ?_
      rintro e w4 ⟨rfl, hb⟩
      have R4 := Lib.hid (R3.out.call hb)
      clear hb N1 R3
      have N1 := Lib.hid (class_is (w := w4) (HC.out.below R4.out.below) ((rm : Int) + 1))
      have hcm := class_more ha7
      rw [← HRM.out] at hcm
      obtain ⟨D, hD⟩ : ∃ D, D = classV ((rm : Int) + 1) := ⟨_, rfl⟩
      obtain ⟨E2, hE2⟩ : ∃ E2, E2 = classE ((rm : Int) + 1) := ⟨_, rfl⟩
      rw [← hD, ← hE2] at hcm N1
      have HCM := Lib.hid hcm
      clear hcm hD hE2
      go_wp2_with fail
      refine N1.out.mono ?_
      rintro e w5 ⟨rfl, hb⟩
      have R5 := Lib.hid (R4.out.call hb)
      clear hb N1 R4
      have hn := ord_new ha7
      have N1 := new_is (HC.out.below R5.out.below) a (by omega)
      rw [hn.2] at N1
      clear hn
      go_wp2_with fail
      refine N1.mono ?_
      clear N1
      rintro e w6 ⟨v, rfl, ⟨A0, n0', c0, l0, rfl, hs1, hfr⟩, hb⟩
      obtain ⟨S, hSd⟩ : ∃ S, S = newS a := ⟨_, rfl⟩
      rw [← hSd] at hs1 ⊢
      have q1 := (R5.out.call hb).alloc (shV S A0 n0' c0) 25
      have HS1 : Hid (ShelfOf (w6.alloc (.cells (shV S A0 n0' c0) 25)) S A0 n0' c0 l0) := Lib.hid (hs1.below ((Below.refl _ _).alloc (Nat.le_refl _) _))
      have HSD := Lib.hid hSd
      unfold shV at q1 HS1 ⊢
      clear hb hs1 hfr hSd
      go_upto_region 11 with fail
      obtain ⟨W6, hW⟩ : ∃ W, W = w6.alloc (.cells #[.int .u8 (S.cl : Int), .int .u16 (S.prev : Int), .int .u16 (S.next : Int), .slice A0 n0' c0] 25) := ⟨_, rfl⟩
      rw [← hW] at q1 HS1 ⊢
      clear hW
      obtain ⟨gs, hg⟩ : ∃ g, g = w6.heap.size := ⟨_, rfl⟩
      rw [← hg] at q1 ⊢
      clear hg
      have R6 := Lib.hid q1
      clear q1 R5
      go_cut [118] (fun s w' => s = .bool false ∧ w' = W6)
      case first =>
        have hnr : ¬ (rm : Int) < (N : Int) := by have := HNR.out; omega
        rcases HCM.out with ⟨h6, rfl, rfl⟩ | ⟨rfl, rfl⟩
        all_goals
          go_wp2
          go_meet
          exact ⟨by first | rfl | (simp; omega), rfl⟩
      case rest =>
        obtain ⟨rfl, rfl⟩ := hcut
        have HX : Hid (ClsX w wc gs (ordF a (f5 0))) := Lib.hid ⟨A0, n0', c0, l0, by
          have e : ordF a (f5 0) = S := by rw [HSD.out, (ord_new ha7).1]; exact ord_congr fun q _ => by unfold f5; rw [if_neg (by omega)]
          rw [e]
          exact ⟨R6.out, HS1.out⟩⟩
        clear HCM HNR R6 HS1 HSD
        obtain ⟨P, hP⟩ : ∃ P, P = placesL a := ⟨_, rfl⟩
        have hP14 : P ≤ 14 := by rw [hP]; exact (placesL_pos ha7).2
        have HP := Lib.hid hP
        clear hP
        go_wp2_with fail
        go_loopw [16] (fun i wr => ∃ j : Nat, j ≤ P ∧ i = .int .i64 (j : Int) ∧ ClsX w wr gs (ordF a (f5 j))) (fun i _ => P - (intOf i).toNat)
        case atStart => exact ⟨0, by omega, rfl, HX.out⟩
        case round =>
          obtain ⟨j, hj, rfl, A1, n1, c1, l1, hI, hS⟩ := hrel
          have R1 := Lib.hid hI
          have HS1 := Lib.hid hS
          clear hI hS HX
          go_wp2_with fail
          have N1 := places_is (HC.out.below R1.out.below) a (by omega)
          rw [← HP.out] at N1
          refine N1.mono ?_
          rintro e w7 ⟨rfl, hb⟩
          have R2 := Lib.hid (R1.out.call hb)
          have HS2 := Lib.hid (HS1.out.below hb)
          clear hb N1 R1 HS1
          by_cases hlt : j < P
          · obtain ⟨h1, h2, h3⟩ := step5 (i := j) ha7 (by rw [← HP.out]; exact hlt)
            have T1 := Lib.hid h1
            have T2 := Lib.hid h2
            have T3 := Lib.hid h3
            clear h1 h2 h3
            obtain ⟨S, hSd⟩ : ∃ S, S = ordF a (f5 j) := ⟨_, rfl⟩
            rw [← hSd] at R2 HS2 T1 T2 T3
            obtain ⟨S', hSd'⟩ : ∃ S, S = ordF a (f5 (j + 1)) := ⟨_, rfl⟩
            rw [← hSd'] at T3
            have HSD' := Lib.hid hSd'
            clear hSd hSd'
            obtain ⟨⟨y0, y1, y2, y3⟩, _, _, _, _⟩ := R2.out.cells4 0 rfl
            go_wp2_with fail
            have N1 := take_is (HC.out.below R2.out.below) ⟨A1, n1, c1, l1, rfl, HS2.out⟩ (j + 4398046511104) (by omega) (rm : Int)
            rw [HRM.out, T1.out, T2.out, T3.out, ← HRM.out, show ((j + 4398046511104 : Nat) : Int) = (j : Int) + 4398046511104 by omega] at N1
            refine N1.mono ?_
            clear N1 y0 y1 y2 y3
            rintro e w8 ⟨v, rfl, ⟨A2, n2, c2, l2, rfl, hs2, hfr⟩, hb⟩
            have q1 := (R2.out.call hb).alloc (shV S' A2 n2 c2) 25
            have HS3 : Hid (ShelfOf (w8.alloc (.cells (shV S' A2 n2 c2) 25)) S' A2 n2 c2 l2) := Lib.hid (hs2.below ((Below.refl _ _).alloc (Nat.le_refl _) _))
            have HAV : Hid (Avoids gs A2 n2 l2) := Lib.hid (hfr.avoids (R2.out.lt 0 rfl))
            unfold shT shV at q1
            unfold shV at HS3 ⊢
            clear hb hs2 hfr R2 HS2
            go_upto_region 17 with fail
            obtain ⟨W8, hW⟩ : ∃ W, W = w8.alloc (.cells #[.int .u8 (S'.cl : Int), .int .u16 (S'.prev : Int), .int .u16 (S'.next : Int), .slice A2 n2 c2] 25) := ⟨_, rfl⟩
            rw [← hW] at q1 HS3 ⊢
            clear hW
            obtain ⟨gn, hg⟩ : ∃ g, g = w8.heap.size := ⟨_, rfl⟩
            rw [← hg] at q1 ⊢
            clear hg
            have R3 := Lib.hid q1
            have Q3 := Lib.hid (put_next q1 HS3.out HAV.out)
            clear q1
            obtain ⟨⟨z0, z1, z2, z3⟩, _, _, _, _⟩ := R3.out.cells4 0 rfl
            obtain ⟨⟨y0, y1, y2, y3⟩, o0, o1, o2, o3⟩ := R3.out.cells4 1 rfl
            go_wp2_with fail
            have hsd := HSD'.out
            subst hsd
            go_roundw
            case rel => exact ⟨j + 1, by omega, by go_num, Q3.out⟩
            case measure => simp [intOf]; omega
          · obtain rfl : j = P := by omega
            have he5 := end5 ha7
            rw [← HP.out] at he5
            obtain ⟨h1, h2, h3⟩ := he5
            have T1 := Lib.hid h1
            have T2 := Lib.hid h2
            have T3 := Lib.hid h3
            clear h1 h2 h3
            obtain ⟨S, hSd⟩ : ∃ S, S = ordF a (f5 j) := ⟨_, rfl⟩
            rw [← hSd] at R2 HS2 T1 T2 T3
            clear hSd
            obtain ⟨⟨y0, y1, y2, y3⟩, _, _, _, _⟩ := R2.out.cells4 0 rfl
            go_wp2_with fail
            have N1 := take_is (HC.out.below R2.out.below) ⟨A1, n1, c1, l1, rfl, HS2.out⟩ 1 (by omega) (rm : Int)
            rw [HRM.out, T1.out, ← HRM.out, show ((1 : Nat) : Int) = 1 from rfl] at N1
            refine N1.mono ?_
            clear N1 y0 y1 y2 y3
            rintro e w8 ⟨v, rfl, ⟨A2, n2, c2, l2, rfl, hs2, hfr⟩, hb⟩
            obtain ⟨S', hSd'⟩ : ∃ S', S' = takeS S 1 (roomL a : Int) := ⟨_, rfl⟩
            rw [← HRM.out] at hSd'
            rw [← hSd'] at hs2 ⊢
            obtain ⟨p, hp⟩ : ∃ p, p = takeP S 1 (rm : Int) := ⟨_, rfl⟩
            rw [← hp]
            have q1 := (R2.out.call hb).alloc (shV S' A2 n2 c2) 25
            have HS3 : Hid (ShelfOf (w8.alloc (.cells (shV S' A2 n2 c2) 25)) S A1 n1 c1 l1) := Lib.hid ((HS2.out.below hb).below ((Below.refl _ _).alloc (Nat.le_refl _) _))
            unfold shT shV at q1
            unfold shV at HS3 ⊢
            clear hb hs2 hfr R2 HS2 hSd' hp
            go_upto_region 21 with fail
            obtain ⟨W8, hW⟩ : ∃ W, W = w8.alloc (.cells #[.int .u8 (S'.cl : Int), .int .u16 (S'.prev : Int), .int .u16 (S'.next : Int), .slice A2 n2 c2] 25) := ⟨_, rfl⟩
            rw [← hW] at q1 HS3 ⊢
            clear hW
            have R3 := Lib.hid (q1.drop 1)
            clear q1
            obtain ⟨⟨y0, y1, y2, y3⟩, _, _, _, _⟩ := R3.out.cells4 0 rfl
            go_wp2_with fail
            have N1 := shput_is (HC.out.below R3.out.below) ⟨A1, n1, c1, l1, rfl, HS3.out⟩
            rw [T2.out] at N1
            refine N1.mono ?_
            rintro e w9 ⟨rfl, hb⟩
            have hpl := length_putB18 S
            obtain ⟨B, hB⟩ : ∃ B, B = putB18 S := ⟨_, rfl⟩
            rw [← hB] at hpl ⊢
            have HPL := Lib.hid hpl
            have q1 := (R3.out.call hb).alloc (blk B) 52
            have HS4 : Hid (ShelfOf (w9.alloc (.cells (blk B) 52)) S A1 n1 c1 l1) := Lib.hid ((HS3.out.below hb).below ((Below.refl _ _).alloc (Nat.le_refl _) _))
            clear N1 hb hB hpl y0 y1 y2 y3 R3 HS3
            go_upto_region 22 with (first
              | refine wpList_alloc_row rfl 52 rfl _ zeroB ?_
              | refine wpList_store_new rfl 52 _ _ rfl _ _ 52 rfl rfl (by rw [size_blk, HPL.out]; exact sizeB) (by rw [size_zeros, size_blk, HPL.out]) (blk_one _) ?_)
            obtain ⟨W9, hW⟩ : ∃ W, W = w9.alloc (.cells (blk B) 52) := ⟨_, rfl⟩
            rw [← hW] at q1 HS4 ⊢
            clear hW
            have R4 := Lib.hid (q1.drop 1)
            clear q1
            obtain ⟨⟨y0, y1, y2, y3⟩, _, _, _, _⟩ := R4.out.cells4 0 rfl
            go_wp2_with fail
            have N1 := used_is (w := W9) ⟨A1, n1, c1, l1, rfl, HS4.out⟩
            rw [T3.out] at N1
            refine N1.mono ?_
            rintro e wA ⟨rfl, hb⟩
            have R5 := Lib.hid (R4.out.call hb)
            clear N1 hb y0 y1 y2 y3 R4
            go_wp2_with fail
            have N1 := places_is (HC.out.below R5.out.below) a (by omega)
            rw [← HP.out] at N1
            refine N1.mono ?_
            rintro e wB ⟨rfl, hb⟩
            have R6 := Lib.hid (R5.out.call hb)
            clear hb N1 R5
            go_wp2_with (go_at_call 9; refine (shhead_any (HC.out.below R6.out.below)).mono ?_; rintro e w3 ⟨rfl, hb⟩; have HB := Lib.hid (R6.out.call hb); clear hb)
            go_ret
            exact ⟨rfl, HB.out.below⟩
    · obtain rfl : E = 211 := by rw [HEN.out, if_neg h1]
      clear h1
      go_wp2_with (go_at_call 9; refine (shhead_any (HC.out.below R2.out.below)).mono ?_; rintro e w3 ⟨rfl, hb⟩; have HB := Lib.hid (R2.out.call hb); clear hb)
      go_ret
      exact ⟨rfl, HB.out.below⟩
end
end Go.Proofs.YtcepfmjebgklfaaDoor
