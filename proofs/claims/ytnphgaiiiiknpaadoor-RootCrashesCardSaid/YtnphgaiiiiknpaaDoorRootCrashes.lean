/- The root layer: the law RootCrashes holds of every root, every row of blocks and every crash. -/
import Derived.Test.YtnphgaiiiiknpaaDoorRootHead
import Derived.Test.YtnphgaiiiiknpaaDoorRootCrashM
namespace Go.Proofs.YtnphgaiiiiknpaaDoor
open Go.RowKit
set_option linter.unusedSimpArgs false
set_option linter.unusedVariables false
set_option maxRecDepth 100000
theorem MadeT.since {w0 w w' : World} {x : Thing} (h : MadeT w0 w x) (hb : Below w.heap.size w w') : MadeT w0 w' x := by
  obtain ⟨F, h1, h2, h3, h4⟩ := h
  exact ⟨F, x.loc F w w' (fun b hb' => hb.block b (x.lt F w h1 b hb')) h1, h2, h3, h4.trans (hb.mono h4.size)⟩
theorem MadeT.behind {w0 w w' : World} {x : Thing} (hb : Below w0.heap.size w0 w) (h : MadeT w w' x) : MadeT w0 w' x := by
  obtain ⟨F, h1, h2, h3, h4⟩ := h
  exact ⟨F, h1, fun b hb' => Nat.le_trans hb.size (h2 b hb'), h3, hb.trans (h4.mono hb.size)⟩
/-- What the commit on a copy needs. -/
def rcV (g : Nat) (W0 : World) (s : Dv) (sl : Value) (rc : Array Value) (t : Tmp) (v : Value) (w : World) : Prop :=
  match t with
  | 56 => v = .pointer (some ⟨g, 0, none⟩)
  | 57 => ∃ g', v = .pointer (some ⟨g', 0, none⟩) ∧ MadeT W0 w (dvT g' s)
  | 58 => v = sl
  | 59 => v = .agg rc
  | _ => True
theorem rcV_stab (g : Nat) (W0 : World) (s : Dv) (sl : Value) (rc : Array Value) : ∀ t v w w', rcV g W0 s sl rc t v w → Below w.heap.size w w' → rcV g W0 s sl rc t v w' := by
  intro t v w w' h hb
  unfold rcV at h ⊢
  split at h <;> try exact h
  obtain ⟨b, h1, h3⟩ := h
  exact ⟨b, h1, h3.since hb⟩
theorem putV_at {w : World} {b off a : Nat} {B : List UInt8} (h : w.rangeAt b off (putV a B).toList) : w.cell? ⟨b, off, none⟩ = some (.int .u32 (a : Int)) ∧ w.rangeAt b (off + 1) (blk B).toList := by
  refine ⟨h 0 _ rfl, fun j v hv => ?_⟩
  rw [Nat.add_assoc]
  refine h (1 + j) v ?_
  rw [Nat.add_comm]
  simp only [putV, List.getElem?_cons_succ]
  simpa [blk] using hv
theorem neqSameB (w : World) (B : List UInt8) (hB : B.length = 256) : (binOp .neq 45 (.agg (blk B)) (.agg (blk B))).run Tryd.prog w = .ok (.bool false) w := by
  rw [run_neq_blk w 45 5 256 Tryd.underlying45 Tryd.underlying5 sizeU8 B B hB hB]
  simp
theorem zeroRtR : zeroRt.cells.size = 8 := rfl
section
variable {w : World}
set_option maxHeartbeats 8000000 in
theorem rootcrashes_any (r : Root) (A : Option Addr) (n c : Nat) (l : List (Nat × List UInt8)) (fz : Nat) (A2 : Option Addr) (m c2 : Nat) (ks : List (Nat × Nat))
    (hr : r.Ok) (hn : n ≤ 9223372036854775807) (hl : PutsIn w A n l) (hfz : fz < 256) (hm : m ≤ 9223372036854775807) (hk : KeepsIn w A2 m ks []) :
    Calls Tryd.prog 6 #[.agg r.cells, .slice A n c, .agg #[.int .u8 (fz : Int), .slice A2 m c2]] w fun e w' => e = .returned (.bool true) ∧ Below w.heap.size w w' := by
  obtain ⟨s1, g1, hF⟩ := fmt_facts
  have HH := Lib.hid roothead_any
  have HL := Lib.hid hl
  have HK := Lib.hid hk
  have HNN := Lib.hid hn
  have HMM := Lib.hid hm
  have HFZ := Lib.hid hfz
  have q1 := ((Held.start w).alloc r.cells 34).alloc #[.int .u8 (fz : Int), .slice A2 m c2] 38
  have h0 : w.heap.size + 1 = (w.alloc (.cells r.cells 34)).heap.size := by simp
  rw [← h0] at q1
  clear h0
  obtain ⟨V, hV⟩ : ∃ V, V = (w.alloc (.cells r.cells 34)).alloc (.cells #[.int .u8 (fz : Int), .slice A2 m c2] 38) := ⟨_, rfl⟩
  obtain ⟨g3, hg3⟩ : ∃ b, b = w.heap.size := ⟨_, rfl⟩
  rw [← hV, ← hg3] at q1
  obtain ⟨g5, hg5⟩ : ∃ b, b = g3 + 1 := ⟨_, rfl⟩
  rw [← hg5] at q1
  have HV := Lib.hid hV
  have HG3 := Lib.hid hg3
  have HG5 := Lib.hid hg5
  have R0 := Lib.hid q1
  have HF := Lib.hid hF
  obtain ⟨r', hr'⟩ : ∃ x, x = r2 r := ⟨_, rfl⟩
  have HRR : Hid (r'.Ok ∧ r'.gen = 2) := Lib.hid (by rw [hr']; exact ⟨r2_ok hr, rfl⟩)
  obtain ⟨CA, hCA⟩ : ∃ C, C = rA.cells := ⟨_, rfl⟩
  obtain ⟨rc, hrc⟩ : ∃ C, C = r'.cells := ⟨_, rfl⟩
  obtain ⟨rc0, hrc0⟩ : ∃ C, C = r.cells := ⟨_, rfl⟩
  have HS0 : Hid (rc0[0]? = some (.int .u64 (r.gen : Int)) ∧ rc0[1]? = some (.int .u32 (r.size : Int)) ∧ (rc0.setIfInBounds 0 (.int .u64 2)).setIfInBounds 1 (.int .u32 64) = rc ∧ (rc0.setIfInBounds 0 (.int .u64 2))[1]? = some (.int .u32 (r.size : Int))) := Lib.hid (by rw [hrc0, hrc, hr']; exact ⟨rfl, rfl, rfl, rfl⟩)
  have HFM : Hid (∀ (g : Nat) (W : World) (tl : List Thing), Held w W (dvT g (newDv 64) :: tl) → Calls Tryd.prog 11 #[.pointer (some ⟨g, 0, none⟩)] W fun e w' => e = .returned (.tuple #[.agg CA, .int .i64 0]) ∧ Held w w' (dvT g s1 :: tl)) := Lib.hid (fun g W tl R => by have := format_is R (by decide) (by decide); rw [HF.out.f.1, HF.out.f.2, ← hCA] at this; exact this)
  have HMT : Hid (∀ (g : Nat) (s : Dv) (W : World) (C : Array Value) (E : Int), (dvT g s).at W → s.size = 64 → (mountR s).cells = C → mountE s = E → Calls Tryd.prog 15 #[.pointer (some ⟨g, 0, none⟩)] W fun e w' => e = .returned (.tuple #[.agg C, .int .i64 E]) ∧ Below W.heap.size W w') := Lib.hid (fun g s W C E h hs hC hE => by have := mount_is h (by omega); rw [hC, hE] at this; exact this)
  rw [← hrc0] at R0 HV ⊢
  have HCM : Hid (∀ (g : Nat) (s t : Dv) (E : Int) (W : World) (tl : List Thing), Held w W (dvT g s :: tl) → n ≤ 60 → s.pend.length = 0 → s.size = 64 → s.commit l r' = (t, E) → Calls Tryd.prog 13 #[.pointer (some ⟨g, 0, none⟩), .slice A n c, .agg rc] W fun e w' => e = .returned (.int .i64 E) ∧ Held w w' (dvT g t :: tl)) := Lib.hid (fun g s t E W tl R h60 hp hs hc => by
    have := commit_is r' HRR.out.1 A n c l HNN.out R (fun W' t' h => HL.out.below h.below) (by omega) (by omega)
    rw [hc, ← hrc] at this; exact this)
  have HCS : Hid (∀ C ∈ [CA, rc], C.size = 8) := Lib.hid (by rw [hCA, hrc]; intro P hP; simp only [List.mem_cons, List.not_mem_nil, or_false] at hP; rcases hP with rfl | rfl <;> rfl)
  have HCO : Hid (∀ C ∈ [CA, rc], C.all (·.oneCell') = true) := Lib.hid (by rw [hCA, hrc]; intro P hP; simp only [List.mem_cons, List.not_mem_nil, or_false] at hP; rcases hP with rfl | rfl <;> exact rcells_one _)
  have HCA := Lib.hid hCA
  have HRC := Lib.hid hrc
  clear hV hg3 hg5 q1 hF hr hl hk hn hm hfz hr' hCA hrc0 hrc
  go_enter Tryd.func6, Tryd.ntmps6
  go_upto_region 1 with (fail)
  rw [← HV.out, ← HG3.out]
  rw [← HG5.out]
  go_upto_region 2 with (go_at_call 10; refine (new_dev _ 64 (by decide) (by decide)).mono ?_; rintro e w1 ⟨g, rfl, hM⟩; have R1 := Lib.hid (R0.out.made hM); clear hM)
  by_cases hg : n ≤ 60 ∧ m ≤ 100
  · obtain ⟨hn60, hm100⟩ := hg
    have l1 : ¬ ((60 : Int) < (n : Int)) := by omega
    have l2 : ¬ ((100 : Int) < (m : Int)) := by omega
    have c5 : w1.cell? ⟨g5, 1, none⟩ = some (.slice A2 m c2) := R1.out.cell 1 1 rfl rfl
    go_upto_region 4 with (fail)
    clear c5 l1 l2
    go_wp2_with fail
    refine (HFM.out _ _ _ R1.out).mono ?_
    rintro e w2 ⟨rfl, hR⟩
    have q1 := hR.alloc2 CA 34
    clear hR
    go_upto_region 5 with (first | refine wpList_alloc_row rfl 34 rfl _ zeroR ?_ | refine wpList_store_new rfl 34 _ _ rfl _ CA _ rfl rfl (by rw [HCS.out CA (by simp)]; exact sizeR) (by rw [HCS.out CA (by simp)]; rfl) (HCO.out CA (by simp)) ?_)
    obtain ⟨W2, hW⟩ : ∃ W, W = w2.alloc (.cells CA 34) := ⟨_, rfl⟩
    rw [← hW] at q1 ⊢
    clear hW
    obtain ⟨g9, hg⟩ : ∃ g, g = w2.heap.size := ⟨_, rfl⟩
    rw [← hg] at q1 ⊢
    clear hg
    have R2 := Lib.hid q1
    clear q1
    have hc := R2.out.cell 3 0 rfl (HS0.out.1)
    have hf := R2.out.free 3 0 rfl
    have q0 := Lib.hid (R2.out.setCell 3 0 (.int .u64 2) rfl)
    go_upto_region 8 with (fail)
    have q1 := q0.out
    clear q0 hc hf
    obtain ⟨W3, hW⟩ : ∃ W, W = W2.setCell ⟨g3, 0, none⟩ (.int .u64 2) := ⟨_, rfl⟩
    rw [← hW] at q1 ⊢
    clear hW
    simp only [List.set_cons_zero, List.set_cons_succ] at q1
    have R3 := Lib.hid q1
    clear q1
    have hc := R3.out.cell 3 1 rfl (HS0.out.2.2.2)
    have hf := R3.out.free 3 1 rfl
    have q0 := Lib.hid (R3.out.setCell 3 1 (.int .u32 64) rfl)
    go_upto_region 9 with (fail)
    have q1 := q0.out
    clear q0 hc hf
    obtain ⟨W4, hW⟩ : ∃ W, W = W3.setCell ⟨g3, 1, none⟩ (.int .u32 64) := ⟨_, rfl⟩
    rw [← hW] at q1 ⊢
    clear hW
    simp only [List.set_cons_zero, List.set_cons_succ] at q1
    have R4 := Lib.hid q1
    clear q1
    have q1 := R4.out
    rw [HS0.out.2.2.1] at q1
    have R5 := Lib.hid q1
    clear q1 R0 R1 R2 R3 R4 HS0
    obtain ⟨sc, E1, hE1⟩ : ∃ t E, s1.commit l r' = (t, E) := ⟨_, _, rfl⟩
    have HE1 := Lib.hid hE1
    clear hE1
    refine wp_region_flow (by kernel_rfl) 4 (rcV g W4 s1 (.slice A n c) rc) (rcV_stab _ _ _ _ _) (by kernel_rfl) (by kernel_rfl) (by kernel_rfl) (by kernel_rfl) ?heads ?tail
    case heads =>
      refine ⟨.inr ⟨rfl, 56, rfl, fun a v hB hO hD K hK => ?_⟩, .inr ⟨rfl, 57, rfl, fun a v hB hO hD K hK => ?_⟩, .inr ⟨rfl, 58, rfl, fun a v hB hO hD K hK => ?_⟩, .inr ⟨rfl, 59, rfl, fun a v hB hO hD K hK => ?_⟩, .inl (by decide), .inl (by decide), trivial⟩
      · skip
        exact wp_move _ _ rfl (eval_of (t := 7) (by rw [hO 7 (not_dst 7 (by kernel_rfl))]; rfl)) (hK _ _ rfl (Below.refl _ _))
      · skip
        obtain ⟨u, hu, hv⟩ := flow_of hD 0 (by kernel_rfl) 56 (by kernel_rfl)
        refine wp_call1 17 (.tmp 56) _ rfl (hu.trans hv) Tryd.func17 rfl (by kernel_rfl) (copy_dev ((R5.out.call hB).thing 0 rfl) (by rw [HF.out.is_.pend]; decide)) ?_
        rintro e w6 ⟨g', rfl, hM⟩
        exact ⟨_, rfl, hK _ _ ⟨g', rfl, MadeT.behind hB hM⟩ hM.choose_spec.2.2.2⟩
      · skip
        exact wp_move _ _ rfl (eval_of (t := 1) (by rw [hO 1 (not_dst 1 (by kernel_rfl))]; rfl)) (hK _ _ rfl (Below.refl _ _))
      · exact wp_load_all 34 (.tmp 3) g3 34 rc (0, 0) _ rfl (eval_of (t := 3) (by rw [hO 3 (not_dst 3 (by kernel_rfl))]; rfl)) ((R5.out.call hB).get 3 rfl) Tryd.underlying34 rfl (by rw [HCS.out rc (by simp)]; exact sizeR) (hK _ _ rfl (Below.refl _ _))
    case tail =>
      intro F v hV hB
      obtain ⟨g', e57, hM⟩ : ∃ g', F 57 = .pointer (some ⟨g', 0, none⟩) ∧ MadeT W4 v (dvT g' s1) := hV _ (List.mem_of_getElem? (i := 1) rfl) 57 rfl
      have e58 : F 58 = .slice A n c := hV _ (List.mem_of_getElem? (i := 2) rfl) 58 rfl
      have e59 : F 59 = .agg rc := hV _ (List.mem_of_getElem? (i := 3) rfl) 59 rfl
      have R6 := Lib.hid (R5.out.made hM)
      simp only [List.take_succ_cons, List.take_zero, List.drop_succ_cons, List.drop_zero, putAll, List.setIfInBounds_toArray, List.set_cons_zero, List.set_cons_succ]
      rw [e57, e58, e59]
      clear hV e57 e58 e59 hB hM R5
      by_cases hE0 : E1 = 0
      · subst hE0
        obtain ⟨hmy, hfa⟩ := commit_ok HF.out.is_.size (by rw [HE1.out])
        obtain ⟨kf, hkf⟩ : ∃ k, k = fz % 70 := ⟨_, rfl⟩
        have hkl : kf < 70 := by omega
        have hfz := HFZ.out
        obtain ⟨s2, s3, s4, s5, E, hlay, hCr⟩ := crash_facts HF.out HRR.out.1 HRR.out.2 hmy hfa kf ks
        have HLAY := Lib.hid hlay
        have HCR := Lib.hid hCr
        have hcv : ∀ w : World, (convert 5 3 (.int .u8 (fz : Int))).run Tryd.prog w = .ok (.int .i64 (fz : Int)) w := fun w => run_conv_int _ _ .u8 .i64 Tryd.underlying5 Tryd.underlying3 _ (by rw [IntKind.wrap_i64]; omega) w
        have hmd : Int.tmod (fz : Int) 70 = (kf : Int) := by rw [Int.tmod_eq_emod_of_nonneg (by omega)]; omega
        have hmd2 : (fz : Int) % 70 = (kf : Int) := by omega
        clear hlay hCr hmy hfa hkf hfz
        go_upto_region 11 with (go_at_call 13; refine (HCM.out _ _ _ _ _ _ R6.out hn60 (by rw [HF.out.is_.pend]; rfl) HF.out.is_.size HE1.out).mono ?_; rintro e w7 ⟨rfl, hR⟩; have R7 := Lib.hid (hR.drop 1); clear hR)
        clear R6 HE1
        have c5 := R7.out.cell 2 0 rfl rfl
        go_upto_region 14 with (first
          | (go_at_call 12; refine (fuse_is R7.out (kf : Int) (by omega) HLAY.out).mono ?_; rintro e w8 ⟨rfl, hR⟩; have RF := Lib.hid hR; clear hR)
          | refine wpList_load_row rfl 34 _ rfl g3 rfl 34 rc (0, 0) _ (RF.out.get 3 rfl) Tryd.underlying34 rfl (by rw [HCS.out rc (by simp)]; exact sizeR) ?_
          | (go_at_call 13; refine (HCM.out _ _ _ _ _ _ RF.out hn60 HCR.out.z2.2 HCR.out.z2.1 HCR.out.c3).mono ?_; rintro e w9 ⟨rfl, hR⟩; have RG := Lib.hid hR; clear hR; have c6 := RG.out.cell 2 1 rfl rfl)
          | (go_at_call 14; refine (crash_old RG.out A2 m c2 HMM.out ks HK.out HCR.out.c4).mono ?_; rintro e w10 ⟨rfl, hR⟩; have RK := Lib.hid hR; clear hR))
        clear c5 c6 hcv hmd hmd2 R7 RF RG HLAY HFM
        obtain ⟨C4, hC4⟩ : ∃ C, C = (mountR s4).cells := ⟨_, rfl⟩
        have HCS2 : Hid (∀ C ∈ [CA, rc, C4], C.size = 8) := Lib.hid (by rw [HCA.out, HRC.out, hC4]; intro P hP; simp only [List.mem_cons, List.not_mem_nil, or_false] at hP; rcases hP with rfl | rfl | rfl <;> rfl)
        have HCO2 : Hid (∀ C ∈ [CA, rc, C4], C.all (·.oneCell') = true) := Lib.hid (by rw [HCA.out, HRC.out, hC4]; intro P hP; simp only [List.mem_cons, List.not_mem_nil, or_false] at hP; rcases hP with rfl | rfl | rfl <;> exact rcells_one _)
        clear HCS HCO
        have HCS := HCS2
        have HCO := HCO2
        clear HCS2 HCO2
        have HC4 := Lib.hid hC4
        clear hC4
        go_wp2_with fail
        refine (HMT.out g s4 _ C4 0 (RK.out.thing 0 rfl) HCR.out.z4.1 HC4.out.symm HCR.out.m4.1).mono ?_
        rintro e w11 ⟨rfl, hb⟩
        have q1 := (RK.out.call hb).alloc2 C4 34
        clear hb
        go_upto_region 15 with (first | refine wpList_alloc_row rfl 34 rfl _ zeroR ?_ | refine wpList_store_new rfl 34 _ _ rfl _ C4 _ rfl rfl (by rw [HCS.out C4 (by simp)]; exact sizeR) (by rw [HCS.out C4 (by simp)]; rfl) (HCO.out C4 (by simp)) ?_)
        obtain ⟨W11, hW⟩ : ∃ W, W = w11.alloc (.cells C4 34) := ⟨_, rfl⟩
        rw [← hW] at q1 ⊢
        clear hW
        obtain ⟨g12, hg⟩ : ∃ g, g = w11.heap.size := ⟨_, rfl⟩
        rw [← hg] at q1 ⊢
        clear hg
        have R9 := Lib.hid q1
        clear q1
        clear RK
        obtain ⟨n1, hn1⟩ : ∃ b, b = !(mountR s4).same rA := ⟨_, rfl⟩
        have HN1 : Hid (∀ w : World, (binOp .neq 34 (.agg C4) (.agg CA)).run Tryd.prog w = .ok (.bool n1) w) := Lib.hid (fun w => by rw [HC4.out, HCA.out, run_neq_root, hn1])
        have hn2 : n1 = true ∨ E = 0 → mountR s4 = r' := by
          rintro (h | h)
          · rcases HCR.out.m4.2.1 with h2 | h2
            · rw [hn1, h2, (rsame_iff _ _).2 rfl] at h; cases h
            · exact h2
          · exact HCR.out.m4.2.2 h
        have HN2 : Hid (n1 = true ∨ E = 0 → ∀ w : World, (binOp .neq 34 (.agg C4) (.agg rc)).run Tryd.prog w = .ok (.bool false) w) := Lib.hid (fun h w => by rw [HC4.out, HRC.out, run_neq_root, hn2 h, (rsame_iff _ _).2 rfl]; rfl)
        clear hn1 hn2
        go_cut [102] (fun x w' => x = .bool false ∧ Held w w' (dvT g s4 :: rowT g12 C4 34 :: rowT g9 CA 34 :: rowT g5 #[.int .u8 (fz : Int), .slice A2 m c2] 38 :: [rowT g3 rc 34]))
        case first =>
          by_cases hE : E = 0
          · subst hE
            have HNZ := Lib.hid (HN2.out (.inr rfl))
            clear HN2
            cases n1 with
            | false =>
              refine wk_plain_since ?_
              repeat (first
                | (refine wk_move _ (by first | exact wanted_none rfl | exact wanted_yes _ _ rfl rfl) rfl ?_; simp only [Act.put, Act.eval, Array.getD_eq_getD_getElem?, List.getElem?_toArray, List.getElem?_cons_succ, List.getElem?_cons_zero, Option.getD_some, List.setIfInBounds_toArray, List.set_cons_zero, List.set_cons_succ])
                | (refine wk_assign _ (by first | exact wanted_none rfl | exact wanted_yes _ _ rfl rfl) rfl ?_; simp only [Act.put, Act.eval, Array.getD_eq_getD_getElem?, List.getElem?_toArray, List.getElem?_cons_succ, List.getElem?_cons_zero, Option.getD_some, List.setIfInBounds_toArray, List.set_cons_zero, List.set_cons_succ])
                | (refine wk_pickt _ _ _ _ (by first | exact wanted_none rfl | exact wanted_yes _ _ rfl rfl) rfl rfl rfl ?_; simp only [Act.put, Act.eval, Array.getD_eq_getD_getElem?, List.getElem?_toArray, List.getElem?_cons_succ, List.getElem?_cons_zero, Option.getD_some, List.setIfInBounds_toArray, List.set_cons_zero, List.set_cons_succ])
                | (refine wk_pickf _ _ _ _ (by first | exact wanted_none rfl | exact wanted_yes _ _ rfl rfl) rfl rfl rfl ?_; simp only [Act.put, Act.eval, Array.getD_eq_getD_getElem?, List.getElem?_toArray, List.getElem?_cons_succ, List.getElem?_cons_zero, Option.getD_some, List.setIfInBounds_toArray, List.set_cons_zero, List.set_cons_succ])
                | (refine wk_skip (wanted_not _ true false rfl rfl rfl) ?_; simp only [Act.put, List.setIfInBounds_toArray, List.set_cons_zero, List.set_cons_succ])
                | (refine wk_skip (wanted_not _ false true rfl rfl rfl) ?_; simp only [Act.put, List.setIfInBounds_toArray, List.set_cons_zero, List.set_cons_succ])
                | (refine wk_skip (wanted_undef _ _ rfl rfl) ?_; simp only [Act.put, List.setIfInBounds_toArray, List.set_cons_zero, List.set_cons_succ])
                | (refine wk_not true _ _ (by first | exact wanted_none rfl | exact wanted_yes _ _ rfl rfl) rfl rfl ?_; simp only [Act.put, List.setIfInBounds_toArray, List.set_cons_zero, List.set_cons_succ])
                | (refine wk_not false _ _ (by first | exact wanted_none rfl | exact wanted_yes _ _ rfl rfl) rfl rfl ?_; simp only [Act.put, List.setIfInBounds_toArray, List.set_cons_zero, List.set_cons_succ]))
              refine wk_cmp_int .neq (false) _ _ _ _ _ _ _ (by kernel_rfl) rfl rfl rfl (rfl) ?_
              simp only [Act.put, List.setIfInBounds_toArray, List.set_cons_zero, List.set_cons_succ]
              repeat (first
                | (refine wk_move _ (by first | exact wanted_none rfl | exact wanted_yes _ _ rfl rfl) rfl ?_; simp only [Act.put, Act.eval, Array.getD_eq_getD_getElem?, List.getElem?_toArray, List.getElem?_cons_succ, List.getElem?_cons_zero, Option.getD_some, List.setIfInBounds_toArray, List.set_cons_zero, List.set_cons_succ])
                | (refine wk_assign _ (by first | exact wanted_none rfl | exact wanted_yes _ _ rfl rfl) rfl ?_; simp only [Act.put, Act.eval, Array.getD_eq_getD_getElem?, List.getElem?_toArray, List.getElem?_cons_succ, List.getElem?_cons_zero, Option.getD_some, List.setIfInBounds_toArray, List.set_cons_zero, List.set_cons_succ])
                | (refine wk_pickt _ _ _ _ (by first | exact wanted_none rfl | exact wanted_yes _ _ rfl rfl) rfl rfl rfl ?_; simp only [Act.put, Act.eval, Array.getD_eq_getD_getElem?, List.getElem?_toArray, List.getElem?_cons_succ, List.getElem?_cons_zero, Option.getD_some, List.setIfInBounds_toArray, List.set_cons_zero, List.set_cons_succ])
                | (refine wk_pickf _ _ _ _ (by first | exact wanted_none rfl | exact wanted_yes _ _ rfl rfl) rfl rfl rfl ?_; simp only [Act.put, Act.eval, Array.getD_eq_getD_getElem?, List.getElem?_toArray, List.getElem?_cons_succ, List.getElem?_cons_zero, Option.getD_some, List.setIfInBounds_toArray, List.set_cons_zero, List.set_cons_succ])
                | (refine wk_skip (wanted_not _ true false rfl rfl rfl) ?_; simp only [Act.put, List.setIfInBounds_toArray, List.set_cons_zero, List.set_cons_succ])
                | (refine wk_skip (wanted_not _ false true rfl rfl rfl) ?_; simp only [Act.put, List.setIfInBounds_toArray, List.set_cons_zero, List.set_cons_succ])
                | (refine wk_skip (wanted_undef _ _ rfl rfl) ?_; simp only [Act.put, List.setIfInBounds_toArray, List.set_cons_zero, List.set_cons_succ])
                | (refine wk_not true _ _ (by first | exact wanted_none rfl | exact wanted_yes _ _ rfl rfl) rfl rfl ?_; simp only [Act.put, List.setIfInBounds_toArray, List.set_cons_zero, List.set_cons_succ])
                | (refine wk_not false _ _ (by first | exact wanted_none rfl | exact wanted_yes _ _ rfl rfl) rfl rfl ?_; simp only [Act.put, List.setIfInBounds_toArray, List.set_cons_zero, List.set_cons_succ]))
              refine wk_load_row 34 _ g12 34 C4 (0, 0) _ (by kernel_rfl) rfl rfl (fun w' hC => hC.row (R9.out.get 1 rfl)) Tryd.underlying34 rfl (by rw [HCS.out C4 (by simp)]; exact sizeR) ?_
              simp only [Act.put, List.setIfInBounds_toArray, List.set_cons_zero, List.set_cons_succ]
              refine wk_load_row 34 _ g9 34 CA (0, 0) _ (by kernel_rfl) rfl rfl (fun w' hC => hC.row (R9.out.get 2 rfl)) Tryd.underlying34 rfl (by rw [HCS.out CA (by simp)]; exact sizeR) ?_
              simp only [Act.put, List.setIfInBounds_toArray, List.set_cons_zero, List.set_cons_succ]
              refine wk_eql .neq (false) 34 34 _ _ (by first | exact wanted_none rfl | exact wanted_yes _ _ rfl rfl) rfl _ _ rfl rfl (by kernel_rfl) (fun w => HN1.out w) ?_
              simp only [Act.put, List.setIfInBounds_toArray, List.set_cons_zero, List.set_cons_succ]
              repeat (first
                | (refine wk_move _ (by first | exact wanted_none rfl | exact wanted_yes _ _ rfl rfl) rfl ?_; simp only [Act.put, Act.eval, Array.getD_eq_getD_getElem?, List.getElem?_toArray, List.getElem?_cons_succ, List.getElem?_cons_zero, Option.getD_some, List.setIfInBounds_toArray, List.set_cons_zero, List.set_cons_succ])
                | (refine wk_assign _ (by first | exact wanted_none rfl | exact wanted_yes _ _ rfl rfl) rfl ?_; simp only [Act.put, Act.eval, Array.getD_eq_getD_getElem?, List.getElem?_toArray, List.getElem?_cons_succ, List.getElem?_cons_zero, Option.getD_some, List.setIfInBounds_toArray, List.set_cons_zero, List.set_cons_succ])
                | (refine wk_pickt _ _ _ _ (by first | exact wanted_none rfl | exact wanted_yes _ _ rfl rfl) rfl rfl rfl ?_; simp only [Act.put, Act.eval, Array.getD_eq_getD_getElem?, List.getElem?_toArray, List.getElem?_cons_succ, List.getElem?_cons_zero, Option.getD_some, List.setIfInBounds_toArray, List.set_cons_zero, List.set_cons_succ])
                | (refine wk_pickf _ _ _ _ (by first | exact wanted_none rfl | exact wanted_yes _ _ rfl rfl) rfl rfl rfl ?_; simp only [Act.put, Act.eval, Array.getD_eq_getD_getElem?, List.getElem?_toArray, List.getElem?_cons_succ, List.getElem?_cons_zero, Option.getD_some, List.setIfInBounds_toArray, List.set_cons_zero, List.set_cons_succ])
                | (refine wk_skip (wanted_not _ true false rfl rfl rfl) ?_; simp only [Act.put, List.setIfInBounds_toArray, List.set_cons_zero, List.set_cons_succ])
                | (refine wk_skip (wanted_not _ false true rfl rfl rfl) ?_; simp only [Act.put, List.setIfInBounds_toArray, List.set_cons_zero, List.set_cons_succ])
                | (refine wk_skip (wanted_undef _ _ rfl rfl) ?_; simp only [Act.put, List.setIfInBounds_toArray, List.set_cons_zero, List.set_cons_succ])
                | (refine wk_not true _ _ (by first | exact wanted_none rfl | exact wanted_yes _ _ rfl rfl) rfl rfl ?_; simp only [Act.put, List.setIfInBounds_toArray, List.set_cons_zero, List.set_cons_succ])
                | (refine wk_not false _ _ (by first | exact wanted_none rfl | exact wanted_yes _ _ rfl rfl) rfl rfl ?_; simp only [Act.put, List.setIfInBounds_toArray, List.set_cons_zero, List.set_cons_succ]))
              refine wk_cmp_int .eql (true) _ _ _ _ _ _ _ (by kernel_rfl) rfl rfl rfl (rfl) ?_
              simp only [Act.put, List.setIfInBounds_toArray, List.set_cons_zero, List.set_cons_succ]
              repeat (first
                | (refine wk_move _ (by first | exact wanted_none rfl | exact wanted_yes _ _ rfl rfl) rfl ?_; simp only [Act.put, Act.eval, Array.getD_eq_getD_getElem?, List.getElem?_toArray, List.getElem?_cons_succ, List.getElem?_cons_zero, Option.getD_some, List.setIfInBounds_toArray, List.set_cons_zero, List.set_cons_succ])
                | (refine wk_assign _ (by first | exact wanted_none rfl | exact wanted_yes _ _ rfl rfl) rfl ?_; simp only [Act.put, Act.eval, Array.getD_eq_getD_getElem?, List.getElem?_toArray, List.getElem?_cons_succ, List.getElem?_cons_zero, Option.getD_some, List.setIfInBounds_toArray, List.set_cons_zero, List.set_cons_succ])
                | (refine wk_pickt _ _ _ _ (by first | exact wanted_none rfl | exact wanted_yes _ _ rfl rfl) rfl rfl rfl ?_; simp only [Act.put, Act.eval, Array.getD_eq_getD_getElem?, List.getElem?_toArray, List.getElem?_cons_succ, List.getElem?_cons_zero, Option.getD_some, List.setIfInBounds_toArray, List.set_cons_zero, List.set_cons_succ])
                | (refine wk_pickf _ _ _ _ (by first | exact wanted_none rfl | exact wanted_yes _ _ rfl rfl) rfl rfl rfl ?_; simp only [Act.put, Act.eval, Array.getD_eq_getD_getElem?, List.getElem?_toArray, List.getElem?_cons_succ, List.getElem?_cons_zero, Option.getD_some, List.setIfInBounds_toArray, List.set_cons_zero, List.set_cons_succ])
                | (refine wk_skip (wanted_not _ true false rfl rfl rfl) ?_; simp only [Act.put, List.setIfInBounds_toArray, List.set_cons_zero, List.set_cons_succ])
                | (refine wk_skip (wanted_not _ false true rfl rfl rfl) ?_; simp only [Act.put, List.setIfInBounds_toArray, List.set_cons_zero, List.set_cons_succ])
                | (refine wk_skip (wanted_undef _ _ rfl rfl) ?_; simp only [Act.put, List.setIfInBounds_toArray, List.set_cons_zero, List.set_cons_succ])
                | (refine wk_not true _ _ (by first | exact wanted_none rfl | exact wanted_yes _ _ rfl rfl) rfl rfl ?_; simp only [Act.put, List.setIfInBounds_toArray, List.set_cons_zero, List.set_cons_succ])
                | (refine wk_not false _ _ (by first | exact wanted_none rfl | exact wanted_yes _ _ rfl rfl) rfl rfl ?_; simp only [Act.put, List.setIfInBounds_toArray, List.set_cons_zero, List.set_cons_succ]))
              refine wk_load_row 34 _ g12 34 C4 (0, 0) _ (by kernel_rfl) rfl rfl (fun w' hC => hC.row (R9.out.get 1 rfl)) Tryd.underlying34 rfl (by rw [HCS.out C4 (by simp)]; exact sizeR) ?_
              simp only [Act.put, List.setIfInBounds_toArray, List.set_cons_zero, List.set_cons_succ]
              refine wk_load_row 34 _ g3 34 rc (0, 0) _ (by kernel_rfl) rfl rfl (fun w' hC => hC.row (R9.out.get 4 rfl)) Tryd.underlying34 rfl (by rw [HCS.out rc (by simp)]; exact sizeR) ?_
              simp only [Act.put, List.setIfInBounds_toArray, List.set_cons_zero, List.set_cons_succ]
              refine wk_eql .neq (false) 34 34 _ _ (by first | exact wanted_none rfl | exact wanted_yes _ _ rfl rfl) rfl _ _ rfl rfl (by kernel_rfl) (fun w => HNZ.out w) ?_
              simp only [Act.put, List.setIfInBounds_toArray, List.set_cons_zero, List.set_cons_succ]
              repeat (first
                | (refine wk_move _ (by first | exact wanted_none rfl | exact wanted_yes _ _ rfl rfl) rfl ?_; simp only [Act.put, Act.eval, Array.getD_eq_getD_getElem?, List.getElem?_toArray, List.getElem?_cons_succ, List.getElem?_cons_zero, Option.getD_some, List.setIfInBounds_toArray, List.set_cons_zero, List.set_cons_succ])
                | (refine wk_assign _ (by first | exact wanted_none rfl | exact wanted_yes _ _ rfl rfl) rfl ?_; simp only [Act.put, Act.eval, Array.getD_eq_getD_getElem?, List.getElem?_toArray, List.getElem?_cons_succ, List.getElem?_cons_zero, Option.getD_some, List.setIfInBounds_toArray, List.set_cons_zero, List.set_cons_succ])
                | (refine wk_pickt _ _ _ _ (by first | exact wanted_none rfl | exact wanted_yes _ _ rfl rfl) rfl rfl rfl ?_; simp only [Act.put, Act.eval, Array.getD_eq_getD_getElem?, List.getElem?_toArray, List.getElem?_cons_succ, List.getElem?_cons_zero, Option.getD_some, List.setIfInBounds_toArray, List.set_cons_zero, List.set_cons_succ])
                | (refine wk_pickf _ _ _ _ (by first | exact wanted_none rfl | exact wanted_yes _ _ rfl rfl) rfl rfl rfl ?_; simp only [Act.put, Act.eval, Array.getD_eq_getD_getElem?, List.getElem?_toArray, List.getElem?_cons_succ, List.getElem?_cons_zero, Option.getD_some, List.setIfInBounds_toArray, List.set_cons_zero, List.set_cons_succ])
                | (refine wk_skip (wanted_not _ true false rfl rfl rfl) ?_; simp only [Act.put, List.setIfInBounds_toArray, List.set_cons_zero, List.set_cons_succ])
                | (refine wk_skip (wanted_not _ false true rfl rfl rfl) ?_; simp only [Act.put, List.setIfInBounds_toArray, List.set_cons_zero, List.set_cons_succ])
                | (refine wk_skip (wanted_undef _ _ rfl rfl) ?_; simp only [Act.put, List.setIfInBounds_toArray, List.set_cons_zero, List.set_cons_succ])
                | (refine wk_not true _ _ (by first | exact wanted_none rfl | exact wanted_yes _ _ rfl rfl) rfl rfl ?_; simp only [Act.put, List.setIfInBounds_toArray, List.set_cons_zero, List.set_cons_succ])
                | (refine wk_not false _ _ (by first | exact wanted_none rfl | exact wanted_yes _ _ rfl rfl) rfl rfl ?_; simp only [Act.put, List.setIfInBounds_toArray, List.set_cons_zero, List.set_cons_succ]))
              refine wk_nil ?_
              intro w' hC
              have RA := Lib.hid (R9.out.since hC)
              clear hC
              go_wp2_with fail
              go_meet
              exact ⟨rfl, RA.out⟩
            | true =>
              refine wk_plain_since ?_
              repeat (first
                | (refine wk_move _ (by first | exact wanted_none rfl | exact wanted_yes _ _ rfl rfl) rfl ?_; simp only [Act.put, Act.eval, Array.getD_eq_getD_getElem?, List.getElem?_toArray, List.getElem?_cons_succ, List.getElem?_cons_zero, Option.getD_some, List.setIfInBounds_toArray, List.set_cons_zero, List.set_cons_succ])
                | (refine wk_assign _ (by first | exact wanted_none rfl | exact wanted_yes _ _ rfl rfl) rfl ?_; simp only [Act.put, Act.eval, Array.getD_eq_getD_getElem?, List.getElem?_toArray, List.getElem?_cons_succ, List.getElem?_cons_zero, Option.getD_some, List.setIfInBounds_toArray, List.set_cons_zero, List.set_cons_succ])
                | (refine wk_pickt _ _ _ _ (by first | exact wanted_none rfl | exact wanted_yes _ _ rfl rfl) rfl rfl rfl ?_; simp only [Act.put, Act.eval, Array.getD_eq_getD_getElem?, List.getElem?_toArray, List.getElem?_cons_succ, List.getElem?_cons_zero, Option.getD_some, List.setIfInBounds_toArray, List.set_cons_zero, List.set_cons_succ])
                | (refine wk_pickf _ _ _ _ (by first | exact wanted_none rfl | exact wanted_yes _ _ rfl rfl) rfl rfl rfl ?_; simp only [Act.put, Act.eval, Array.getD_eq_getD_getElem?, List.getElem?_toArray, List.getElem?_cons_succ, List.getElem?_cons_zero, Option.getD_some, List.setIfInBounds_toArray, List.set_cons_zero, List.set_cons_succ])
                | (refine wk_skip (wanted_not _ true false rfl rfl rfl) ?_; simp only [Act.put, List.setIfInBounds_toArray, List.set_cons_zero, List.set_cons_succ])
                | (refine wk_skip (wanted_not _ false true rfl rfl rfl) ?_; simp only [Act.put, List.setIfInBounds_toArray, List.set_cons_zero, List.set_cons_succ])
                | (refine wk_skip (wanted_undef _ _ rfl rfl) ?_; simp only [Act.put, List.setIfInBounds_toArray, List.set_cons_zero, List.set_cons_succ])
                | (refine wk_not true _ _ (by first | exact wanted_none rfl | exact wanted_yes _ _ rfl rfl) rfl rfl ?_; simp only [Act.put, List.setIfInBounds_toArray, List.set_cons_zero, List.set_cons_succ])
                | (refine wk_not false _ _ (by first | exact wanted_none rfl | exact wanted_yes _ _ rfl rfl) rfl rfl ?_; simp only [Act.put, List.setIfInBounds_toArray, List.set_cons_zero, List.set_cons_succ]))
              refine wk_cmp_int .neq (false) _ _ _ _ _ _ _ (by kernel_rfl) rfl rfl rfl (rfl) ?_
              simp only [Act.put, List.setIfInBounds_toArray, List.set_cons_zero, List.set_cons_succ]
              repeat (first
                | (refine wk_move _ (by first | exact wanted_none rfl | exact wanted_yes _ _ rfl rfl) rfl ?_; simp only [Act.put, Act.eval, Array.getD_eq_getD_getElem?, List.getElem?_toArray, List.getElem?_cons_succ, List.getElem?_cons_zero, Option.getD_some, List.setIfInBounds_toArray, List.set_cons_zero, List.set_cons_succ])
                | (refine wk_assign _ (by first | exact wanted_none rfl | exact wanted_yes _ _ rfl rfl) rfl ?_; simp only [Act.put, Act.eval, Array.getD_eq_getD_getElem?, List.getElem?_toArray, List.getElem?_cons_succ, List.getElem?_cons_zero, Option.getD_some, List.setIfInBounds_toArray, List.set_cons_zero, List.set_cons_succ])
                | (refine wk_pickt _ _ _ _ (by first | exact wanted_none rfl | exact wanted_yes _ _ rfl rfl) rfl rfl rfl ?_; simp only [Act.put, Act.eval, Array.getD_eq_getD_getElem?, List.getElem?_toArray, List.getElem?_cons_succ, List.getElem?_cons_zero, Option.getD_some, List.setIfInBounds_toArray, List.set_cons_zero, List.set_cons_succ])
                | (refine wk_pickf _ _ _ _ (by first | exact wanted_none rfl | exact wanted_yes _ _ rfl rfl) rfl rfl rfl ?_; simp only [Act.put, Act.eval, Array.getD_eq_getD_getElem?, List.getElem?_toArray, List.getElem?_cons_succ, List.getElem?_cons_zero, Option.getD_some, List.setIfInBounds_toArray, List.set_cons_zero, List.set_cons_succ])
                | (refine wk_skip (wanted_not _ true false rfl rfl rfl) ?_; simp only [Act.put, List.setIfInBounds_toArray, List.set_cons_zero, List.set_cons_succ])
                | (refine wk_skip (wanted_not _ false true rfl rfl rfl) ?_; simp only [Act.put, List.setIfInBounds_toArray, List.set_cons_zero, List.set_cons_succ])
                | (refine wk_skip (wanted_undef _ _ rfl rfl) ?_; simp only [Act.put, List.setIfInBounds_toArray, List.set_cons_zero, List.set_cons_succ])
                | (refine wk_not true _ _ (by first | exact wanted_none rfl | exact wanted_yes _ _ rfl rfl) rfl rfl ?_; simp only [Act.put, List.setIfInBounds_toArray, List.set_cons_zero, List.set_cons_succ])
                | (refine wk_not false _ _ (by first | exact wanted_none rfl | exact wanted_yes _ _ rfl rfl) rfl rfl ?_; simp only [Act.put, List.setIfInBounds_toArray, List.set_cons_zero, List.set_cons_succ]))
              refine wk_load_row 34 _ g12 34 C4 (0, 0) _ (by kernel_rfl) rfl rfl (fun w' hC => hC.row (R9.out.get 1 rfl)) Tryd.underlying34 rfl (by rw [HCS.out C4 (by simp)]; exact sizeR) ?_
              simp only [Act.put, List.setIfInBounds_toArray, List.set_cons_zero, List.set_cons_succ]
              refine wk_load_row 34 _ g9 34 CA (0, 0) _ (by kernel_rfl) rfl rfl (fun w' hC => hC.row (R9.out.get 2 rfl)) Tryd.underlying34 rfl (by rw [HCS.out CA (by simp)]; exact sizeR) ?_
              simp only [Act.put, List.setIfInBounds_toArray, List.set_cons_zero, List.set_cons_succ]
              refine wk_eql .neq (true) 34 34 _ _ (by first | exact wanted_none rfl | exact wanted_yes _ _ rfl rfl) rfl _ _ rfl rfl (by kernel_rfl) (fun w => HN1.out w) ?_
              simp only [Act.put, List.setIfInBounds_toArray, List.set_cons_zero, List.set_cons_succ]
              repeat (first
                | (refine wk_move _ (by first | exact wanted_none rfl | exact wanted_yes _ _ rfl rfl) rfl ?_; simp only [Act.put, Act.eval, Array.getD_eq_getD_getElem?, List.getElem?_toArray, List.getElem?_cons_succ, List.getElem?_cons_zero, Option.getD_some, List.setIfInBounds_toArray, List.set_cons_zero, List.set_cons_succ])
                | (refine wk_assign _ (by first | exact wanted_none rfl | exact wanted_yes _ _ rfl rfl) rfl ?_; simp only [Act.put, Act.eval, Array.getD_eq_getD_getElem?, List.getElem?_toArray, List.getElem?_cons_succ, List.getElem?_cons_zero, Option.getD_some, List.setIfInBounds_toArray, List.set_cons_zero, List.set_cons_succ])
                | (refine wk_pickt _ _ _ _ (by first | exact wanted_none rfl | exact wanted_yes _ _ rfl rfl) rfl rfl rfl ?_; simp only [Act.put, Act.eval, Array.getD_eq_getD_getElem?, List.getElem?_toArray, List.getElem?_cons_succ, List.getElem?_cons_zero, Option.getD_some, List.setIfInBounds_toArray, List.set_cons_zero, List.set_cons_succ])
                | (refine wk_pickf _ _ _ _ (by first | exact wanted_none rfl | exact wanted_yes _ _ rfl rfl) rfl rfl rfl ?_; simp only [Act.put, Act.eval, Array.getD_eq_getD_getElem?, List.getElem?_toArray, List.getElem?_cons_succ, List.getElem?_cons_zero, Option.getD_some, List.setIfInBounds_toArray, List.set_cons_zero, List.set_cons_succ])
                | (refine wk_skip (wanted_not _ true false rfl rfl rfl) ?_; simp only [Act.put, List.setIfInBounds_toArray, List.set_cons_zero, List.set_cons_succ])
                | (refine wk_skip (wanted_not _ false true rfl rfl rfl) ?_; simp only [Act.put, List.setIfInBounds_toArray, List.set_cons_zero, List.set_cons_succ])
                | (refine wk_skip (wanted_undef _ _ rfl rfl) ?_; simp only [Act.put, List.setIfInBounds_toArray, List.set_cons_zero, List.set_cons_succ])
                | (refine wk_not true _ _ (by first | exact wanted_none rfl | exact wanted_yes _ _ rfl rfl) rfl rfl ?_; simp only [Act.put, List.setIfInBounds_toArray, List.set_cons_zero, List.set_cons_succ])
                | (refine wk_not false _ _ (by first | exact wanted_none rfl | exact wanted_yes _ _ rfl rfl) rfl rfl ?_; simp only [Act.put, List.setIfInBounds_toArray, List.set_cons_zero, List.set_cons_succ]))
              refine wk_load_row 34 _ g12 34 C4 (0, 0) _ (by kernel_rfl) rfl rfl (fun w' hC => hC.row (R9.out.get 1 rfl)) Tryd.underlying34 rfl (by rw [HCS.out C4 (by simp)]; exact sizeR) ?_
              simp only [Act.put, List.setIfInBounds_toArray, List.set_cons_zero, List.set_cons_succ]
              refine wk_load_row 34 _ g3 34 rc (0, 0) _ (by kernel_rfl) rfl rfl (fun w' hC => hC.row (R9.out.get 4 rfl)) Tryd.underlying34 rfl (by rw [HCS.out rc (by simp)]; exact sizeR) ?_
              simp only [Act.put, List.setIfInBounds_toArray, List.set_cons_zero, List.set_cons_succ]
              refine wk_eql .neq (false) 34 34 _ _ (by first | exact wanted_none rfl | exact wanted_yes _ _ rfl rfl) rfl _ _ rfl rfl (by kernel_rfl) (fun w => HNZ.out w) ?_
              simp only [Act.put, List.setIfInBounds_toArray, List.set_cons_zero, List.set_cons_succ]
              repeat (first
                | (refine wk_move _ (by first | exact wanted_none rfl | exact wanted_yes _ _ rfl rfl) rfl ?_; simp only [Act.put, Act.eval, Array.getD_eq_getD_getElem?, List.getElem?_toArray, List.getElem?_cons_succ, List.getElem?_cons_zero, Option.getD_some, List.setIfInBounds_toArray, List.set_cons_zero, List.set_cons_succ])
                | (refine wk_assign _ (by first | exact wanted_none rfl | exact wanted_yes _ _ rfl rfl) rfl ?_; simp only [Act.put, Act.eval, Array.getD_eq_getD_getElem?, List.getElem?_toArray, List.getElem?_cons_succ, List.getElem?_cons_zero, Option.getD_some, List.setIfInBounds_toArray, List.set_cons_zero, List.set_cons_succ])
                | (refine wk_pickt _ _ _ _ (by first | exact wanted_none rfl | exact wanted_yes _ _ rfl rfl) rfl rfl rfl ?_; simp only [Act.put, Act.eval, Array.getD_eq_getD_getElem?, List.getElem?_toArray, List.getElem?_cons_succ, List.getElem?_cons_zero, Option.getD_some, List.setIfInBounds_toArray, List.set_cons_zero, List.set_cons_succ])
                | (refine wk_pickf _ _ _ _ (by first | exact wanted_none rfl | exact wanted_yes _ _ rfl rfl) rfl rfl rfl ?_; simp only [Act.put, Act.eval, Array.getD_eq_getD_getElem?, List.getElem?_toArray, List.getElem?_cons_succ, List.getElem?_cons_zero, Option.getD_some, List.setIfInBounds_toArray, List.set_cons_zero, List.set_cons_succ])
                | (refine wk_skip (wanted_not _ true false rfl rfl rfl) ?_; simp only [Act.put, List.setIfInBounds_toArray, List.set_cons_zero, List.set_cons_succ])
                | (refine wk_skip (wanted_not _ false true rfl rfl rfl) ?_; simp only [Act.put, List.setIfInBounds_toArray, List.set_cons_zero, List.set_cons_succ])
                | (refine wk_skip (wanted_undef _ _ rfl rfl) ?_; simp only [Act.put, List.setIfInBounds_toArray, List.set_cons_zero, List.set_cons_succ])
                | (refine wk_not true _ _ (by first | exact wanted_none rfl | exact wanted_yes _ _ rfl rfl) rfl rfl ?_; simp only [Act.put, List.setIfInBounds_toArray, List.set_cons_zero, List.set_cons_succ])
                | (refine wk_not false _ _ (by first | exact wanted_none rfl | exact wanted_yes _ _ rfl rfl) rfl rfl ?_; simp only [Act.put, List.setIfInBounds_toArray, List.set_cons_zero, List.set_cons_succ]))
              refine wk_cmp_int .eql (true) _ _ _ _ _ _ _ (by kernel_rfl) rfl rfl rfl (rfl) ?_
              simp only [Act.put, List.setIfInBounds_toArray, List.set_cons_zero, List.set_cons_succ]
              repeat (first
                | (refine wk_move _ (by first | exact wanted_none rfl | exact wanted_yes _ _ rfl rfl) rfl ?_; simp only [Act.put, Act.eval, Array.getD_eq_getD_getElem?, List.getElem?_toArray, List.getElem?_cons_succ, List.getElem?_cons_zero, Option.getD_some, List.setIfInBounds_toArray, List.set_cons_zero, List.set_cons_succ])
                | (refine wk_assign _ (by first | exact wanted_none rfl | exact wanted_yes _ _ rfl rfl) rfl ?_; simp only [Act.put, Act.eval, Array.getD_eq_getD_getElem?, List.getElem?_toArray, List.getElem?_cons_succ, List.getElem?_cons_zero, Option.getD_some, List.setIfInBounds_toArray, List.set_cons_zero, List.set_cons_succ])
                | (refine wk_pickt _ _ _ _ (by first | exact wanted_none rfl | exact wanted_yes _ _ rfl rfl) rfl rfl rfl ?_; simp only [Act.put, Act.eval, Array.getD_eq_getD_getElem?, List.getElem?_toArray, List.getElem?_cons_succ, List.getElem?_cons_zero, Option.getD_some, List.setIfInBounds_toArray, List.set_cons_zero, List.set_cons_succ])
                | (refine wk_pickf _ _ _ _ (by first | exact wanted_none rfl | exact wanted_yes _ _ rfl rfl) rfl rfl rfl ?_; simp only [Act.put, Act.eval, Array.getD_eq_getD_getElem?, List.getElem?_toArray, List.getElem?_cons_succ, List.getElem?_cons_zero, Option.getD_some, List.setIfInBounds_toArray, List.set_cons_zero, List.set_cons_succ])
                | (refine wk_skip (wanted_not _ true false rfl rfl rfl) ?_; simp only [Act.put, List.setIfInBounds_toArray, List.set_cons_zero, List.set_cons_succ])
                | (refine wk_skip (wanted_not _ false true rfl rfl rfl) ?_; simp only [Act.put, List.setIfInBounds_toArray, List.set_cons_zero, List.set_cons_succ])
                | (refine wk_skip (wanted_undef _ _ rfl rfl) ?_; simp only [Act.put, List.setIfInBounds_toArray, List.set_cons_zero, List.set_cons_succ])
                | (refine wk_not true _ _ (by first | exact wanted_none rfl | exact wanted_yes _ _ rfl rfl) rfl rfl ?_; simp only [Act.put, List.setIfInBounds_toArray, List.set_cons_zero, List.set_cons_succ])
                | (refine wk_not false _ _ (by first | exact wanted_none rfl | exact wanted_yes _ _ rfl rfl) rfl rfl ?_; simp only [Act.put, List.setIfInBounds_toArray, List.set_cons_zero, List.set_cons_succ]))
              refine wk_load_row 34 _ g12 34 C4 (0, 0) _ (by kernel_rfl) rfl rfl (fun w' hC => hC.row (R9.out.get 1 rfl)) Tryd.underlying34 rfl (by rw [HCS.out C4 (by simp)]; exact sizeR) ?_
              simp only [Act.put, List.setIfInBounds_toArray, List.set_cons_zero, List.set_cons_succ]
              refine wk_load_row 34 _ g3 34 rc (0, 0) _ (by kernel_rfl) rfl rfl (fun w' hC => hC.row (R9.out.get 4 rfl)) Tryd.underlying34 rfl (by rw [HCS.out rc (by simp)]; exact sizeR) ?_
              simp only [Act.put, List.setIfInBounds_toArray, List.set_cons_zero, List.set_cons_succ]
              refine wk_eql .neq (false) 34 34 _ _ (by first | exact wanted_none rfl | exact wanted_yes _ _ rfl rfl) rfl _ _ rfl rfl (by kernel_rfl) (fun w => HNZ.out w) ?_
              simp only [Act.put, List.setIfInBounds_toArray, List.set_cons_zero, List.set_cons_succ]
              repeat (first
                | (refine wk_move _ (by first | exact wanted_none rfl | exact wanted_yes _ _ rfl rfl) rfl ?_; simp only [Act.put, Act.eval, Array.getD_eq_getD_getElem?, List.getElem?_toArray, List.getElem?_cons_succ, List.getElem?_cons_zero, Option.getD_some, List.setIfInBounds_toArray, List.set_cons_zero, List.set_cons_succ])
                | (refine wk_assign _ (by first | exact wanted_none rfl | exact wanted_yes _ _ rfl rfl) rfl ?_; simp only [Act.put, Act.eval, Array.getD_eq_getD_getElem?, List.getElem?_toArray, List.getElem?_cons_succ, List.getElem?_cons_zero, Option.getD_some, List.setIfInBounds_toArray, List.set_cons_zero, List.set_cons_succ])
                | (refine wk_pickt _ _ _ _ (by first | exact wanted_none rfl | exact wanted_yes _ _ rfl rfl) rfl rfl rfl ?_; simp only [Act.put, Act.eval, Array.getD_eq_getD_getElem?, List.getElem?_toArray, List.getElem?_cons_succ, List.getElem?_cons_zero, Option.getD_some, List.setIfInBounds_toArray, List.set_cons_zero, List.set_cons_succ])
                | (refine wk_pickf _ _ _ _ (by first | exact wanted_none rfl | exact wanted_yes _ _ rfl rfl) rfl rfl rfl ?_; simp only [Act.put, Act.eval, Array.getD_eq_getD_getElem?, List.getElem?_toArray, List.getElem?_cons_succ, List.getElem?_cons_zero, Option.getD_some, List.setIfInBounds_toArray, List.set_cons_zero, List.set_cons_succ])
                | (refine wk_skip (wanted_not _ true false rfl rfl rfl) ?_; simp only [Act.put, List.setIfInBounds_toArray, List.set_cons_zero, List.set_cons_succ])
                | (refine wk_skip (wanted_not _ false true rfl rfl rfl) ?_; simp only [Act.put, List.setIfInBounds_toArray, List.set_cons_zero, List.set_cons_succ])
                | (refine wk_skip (wanted_undef _ _ rfl rfl) ?_; simp only [Act.put, List.setIfInBounds_toArray, List.set_cons_zero, List.set_cons_succ])
                | (refine wk_not true _ _ (by first | exact wanted_none rfl | exact wanted_yes _ _ rfl rfl) rfl rfl ?_; simp only [Act.put, List.setIfInBounds_toArray, List.set_cons_zero, List.set_cons_succ])
                | (refine wk_not false _ _ (by first | exact wanted_none rfl | exact wanted_yes _ _ rfl rfl) rfl rfl ?_; simp only [Act.put, List.setIfInBounds_toArray, List.set_cons_zero, List.set_cons_succ]))
              refine wk_nil ?_
              intro w' hC
              have RA := Lib.hid (R9.out.since hC)
              clear hC
              go_wp2_with fail
              go_meet
              exact ⟨rfl, RA.out⟩
          · have HEQ : Hid (cmpInt .eql E 0 = some false) := Lib.hid (by simp [cmpInt, hE])
            clear hE
            cases n1 with
            | false =>
              refine wk_plain_since ?_
              repeat (first
                | (refine wk_move _ (by first | exact wanted_none rfl | exact wanted_yes _ _ rfl rfl) rfl ?_; simp only [Act.put, Act.eval, Array.getD_eq_getD_getElem?, List.getElem?_toArray, List.getElem?_cons_succ, List.getElem?_cons_zero, Option.getD_some, List.setIfInBounds_toArray, List.set_cons_zero, List.set_cons_succ])
                | (refine wk_assign _ (by first | exact wanted_none rfl | exact wanted_yes _ _ rfl rfl) rfl ?_; simp only [Act.put, Act.eval, Array.getD_eq_getD_getElem?, List.getElem?_toArray, List.getElem?_cons_succ, List.getElem?_cons_zero, Option.getD_some, List.setIfInBounds_toArray, List.set_cons_zero, List.set_cons_succ])
                | (refine wk_pickt _ _ _ _ (by first | exact wanted_none rfl | exact wanted_yes _ _ rfl rfl) rfl rfl rfl ?_; simp only [Act.put, Act.eval, Array.getD_eq_getD_getElem?, List.getElem?_toArray, List.getElem?_cons_succ, List.getElem?_cons_zero, Option.getD_some, List.setIfInBounds_toArray, List.set_cons_zero, List.set_cons_succ])
                | (refine wk_pickf _ _ _ _ (by first | exact wanted_none rfl | exact wanted_yes _ _ rfl rfl) rfl rfl rfl ?_; simp only [Act.put, Act.eval, Array.getD_eq_getD_getElem?, List.getElem?_toArray, List.getElem?_cons_succ, List.getElem?_cons_zero, Option.getD_some, List.setIfInBounds_toArray, List.set_cons_zero, List.set_cons_succ])
                | (refine wk_skip (wanted_not _ true false rfl rfl rfl) ?_; simp only [Act.put, List.setIfInBounds_toArray, List.set_cons_zero, List.set_cons_succ])
                | (refine wk_skip (wanted_not _ false true rfl rfl rfl) ?_; simp only [Act.put, List.setIfInBounds_toArray, List.set_cons_zero, List.set_cons_succ])
                | (refine wk_skip (wanted_undef _ _ rfl rfl) ?_; simp only [Act.put, List.setIfInBounds_toArray, List.set_cons_zero, List.set_cons_succ])
                | (refine wk_not true _ _ (by first | exact wanted_none rfl | exact wanted_yes _ _ rfl rfl) rfl rfl ?_; simp only [Act.put, List.setIfInBounds_toArray, List.set_cons_zero, List.set_cons_succ])
                | (refine wk_not false _ _ (by first | exact wanted_none rfl | exact wanted_yes _ _ rfl rfl) rfl rfl ?_; simp only [Act.put, List.setIfInBounds_toArray, List.set_cons_zero, List.set_cons_succ]))
              refine wk_cmp_int .neq (false) _ _ _ _ _ _ _ (by kernel_rfl) rfl rfl rfl (rfl) ?_
              simp only [Act.put, List.setIfInBounds_toArray, List.set_cons_zero, List.set_cons_succ]
              repeat (first
                | (refine wk_move _ (by first | exact wanted_none rfl | exact wanted_yes _ _ rfl rfl) rfl ?_; simp only [Act.put, Act.eval, Array.getD_eq_getD_getElem?, List.getElem?_toArray, List.getElem?_cons_succ, List.getElem?_cons_zero, Option.getD_some, List.setIfInBounds_toArray, List.set_cons_zero, List.set_cons_succ])
                | (refine wk_assign _ (by first | exact wanted_none rfl | exact wanted_yes _ _ rfl rfl) rfl ?_; simp only [Act.put, Act.eval, Array.getD_eq_getD_getElem?, List.getElem?_toArray, List.getElem?_cons_succ, List.getElem?_cons_zero, Option.getD_some, List.setIfInBounds_toArray, List.set_cons_zero, List.set_cons_succ])
                | (refine wk_pickt _ _ _ _ (by first | exact wanted_none rfl | exact wanted_yes _ _ rfl rfl) rfl rfl rfl ?_; simp only [Act.put, Act.eval, Array.getD_eq_getD_getElem?, List.getElem?_toArray, List.getElem?_cons_succ, List.getElem?_cons_zero, Option.getD_some, List.setIfInBounds_toArray, List.set_cons_zero, List.set_cons_succ])
                | (refine wk_pickf _ _ _ _ (by first | exact wanted_none rfl | exact wanted_yes _ _ rfl rfl) rfl rfl rfl ?_; simp only [Act.put, Act.eval, Array.getD_eq_getD_getElem?, List.getElem?_toArray, List.getElem?_cons_succ, List.getElem?_cons_zero, Option.getD_some, List.setIfInBounds_toArray, List.set_cons_zero, List.set_cons_succ])
                | (refine wk_skip (wanted_not _ true false rfl rfl rfl) ?_; simp only [Act.put, List.setIfInBounds_toArray, List.set_cons_zero, List.set_cons_succ])
                | (refine wk_skip (wanted_not _ false true rfl rfl rfl) ?_; simp only [Act.put, List.setIfInBounds_toArray, List.set_cons_zero, List.set_cons_succ])
                | (refine wk_skip (wanted_undef _ _ rfl rfl) ?_; simp only [Act.put, List.setIfInBounds_toArray, List.set_cons_zero, List.set_cons_succ])
                | (refine wk_not true _ _ (by first | exact wanted_none rfl | exact wanted_yes _ _ rfl rfl) rfl rfl ?_; simp only [Act.put, List.setIfInBounds_toArray, List.set_cons_zero, List.set_cons_succ])
                | (refine wk_not false _ _ (by first | exact wanted_none rfl | exact wanted_yes _ _ rfl rfl) rfl rfl ?_; simp only [Act.put, List.setIfInBounds_toArray, List.set_cons_zero, List.set_cons_succ]))
              refine wk_load_row 34 _ g12 34 C4 (0, 0) _ (by kernel_rfl) rfl rfl (fun w' hC => hC.row (R9.out.get 1 rfl)) Tryd.underlying34 rfl (by rw [HCS.out C4 (by simp)]; exact sizeR) ?_
              simp only [Act.put, List.setIfInBounds_toArray, List.set_cons_zero, List.set_cons_succ]
              refine wk_load_row 34 _ g9 34 CA (0, 0) _ (by kernel_rfl) rfl rfl (fun w' hC => hC.row (R9.out.get 2 rfl)) Tryd.underlying34 rfl (by rw [HCS.out CA (by simp)]; exact sizeR) ?_
              simp only [Act.put, List.setIfInBounds_toArray, List.set_cons_zero, List.set_cons_succ]
              refine wk_eql .neq (false) 34 34 _ _ (by first | exact wanted_none rfl | exact wanted_yes _ _ rfl rfl) rfl _ _ rfl rfl (by kernel_rfl) (fun w => HN1.out w) ?_
              simp only [Act.put, List.setIfInBounds_toArray, List.set_cons_zero, List.set_cons_succ]
              repeat (first
                | (refine wk_move _ (by first | exact wanted_none rfl | exact wanted_yes _ _ rfl rfl) rfl ?_; simp only [Act.put, Act.eval, Array.getD_eq_getD_getElem?, List.getElem?_toArray, List.getElem?_cons_succ, List.getElem?_cons_zero, Option.getD_some, List.setIfInBounds_toArray, List.set_cons_zero, List.set_cons_succ])
                | (refine wk_assign _ (by first | exact wanted_none rfl | exact wanted_yes _ _ rfl rfl) rfl ?_; simp only [Act.put, Act.eval, Array.getD_eq_getD_getElem?, List.getElem?_toArray, List.getElem?_cons_succ, List.getElem?_cons_zero, Option.getD_some, List.setIfInBounds_toArray, List.set_cons_zero, List.set_cons_succ])
                | (refine wk_pickt _ _ _ _ (by first | exact wanted_none rfl | exact wanted_yes _ _ rfl rfl) rfl rfl rfl ?_; simp only [Act.put, Act.eval, Array.getD_eq_getD_getElem?, List.getElem?_toArray, List.getElem?_cons_succ, List.getElem?_cons_zero, Option.getD_some, List.setIfInBounds_toArray, List.set_cons_zero, List.set_cons_succ])
                | (refine wk_pickf _ _ _ _ (by first | exact wanted_none rfl | exact wanted_yes _ _ rfl rfl) rfl rfl rfl ?_; simp only [Act.put, Act.eval, Array.getD_eq_getD_getElem?, List.getElem?_toArray, List.getElem?_cons_succ, List.getElem?_cons_zero, Option.getD_some, List.setIfInBounds_toArray, List.set_cons_zero, List.set_cons_succ])
                | (refine wk_skip (wanted_not _ true false rfl rfl rfl) ?_; simp only [Act.put, List.setIfInBounds_toArray, List.set_cons_zero, List.set_cons_succ])
                | (refine wk_skip (wanted_not _ false true rfl rfl rfl) ?_; simp only [Act.put, List.setIfInBounds_toArray, List.set_cons_zero, List.set_cons_succ])
                | (refine wk_skip (wanted_undef _ _ rfl rfl) ?_; simp only [Act.put, List.setIfInBounds_toArray, List.set_cons_zero, List.set_cons_succ])
                | (refine wk_not true _ _ (by first | exact wanted_none rfl | exact wanted_yes _ _ rfl rfl) rfl rfl ?_; simp only [Act.put, List.setIfInBounds_toArray, List.set_cons_zero, List.set_cons_succ])
                | (refine wk_not false _ _ (by first | exact wanted_none rfl | exact wanted_yes _ _ rfl rfl) rfl rfl ?_; simp only [Act.put, List.setIfInBounds_toArray, List.set_cons_zero, List.set_cons_succ]))
              refine wk_cmp_int .eql (false) _ _ _ _ _ _ _ (by kernel_rfl) rfl rfl rfl (HEQ.out) ?_
              simp only [Act.put, List.setIfInBounds_toArray, List.set_cons_zero, List.set_cons_succ]
              repeat (first
                | (refine wk_move _ (by first | exact wanted_none rfl | exact wanted_yes _ _ rfl rfl) rfl ?_; simp only [Act.put, Act.eval, Array.getD_eq_getD_getElem?, List.getElem?_toArray, List.getElem?_cons_succ, List.getElem?_cons_zero, Option.getD_some, List.setIfInBounds_toArray, List.set_cons_zero, List.set_cons_succ])
                | (refine wk_assign _ (by first | exact wanted_none rfl | exact wanted_yes _ _ rfl rfl) rfl ?_; simp only [Act.put, Act.eval, Array.getD_eq_getD_getElem?, List.getElem?_toArray, List.getElem?_cons_succ, List.getElem?_cons_zero, Option.getD_some, List.setIfInBounds_toArray, List.set_cons_zero, List.set_cons_succ])
                | (refine wk_pickt _ _ _ _ (by first | exact wanted_none rfl | exact wanted_yes _ _ rfl rfl) rfl rfl rfl ?_; simp only [Act.put, Act.eval, Array.getD_eq_getD_getElem?, List.getElem?_toArray, List.getElem?_cons_succ, List.getElem?_cons_zero, Option.getD_some, List.setIfInBounds_toArray, List.set_cons_zero, List.set_cons_succ])
                | (refine wk_pickf _ _ _ _ (by first | exact wanted_none rfl | exact wanted_yes _ _ rfl rfl) rfl rfl rfl ?_; simp only [Act.put, Act.eval, Array.getD_eq_getD_getElem?, List.getElem?_toArray, List.getElem?_cons_succ, List.getElem?_cons_zero, Option.getD_some, List.setIfInBounds_toArray, List.set_cons_zero, List.set_cons_succ])
                | (refine wk_skip (wanted_not _ true false rfl rfl rfl) ?_; simp only [Act.put, List.setIfInBounds_toArray, List.set_cons_zero, List.set_cons_succ])
                | (refine wk_skip (wanted_not _ false true rfl rfl rfl) ?_; simp only [Act.put, List.setIfInBounds_toArray, List.set_cons_zero, List.set_cons_succ])
                | (refine wk_skip (wanted_undef _ _ rfl rfl) ?_; simp only [Act.put, List.setIfInBounds_toArray, List.set_cons_zero, List.set_cons_succ])
                | (refine wk_not true _ _ (by first | exact wanted_none rfl | exact wanted_yes _ _ rfl rfl) rfl rfl ?_; simp only [Act.put, List.setIfInBounds_toArray, List.set_cons_zero, List.set_cons_succ])
                | (refine wk_not false _ _ (by first | exact wanted_none rfl | exact wanted_yes _ _ rfl rfl) rfl rfl ?_; simp only [Act.put, List.setIfInBounds_toArray, List.set_cons_zero, List.set_cons_succ]))
              refine wk_nil ?_
              intro w' hC
              have RA := Lib.hid (R9.out.since hC)
              clear hC
              go_wp2_with fail
              go_meet
              exact ⟨rfl, RA.out⟩
            | true =>
              have HNZ := Lib.hid (HN2.out (.inl rfl))
              clear HN2
              refine wk_plain_since ?_
              repeat (first
                | (refine wk_move _ (by first | exact wanted_none rfl | exact wanted_yes _ _ rfl rfl) rfl ?_; simp only [Act.put, Act.eval, Array.getD_eq_getD_getElem?, List.getElem?_toArray, List.getElem?_cons_succ, List.getElem?_cons_zero, Option.getD_some, List.setIfInBounds_toArray, List.set_cons_zero, List.set_cons_succ])
                | (refine wk_assign _ (by first | exact wanted_none rfl | exact wanted_yes _ _ rfl rfl) rfl ?_; simp only [Act.put, Act.eval, Array.getD_eq_getD_getElem?, List.getElem?_toArray, List.getElem?_cons_succ, List.getElem?_cons_zero, Option.getD_some, List.setIfInBounds_toArray, List.set_cons_zero, List.set_cons_succ])
                | (refine wk_pickt _ _ _ _ (by first | exact wanted_none rfl | exact wanted_yes _ _ rfl rfl) rfl rfl rfl ?_; simp only [Act.put, Act.eval, Array.getD_eq_getD_getElem?, List.getElem?_toArray, List.getElem?_cons_succ, List.getElem?_cons_zero, Option.getD_some, List.setIfInBounds_toArray, List.set_cons_zero, List.set_cons_succ])
                | (refine wk_pickf _ _ _ _ (by first | exact wanted_none rfl | exact wanted_yes _ _ rfl rfl) rfl rfl rfl ?_; simp only [Act.put, Act.eval, Array.getD_eq_getD_getElem?, List.getElem?_toArray, List.getElem?_cons_succ, List.getElem?_cons_zero, Option.getD_some, List.setIfInBounds_toArray, List.set_cons_zero, List.set_cons_succ])
                | (refine wk_skip (wanted_not _ true false rfl rfl rfl) ?_; simp only [Act.put, List.setIfInBounds_toArray, List.set_cons_zero, List.set_cons_succ])
                | (refine wk_skip (wanted_not _ false true rfl rfl rfl) ?_; simp only [Act.put, List.setIfInBounds_toArray, List.set_cons_zero, List.set_cons_succ])
                | (refine wk_skip (wanted_undef _ _ rfl rfl) ?_; simp only [Act.put, List.setIfInBounds_toArray, List.set_cons_zero, List.set_cons_succ])
                | (refine wk_not true _ _ (by first | exact wanted_none rfl | exact wanted_yes _ _ rfl rfl) rfl rfl ?_; simp only [Act.put, List.setIfInBounds_toArray, List.set_cons_zero, List.set_cons_succ])
                | (refine wk_not false _ _ (by first | exact wanted_none rfl | exact wanted_yes _ _ rfl rfl) rfl rfl ?_; simp only [Act.put, List.setIfInBounds_toArray, List.set_cons_zero, List.set_cons_succ]))
              refine wk_cmp_int .neq (false) _ _ _ _ _ _ _ (by kernel_rfl) rfl rfl rfl (rfl) ?_
              simp only [Act.put, List.setIfInBounds_toArray, List.set_cons_zero, List.set_cons_succ]
              repeat (first
                | (refine wk_move _ (by first | exact wanted_none rfl | exact wanted_yes _ _ rfl rfl) rfl ?_; simp only [Act.put, Act.eval, Array.getD_eq_getD_getElem?, List.getElem?_toArray, List.getElem?_cons_succ, List.getElem?_cons_zero, Option.getD_some, List.setIfInBounds_toArray, List.set_cons_zero, List.set_cons_succ])
                | (refine wk_assign _ (by first | exact wanted_none rfl | exact wanted_yes _ _ rfl rfl) rfl ?_; simp only [Act.put, Act.eval, Array.getD_eq_getD_getElem?, List.getElem?_toArray, List.getElem?_cons_succ, List.getElem?_cons_zero, Option.getD_some, List.setIfInBounds_toArray, List.set_cons_zero, List.set_cons_succ])
                | (refine wk_pickt _ _ _ _ (by first | exact wanted_none rfl | exact wanted_yes _ _ rfl rfl) rfl rfl rfl ?_; simp only [Act.put, Act.eval, Array.getD_eq_getD_getElem?, List.getElem?_toArray, List.getElem?_cons_succ, List.getElem?_cons_zero, Option.getD_some, List.setIfInBounds_toArray, List.set_cons_zero, List.set_cons_succ])
                | (refine wk_pickf _ _ _ _ (by first | exact wanted_none rfl | exact wanted_yes _ _ rfl rfl) rfl rfl rfl ?_; simp only [Act.put, Act.eval, Array.getD_eq_getD_getElem?, List.getElem?_toArray, List.getElem?_cons_succ, List.getElem?_cons_zero, Option.getD_some, List.setIfInBounds_toArray, List.set_cons_zero, List.set_cons_succ])
                | (refine wk_skip (wanted_not _ true false rfl rfl rfl) ?_; simp only [Act.put, List.setIfInBounds_toArray, List.set_cons_zero, List.set_cons_succ])
                | (refine wk_skip (wanted_not _ false true rfl rfl rfl) ?_; simp only [Act.put, List.setIfInBounds_toArray, List.set_cons_zero, List.set_cons_succ])
                | (refine wk_skip (wanted_undef _ _ rfl rfl) ?_; simp only [Act.put, List.setIfInBounds_toArray, List.set_cons_zero, List.set_cons_succ])
                | (refine wk_not true _ _ (by first | exact wanted_none rfl | exact wanted_yes _ _ rfl rfl) rfl rfl ?_; simp only [Act.put, List.setIfInBounds_toArray, List.set_cons_zero, List.set_cons_succ])
                | (refine wk_not false _ _ (by first | exact wanted_none rfl | exact wanted_yes _ _ rfl rfl) rfl rfl ?_; simp only [Act.put, List.setIfInBounds_toArray, List.set_cons_zero, List.set_cons_succ]))
              refine wk_load_row 34 _ g12 34 C4 (0, 0) _ (by kernel_rfl) rfl rfl (fun w' hC => hC.row (R9.out.get 1 rfl)) Tryd.underlying34 rfl (by rw [HCS.out C4 (by simp)]; exact sizeR) ?_
              simp only [Act.put, List.setIfInBounds_toArray, List.set_cons_zero, List.set_cons_succ]
              refine wk_load_row 34 _ g9 34 CA (0, 0) _ (by kernel_rfl) rfl rfl (fun w' hC => hC.row (R9.out.get 2 rfl)) Tryd.underlying34 rfl (by rw [HCS.out CA (by simp)]; exact sizeR) ?_
              simp only [Act.put, List.setIfInBounds_toArray, List.set_cons_zero, List.set_cons_succ]
              refine wk_eql .neq (true) 34 34 _ _ (by first | exact wanted_none rfl | exact wanted_yes _ _ rfl rfl) rfl _ _ rfl rfl (by kernel_rfl) (fun w => HN1.out w) ?_
              simp only [Act.put, List.setIfInBounds_toArray, List.set_cons_zero, List.set_cons_succ]
              repeat (first
                | (refine wk_move _ (by first | exact wanted_none rfl | exact wanted_yes _ _ rfl rfl) rfl ?_; simp only [Act.put, Act.eval, Array.getD_eq_getD_getElem?, List.getElem?_toArray, List.getElem?_cons_succ, List.getElem?_cons_zero, Option.getD_some, List.setIfInBounds_toArray, List.set_cons_zero, List.set_cons_succ])
                | (refine wk_assign _ (by first | exact wanted_none rfl | exact wanted_yes _ _ rfl rfl) rfl ?_; simp only [Act.put, Act.eval, Array.getD_eq_getD_getElem?, List.getElem?_toArray, List.getElem?_cons_succ, List.getElem?_cons_zero, Option.getD_some, List.setIfInBounds_toArray, List.set_cons_zero, List.set_cons_succ])
                | (refine wk_pickt _ _ _ _ (by first | exact wanted_none rfl | exact wanted_yes _ _ rfl rfl) rfl rfl rfl ?_; simp only [Act.put, Act.eval, Array.getD_eq_getD_getElem?, List.getElem?_toArray, List.getElem?_cons_succ, List.getElem?_cons_zero, Option.getD_some, List.setIfInBounds_toArray, List.set_cons_zero, List.set_cons_succ])
                | (refine wk_pickf _ _ _ _ (by first | exact wanted_none rfl | exact wanted_yes _ _ rfl rfl) rfl rfl rfl ?_; simp only [Act.put, Act.eval, Array.getD_eq_getD_getElem?, List.getElem?_toArray, List.getElem?_cons_succ, List.getElem?_cons_zero, Option.getD_some, List.setIfInBounds_toArray, List.set_cons_zero, List.set_cons_succ])
                | (refine wk_skip (wanted_not _ true false rfl rfl rfl) ?_; simp only [Act.put, List.setIfInBounds_toArray, List.set_cons_zero, List.set_cons_succ])
                | (refine wk_skip (wanted_not _ false true rfl rfl rfl) ?_; simp only [Act.put, List.setIfInBounds_toArray, List.set_cons_zero, List.set_cons_succ])
                | (refine wk_skip (wanted_undef _ _ rfl rfl) ?_; simp only [Act.put, List.setIfInBounds_toArray, List.set_cons_zero, List.set_cons_succ])
                | (refine wk_not true _ _ (by first | exact wanted_none rfl | exact wanted_yes _ _ rfl rfl) rfl rfl ?_; simp only [Act.put, List.setIfInBounds_toArray, List.set_cons_zero, List.set_cons_succ])
                | (refine wk_not false _ _ (by first | exact wanted_none rfl | exact wanted_yes _ _ rfl rfl) rfl rfl ?_; simp only [Act.put, List.setIfInBounds_toArray, List.set_cons_zero, List.set_cons_succ]))
              refine wk_load_row 34 _ g12 34 C4 (0, 0) _ (by kernel_rfl) rfl rfl (fun w' hC => hC.row (R9.out.get 1 rfl)) Tryd.underlying34 rfl (by rw [HCS.out C4 (by simp)]; exact sizeR) ?_
              simp only [Act.put, List.setIfInBounds_toArray, List.set_cons_zero, List.set_cons_succ]
              refine wk_load_row 34 _ g3 34 rc (0, 0) _ (by kernel_rfl) rfl rfl (fun w' hC => hC.row (R9.out.get 4 rfl)) Tryd.underlying34 rfl (by rw [HCS.out rc (by simp)]; exact sizeR) ?_
              simp only [Act.put, List.setIfInBounds_toArray, List.set_cons_zero, List.set_cons_succ]
              refine wk_eql .neq (false) 34 34 _ _ (by first | exact wanted_none rfl | exact wanted_yes _ _ rfl rfl) rfl _ _ rfl rfl (by kernel_rfl) (fun w => HNZ.out w) ?_
              simp only [Act.put, List.setIfInBounds_toArray, List.set_cons_zero, List.set_cons_succ]
              repeat (first
                | (refine wk_move _ (by first | exact wanted_none rfl | exact wanted_yes _ _ rfl rfl) rfl ?_; simp only [Act.put, Act.eval, Array.getD_eq_getD_getElem?, List.getElem?_toArray, List.getElem?_cons_succ, List.getElem?_cons_zero, Option.getD_some, List.setIfInBounds_toArray, List.set_cons_zero, List.set_cons_succ])
                | (refine wk_assign _ (by first | exact wanted_none rfl | exact wanted_yes _ _ rfl rfl) rfl ?_; simp only [Act.put, Act.eval, Array.getD_eq_getD_getElem?, List.getElem?_toArray, List.getElem?_cons_succ, List.getElem?_cons_zero, Option.getD_some, List.setIfInBounds_toArray, List.set_cons_zero, List.set_cons_succ])
                | (refine wk_pickt _ _ _ _ (by first | exact wanted_none rfl | exact wanted_yes _ _ rfl rfl) rfl rfl rfl ?_; simp only [Act.put, Act.eval, Array.getD_eq_getD_getElem?, List.getElem?_toArray, List.getElem?_cons_succ, List.getElem?_cons_zero, Option.getD_some, List.setIfInBounds_toArray, List.set_cons_zero, List.set_cons_succ])
                | (refine wk_pickf _ _ _ _ (by first | exact wanted_none rfl | exact wanted_yes _ _ rfl rfl) rfl rfl rfl ?_; simp only [Act.put, Act.eval, Array.getD_eq_getD_getElem?, List.getElem?_toArray, List.getElem?_cons_succ, List.getElem?_cons_zero, Option.getD_some, List.setIfInBounds_toArray, List.set_cons_zero, List.set_cons_succ])
                | (refine wk_skip (wanted_not _ true false rfl rfl rfl) ?_; simp only [Act.put, List.setIfInBounds_toArray, List.set_cons_zero, List.set_cons_succ])
                | (refine wk_skip (wanted_not _ false true rfl rfl rfl) ?_; simp only [Act.put, List.setIfInBounds_toArray, List.set_cons_zero, List.set_cons_succ])
                | (refine wk_skip (wanted_undef _ _ rfl rfl) ?_; simp only [Act.put, List.setIfInBounds_toArray, List.set_cons_zero, List.set_cons_succ])
                | (refine wk_not true _ _ (by first | exact wanted_none rfl | exact wanted_yes _ _ rfl rfl) rfl rfl ?_; simp only [Act.put, List.setIfInBounds_toArray, List.set_cons_zero, List.set_cons_succ])
                | (refine wk_not false _ _ (by first | exact wanted_none rfl | exact wanted_yes _ _ rfl rfl) rfl rfl ?_; simp only [Act.put, List.setIfInBounds_toArray, List.set_cons_zero, List.set_cons_succ]))
              refine wk_cmp_int .eql (false) _ _ _ _ _ _ _ (by kernel_rfl) rfl rfl rfl (HEQ.out) ?_
              simp only [Act.put, List.setIfInBounds_toArray, List.set_cons_zero, List.set_cons_succ]
              repeat (first
                | (refine wk_move _ (by first | exact wanted_none rfl | exact wanted_yes _ _ rfl rfl) rfl ?_; simp only [Act.put, Act.eval, Array.getD_eq_getD_getElem?, List.getElem?_toArray, List.getElem?_cons_succ, List.getElem?_cons_zero, Option.getD_some, List.setIfInBounds_toArray, List.set_cons_zero, List.set_cons_succ])
                | (refine wk_assign _ (by first | exact wanted_none rfl | exact wanted_yes _ _ rfl rfl) rfl ?_; simp only [Act.put, Act.eval, Array.getD_eq_getD_getElem?, List.getElem?_toArray, List.getElem?_cons_succ, List.getElem?_cons_zero, Option.getD_some, List.setIfInBounds_toArray, List.set_cons_zero, List.set_cons_succ])
                | (refine wk_pickt _ _ _ _ (by first | exact wanted_none rfl | exact wanted_yes _ _ rfl rfl) rfl rfl rfl ?_; simp only [Act.put, Act.eval, Array.getD_eq_getD_getElem?, List.getElem?_toArray, List.getElem?_cons_succ, List.getElem?_cons_zero, Option.getD_some, List.setIfInBounds_toArray, List.set_cons_zero, List.set_cons_succ])
                | (refine wk_pickf _ _ _ _ (by first | exact wanted_none rfl | exact wanted_yes _ _ rfl rfl) rfl rfl rfl ?_; simp only [Act.put, Act.eval, Array.getD_eq_getD_getElem?, List.getElem?_toArray, List.getElem?_cons_succ, List.getElem?_cons_zero, Option.getD_some, List.setIfInBounds_toArray, List.set_cons_zero, List.set_cons_succ])
                | (refine wk_skip (wanted_not _ true false rfl rfl rfl) ?_; simp only [Act.put, List.setIfInBounds_toArray, List.set_cons_zero, List.set_cons_succ])
                | (refine wk_skip (wanted_not _ false true rfl rfl rfl) ?_; simp only [Act.put, List.setIfInBounds_toArray, List.set_cons_zero, List.set_cons_succ])
                | (refine wk_skip (wanted_undef _ _ rfl rfl) ?_; simp only [Act.put, List.setIfInBounds_toArray, List.set_cons_zero, List.set_cons_succ])
                | (refine wk_not true _ _ (by first | exact wanted_none rfl | exact wanted_yes _ _ rfl rfl) rfl rfl ?_; simp only [Act.put, List.setIfInBounds_toArray, List.set_cons_zero, List.set_cons_succ])
                | (refine wk_not false _ _ (by first | exact wanted_none rfl | exact wanted_yes _ _ rfl rfl) rfl rfl ?_; simp only [Act.put, List.setIfInBounds_toArray, List.set_cons_zero, List.set_cons_succ]))
              refine wk_nil ?_
              intro w' hC
              have RA := Lib.hid (R9.out.since hC)
              clear hC
              go_wp2_with fail
              go_meet
              exact ⟨rfl, RA.out⟩
        case rest =>
          obtain ⟨rfl, hR⟩ := hcut
          have RA := Lib.hid hR
          clear hR R9
          go_upto_region 19 with (first
            | refine wpList_load_row rfl 34 _ rfl g3 rfl 34 rc (0, 0) _ (RA.out.get 4 rfl) Tryd.underlying34 rfl (by rw [HCS.out rc (by simp)]; exact sizeR) ?_
            | (go_at_call 13; refine (HCM.out _ _ _ _ _ _ RA.out hn60 HCR.out.z4.2 HCR.out.z4.1 HCR.out.c5).mono ?_; rintro e w13 ⟨rfl, hR⟩; have RB := Lib.hid hR; clear hR))
          clear RA
          go_wp2_with fail
          refine (HMT.out g s5 _ rc 0 (RB.out.thing 0 rfl) HCR.out.z5.1 (by rw [HCR.out.m5.1, HRC.out]) HCR.out.m5.2).mono ?_
          rintro e w14 ⟨rfl, hb⟩
          have q1 := (RB.out.call hb).alloc2 rc 34
          clear hb
          go_upto_region 20 with (first | refine wpList_alloc_row rfl 34 rfl _ zeroR ?_ | refine wpList_store_new rfl 34 _ _ rfl _ rc _ rfl rfl (by rw [HCS.out rc (by simp)]; exact sizeR) (by rw [HCS.out rc (by simp)]; rfl) (HCO.out rc (by simp)) ?_)
          obtain ⟨W14, hW⟩ : ∃ W, W = w14.alloc (.cells rc 34) := ⟨_, rfl⟩
          rw [← hW] at q1 ⊢
          clear hW
          obtain ⟨g14, hg⟩ : ∃ g, g = w14.heap.size := ⟨_, rfl⟩
          rw [← hg] at q1 ⊢
          clear hg
          have RC := Lib.hid q1
          clear q1
          clear RB HMT HCM HN1 HN2
          have HOK := Lib.hid (dv_open (RC.out.thing 0 rfl)).choose_spec.choose_spec.choose_spec.ok
          go_wp2_with fail
          go_loopw [16] (fun i wr => ∃ k : Nat, k ≤ n ∧ i = .int .i64 (k : Int) ∧ Held w wr (dvT g s5 :: rowT g14 rc 34 :: rowT g12 C4 34 :: rowT g9 CA 34 :: rowT g5 #[.int .u8 (fz : Int), .slice A2 m c2] 38 :: [rowT g3 rc 34])) (fun i _ => n - (intOf i).toNat)
          case atStart => exact ⟨0, by omega, rfl, RC.out⟩
          case round =>
            obtain ⟨k, hk, rfl, hR⟩ := hrel
            have HR := Lib.hid hR
            clear hR RC
            by_cases hlt : k < n
            · have hkl : k < l.length := by rw [HL.out.len]; exact hlt
              obtain ⟨b, off, hA, _, _⟩ := HL.out.cells k hkl
              subst hA
              have HPT : Hid (∀ W, Below w.heap.size w W → ∀ j, (hj : j < l.length) → W.cell? ⟨b, off + j * 257, none⟩ = some (.int .u32 (l[j].1 : Int)) ∧ W.rangeAt b (off + j * 257 + 1) (blk l[j].2).toList) := Lib.hid (fun W hW j hj => by
                obtain ⟨b', off', hA, _, hr⟩ := (HL.out.below hW).cells j hj
                cases hA
                exact putV_at hr)
              have hx := HL.out.ok _ (List.getElem_mem hkl)
              have hst := lastB_step l k hkl l[k].1 l[k].2
              rw [if_pos rfl, ← HCR.out.rd k hkl] at hst
              have hc0 := (HPT.out wr HR.out.below k hkl).1
              have hmd := fun W hW => (HPT.out W hW k hkl).2
              have hrd := read_dev (HR.out.thing 0 rfl) l[k].1 hx.1
              have hbl : (readB s5 l[k].1).length = 256 := length_readB s5 HOK.out _
              have heq : ∀ j, (hj : j < l.length) → ∀ q, q = decide (l[j].1 = l[k].1) → cmpInt .eql ((l[j].1 : Nat) : Int) ((l[k].1 : Nat) : Int) = some q := fun j hj q hq => by simp only [cmpInt]; rw [hq, rnat_beq]
              have hck := fun W hW => (HPT.out W hW k hkl).1
              obtain ⟨x, hxe⟩ : ∃ x, x = l[k] := ⟨_, rfl⟩
              rw [← hxe] at hx hst hc0 hmd hrd hbl heq hck
              obtain ⟨a, B⟩ := x
              simp only at hx hst hc0 hmd hrd hbl heq hck
              obtain ⟨T, hT⟩ : ∃ T, T = readB s5 a := ⟨_, rfl⟩
              rw [← hT] at hrd hbl hst
              have HRD := Lib.hid hrd
              have HTL := Lib.hid hbl
              have HMD := Lib.hid hmd
              have HCK := Lib.hid hck
              have HEQ2 := Lib.hid heq
              have HST := Lib.hid hst
              have HBL := Lib.hid hx.2
              clear hrd hbl hmd hck heq hst hx hxe hT
              go_wp2_with fail
              refine (HRD.out).mono ?_
              rintro e w15 ⟨rfl, hb⟩
              have q1 := (HR.out.call hb).alloc (blk T) 45
              clear hb
              go_upto_region 24 with (first | refine wpList_alloc_row rfl 45 rfl _ zeroB ?_ | refine wpList_store_new rfl 45 _ _ rfl _ (blk T) _ rfl rfl (by rw [size_blk, HTL.out]; exact sizeB) (by rw [size_blk, HTL.out, size_zeros]) (blk_one _) ?_)
              obtain ⟨W15, hW⟩ : ∃ W, W = w15.alloc (.cells (blk T) 45) := ⟨_, rfl⟩
              rw [← hW] at q1 ⊢
              clear hW
              obtain ⟨g17, hg⟩ : ∃ g, g = w15.heap.size := ⟨_, rfl⟩
              rw [← hg] at q1 ⊢
              clear hg
              have R1 := Lib.hid q1
              clear q1
              have q1 := R1.out.alloc (blk B) 45
              go_upto_region 25 with (first
                | refine wpList_load_arr rfl 45 _ rfl b (off + k * 257 + 1) rfl (blk B) _ (HMD.out _ R1.out.below) Tryd.underlying45 rfl (by rw [size_blk, HBL.out]; exact sizeB) ?_
                | refine wpList_alloc_row rfl 45 rfl _ zeroB ?_
                | refine wpList_store_new rfl 45 _ _ rfl _ (blk B) _ rfl rfl (by rw [size_blk, HBL.out]; exact sizeB) (by rw [size_blk, HBL.out, size_zeros]) (blk_one _) ?_)
              obtain ⟨W16, hW⟩ : ∃ W, W = W15.alloc (.cells (blk B) 45) := ⟨_, rfl⟩
              rw [← hW] at q1 ⊢
              clear hW
              obtain ⟨g19, hg⟩ : ∃ g, g = W15.heap.size := ⟨_, rfl⟩
              rw [← hg] at q1 ⊢
              clear hg
              have R2 := Lib.hid q1
              clear q1
              clear R1 HR hc0
              go_wp2_with fail
              go_loopw [20] (fun i wl => ∃ (j : Nat) (X : List UInt8), k ≤ j ∧ j ≤ n ∧ i = .int .i64 (j : Int) ∧ X.length = 256 ∧ Held w wl (rowT g19 (blk X) 45 :: rowT g17 (blk T) 45 :: dvT g s5 :: rowT g14 rc 34 :: rowT g12 C4 34 :: rowT g9 CA 34 :: rowT g5 #[.int .u8 (fz : Int), .slice A2 m c2] 38 :: [rowT g3 rc 34]) ∧ lastB (l.drop j) a X = T) (fun i _ => n - (intOf i).toNat)
              case atStart => exact ⟨k, B, by omega, by omega, rfl, HBL.out, R2.out, HST.out⟩
              case round =>
                obtain ⟨j, X, hkj, hj, rfl, hXL, hR, hX⟩ := hrel
                have HR := Lib.hid hR
                have HXL := Lib.hid hXL
                have HX := Lib.hid hX
                clear hR hXL hX R2 HST
                by_cases hlj : j < n
                · have hjl : j < l.length := by rw [HL.out.len]; exact hlj
                  have hcj := HPT.out wr HR.out.below j hjl
                  have hsj := lastB_step l j hjl a X
                  have hej := HEQ2.out j hjl
                  have hyl := (HL.out.ok _ (List.getElem_mem hjl)).2
                  obtain ⟨y, hy⟩ : ∃ y, y = l[j] := ⟨_, rfl⟩
                  rw [← hy] at hcj hsj hej hyl
                  obtain ⟨a2, Y⟩ := y
                  simp only at hcj hsj hej hyl
                  rw [HX.out] at hsj
                  obtain ⟨q, hq⟩ : ∃ q, q = decide (a2 = a) := ⟨_, rfl⟩
                  have HE2 := Lib.hid (hej q hq)
                  have HCJ := Lib.hid hcj
                  have HYL := Lib.hid hyl
                  have HCK2 := Lib.hid (HCK.out wr HR.out.below)
                  have HSJ : Hid (T = lastB (l.drop (j + 1)) a (if q then Y else X)) := Lib.hid (by rw [hsj, hq]; simp)
                  have HY := Lib.hid hy
                  clear hcj hsj hej hyl hy hq
                  go_upto_region 28 with (fail)
                  refine wk_region_since (by kernel_rfl) (by kernel_rfl) ?_
                  repeat (first
                    | (refine wk_move _ (by first | exact wanted_none rfl | exact wanted_yes _ _ rfl rfl) rfl ?_; simp only [Act.put, Act.eval, Array.getD_eq_getD_getElem?, List.getElem?_toArray, List.getElem?_cons_succ, List.getElem?_cons_zero, Option.getD_some, List.setIfInBounds_toArray, List.set_cons_zero, List.set_cons_succ])
                    | (refine wk_assign _ (by first | exact wanted_none rfl | exact wanted_yes _ _ rfl rfl) rfl ?_; simp only [Act.put, Act.eval, Array.getD_eq_getD_getElem?, List.getElem?_toArray, List.getElem?_cons_succ, List.getElem?_cons_zero, Option.getD_some, List.setIfInBounds_toArray, List.set_cons_zero, List.set_cons_succ])
                    | (refine wk_pickt _ _ _ _ (by first | exact wanted_none rfl | exact wanted_yes _ _ rfl rfl) rfl rfl rfl ?_; simp only [Act.put, Act.eval, Array.getD_eq_getD_getElem?, List.getElem?_toArray, List.getElem?_cons_succ, List.getElem?_cons_zero, Option.getD_some, List.setIfInBounds_toArray, List.set_cons_zero, List.set_cons_succ])
                    | (refine wk_pickf _ _ _ _ (by first | exact wanted_none rfl | exact wanted_yes _ _ rfl rfl) rfl rfl rfl ?_; simp only [Act.put, Act.eval, Array.getD_eq_getD_getElem?, List.getElem?_toArray, List.getElem?_cons_succ, List.getElem?_cons_zero, Option.getD_some, List.setIfInBounds_toArray, List.set_cons_zero, List.set_cons_succ])
                    | (refine wk_skip (wanted_not _ true false rfl rfl rfl) ?_; simp only [Act.put, List.setIfInBounds_toArray, List.set_cons_zero, List.set_cons_succ])
                    | (refine wk_skip (wanted_not _ false true rfl rfl rfl) ?_; simp only [Act.put, List.setIfInBounds_toArray, List.set_cons_zero, List.set_cons_succ])
                    | (refine wk_skip (wanted_undef _ _ rfl rfl) ?_; simp only [Act.put, List.setIfInBounds_toArray, List.set_cons_zero, List.set_cons_succ])
                    | (refine wk_not true _ _ (by first | exact wanted_none rfl | exact wanted_yes _ _ rfl rfl) rfl rfl ?_; simp only [Act.put, List.setIfInBounds_toArray, List.set_cons_zero, List.set_cons_succ])
                    | (refine wk_not false _ _ (by first | exact wanted_none rfl | exact wanted_yes _ _ rfl rfl) rfl rfl ?_; simp only [Act.put, List.setIfInBounds_toArray, List.set_cons_zero, List.set_cons_succ]))
                  refine wk_index 35 47 _ _ b off n c j 257 .i64 (by first | exact wanted_none rfl | exact wanted_yes _ _ rfl rfl) rfl Tryd.underlying35 sizePut rfl rfl hlj ?_
                  simp only [Act.put, List.setIfInBounds_toArray, List.set_cons_zero, List.set_cons_succ]
                  refine wk_field 47 _ 22 0 0 _ _ _ (by first | exact wanted_none rfl | exact wanted_yes _ _ rfl rfl) rfl (by kernel_rfl) (by kernel_rfl) (by kernel_rfl) rfl ?_
                  simp only [Act.put, List.setIfInBounds_toArray, List.set_cons_zero, List.set_cons_succ, Nat.zero_add]
                  refine wk_load1 _ _ _ _ _ rfl (by kernel_rfl) rfl rfl (fun w' hC => hC.cell HCJ.out.1) Tryd.underlying22 ?_
                  simp only [Act.put, List.setIfInBounds_toArray, List.set_cons_zero, List.set_cons_succ]
                  repeat (first
                    | (refine wk_move _ (by first | exact wanted_none rfl | exact wanted_yes _ _ rfl rfl) rfl ?_; simp only [Act.put, Act.eval, Array.getD_eq_getD_getElem?, List.getElem?_toArray, List.getElem?_cons_succ, List.getElem?_cons_zero, Option.getD_some, List.setIfInBounds_toArray, List.set_cons_zero, List.set_cons_succ])
                    | (refine wk_assign _ (by first | exact wanted_none rfl | exact wanted_yes _ _ rfl rfl) rfl ?_; simp only [Act.put, Act.eval, Array.getD_eq_getD_getElem?, List.getElem?_toArray, List.getElem?_cons_succ, List.getElem?_cons_zero, Option.getD_some, List.setIfInBounds_toArray, List.set_cons_zero, List.set_cons_succ])
                    | (refine wk_pickt _ _ _ _ (by first | exact wanted_none rfl | exact wanted_yes _ _ rfl rfl) rfl rfl rfl ?_; simp only [Act.put, Act.eval, Array.getD_eq_getD_getElem?, List.getElem?_toArray, List.getElem?_cons_succ, List.getElem?_cons_zero, Option.getD_some, List.setIfInBounds_toArray, List.set_cons_zero, List.set_cons_succ])
                    | (refine wk_pickf _ _ _ _ (by first | exact wanted_none rfl | exact wanted_yes _ _ rfl rfl) rfl rfl rfl ?_; simp only [Act.put, Act.eval, Array.getD_eq_getD_getElem?, List.getElem?_toArray, List.getElem?_cons_succ, List.getElem?_cons_zero, Option.getD_some, List.setIfInBounds_toArray, List.set_cons_zero, List.set_cons_succ])
                    | (refine wk_skip (wanted_not _ true false rfl rfl rfl) ?_; simp only [Act.put, List.setIfInBounds_toArray, List.set_cons_zero, List.set_cons_succ])
                    | (refine wk_skip (wanted_not _ false true rfl rfl rfl) ?_; simp only [Act.put, List.setIfInBounds_toArray, List.set_cons_zero, List.set_cons_succ])
                    | (refine wk_skip (wanted_undef _ _ rfl rfl) ?_; simp only [Act.put, List.setIfInBounds_toArray, List.set_cons_zero, List.set_cons_succ])
                    | (refine wk_not true _ _ (by first | exact wanted_none rfl | exact wanted_yes _ _ rfl rfl) rfl rfl ?_; simp only [Act.put, List.setIfInBounds_toArray, List.set_cons_zero, List.set_cons_succ])
                    | (refine wk_not false _ _ (by first | exact wanted_none rfl | exact wanted_yes _ _ rfl rfl) rfl rfl ?_; simp only [Act.put, List.setIfInBounds_toArray, List.set_cons_zero, List.set_cons_succ]))
                  refine wk_index 35 47 _ _ b off n c k 257 .i64 (by first | exact wanted_none rfl | exact wanted_yes _ _ rfl rfl) rfl Tryd.underlying35 sizePut rfl rfl hlt ?_
                  simp only [Act.put, List.setIfInBounds_toArray, List.set_cons_zero, List.set_cons_succ]
                  refine wk_field 47 _ 22 0 0 _ _ _ (by first | exact wanted_none rfl | exact wanted_yes _ _ rfl rfl) rfl (by kernel_rfl) (by kernel_rfl) (by kernel_rfl) rfl ?_
                  simp only [Act.put, List.setIfInBounds_toArray, List.set_cons_zero, List.set_cons_succ, Nat.zero_add]
                  refine wk_load1 _ _ _ _ _ rfl (by kernel_rfl) rfl rfl (fun w' hC => hC.cell HCK2.out) Tryd.underlying22 ?_
                  simp only [Act.put, List.setIfInBounds_toArray, List.set_cons_zero, List.set_cons_succ]
                  refine wk_cmp_int .eql (q) _ _ _ _ _ _ _ (by kernel_rfl) rfl rfl rfl (HE2.out) ?_
                  simp only [Act.put, List.setIfInBounds_toArray, List.set_cons_zero, List.set_cons_succ]
                  refine wk_nil ?_
                  intro w' hC
                  have R3 := Lib.hid (HR.out.since hC)
                  clear hC
                  cases q with
                  | true =>
                    have HSJ2 : Hid (lastB (l.drop (j + 1)) a Y = T) := Lib.hid (by rw [HSJ.out]; rfl)
                    have HMJ : Hid (w'.rangeAt b (off + j * 257 + 1) (blk Y).toList) := Lib.hid (by
                      have := (HPT.out w' R3.out.below j hjl).2
                      rw [← HY.out] at this; exact this)
                    have q1 := R3.out.setRow 0 (blk Y) rfl
                    go_upto_region 27 with (first
                      | refine wpList_load_arr rfl 45 _ rfl b (off + j * 257 + 1) rfl (blk Y) _ HMJ.out Tryd.underlying45 rfl (by rw [size_blk, HYL.out]; exact sizeB) ?_
                      | refine wpList_store_row rfl 45 _ _ rfl g19 (blk Y) rfl rfl 45 _ (R3.out.get 0 rfl) (by rw [size_blk, HYL.out]; exact sizeB) (by rw [size_blk, size_blk, HYL.out, HXL.out]) (blk_one _) ?_)
                    obtain ⟨W17, hW⟩ : ∃ V, V = w'.setRow g19 (blk Y) := ⟨_, rfl⟩
                    rw [← hW] at q1 ⊢
                    have R4 := Lib.hid q1
                    clear q1 hW R3 HMJ
                    go_wp2_with fail
                    exact ⟨⟨j + 1, Y, by omega, by omega, by go_num, HYL.out, R4.out, HSJ2.out⟩, by simp [intOf]; omega⟩
                  | false =>
                    have HSJ2 : Hid (lastB (l.drop (j + 1)) a X = T) := Lib.hid (by rw [HSJ.out]; rfl)
                    go_wp2_with fail
                    exact ⟨⟨j + 1, X, by omega, by omega, by go_num, HXL.out, R3.out, HSJ2.out⟩, by simp [intOf]; omega⟩
                · obtain rfl : j = n := by omega
                  have hz : ¬ ((j : Int) < (j : Int)) := by omega
                  have hXT : X = T := by
                    have h := HX.out
                    rw [List.drop_of_length_le (by rw [HL.out.len]; exact Nat.le_refl _)] at h
                    exact h
                  subst hXT
                  have HNQ : Hid (∀ w : World, (binOp .neq 45 (.agg (blk X)) (.agg (blk X))).run Tryd.prog w = .ok (.bool false) w) := Lib.hid (fun w => neqSameB w X HXL.out)
                  go_upto_region 30 with (fail)
                  refine wk_plain_since ?_
                  refine wk_load_row 45 _ g17 45 (blk X) (0, 0) _ (by kernel_rfl) rfl rfl (fun w' hC => hC.row (HR.out.get 1 rfl)) Tryd.underlying45 rfl (by rw [size_blk, HXL.out]; exact sizeB) ?_
                  simp only [Act.put, List.setIfInBounds_toArray, List.set_cons_zero, List.set_cons_succ]
                  refine wk_load_row 45 _ g19 45 (blk X) (0, 0) _ (by kernel_rfl) rfl rfl (fun w' hC => hC.row (HR.out.get 0 rfl)) Tryd.underlying45 rfl (by rw [size_blk, HXL.out]; exact sizeB) ?_
                  simp only [Act.put, List.setIfInBounds_toArray, List.set_cons_zero, List.set_cons_succ]
                  refine wk_eql .neq (false) 45 45 _ _ (by first | exact wanted_none rfl | exact wanted_yes _ _ rfl rfl) rfl _ _ rfl rfl (by kernel_rfl) (fun w => HNQ.out w) ?_
                  simp only [Act.put, List.setIfInBounds_toArray, List.set_cons_zero, List.set_cons_succ]
                  refine wk_nil ?_
                  intro w' hC
                  have R3 := Lib.hid ((HR.out.since hC).drop 2)
                  clear hC HR
                  go_wp2_with fail
                  exact ⟨⟨k + 1, by omega, by go_num, R3.out⟩, by simp [intOf]; omega⟩
            · obtain rfl : k = n := by omega
              have hz : ¬ ((k : Int) < (k : Int)) := by omega
              have HERR : Hid (∀ w : World, (binOp .eql 34 (.agg rc) (.agg rc)).run Tryd.prog w = .ok (.bool true) w) := Lib.hid (fun w => by rw [HRC.out, run_eql_root, (rsame_iff _ _).2 rfl])
              go_upto_region 32 with (fail)
              refine wk_plain_since ?_
              refine wk_load_row 34 _ g14 34 rc (0, 0) _ (by kernel_rfl) rfl rfl (fun w' hC => hC.row (HR.out.get 1 rfl)) Tryd.underlying34 rfl (by rw [HCS.out rc (by simp)]; exact sizeR) ?_
              simp only [Act.put, List.setIfInBounds_toArray, List.set_cons_zero, List.set_cons_succ]
              refine wk_load_row 34 _ g3 34 rc (0, 0) _ (by kernel_rfl) rfl rfl (fun w' hC => hC.row (HR.out.get 5 rfl)) Tryd.underlying34 rfl (by rw [HCS.out rc (by simp)]; exact sizeR) ?_
              simp only [Act.put, List.setIfInBounds_toArray, List.set_cons_zero, List.set_cons_succ]
              refine wk_eql .eql (true) 34 34 _ _ (by first | exact wanted_none rfl | exact wanted_yes _ _ rfl rfl) rfl _ _ rfl rfl (by kernel_rfl) (fun w => HERR.out w) ?_
              simp only [Act.put, List.setIfInBounds_toArray, List.set_cons_zero, List.set_cons_succ]
              repeat (first
                | (refine wk_move _ (by first | exact wanted_none rfl | exact wanted_yes _ _ rfl rfl) rfl ?_; simp only [Act.put, Act.eval, Array.getD_eq_getD_getElem?, List.getElem?_toArray, List.getElem?_cons_succ, List.getElem?_cons_zero, Option.getD_some, List.setIfInBounds_toArray, List.set_cons_zero, List.set_cons_succ])
                | (refine wk_assign _ (by first | exact wanted_none rfl | exact wanted_yes _ _ rfl rfl) rfl ?_; simp only [Act.put, Act.eval, Array.getD_eq_getD_getElem?, List.getElem?_toArray, List.getElem?_cons_succ, List.getElem?_cons_zero, Option.getD_some, List.setIfInBounds_toArray, List.set_cons_zero, List.set_cons_succ])
                | (refine wk_pickt _ _ _ _ (by first | exact wanted_none rfl | exact wanted_yes _ _ rfl rfl) rfl rfl rfl ?_; simp only [Act.put, Act.eval, Array.getD_eq_getD_getElem?, List.getElem?_toArray, List.getElem?_cons_succ, List.getElem?_cons_zero, Option.getD_some, List.setIfInBounds_toArray, List.set_cons_zero, List.set_cons_succ])
                | (refine wk_pickf _ _ _ _ (by first | exact wanted_none rfl | exact wanted_yes _ _ rfl rfl) rfl rfl rfl ?_; simp only [Act.put, Act.eval, Array.getD_eq_getD_getElem?, List.getElem?_toArray, List.getElem?_cons_succ, List.getElem?_cons_zero, Option.getD_some, List.setIfInBounds_toArray, List.set_cons_zero, List.set_cons_succ])
                | (refine wk_skip (wanted_not _ true false rfl rfl rfl) ?_; simp only [Act.put, List.setIfInBounds_toArray, List.set_cons_zero, List.set_cons_succ])
                | (refine wk_skip (wanted_not _ false true rfl rfl rfl) ?_; simp only [Act.put, List.setIfInBounds_toArray, List.set_cons_zero, List.set_cons_succ])
                | (refine wk_skip (wanted_undef _ _ rfl rfl) ?_; simp only [Act.put, List.setIfInBounds_toArray, List.set_cons_zero, List.set_cons_succ])
                | (refine wk_not true _ _ (by first | exact wanted_none rfl | exact wanted_yes _ _ rfl rfl) rfl rfl ?_; simp only [Act.put, List.setIfInBounds_toArray, List.set_cons_zero, List.set_cons_succ])
                | (refine wk_not false _ _ (by first | exact wanted_none rfl | exact wanted_yes _ _ rfl rfl) rfl rfl ?_; simp only [Act.put, List.setIfInBounds_toArray, List.set_cons_zero, List.set_cons_succ]))
              refine wk_cmp_int .eql (true) _ _ _ _ _ _ _ (by kernel_rfl) rfl rfl rfl (rfl) ?_
              simp only [Act.put, List.setIfInBounds_toArray, List.set_cons_zero, List.set_cons_succ]
              repeat (first
                | (refine wk_move _ (by first | exact wanted_none rfl | exact wanted_yes _ _ rfl rfl) rfl ?_; simp only [Act.put, Act.eval, Array.getD_eq_getD_getElem?, List.getElem?_toArray, List.getElem?_cons_succ, List.getElem?_cons_zero, Option.getD_some, List.setIfInBounds_toArray, List.set_cons_zero, List.set_cons_succ])
                | (refine wk_assign _ (by first | exact wanted_none rfl | exact wanted_yes _ _ rfl rfl) rfl ?_; simp only [Act.put, Act.eval, Array.getD_eq_getD_getElem?, List.getElem?_toArray, List.getElem?_cons_succ, List.getElem?_cons_zero, Option.getD_some, List.setIfInBounds_toArray, List.set_cons_zero, List.set_cons_succ])
                | (refine wk_pickt _ _ _ _ (by first | exact wanted_none rfl | exact wanted_yes _ _ rfl rfl) rfl rfl rfl ?_; simp only [Act.put, Act.eval, Array.getD_eq_getD_getElem?, List.getElem?_toArray, List.getElem?_cons_succ, List.getElem?_cons_zero, Option.getD_some, List.setIfInBounds_toArray, List.set_cons_zero, List.set_cons_succ])
                | (refine wk_pickf _ _ _ _ (by first | exact wanted_none rfl | exact wanted_yes _ _ rfl rfl) rfl rfl rfl ?_; simp only [Act.put, Act.eval, Array.getD_eq_getD_getElem?, List.getElem?_toArray, List.getElem?_cons_succ, List.getElem?_cons_zero, Option.getD_some, List.setIfInBounds_toArray, List.set_cons_zero, List.set_cons_succ])
                | (refine wk_skip (wanted_not _ true false rfl rfl rfl) ?_; simp only [Act.put, List.setIfInBounds_toArray, List.set_cons_zero, List.set_cons_succ])
                | (refine wk_skip (wanted_not _ false true rfl rfl rfl) ?_; simp only [Act.put, List.setIfInBounds_toArray, List.set_cons_zero, List.set_cons_succ])
                | (refine wk_skip (wanted_undef _ _ rfl rfl) ?_; simp only [Act.put, List.setIfInBounds_toArray, List.set_cons_zero, List.set_cons_succ])
                | (refine wk_not true _ _ (by first | exact wanted_none rfl | exact wanted_yes _ _ rfl rfl) rfl rfl ?_; simp only [Act.put, List.setIfInBounds_toArray, List.set_cons_zero, List.set_cons_succ])
                | (refine wk_not false _ _ (by first | exact wanted_none rfl | exact wanted_yes _ _ rfl rfl) rfl rfl ?_; simp only [Act.put, List.setIfInBounds_toArray, List.set_cons_zero, List.set_cons_succ]))
              refine wk_call 20 _ _ _ _ _ (by kernel_rfl) rfl Tryd.func20 rfl (by kernel_rfl) (fun w' hC => hC.same (pending_is ((HR.out.since hC).thing 0 rfl) 0 HCR.out.z5.2)) ?_
              simp only [Act.put, List.setIfInBounds_toArray, List.set_cons_zero, List.set_cons_succ]
              repeat (first
                | (refine wk_move _ (by first | exact wanted_none rfl | exact wanted_yes _ _ rfl rfl) rfl ?_; simp only [Act.put, Act.eval, Array.getD_eq_getD_getElem?, List.getElem?_toArray, List.getElem?_cons_succ, List.getElem?_cons_zero, Option.getD_some, List.setIfInBounds_toArray, List.set_cons_zero, List.set_cons_succ])
                | (refine wk_assign _ (by first | exact wanted_none rfl | exact wanted_yes _ _ rfl rfl) rfl ?_; simp only [Act.put, Act.eval, Array.getD_eq_getD_getElem?, List.getElem?_toArray, List.getElem?_cons_succ, List.getElem?_cons_zero, Option.getD_some, List.setIfInBounds_toArray, List.set_cons_zero, List.set_cons_succ])
                | (refine wk_pickt _ _ _ _ (by first | exact wanted_none rfl | exact wanted_yes _ _ rfl rfl) rfl rfl rfl ?_; simp only [Act.put, Act.eval, Array.getD_eq_getD_getElem?, List.getElem?_toArray, List.getElem?_cons_succ, List.getElem?_cons_zero, Option.getD_some, List.setIfInBounds_toArray, List.set_cons_zero, List.set_cons_succ])
                | (refine wk_pickf _ _ _ _ (by first | exact wanted_none rfl | exact wanted_yes _ _ rfl rfl) rfl rfl rfl ?_; simp only [Act.put, Act.eval, Array.getD_eq_getD_getElem?, List.getElem?_toArray, List.getElem?_cons_succ, List.getElem?_cons_zero, Option.getD_some, List.setIfInBounds_toArray, List.set_cons_zero, List.set_cons_succ])
                | (refine wk_skip (wanted_not _ true false rfl rfl rfl) ?_; simp only [Act.put, List.setIfInBounds_toArray, List.set_cons_zero, List.set_cons_succ])
                | (refine wk_skip (wanted_not _ false true rfl rfl rfl) ?_; simp only [Act.put, List.setIfInBounds_toArray, List.set_cons_zero, List.set_cons_succ])
                | (refine wk_skip (wanted_undef _ _ rfl rfl) ?_; simp only [Act.put, List.setIfInBounds_toArray, List.set_cons_zero, List.set_cons_succ])
                | (refine wk_not true _ _ (by first | exact wanted_none rfl | exact wanted_yes _ _ rfl rfl) rfl rfl ?_; simp only [Act.put, List.setIfInBounds_toArray, List.set_cons_zero, List.set_cons_succ])
                | (refine wk_not false _ _ (by first | exact wanted_none rfl | exact wanted_yes _ _ rfl rfl) rfl rfl ?_; simp only [Act.put, List.setIfInBounds_toArray, List.set_cons_zero, List.set_cons_succ]))
              refine wk_cmp_int .eql (true) _ _ _ _ _ _ _ (by kernel_rfl) rfl rfl rfl (rfl) ?_
              simp only [Act.put, List.setIfInBounds_toArray, List.set_cons_zero, List.set_cons_succ]
              repeat (first
                | (refine wk_move _ (by first | exact wanted_none rfl | exact wanted_yes _ _ rfl rfl) rfl ?_; simp only [Act.put, Act.eval, Array.getD_eq_getD_getElem?, List.getElem?_toArray, List.getElem?_cons_succ, List.getElem?_cons_zero, Option.getD_some, List.setIfInBounds_toArray, List.set_cons_zero, List.set_cons_succ])
                | (refine wk_assign _ (by first | exact wanted_none rfl | exact wanted_yes _ _ rfl rfl) rfl ?_; simp only [Act.put, Act.eval, Array.getD_eq_getD_getElem?, List.getElem?_toArray, List.getElem?_cons_succ, List.getElem?_cons_zero, Option.getD_some, List.setIfInBounds_toArray, List.set_cons_zero, List.set_cons_succ])
                | (refine wk_pickt _ _ _ _ (by first | exact wanted_none rfl | exact wanted_yes _ _ rfl rfl) rfl rfl rfl ?_; simp only [Act.put, Act.eval, Array.getD_eq_getD_getElem?, List.getElem?_toArray, List.getElem?_cons_succ, List.getElem?_cons_zero, Option.getD_some, List.setIfInBounds_toArray, List.set_cons_zero, List.set_cons_succ])
                | (refine wk_pickf _ _ _ _ (by first | exact wanted_none rfl | exact wanted_yes _ _ rfl rfl) rfl rfl rfl ?_; simp only [Act.put, Act.eval, Array.getD_eq_getD_getElem?, List.getElem?_toArray, List.getElem?_cons_succ, List.getElem?_cons_zero, Option.getD_some, List.setIfInBounds_toArray, List.set_cons_zero, List.set_cons_succ])
                | (refine wk_skip (wanted_not _ true false rfl rfl rfl) ?_; simp only [Act.put, List.setIfInBounds_toArray, List.set_cons_zero, List.set_cons_succ])
                | (refine wk_skip (wanted_not _ false true rfl rfl rfl) ?_; simp only [Act.put, List.setIfInBounds_toArray, List.set_cons_zero, List.set_cons_succ])
                | (refine wk_skip (wanted_undef _ _ rfl rfl) ?_; simp only [Act.put, List.setIfInBounds_toArray, List.set_cons_zero, List.set_cons_succ])
                | (refine wk_not true _ _ (by first | exact wanted_none rfl | exact wanted_yes _ _ rfl rfl) rfl rfl ?_; simp only [Act.put, List.setIfInBounds_toArray, List.set_cons_zero, List.set_cons_succ])
                | (refine wk_not false _ _ (by first | exact wanted_none rfl | exact wanted_yes _ _ rfl rfl) rfl rfl ?_; simp only [Act.put, List.setIfInBounds_toArray, List.set_cons_zero, List.set_cons_succ]))
              refine wk_call 9 _ _ _ _ _ (by kernel_rfl) rfl Tryd.func9 rfl (by kernel_rfl) (fun w' hC => hC.call (HH.out w')) ?_
              simp only [Act.put, List.setIfInBounds_toArray, List.set_cons_zero, List.set_cons_succ]
              repeat (first
                | (refine wk_move _ (by first | exact wanted_none rfl | exact wanted_yes _ _ rfl rfl) rfl ?_; simp only [Act.put, Act.eval, Array.getD_eq_getD_getElem?, List.getElem?_toArray, List.getElem?_cons_succ, List.getElem?_cons_zero, Option.getD_some, List.setIfInBounds_toArray, List.set_cons_zero, List.set_cons_succ])
                | (refine wk_assign _ (by first | exact wanted_none rfl | exact wanted_yes _ _ rfl rfl) rfl ?_; simp only [Act.put, Act.eval, Array.getD_eq_getD_getElem?, List.getElem?_toArray, List.getElem?_cons_succ, List.getElem?_cons_zero, Option.getD_some, List.setIfInBounds_toArray, List.set_cons_zero, List.set_cons_succ])
                | (refine wk_pickt _ _ _ _ (by first | exact wanted_none rfl | exact wanted_yes _ _ rfl rfl) rfl rfl rfl ?_; simp only [Act.put, Act.eval, Array.getD_eq_getD_getElem?, List.getElem?_toArray, List.getElem?_cons_succ, List.getElem?_cons_zero, Option.getD_some, List.setIfInBounds_toArray, List.set_cons_zero, List.set_cons_succ])
                | (refine wk_pickf _ _ _ _ (by first | exact wanted_none rfl | exact wanted_yes _ _ rfl rfl) rfl rfl rfl ?_; simp only [Act.put, Act.eval, Array.getD_eq_getD_getElem?, List.getElem?_toArray, List.getElem?_cons_succ, List.getElem?_cons_zero, Option.getD_some, List.setIfInBounds_toArray, List.set_cons_zero, List.set_cons_succ])
                | (refine wk_skip (wanted_not _ true false rfl rfl rfl) ?_; simp only [Act.put, List.setIfInBounds_toArray, List.set_cons_zero, List.set_cons_succ])
                | (refine wk_skip (wanted_not _ false true rfl rfl rfl) ?_; simp only [Act.put, List.setIfInBounds_toArray, List.set_cons_zero, List.set_cons_succ])
                | (refine wk_skip (wanted_undef _ _ rfl rfl) ?_; simp only [Act.put, List.setIfInBounds_toArray, List.set_cons_zero, List.set_cons_succ])
                | (refine wk_not true _ _ (by first | exact wanted_none rfl | exact wanted_yes _ _ rfl rfl) rfl rfl ?_; simp only [Act.put, List.setIfInBounds_toArray, List.set_cons_zero, List.set_cons_succ])
                | (refine wk_not false _ _ (by first | exact wanted_none rfl | exact wanted_yes _ _ rfl rfl) rfl rfl ?_; simp only [Act.put, List.setIfInBounds_toArray, List.set_cons_zero, List.set_cons_succ]))
              refine wk_nil ?_
              intro w' hC
              have hfin : Below w.heap.size w w' := (HR.out.since hC).below
              go_wp2_with fail
              go_ret
              exact ⟨rfl, hfin⟩
      · have h0' : (E1 != 0) = true := by simp [hE0]
        go_wp2_with (first
          | (go_at_call 13; refine (HCM.out _ _ _ _ _ _ R6.out hn60 (by rw [HF.out.is_.pend]; rfl) HF.out.is_.size HE1.out).mono ?_; rintro e w7 ⟨rfl, hR⟩; have R7 := Lib.hid (hR.drop 1); clear hR)
          | (go_at_call 9; refine (HH.out _).mono ?_; rintro e w8 ⟨rfl, hb⟩; have R8 := Lib.hid (R7.out.call hb); clear hb))
        go_ret
        exact ⟨rfl, R8.out.below⟩
  · have c5 : w1.cell? ⟨g5, 1, none⟩ = some (.slice A2 m c2) := R1.out.cell 1 1 rfl rfl
    by_cases h60 : 60 < n
    · have l1 : (60 : Int) < (n : Int) := by omega
      clear hg h60
      go_wp2_with (go_at_call 9; refine (HH.out _).mono ?_; rintro e w8 ⟨rfl, hb⟩; have R8 := Lib.hid (R1.out.call hb); clear hb)
      go_ret
      exact ⟨rfl, R8.out.below⟩
    · have l1 : ¬ (60 : Int) < (n : Int) := by omega
      have l2 : (100 : Int) < (m : Int) := by omega
      clear hg h60
      go_wp2_with (go_at_call 9; refine (HH.out _).mono ?_; rintro e w8 ⟨rfl, hb⟩; have R8 := Lib.hid (R1.out.call hb); clear hb)
      go_ret
      exact ⟨rfl, R8.out.below⟩
end
end Go.Proofs.YtnphgaiiiiknpaaDoor
