/- The root layer: the law RootChain holds of every root, every row of blocks and every crash. -/
import Derived.Test.YtnphgaiiiiknpaaDoorRootHead
import Derived.Test.YtnphgaiiiiknpaaDoorRootChainM
namespace Go.Proofs.YtnphgaiiiiknpaaDoor
open Go.RowKit
set_option linter.unusedSimpArgs false
set_option linter.unusedVariables false
set_option maxRecDepth 100000
section
variable {P : Program} {ops : Array Oper} {C : World → Prop} {o : Oper} {a : Act} {rest : List Oper} {Q : Act → Prop}
theorem wk_subC (k : IntKind) (t ty : TypeId) (x y : Operand) (m n z : Int) (hw : Region.wanted o (yielded ops a.tmps) = true) (ho : o.op = .binOp .sub t x y ty) (hx : a.eval x = .int k m) (hy : a.eval y = .int k n) (hz : k.wrap (m - n) = z)
    (h : WQ P ops C Q rest (a.put o.dst (.int k z))) : WQ P ops C Q (o :: rest) a :=
  wk_bin _ .sub t ty x y hw ho (fun w => by
    have h1 : (binOp .sub t (.int k m) (.int k n)).run P w = .ok (.int k (k.wrap (m - n))) w := by cases k <;> rfl
    have h0 : (eqGuard .sub t x y (.int k m) (.int k n)).run P w = .ok () w := rfl
    simp only [hx, hy, Sem.run_bind, h0, Result.andThen_ok, h1, hz]) h
end
theorem putV_atC {w : World} {b off a : Nat} {B : List UInt8} (h : w.rangeAt b off (putV a B).toList) : w.rangeAt b (off + 1) (blk B).toList := by
  intro j v hv
  rw [Nat.add_assoc]
  refine h (1 + j) v ?_
  rw [Nat.add_comm]
  simp only [putV, List.getElem?_cons_succ]
  simpa [blk] using hv
theorem neqBlkC (w : World) (x y : List UInt8) (hx : x.length = 256) (hy : y.length = 256) : (binOp .neq 45 (.agg (blk x)) (.agg (blk y))).run Tryd.prog w = .ok (.bool (!decide (x = y))) w :=
  run_neq_blk w 45 5 256 Tryd.underlying45 Tryd.underlying5 sizeU8 x y hx hy
section
variable {w : World}
set_option maxHeartbeats 8000000 in
theorem rootchain_any (r : Root) (A : Option Addr) (n c : Nat) (l : List (Nat × List UInt8)) (fz : Nat) (A2 : Option Addr) (m c2 : Nat) (ks : List (Nat × Nat))
    (hr : r.Ok) (hn : n ≤ 9223372036854775807) (hl : PutsIn w A n l) (hfz : fz < 256) (hm : m ≤ 9223372036854775807) (hk : KeepsIn w A2 m ks []) :
    Calls Tryd.prog 4 #[.agg r.cells, .slice A n c, .agg #[.int .u8 (fz : Int), .slice A2 m c2]] w fun e w' => e = .returned (.bool true) ∧ Below w.heap.size w w' := by
  obtain ⟨s1, g1, hF⟩ := fmt_facts
  have HH := Lib.hid roothead_any
  have HL := Lib.hid hl
  have HK := Lib.hid hk
  have HNN := Lib.hid hn
  have HMM := Lib.hid hm
  have HFZ := Lib.hid hfz
  have HRO := Lib.hid hr
  have q1 := ((Held.start w).alloc r.cells 34).alloc #[.int .u8 (fz : Int), .slice A2 m c2] 38
  have h0 : w.heap.size + 1 = (w.alloc (.cells r.cells 34)).heap.size := by simp
  rw [← h0] at q1
  clear h0
  obtain ⟨V, hV⟩ : ∃ V, V = (w.alloc (.cells r.cells 34)).alloc (.cells #[.int .u8 (fz : Int), .slice A2 m c2] 38) := ⟨_, rfl⟩
  obtain ⟨g3, hg3⟩ : ∃ b, b = w.heap.size := ⟨_, rfl⟩
  rw [← hV, ← hg3] at q1
  obtain ⟨g5, hg5⟩ : ∃ b, b = g3 + 1 := ⟨_, rfl⟩
  rw [← hg5] at q1
  have HV := Lib.hid hV
  have HG3 := Lib.hid hg3
  have HG5 := Lib.hid hg5
  have R0 := Lib.hid q1
  have HF := Lib.hid hF
  obtain ⟨RCF, hRCF⟩ : ∃ f : Nat → Nat → Array Value, f = fun x y => (rXY r x y).cells := ⟨_, rfl⟩
  obtain ⟨LCF, hLCF⟩ : ∃ f : Nat → Array Value, f = fun k => (rLast r k).cells := ⟨_, rfl⟩
  have HRC : Hid (∀ x y : Nat, (RCF x y)[0]? = some (.int .u64 (x : Int)) ∧ (RCF x y)[1]? = some (.int .u32 (y : Int)) ∧ (∀ z : Nat, (RCF x y).setIfInBounds 0 (.int .u64 (z : Int)) = RCF z y) ∧ (RCF x y).setIfInBounds 1 (.int .u32 64) = RCF x 64 ∧ (RCF x y).size = 8 ∧ (RCF x y).all (·.oneCell') = true) := Lib.hid (by rw [hRCF]; exact fun x y => ⟨rfl, rfl, fun z => rfl, rfl, rfl, rcells_one _⟩)
  have HLC : Hid (∀ k : Nat, (LCF k)[0]? = some (.int .u64 ((k + 1 : Nat) : Int)) ∧ ((LCF k).size = 8 ∧ (LCF k).all (·.oneCell') = true) ∧ LCF (k + 1) = RCF (k + 2) 64 ∧ LCF k = (rLast r k).cells) := Lib.hid (by
    rw [hLCF, hRCF]
    refine fun k => ⟨?_, ⟨rfl, rcells_one _⟩, ?_, rfl⟩
    · rw [← rLast_gen r k]; rfl
    · show (rLast r (k + 1)).cells = _
      unfold rLast
      rw [if_neg (by omega)]; rfl)
  have hrc0 : r.cells = RCF r.gen r.size := by rw [hRCF]; rfl
  obtain ⟨CI, hCI⟩ : ∃ C : Nat → Dv → Prop, C = fun k s => ChI r l ks k s (rLast r (k - 1)) (rLast r k) := ⟨_, rfl⟩
  have HCI := Lib.hid hCI
  have HFM : Hid (∀ (g : Nat) (W : World) (tl : List Thing), Held w W (dvT g (newDv 64) :: tl) → Calls Tryd.prog 11 #[.pointer (some ⟨g, 0, none⟩)] W fun e w' => e = .returned (.tuple #[.agg (LCF 0), .int .i64 0]) ∧ Held w w' (dvT g s1 :: tl)) := Lib.hid (fun g W tl R => by have := format_is R (by decide) (by decide); rw [HF.out.f.1, HF.out.f.2] at this; rw [(HLC.out 0).2.2.2]; exact this)
  obtain ⟨ip, hip, hzp, hsp, hbp⟩ := info_parts Tryd.infoPut
  have HIP := Lib.hid hip
  have HZP := Lib.hid hzp
  rw [hrc0] at R0 HV ⊢
  clear hV hg3 hg5 q1 hF hr hl hk hn hm hfz hRCF hLCF hrc0 hCI hip hzp
  go_enter Tryd.func4, Tryd.ntmps4
  go_upto_region 1 with (fail)
  rw [← HV.out, ← HG3.out]
  rw [← HG5.out]
  go_upto_region 2 with (go_at_call 10; refine (new_dev _ 64 (by decide) (by decide)).mono ?_; rintro e w1 ⟨g, rfl, hM⟩; have R1 := Lib.hid (R0.out.made hM); clear hM)
  by_cases hg : 0 < n ∧ n ≤ 8 ∧ m ≤ 100
  · obtain ⟨hn0, hn8, hm100⟩ := hg
    have l1 : ¬ ((8 : Int) < (n : Int)) := by omega
    have l3 : ((n : Int) == 0) = false := by simp; omega
    have l2 : ¬ ((100 : Int) < (m : Int)) := by omega
    have c5 : w1.cell? ⟨g5, 1, none⟩ = some (.slice A2 m c2) := R1.out.cell 1 1 rfl rfl
    go_upto_region 4 with (fail)
    clear c5 l1 l2 l3
    go_wp2_with fail
    refine (HFM.out _ _ _ R1.out).mono ?_
    rintro e w2 ⟨rfl, hR⟩
    have q1 := hR.alloc2 (LCF 0) 34
    clear hR
    go_upto_region 5 with (first | refine wpList_alloc_row rfl 34 rfl _ zeroR ?_ | refine wpList_store_new rfl 34 _ _ rfl _ (LCF 0) _ rfl rfl (by rw [((HLC.out 0).2.1).1]; exact sizeR) (by rw [((HLC.out 0).2.1).1]; rfl) ((HLC.out 0).2.1).2 ?_)
    obtain ⟨W2, hW⟩ : ∃ W, W = w2.alloc (.cells (LCF 0) 34) := ⟨_, rfl⟩
    rw [← hW] at q1 ⊢
    clear hW
    obtain ⟨g9, hg⟩ : ∃ g, g = w2.heap.size := ⟨_, rfl⟩
    rw [← hg] at q1 ⊢
    clear hg
    have R2 := Lib.hid q1
    clear q1
    have q1 := R2.out.alloc2 (LCF 0) 34
    go_upto_region 8 with (first
      | refine wpList_load_row rfl 34 _ rfl g9 rfl 34 (LCF 0) (0, 0) _ (R2.out.get 1 rfl) Tryd.underlying34 rfl (by rw [(HLC.out 0).2.1.1]; exact sizeR) ?_
      | refine wpList_alloc_row rfl 34 rfl _ zeroR ?_
      | refine wpList_store_new rfl 34 _ _ rfl _ (LCF 0) _ rfl rfl (by rw [(HLC.out 0).2.1.1]; exact sizeR) (by rw [(HLC.out 0).2.1.1]; rfl) (HLC.out 0).2.1.2 ?_)
    obtain ⟨W3, hW⟩ : ∃ W, W = W2.alloc (.cells (LCF 0) 34) := ⟨_, rfl⟩
    rw [← hW] at q1 ⊢
    clear hW
    obtain ⟨g11, hg⟩ : ∃ g, g = W2.heap.size := ⟨_, rfl⟩
    rw [← hg] at q1 ⊢
    clear hg
    have R3 := Lib.hid q1
    clear q1
    clear R0 R1 R2 HFM
    go_wp2_with fail
    go_loopw [12] (fun i wr => ∃ (k : Nat) (s : Dv) (x y : Nat), k ≤ n ∧ i = .int .i64 (k : Int) ∧ Held w wr (dvT g s :: rowT g11 (LCF (k - 1)) 34 :: rowT g9 (LCF k) 34 :: rowT g5 #[.int .u8 (fz : Int), .slice A2 m c2] 38 :: [rowT g3 (RCF x y) 34]) ∧ CI k s) (fun i _ => n - (intOf i).toNat)
    case atStart => exact ⟨0, s1, r.gen, r.size, by omega, rfl, R3.out, by rw [HCI.out]; exact ch_start r (by rw [HL.out.len]; exact hn0) ks HF.out⟩
    case round =>
      obtain ⟨k, s, x, y, hk, rfl, hR, hci⟩ := hrel
      have HR := Lib.hid hR
      have HCK := Lib.hid hci
      clear hR hci R3
      by_cases hlt : k < n
      · have hkl : k < l.length := by rw [HL.out.len]; exact hlt
        obtain ⟨b, off, hA, hb0, hrg⟩ := (HL.out.below HR.out.below).cells k hkl
        subst hA
        have hck := HCK.out
        rw [HCI.out] at hck
        obtain ⟨kf, hkf⟩ : ∃ k, k = fz % 6 := ⟨_, rfl⟩
        have hkl6 : kf < 6 := by omega
        have hfz := HFZ.out
        obtain ⟨s', t, E, h1, h2, h3, h4, h5⟩ := ch_step HRO.out (fun x hx => (HL.out.ok x hx).2) (by rw [HL.out.len]; exact hn8) hck hkl kf
        have hBl := (HL.out.ok _ (List.getElem_mem hkl)).2
        obtain ⟨x0, hx0⟩ : ∃ x, x = l[k]'hkl := ⟨_, rfl⟩
        rw [← hx0] at hrg h4 hBl
        obtain ⟨a0, B⟩ := x0
        simp only at hrg h4 hBl
        have HMD : Hid (∀ W : World, Below w.heap.size w W → W.rangeAt b (off + k * 257 + 1) (blk B).toList) := Lib.hid (fun W hW => by
          obtain ⟨b', off', hA, _, hr'⟩ := (HL.out.below hW).cells k hkl
          cases hA
          rw [← hx0] at hr'
          exact putV_atC hr')
        obtain ⟨a, ha⟩ : ∃ a, a = 20 + k := ⟨_, rfl⟩
        rw [← ha] at h4
        have hal : a < 64 := by omega
        obtain ⟨k1, hk1⟩ : ∃ x, x = k + 1 := ⟨_, rfl⟩
        obtain ⟨k2, hk2⟩ : ∃ x, x = k + 2 := ⟨_, rfl⟩
        rw [← hk2] at h4
        have e1 : IntKind.u64.wrap ((k1 : Int) + 1) = (k2 : Int) := by rw [IntKind.wrap_u64]; omega
        have e2 : IntKind.u32.wrap (20 + (k : Int)) = (a : Int) := by rw [IntKind.wrap_u32]; omega
        have hcv : ∀ w : World, (convert 3 22 (.int .i64 (k : Int))).run Tryd.prog w = .ok (.int .u32 (k : Int)) w := fun w => run_conv_int _ _ .i64 .u32 Tryd.underlying3 Tryd.underlying22 _ (by rw [IntKind.wrap_u32]; omega) w
        have hcv8 : ∀ w : World, (convert 5 3 (.int .u8 (fz : Int))).run Tryd.prog w = .ok (.int .i64 (fz : Int)) w := fun w => run_conv_int _ _ .u8 .i64 Tryd.underlying5 Tryd.underlying3 _ (by rw [IntKind.wrap_i64]; omega) w
        have hmd : Int.tmod (fz : Int) 6 = (kf : Int) := by rw [Int.tmod_eq_emod_of_nonneg (by omega)]; omega
        have hmd2 : (fz : Int) % 6 = (kf : Int) := by omega
        have c9 : wr.cell? ⟨g9, 0, none⟩ = some (.int .u64 (k1 : Int)) := HR.out.cell 2 0 rfl (by rw [hk1]; exact (HLC.out k).1)
        have HLK : Hid (LCF (k + 1) = RCF k2 64) := Lib.hid (by rw [hk2]; exact (HLC.out k).2.2.1)
        have HST : Hid (E = 2 ∨ (E ≠ 2 ∧ CI (k + 1) t)) := Lib.hid (by
          rcases h5 with h | ⟨h6, h7⟩
          · exact .inl h
          · refine .inr ⟨h6, ?_⟩
            rw [HCI.out]
            have e : rG r (k + 2) = rLast r (k + 1) := by unfold rLast; rw [if_neg (by omega)]
            rw [e] at h7
            exact h7)
        obtain ⟨PV, hPV⟩ : ∃ p, p = putV a B := ⟨_, rfl⟩
        have HPV : Hid (PV.size = 257 ∧ PV.all (·.oneCell') = true) := Lib.hid (by rw [hPV]; exact ⟨size_putV a B hBl, putV_one a B⟩)
        have HBP : Hid (Tryd.prog.built 47 [(0, .int .u32 (a : Int)), (1, .agg (blk B))] = some PV) := Lib.hid (by rw [hPV]; exact builtPut a B hBl)
        have HCM : Hid (∀ (gz : Nat) (W : World) (tl : List Thing), Held w W (dvT g s' :: rowT gz PV 47 :: tl) → Calls Tryd.prog 13 #[.pointer (some ⟨g, 0, none⟩), .slice (some ⟨gz, 0, none⟩) 1 1, .agg (RCF k2 64)] W fun e w' => e = .returned (.int .i64 E) ∧ Held w w' (dvT g t :: rowT gz PV 47 :: tl)) := Lib.hid (fun gz W tl R => by
          have := commit_is (rG r k2) (rG_ok HRO.out k2 (by omega)) (some ⟨gz, 0, none⟩) 1 1 [(a, B)] (by decide) R (fun W' t' h => puts_row1 (by rw [← hPV]; exact h.get 1 rfl) (by omega) hBl) (by rw [h3]; decide) (by rw [h2]; decide)
          rw [h4, show (rG r k2).cells = RCF k2 64 by rw [← HLK.out, (HLC.out (k + 1)).2.2.2]; unfold rLast; rw [if_neg (by omega), hk2]] at this
          exact this)
        have HBL := Lib.hid hBl
        have HLAY0 := Lib.hid h1
        have HK2 := Lib.hid hk2
        clear hrg h4 h5 hBl h1 h2 h3 hck ha hk1 hk2 hPV hb0 hfz hkf hx0
        have hc := HR.out.cell 4 0 rfl ((HRC.out x y).1)
        have hf := HR.out.free 4 0 rfl
        have q0 := Lib.hid (HR.out.setCell 4 0 (.int .u64 (k2 : Int)) rfl)
        go_upto_region 12 with (fail)
        have q1 := q0.out
        clear q0 hc hf
        obtain ⟨W1, hW⟩ : ∃ W, W = wr.setCell ⟨g3, 0, none⟩ (.int .u64 (k2 : Int)) := ⟨_, rfl⟩
        rw [← hW] at q1 ⊢
        clear hW
        simp only [List.set_cons_zero, List.set_cons_succ] at q1
        have R1 := Lib.hid q1
        clear q1
        have q1 := R1.out
        rw [(HRC.out x y).2.2.1 k2] at q1
        have R2 := Lib.hid q1
        clear q1 R1 c9 e1 HR
        have hc := R2.out.cell 4 1 rfl ((HRC.out k2 y).2.1)
        have hf := R2.out.free 4 1 rfl
        have q0 := Lib.hid (R2.out.setCell 4 1 (.int .u32 64) rfl)
        go_upto_region 13 with (fail)
        have q1 := q0.out
        clear q0 hc hf
        obtain ⟨W3, hW⟩ : ∃ W, W = W1.setCell ⟨g3, 1, none⟩ (.int .u32 64) := ⟨_, rfl⟩
        rw [← hW] at q1 ⊢
        clear hW
        simp only [List.set_cons_zero, List.set_cons_succ] at q1
        have R3 := Lib.hid q1
        clear q1
        have q1 := R3.out
        rw [(HRC.out k2 y).2.2.2.1] at q1
        have R4 := Lib.hid q1
        clear q1 R3 R2
        have hmid := HMD.out W3 R4.out.below
        have q1 := R4.out.alloc2 PV 47
        go_upto_region 14 with (first
          | refine wpList_load_arr rfl 45 _ rfl b (off + k * 257 + 1) rfl (blk B) _ hmid Tryd.underlying45 rfl (by rw [size_blk, HBL.out]; exact sizeB) ?_
          | refine wpList_builtC rfl 47 _ rfl [(0, .int .u32 (a : Int)), (1, .agg (blk B))] PV (by simp [Act.eval, Act.put]) HBP.out ?_
          | refine wpList_alloc_row rfl 47 rfl _ zeroPut ?_
          | refine wpList_store_new rfl 47 _ _ rfl _ PV _ rfl rfl (by rw [HPV.out.1]; exact sizePut) (by rw [HPV.out.1]; rfl) HPV.out.2 ?_)
        obtain ⟨W4, hW⟩ : ∃ W, W = W3.alloc (.cells PV 47) := ⟨_, rfl⟩
        rw [← hW] at q1 ⊢
        clear hW
        obtain ⟨g13, hg⟩ : ∃ g, g = W3.heap.size := ⟨_, rfl⟩
        rw [← hg] at q1 ⊢
        clear hg
        have RY0 := Lib.hid q1
        clear q1
        clear R4 hmid hcv e2
        by_cases hlast : k + 1 = n
        · have HLAY := Lib.hid HLAY0.out
          rw [if_pos (by rw [HL.out.len]; exact hlast)] at HLAY
          have hq : ((k : Int) == (n : Int) - 1) = true := by simp; omega
          have c5 := RY0.out.cell 4 0 rfl rfl
          go_upto_region 17 with (first
            | (go_at_call 12; refine (fuse_is RY0.out (kf : Int) (by omega) HLAY.out).mono ?_; rintro e w8 ⟨rfl, hR⟩; have RY := Lib.hid hR; clear hR)
            | refine wpList_load_row rfl 47 _ rfl g13 rfl 47 PV (0, 0) _ (RY.out.get 1 rfl) Tryd.underlying47 rfl (by rw [HPV.out.1]; exact sizePut) ?_
            | refine wpList_plain rfl fun K hK' => wp_build_one 35 47 _ rfl PV rfl ip _ Tryd.underlying35 HIP.out HZP.out (by rw [hsp]; exact HPV.out.1) (by omega) (by omega) (hK' _ _ ?_)
            | refine wpList_load_row rfl 34 _ rfl g3 rfl 34 (RCF k2 64) (0, 0) _ ((RY.out.alloc2 PV 47).get 6 rfl) Tryd.underlying34 rfl (by rw [(HRC.out k2 64).2.2.2.2.1]; exact sizeR) ?_
            | (go_at_call 13; refine (HCM.out _ _ _ (RY.out.alloc2 PV 47)).mono ?_; rintro e w9 ⟨rfl, hR⟩; have RX := Lib.hid hR; clear hR))
          clear RY
          by_cases hE2 : E = 2
          · have h2 : (E == 2) = true := by simp [hE2]
            clear hE2
            go_wp2_with (go_at_call 9; refine (HH.out _).mono ?_; rintro e w10 ⟨rfl, hb⟩; have RZ := Lib.hid (RX.out.call hb); clear hb)
            go_ret
            exact ⟨rfl, RZ.out.below⟩
          · have h2 : (E == 2) = false := by simp [hE2]
            have HCI2 : Hid (CI (k + 1) t) := Lib.hid (by rcases HST.out with h | h; exact absurd h hE2; exact h.2)
            clear hE2
            have q1 := RX.out.setRow 3 (LCF k) rfl
            go_upto_region 20 with (first
              | refine wpList_load_row rfl 34 _ rfl g9 rfl 34 (LCF k) (0, 0) _ (RX.out.get 4 rfl) Tryd.underlying34 rfl (by rw [(HLC.out k).2.1.1]; exact sizeR) ?_
              | refine wpList_store_row rfl 34 _ _ rfl g11 (LCF k) rfl rfl 34 _ (RX.out.get 3 rfl) (by rw [(HLC.out k).2.1.1]; exact sizeR) (by rw [(HLC.out k).2.1.1, (HLC.out (k - 1)).2.1.1]) (HLC.out k).2.1.2 ?_)
            obtain ⟨W5, hW⟩ : ∃ V, V = w9.setRow g11 (LCF k) := ⟨_, rfl⟩
            rw [← hW] at q1 ⊢
            have R5 := Lib.hid q1
            clear q1 hW RX
            have q1 := R5.out.setRow 4 (RCF k2 64) rfl
            go_upto_region 10 with (first
              | refine wpList_load_row rfl 34 _ rfl g3 rfl 34 (RCF k2 64) (0, 0) _ (R5.out.get 6 rfl) Tryd.underlying34 rfl (by rw [(HRC.out k2 64).2.2.2.2.1]; exact sizeR) ?_
              | refine wpList_store_row rfl 34 _ _ rfl g9 (RCF k2 64) rfl rfl 34 _ (R5.out.get 4 rfl) (by rw [(HRC.out k2 64).2.2.2.2.1]; exact sizeR) (by rw [(HRC.out k2 64).2.2.2.2.1, (HLC.out k).2.1.1]) (HRC.out k2 64).2.2.2.2.2 ?_)
            obtain ⟨W6, hW⟩ : ∃ V, V = W5.setRow g9 (RCF k2 64) := ⟨_, rfl⟩
            rw [← hW] at q1 ⊢
            have q2 : Held w W6 (dvT g t :: rowT g11 (LCF (k + 1 - 1)) 34 :: rowT g9 (LCF (k + 1)) 34 :: rowT g5 #[.int .u8 (fz : Int), .slice A2 m c2] 38 :: [rowT g3 (RCF k2 64) 34]) := by
              rw [HLK.out]
              exact q1.from2 2
            have R6 := Lib.hid q2
            clear q1 q2 hW R5
            go_wp2_with fail
            exact ⟨⟨k + 1, t, k2, 64, by omega, by go_num, R6.out, HCI2.out⟩, by simp [intOf]; omega⟩
        · have hss := HLAY0.out
          rw [if_neg (by rw [HL.out.len]; exact hlast)] at hss
          subst hss
          have hq : ((k : Int) == (n : Int) - 1) = false := by simp; omega
          have RY := Lib.hid RY0.out
          go_upto_region 17 with (first
            | (go_at_call 12; refine (fuse_is RY0.out (kf : Int) (by omega) HLAY.out).mono ?_; rintro e w8 ⟨rfl, hR⟩; have RY := Lib.hid hR; clear hR)
            | refine wpList_load_row rfl 47 _ rfl g13 rfl 47 PV (0, 0) _ (RY.out.get 1 rfl) Tryd.underlying47 rfl (by rw [HPV.out.1]; exact sizePut) ?_
            | refine wpList_plain rfl fun K hK' => wp_build_one 35 47 _ rfl PV rfl ip _ Tryd.underlying35 HIP.out HZP.out (by rw [hsp]; exact HPV.out.1) (by omega) (by omega) (hK' _ _ ?_)
            | refine wpList_load_row rfl 34 _ rfl g3 rfl 34 (RCF k2 64) (0, 0) _ ((RY.out.alloc2 PV 47).get 6 rfl) Tryd.underlying34 rfl (by rw [(HRC.out k2 64).2.2.2.2.1]; exact sizeR) ?_
            | (go_at_call 13; refine (HCM.out _ _ _ (RY.out.alloc2 PV 47)).mono ?_; rintro e w9 ⟨rfl, hR⟩; have RX := Lib.hid hR; clear hR))
          clear RY
          by_cases hE2 : E = 2
          · have h2 : (E == 2) = true := by simp [hE2]
            clear hE2
            go_wp2_with (go_at_call 9; refine (HH.out _).mono ?_; rintro e w10 ⟨rfl, hb⟩; have RZ := Lib.hid (RX.out.call hb); clear hb)
            go_ret
            exact ⟨rfl, RZ.out.below⟩
          · have h2 : (E == 2) = false := by simp [hE2]
            have HCI2 : Hid (CI (k + 1) t) := Lib.hid (by rcases HST.out with h | h; exact absurd h hE2; exact h.2)
            clear hE2
            have q1 := RX.out.setRow 3 (LCF k) rfl
            go_upto_region 20 with (first
              | refine wpList_load_row rfl 34 _ rfl g9 rfl 34 (LCF k) (0, 0) _ (RX.out.get 4 rfl) Tryd.underlying34 rfl (by rw [(HLC.out k).2.1.1]; exact sizeR) ?_
              | refine wpList_store_row rfl 34 _ _ rfl g11 (LCF k) rfl rfl 34 _ (RX.out.get 3 rfl) (by rw [(HLC.out k).2.1.1]; exact sizeR) (by rw [(HLC.out k).2.1.1, (HLC.out (k - 1)).2.1.1]) (HLC.out k).2.1.2 ?_)
            obtain ⟨W5, hW⟩ : ∃ V, V = w9.setRow g11 (LCF k) := ⟨_, rfl⟩
            rw [← hW] at q1 ⊢
            have R5 := Lib.hid q1
            clear q1 hW RX
            have q1 := R5.out.setRow 4 (RCF k2 64) rfl
            go_upto_region 10 with (first
              | refine wpList_load_row rfl 34 _ rfl g3 rfl 34 (RCF k2 64) (0, 0) _ (R5.out.get 6 rfl) Tryd.underlying34 rfl (by rw [(HRC.out k2 64).2.2.2.2.1]; exact sizeR) ?_
              | refine wpList_store_row rfl 34 _ _ rfl g9 (RCF k2 64) rfl rfl 34 _ (R5.out.get 4 rfl) (by rw [(HRC.out k2 64).2.2.2.2.1]; exact sizeR) (by rw [(HRC.out k2 64).2.2.2.2.1, (HLC.out k).2.1.1]) (HRC.out k2 64).2.2.2.2.2 ?_)
            obtain ⟨W6, hW⟩ : ∃ V, V = W5.setRow g9 (RCF k2 64) := ⟨_, rfl⟩
            rw [← hW] at q1 ⊢
            have q2 : Held w W6 (dvT g t :: rowT g11 (LCF (k + 1 - 1)) 34 :: rowT g9 (LCF (k + 1)) 34 :: rowT g5 #[.int .u8 (fz : Int), .slice A2 m c2] 38 :: [rowT g3 (RCF k2 64) 34]) := by
              rw [HLK.out]
              exact q1.from2 2
            have R6 := Lib.hid q2
            clear q1 q2 hW R5
            go_wp2_with fail
            exact ⟨⟨k + 1, t, k2, 64, by omega, by go_num, R6.out, HCI2.out⟩, by simp [intOf]; omega⟩
      · obtain rfl : k = n := by omega
        have hz : ¬ ((k : Int) < (k : Int)) := by omega
        have hck := HCK.out
        rw [HCI.out] at hck
        obtain ⟨f1, f2, f3, f4⟩ := hck.fin HL.out.len.symm
        obtain ⟨s4, hs4⟩ : ∃ s', s.crash ks = s' := ⟨_, rfl⟩
        rw [hs4] at f1 f2 f3 f4
        have HS4 := Lib.hid hs4
        have HF1 := Lib.hid f1
        have HF4 := Lib.hid f4
        clear hck hs4
        have c5 := HR.out.cell 3 1 rfl rfl
        go_upto_region 22 with (go_at_call 14; refine (crash_old HR.out A2 m c2 HMM.out ks HK.out HS4.out).mono ?_; rintro e w5 ⟨rfl, hR⟩; have R5 := Lib.hid hR; clear hR)
        clear c5 HR hz
        obtain ⟨C4, hC4⟩ : ∃ C, C = (mountR s4).cells := ⟨_, rfl⟩
        have HC4 : Hid (C4.size = 8 ∧ C4.all (·.oneCell') = true) := Lib.hid (by rw [hC4]; exact ⟨rfl, rcells_one _⟩)
        have hmt := mount_is (R5.out.thing 0 rfl) (by rw [HF1.out]; decide)
        rw [f2, ← hC4] at hmt
        have HMT := Lib.hid hmt
        obtain ⟨n1, hn1⟩ : ∃ b, b = !(mountR s4).same (rLast r k) := ⟨_, rfl⟩
        have HN1 : Hid (∀ w : World, (binOp .neq 34 (.agg C4) (.agg (LCF k))).run Tryd.prog w = .ok (.bool n1) w) := Lib.hid (fun w => by rw [hC4, (HLC.out k).2.2.2, run_neq_root, hn1])
        have HN2 : Hid (n1 = true → ∀ w : World, (binOp .neq 34 (.agg C4) (.agg (LCF (k - 1)))).run Tryd.prog w = .ok (.bool false) w) := Lib.hid (fun h w => by
          rcases f3 with h2 | h2
          · rw [hn1, h2, (rsame_iff _ _).2 rfl] at h; cases h
          · rw [hC4, (HLC.out (k - 1)).2.2.2, run_neq_root, h2, (rsame_iff _ _).2 rfl]; rfl)
        have HN3 : Hid (mountR s4 ≠ rLast r k → ∀ w : World, (binOp .eql 34 (.agg C4) (.agg (LCF k))).run Tryd.prog w = .ok (.bool false) w) := Lib.hid (fun h w => by
          rw [hC4, (HLC.out k).2.2.2, run_eql_root]
          have : (mountR s4).same (rLast r k) = false := by
            rw [Bool.eq_false_iff]
            exact fun h2 => h ((rsame_iff _ _).1 h2)
          rw [this])
        clear f1 f2 f3 f4 hC4 hmt hn1
        go_wp2_with fail
        refine HMT.out.mono ?_
        rintro e w6 ⟨rfl, hb⟩
        have q1 := (R5.out.call hb).alloc2 C4 34
        clear hb
        go_upto_region 23 with (first | refine wpList_alloc_row rfl 34 rfl _ zeroR ?_ | refine wpList_store_new rfl 34 _ _ rfl _ C4 _ rfl rfl (by rw [(HC4.out).1]; exact sizeR) (by rw [(HC4.out).1]; rfl) (HC4.out).2 ?_)
        obtain ⟨W6, hW⟩ : ∃ W, W = w6.alloc (.cells C4 34) := ⟨_, rfl⟩
        rw [← hW] at q1 ⊢
        clear hW
        obtain ⟨g15, hg⟩ : ∃ g, g = w6.heap.size := ⟨_, rfl⟩
        rw [← hg] at q1 ⊢
        clear hg
        have R6 := Lib.hid q1
        clear q1
        clear R5 HMT
        go_cut [120] (fun u w' => u = .bool false ∧ Held w w' (dvT g s4 :: rowT g15 C4 34 :: rowT g11 (LCF (k - 1)) 34 :: rowT g9 (LCF k) 34 :: rowT g5 #[.int .u8 (fz : Int), .slice A2 m c2] 38 :: [rowT g3 (RCF x y) 34]))
        case first =>
          cases n1 with
          | false =>
            refine wk_plain_since ?_
            repeat (first
              | (refine wk_move _ (by first | exact wanted_none rfl | exact wanted_yes _ _ rfl rfl) rfl ?_; simp only [Act.put, Act.eval, Array.getD_eq_getD_getElem?, List.getElem?_toArray, List.getElem?_cons_succ, List.getElem?_cons_zero, Option.getD_some, List.setIfInBounds_toArray, List.set_cons_zero, List.set_cons_succ])
              | (refine wk_assign _ (by first | exact wanted_none rfl | exact wanted_yes _ _ rfl rfl) rfl ?_; simp only [Act.put, Act.eval, Array.getD_eq_getD_getElem?, List.getElem?_toArray, List.getElem?_cons_succ, List.getElem?_cons_zero, Option.getD_some, List.setIfInBounds_toArray, List.set_cons_zero, List.set_cons_succ])
              | (refine wk_pickt _ _ _ _ (by first | exact wanted_none rfl | exact wanted_yes _ _ rfl rfl) rfl rfl rfl ?_; simp only [Act.put, Act.eval, Array.getD_eq_getD_getElem?, List.getElem?_toArray, List.getElem?_cons_succ, List.getElem?_cons_zero, Option.getD_some, List.setIfInBounds_toArray, List.set_cons_zero, List.set_cons_succ])
              | (refine wk_pickf _ _ _ _ (by first | exact wanted_none rfl | exact wanted_yes _ _ rfl rfl) rfl rfl rfl ?_; simp only [Act.put, Act.eval, Array.getD_eq_getD_getElem?, List.getElem?_toArray, List.getElem?_cons_succ, List.getElem?_cons_zero, Option.getD_some, List.setIfInBounds_toArray, List.set_cons_zero, List.set_cons_succ])
              | (refine wk_skip (wanted_not _ true false rfl rfl rfl) ?_; simp only [Act.put, List.setIfInBounds_toArray, List.set_cons_zero, List.set_cons_succ])
              | (refine wk_skip (wanted_not _ false true rfl rfl rfl) ?_; simp only [Act.put, List.setIfInBounds_toArray, List.set_cons_zero, List.set_cons_succ])
              | (refine wk_skip (wanted_undef _ _ rfl rfl) ?_; simp only [Act.put, List.setIfInBounds_toArray, List.set_cons_zero, List.set_cons_succ])
              | (refine wk_not true _ _ (by first | exact wanted_none rfl | exact wanted_yes _ _ rfl rfl) rfl rfl ?_; simp only [Act.put, List.setIfInBounds_toArray, List.set_cons_zero, List.set_cons_succ])
              | (refine wk_not false _ _ (by first | exact wanted_none rfl | exact wanted_yes _ _ rfl rfl) rfl rfl ?_; simp only [Act.put, List.setIfInBounds_toArray, List.set_cons_zero, List.set_cons_succ]))
            refine wk_cmp_int .neq (false) _ _ _ _ _ _ _ (by kernel_rfl) rfl rfl rfl (rfl) ?_
            simp only [Act.put, List.setIfInBounds_toArray, List.set_cons_zero, List.set_cons_succ]
            repeat (first
              | (refine wk_move _ (by first | exact wanted_none rfl | exact wanted_yes _ _ rfl rfl) rfl ?_; simp only [Act.put, Act.eval, Array.getD_eq_getD_getElem?, List.getElem?_toArray, List.getElem?_cons_succ, List.getElem?_cons_zero, Option.getD_some, List.setIfInBounds_toArray, List.set_cons_zero, List.set_cons_succ])
              | (refine wk_assign _ (by first | exact wanted_none rfl | exact wanted_yes _ _ rfl rfl) rfl ?_; simp only [Act.put, Act.eval, Array.getD_eq_getD_getElem?, List.getElem?_toArray, List.getElem?_cons_succ, List.getElem?_cons_zero, Option.getD_some, List.setIfInBounds_toArray, List.set_cons_zero, List.set_cons_succ])
              | (refine wk_pickt _ _ _ _ (by first | exact wanted_none rfl | exact wanted_yes _ _ rfl rfl) rfl rfl rfl ?_; simp only [Act.put, Act.eval, Array.getD_eq_getD_getElem?, List.getElem?_toArray, List.getElem?_cons_succ, List.getElem?_cons_zero, Option.getD_some, List.setIfInBounds_toArray, List.set_cons_zero, List.set_cons_succ])
              | (refine wk_pickf _ _ _ _ (by first | exact wanted_none rfl | exact wanted_yes _ _ rfl rfl) rfl rfl rfl ?_; simp only [Act.put, Act.eval, Array.getD_eq_getD_getElem?, List.getElem?_toArray, List.getElem?_cons_succ, List.getElem?_cons_zero, Option.getD_some, List.setIfInBounds_toArray, List.set_cons_zero, List.set_cons_succ])
              | (refine wk_skip (wanted_not _ true false rfl rfl rfl) ?_; simp only [Act.put, List.setIfInBounds_toArray, List.set_cons_zero, List.set_cons_succ])
              | (refine wk_skip (wanted_not _ false true rfl rfl rfl) ?_; simp only [Act.put, List.setIfInBounds_toArray, List.set_cons_zero, List.set_cons_succ])
              | (refine wk_skip (wanted_undef _ _ rfl rfl) ?_; simp only [Act.put, List.setIfInBounds_toArray, List.set_cons_zero, List.set_cons_succ])
              | (refine wk_not true _ _ (by first | exact wanted_none rfl | exact wanted_yes _ _ rfl rfl) rfl rfl ?_; simp only [Act.put, List.setIfInBounds_toArray, List.set_cons_zero, List.set_cons_succ])
              | (refine wk_not false _ _ (by first | exact wanted_none rfl | exact wanted_yes _ _ rfl rfl) rfl rfl ?_; simp only [Act.put, List.setIfInBounds_toArray, List.set_cons_zero, List.set_cons_succ]))
            refine wk_load_row 34 _ g15 34 C4 (0, 0) _ (by kernel_rfl) rfl rfl (fun w' hC => hC.row (R6.out.get 1 rfl)) Tryd.underlying34 rfl (by rw [HC4.out.1]; exact sizeR) ?_
            simp only [Act.put, List.setIfInBounds_toArray, List.set_cons_zero, List.set_cons_succ]
            refine wk_load_row 34 _ g9 34 (LCF k) (0, 0) _ (by kernel_rfl) rfl rfl (fun w' hC => hC.row (R6.out.get 3 rfl)) Tryd.underlying34 rfl (by rw [(HLC.out k).2.1.1]; exact sizeR) ?_
            simp only [Act.put, List.setIfInBounds_toArray, List.set_cons_zero, List.set_cons_succ]
            refine wk_eql .neq (false) 34 34 _ _ (by first | exact wanted_none rfl | exact wanted_yes _ _ rfl rfl) rfl _ _ rfl rfl (by kernel_rfl) (fun w => HN1.out w) ?_
            simp only [Act.put, List.setIfInBounds_toArray, List.set_cons_zero, List.set_cons_succ]
            repeat (first
              | (refine wk_move _ (by first | exact wanted_none rfl | exact wanted_yes _ _ rfl rfl) rfl ?_; simp only [Act.put, Act.eval, Array.getD_eq_getD_getElem?, List.getElem?_toArray, List.getElem?_cons_succ, List.getElem?_cons_zero, Option.getD_some, List.setIfInBounds_toArray, List.set_cons_zero, List.set_cons_succ])
              | (refine wk_assign _ (by first | exact wanted_none rfl | exact wanted_yes _ _ rfl rfl) rfl ?_; simp only [Act.put, Act.eval, Array.getD_eq_getD_getElem?, List.getElem?_toArray, List.getElem?_cons_succ, List.getElem?_cons_zero, Option.getD_some, List.setIfInBounds_toArray, List.set_cons_zero, List.set_cons_succ])
              | (refine wk_pickt _ _ _ _ (by first | exact wanted_none rfl | exact wanted_yes _ _ rfl rfl) rfl rfl rfl ?_; simp only [Act.put, Act.eval, Array.getD_eq_getD_getElem?, List.getElem?_toArray, List.getElem?_cons_succ, List.getElem?_cons_zero, Option.getD_some, List.setIfInBounds_toArray, List.set_cons_zero, List.set_cons_succ])
              | (refine wk_pickf _ _ _ _ (by first | exact wanted_none rfl | exact wanted_yes _ _ rfl rfl) rfl rfl rfl ?_; simp only [Act.put, Act.eval, Array.getD_eq_getD_getElem?, List.getElem?_toArray, List.getElem?_cons_succ, List.getElem?_cons_zero, Option.getD_some, List.setIfInBounds_toArray, List.set_cons_zero, List.set_cons_succ])
              | (refine wk_skip (wanted_not _ true false rfl rfl rfl) ?_; simp only [Act.put, List.setIfInBounds_toArray, List.set_cons_zero, List.set_cons_succ])
              | (refine wk_skip (wanted_not _ false true rfl rfl rfl) ?_; simp only [Act.put, List.setIfInBounds_toArray, List.set_cons_zero, List.set_cons_succ])
              | (refine wk_skip (wanted_undef _ _ rfl rfl) ?_; simp only [Act.put, List.setIfInBounds_toArray, List.set_cons_zero, List.set_cons_succ])
              | (refine wk_not true _ _ (by first | exact wanted_none rfl | exact wanted_yes _ _ rfl rfl) rfl rfl ?_; simp only [Act.put, List.setIfInBounds_toArray, List.set_cons_zero, List.set_cons_succ])
              | (refine wk_not false _ _ (by first | exact wanted_none rfl | exact wanted_yes _ _ rfl rfl) rfl rfl ?_; simp only [Act.put, List.setIfInBounds_toArray, List.set_cons_zero, List.set_cons_succ]))
            refine wk_nil ?_
            intro w' hC
            have R7 := Lib.hid (R6.out.since hC)
            clear hC
            go_wp2_with fail
            go_meet
            exact ⟨rfl, R7.out⟩
          | true =>
            refine wk_plain_since ?_
            repeat (first
              | (refine wk_move _ (by first | exact wanted_none rfl | exact wanted_yes _ _ rfl rfl) rfl ?_; simp only [Act.put, Act.eval, Array.getD_eq_getD_getElem?, List.getElem?_toArray, List.getElem?_cons_succ, List.getElem?_cons_zero, Option.getD_some, List.setIfInBounds_toArray, List.set_cons_zero, List.set_cons_succ])
              | (refine wk_assign _ (by first | exact wanted_none rfl | exact wanted_yes _ _ rfl rfl) rfl ?_; simp only [Act.put, Act.eval, Array.getD_eq_getD_getElem?, List.getElem?_toArray, List.getElem?_cons_succ, List.getElem?_cons_zero, Option.getD_some, List.setIfInBounds_toArray, List.set_cons_zero, List.set_cons_succ])
              | (refine wk_pickt _ _ _ _ (by first | exact wanted_none rfl | exact wanted_yes _ _ rfl rfl) rfl rfl rfl ?_; simp only [Act.put, Act.eval, Array.getD_eq_getD_getElem?, List.getElem?_toArray, List.getElem?_cons_succ, List.getElem?_cons_zero, Option.getD_some, List.setIfInBounds_toArray, List.set_cons_zero, List.set_cons_succ])
              | (refine wk_pickf _ _ _ _ (by first | exact wanted_none rfl | exact wanted_yes _ _ rfl rfl) rfl rfl rfl ?_; simp only [Act.put, Act.eval, Array.getD_eq_getD_getElem?, List.getElem?_toArray, List.getElem?_cons_succ, List.getElem?_cons_zero, Option.getD_some, List.setIfInBounds_toArray, List.set_cons_zero, List.set_cons_succ])
              | (refine wk_skip (wanted_not _ true false rfl rfl rfl) ?_; simp only [Act.put, List.setIfInBounds_toArray, List.set_cons_zero, List.set_cons_succ])
              | (refine wk_skip (wanted_not _ false true rfl rfl rfl) ?_; simp only [Act.put, List.setIfInBounds_toArray, List.set_cons_zero, List.set_cons_succ])
              | (refine wk_skip (wanted_undef _ _ rfl rfl) ?_; simp only [Act.put, List.setIfInBounds_toArray, List.set_cons_zero, List.set_cons_succ])
              | (refine wk_not true _ _ (by first | exact wanted_none rfl | exact wanted_yes _ _ rfl rfl) rfl rfl ?_; simp only [Act.put, List.setIfInBounds_toArray, List.set_cons_zero, List.set_cons_succ])
              | (refine wk_not false _ _ (by first | exact wanted_none rfl | exact wanted_yes _ _ rfl rfl) rfl rfl ?_; simp only [Act.put, List.setIfInBounds_toArray, List.set_cons_zero, List.set_cons_succ]))
            refine wk_cmp_int .neq (false) _ _ _ _ _ _ _ (by kernel_rfl) rfl rfl rfl (rfl) ?_
            simp only [Act.put, List.setIfInBounds_toArray, List.set_cons_zero, List.set_cons_succ]
            repeat (first
              | (refine wk_move _ (by first | exact wanted_none rfl | exact wanted_yes _ _ rfl rfl) rfl ?_; simp only [Act.put, Act.eval, Array.getD_eq_getD_getElem?, List.getElem?_toArray, List.getElem?_cons_succ, List.getElem?_cons_zero, Option.getD_some, List.setIfInBounds_toArray, List.set_cons_zero, List.set_cons_succ])
              | (refine wk_assign _ (by first | exact wanted_none rfl | exact wanted_yes _ _ rfl rfl) rfl ?_; simp only [Act.put, Act.eval, Array.getD_eq_getD_getElem?, List.getElem?_toArray, List.getElem?_cons_succ, List.getElem?_cons_zero, Option.getD_some, List.setIfInBounds_toArray, List.set_cons_zero, List.set_cons_succ])
              | (refine wk_pickt _ _ _ _ (by first | exact wanted_none rfl | exact wanted_yes _ _ rfl rfl) rfl rfl rfl ?_; simp only [Act.put, Act.eval, Array.getD_eq_getD_getElem?, List.getElem?_toArray, List.getElem?_cons_succ, List.getElem?_cons_zero, Option.getD_some, List.setIfInBounds_toArray, List.set_cons_zero, List.set_cons_succ])
              | (refine wk_pickf _ _ _ _ (by first | exact wanted_none rfl | exact wanted_yes _ _ rfl rfl) rfl rfl rfl ?_; simp only [Act.put, Act.eval, Array.getD_eq_getD_getElem?, List.getElem?_toArray, List.getElem?_cons_succ, List.getElem?_cons_zero, Option.getD_some, List.setIfInBounds_toArray, List.set_cons_zero, List.set_cons_succ])
              | (refine wk_skip (wanted_not _ true false rfl rfl rfl) ?_; simp only [Act.put, List.setIfInBounds_toArray, List.set_cons_zero, List.set_cons_succ])
              | (refine wk_skip (wanted_not _ false true rfl rfl rfl) ?_; simp only [Act.put, List.setIfInBounds_toArray, List.set_cons_zero, List.set_cons_succ])
              | (refine wk_skip (wanted_undef _ _ rfl rfl) ?_; simp only [Act.put, List.setIfInBounds_toArray, List.set_cons_zero, List.set_cons_succ])
              | (refine wk_not true _ _ (by first | exact wanted_none rfl | exact wanted_yes _ _ rfl rfl) rfl rfl ?_; simp only [Act.put, List.setIfInBounds_toArray, List.set_cons_zero, List.set_cons_succ])
              | (refine wk_not false _ _ (by first | exact wanted_none rfl | exact wanted_yes _ _ rfl rfl) rfl rfl ?_; simp only [Act.put, List.setIfInBounds_toArray, List.set_cons_zero, List.set_cons_succ]))
            refine wk_load_row 34 _ g15 34 C4 (0, 0) _ (by kernel_rfl) rfl rfl (fun w' hC => hC.row (R6.out.get 1 rfl)) Tryd.underlying34 rfl (by rw [HC4.out.1]; exact sizeR) ?_
            simp only [Act.put, List.setIfInBounds_toArray, List.set_cons_zero, List.set_cons_succ]
            refine wk_load_row 34 _ g9 34 (LCF k) (0, 0) _ (by kernel_rfl) rfl rfl (fun w' hC => hC.row (R6.out.get 3 rfl)) Tryd.underlying34 rfl (by rw [(HLC.out k).2.1.1]; exact sizeR) ?_
            simp only [Act.put, List.setIfInBounds_toArray, List.set_cons_zero, List.set_cons_succ]
            refine wk_eql .neq (true) 34 34 _ _ (by first | exact wanted_none rfl | exact wanted_yes _ _ rfl rfl) rfl _ _ rfl rfl (by kernel_rfl) (fun w => HN1.out w) ?_
            simp only [Act.put, List.setIfInBounds_toArray, List.set_cons_zero, List.set_cons_succ]
            repeat (first
              | (refine wk_move _ (by first | exact wanted_none rfl | exact wanted_yes _ _ rfl rfl) rfl ?_; simp only [Act.put, Act.eval, Array.getD_eq_getD_getElem?, List.getElem?_toArray, List.getElem?_cons_succ, List.getElem?_cons_zero, Option.getD_some, List.setIfInBounds_toArray, List.set_cons_zero, List.set_cons_succ])
              | (refine wk_assign _ (by first | exact wanted_none rfl | exact wanted_yes _ _ rfl rfl) rfl ?_; simp only [Act.put, Act.eval, Array.getD_eq_getD_getElem?, List.getElem?_toArray, List.getElem?_cons_succ, List.getElem?_cons_zero, Option.getD_some, List.setIfInBounds_toArray, List.set_cons_zero, List.set_cons_succ])
              | (refine wk_pickt _ _ _ _ (by first | exact wanted_none rfl | exact wanted_yes _ _ rfl rfl) rfl rfl rfl ?_; simp only [Act.put, Act.eval, Array.getD_eq_getD_getElem?, List.getElem?_toArray, List.getElem?_cons_succ, List.getElem?_cons_zero, Option.getD_some, List.setIfInBounds_toArray, List.set_cons_zero, List.set_cons_succ])
              | (refine wk_pickf _ _ _ _ (by first | exact wanted_none rfl | exact wanted_yes _ _ rfl rfl) rfl rfl rfl ?_; simp only [Act.put, Act.eval, Array.getD_eq_getD_getElem?, List.getElem?_toArray, List.getElem?_cons_succ, List.getElem?_cons_zero, Option.getD_some, List.setIfInBounds_toArray, List.set_cons_zero, List.set_cons_succ])
              | (refine wk_skip (wanted_not _ true false rfl rfl rfl) ?_; simp only [Act.put, List.setIfInBounds_toArray, List.set_cons_zero, List.set_cons_succ])
              | (refine wk_skip (wanted_not _ false true rfl rfl rfl) ?_; simp only [Act.put, List.setIfInBounds_toArray, List.set_cons_zero, List.set_cons_succ])
              | (refine wk_skip (wanted_undef _ _ rfl rfl) ?_; simp only [Act.put, List.setIfInBounds_toArray, List.set_cons_zero, List.set_cons_succ])
              | (refine wk_not true _ _ (by first | exact wanted_none rfl | exact wanted_yes _ _ rfl rfl) rfl rfl ?_; simp only [Act.put, List.setIfInBounds_toArray, List.set_cons_zero, List.set_cons_succ])
              | (refine wk_not false _ _ (by first | exact wanted_none rfl | exact wanted_yes _ _ rfl rfl) rfl rfl ?_; simp only [Act.put, List.setIfInBounds_toArray, List.set_cons_zero, List.set_cons_succ]))
            refine wk_load_row 34 _ g15 34 C4 (0, 0) _ (by kernel_rfl) rfl rfl (fun w' hC => hC.row (R6.out.get 1 rfl)) Tryd.underlying34 rfl (by rw [HC4.out.1]; exact sizeR) ?_
            simp only [Act.put, List.setIfInBounds_toArray, List.set_cons_zero, List.set_cons_succ]
            refine wk_load_row 34 _ g11 34 (LCF (k - 1)) (0, 0) _ (by kernel_rfl) rfl rfl (fun w' hC => hC.row (R6.out.get 2 rfl)) Tryd.underlying34 rfl (by rw [(HLC.out (k - 1)).2.1.1]; exact sizeR) ?_
            simp only [Act.put, List.setIfInBounds_toArray, List.set_cons_zero, List.set_cons_succ]
            refine wk_eql .neq (false) 34 34 _ _ (by first | exact wanted_none rfl | exact wanted_yes _ _ rfl rfl) rfl _ _ rfl rfl (by kernel_rfl) (fun w => HN2.out rfl w) ?_
            simp only [Act.put, List.setIfInBounds_toArray, List.set_cons_zero, List.set_cons_succ]
            repeat (first
              | (refine wk_move _ (by first | exact wanted_none rfl | exact wanted_yes _ _ rfl rfl) rfl ?_; simp only [Act.put, Act.eval, Array.getD_eq_getD_getElem?, List.getElem?_toArray, List.getElem?_cons_succ, List.getElem?_cons_zero, Option.getD_some, List.setIfInBounds_toArray, List.set_cons_zero, List.set_cons_succ])
              | (refine wk_assign _ (by first | exact wanted_none rfl | exact wanted_yes _ _ rfl rfl) rfl ?_; simp only [Act.put, Act.eval, Array.getD_eq_getD_getElem?, List.getElem?_toArray, List.getElem?_cons_succ, List.getElem?_cons_zero, Option.getD_some, List.setIfInBounds_toArray, List.set_cons_zero, List.set_cons_succ])
              | (refine wk_pickt _ _ _ _ (by first | exact wanted_none rfl | exact wanted_yes _ _ rfl rfl) rfl rfl rfl ?_; simp only [Act.put, Act.eval, Array.getD_eq_getD_getElem?, List.getElem?_toArray, List.getElem?_cons_succ, List.getElem?_cons_zero, Option.getD_some, List.setIfInBounds_toArray, List.set_cons_zero, List.set_cons_succ])
              | (refine wk_pickf _ _ _ _ (by first | exact wanted_none rfl | exact wanted_yes _ _ rfl rfl) rfl rfl rfl ?_; simp only [Act.put, Act.eval, Array.getD_eq_getD_getElem?, List.getElem?_toArray, List.getElem?_cons_succ, List.getElem?_cons_zero, Option.getD_some, List.setIfInBounds_toArray, List.set_cons_zero, List.set_cons_succ])
              | (refine wk_skip (wanted_not _ true false rfl rfl rfl) ?_; simp only [Act.put, List.setIfInBounds_toArray, List.set_cons_zero, List.set_cons_succ])
              | (refine wk_skip (wanted_not _ false true rfl rfl rfl) ?_; simp only [Act.put, List.setIfInBounds_toArray, List.set_cons_zero, List.set_cons_succ])
              | (refine wk_skip (wanted_undef _ _ rfl rfl) ?_; simp only [Act.put, List.setIfInBounds_toArray, List.set_cons_zero, List.set_cons_succ])
              | (refine wk_not true _ _ (by first | exact wanted_none rfl | exact wanted_yes _ _ rfl rfl) rfl rfl ?_; simp only [Act.put, List.setIfInBounds_toArray, List.set_cons_zero, List.set_cons_succ])
              | (refine wk_not false _ _ (by first | exact wanted_none rfl | exact wanted_yes _ _ rfl rfl) rfl rfl ?_; simp only [Act.put, List.setIfInBounds_toArray, List.set_cons_zero, List.set_cons_succ]))
            refine wk_nil ?_
            intro w' hC
            have R7 := Lib.hid (R6.out.since hC)
            clear hC
            go_wp2_with fail
            go_meet
            exact ⟨rfl, R7.out⟩
        case rest =>
          obtain ⟨rfl, hR⟩ := hcut
          have R7 := Lib.hid hR
          clear hR R6 HN1 HN2
          have HOK := Lib.hid (dv_open (R7.out.thing 0 rfl)).choose_spec.choose_spec.choose_spec.ok
          go_wp2_with fail
          go_loopw [17] (fun i wr => ∃ j : Nat, j ≤ k ∧ i = .int .i64 (j : Int) ∧ Held w wr (dvT g s4 :: rowT g15 C4 34 :: rowT g11 (LCF (k - 1)) 34 :: rowT g9 (LCF k) 34 :: rowT g5 #[.int .u8 (fz : Int), .slice A2 m c2] 38 :: [rowT g3 (RCF x y) 34])) (fun i _ => k - (intOf i).toNat)
          case atStart => exact ⟨0, by omega, rfl, R7.out⟩
          case round =>
            obtain ⟨j, hj, rfl, hR⟩ := hrel
            have HR := Lib.hid hR
            clear hR R7
            by_cases hlj : j < k
            · have hjl : j < l.length := by rw [HL.out.len]; exact hlj
              obtain ⟨b, off, hA, _, _⟩ := HL.out.cells j hjl
              subst hA
              have hrd := read_dev (HR.out.thing 0 rfl) (20 + j) (by omega)
              have hbl : (readB s4 (20 + j)).length = 256 := length_readB s4 HOK.out _
              have hf4 := HF4.out j hjl
              have hB2 := (HL.out.ok _ (List.getElem_mem hjl)).2
              obtain ⟨x0, hx0⟩ : ∃ x, x = l[j]'hjl := ⟨_, rfl⟩
              have HMD : Hid (∀ W : World, Below w.heap.size w W → W.rangeAt b (off + j * 257 + 1) (blk x0.2).toList) := Lib.hid (fun W hW => by
                obtain ⟨b', off', hA, _, hr'⟩ := (HL.out.below hW).cells j hjl
                cases hA
                rw [← hx0] at hr'
                exact putV_atC hr')
              rw [← hx0] at hf4 hB2
              obtain ⟨a0, B⟩ := x0
              simp only at hf4 hB2 HMD
              obtain ⟨T, hT⟩ : ∃ T, T = readB s4 (20 + j) := ⟨_, rfl⟩
              rw [← hT] at hrd hbl hf4
              obtain ⟨a, ha⟩ : ∃ a, a = 20 + j := ⟨_, rfl⟩
              rw [← ha] at hrd
              have e2 : IntKind.u32.wrap (20 + (j : Int)) = (a : Int) := by rw [IntKind.wrap_u32]; omega
              have hcv : ∀ w : World, (convert 3 22 (.int .i64 (j : Int))).run Tryd.prog w = .ok (.int .u32 (j : Int)) w := fun w => run_conv_int _ _ .i64 .u32 Tryd.underlying3 Tryd.underlying22 _ (by rw [IntKind.wrap_u32]; omega) w
              have HRD := Lib.hid hrd
              have HTL := Lib.hid hbl
              have HBL := Lib.hid hB2
              obtain ⟨q, hq⟩ : ∃ q, q = !decide (T = B) := ⟨_, rfl⟩
              have HNQ : Hid (∀ w : World, (binOp .neq 45 (.agg (blk T)) (.agg (blk B))).run Tryd.prog w = .ok (.bool q) w) := Lib.hid (fun w => by rw [hq]; exact neqBlkC w T B HTL.out HBL.out)
              have HQ : Hid (q = true → j + 1 = k ∧ mountR s4 ≠ rLast r k) := Lib.hid (fun h => by
                rcases hf4 with h2 | h2
                · rw [hq, decide_eq_true h2] at h; cases h
                · rw [HL.out.len] at h2; exact h2)
              clear hrd hbl hf4 hB2 hx0 hT ha hq
              go_wp2_with fail
              refine HRD.out.mono ?_
              rintro e w8 ⟨rfl, hb⟩
              have q1 := (HR.out.call hb).alloc2 (blk T) 45
              clear hb
              go_upto_region 29 with (first | refine wpList_alloc_row rfl 45 rfl _ zeroB ?_ | refine wpList_store_new rfl 45 _ _ rfl _ (blk T) _ rfl rfl (by rw [size_blk, HTL.out]; exact sizeB) (by rw [size_blk, HTL.out, size_zeros]) (blk_one _) ?_)
              obtain ⟨W8, hW⟩ : ∃ W, W = w8.alloc (.cells (blk T) 45) := ⟨_, rfl⟩
              rw [← hW] at q1 ⊢
              clear hW
              obtain ⟨g18, hg⟩ : ∃ g, g = w8.heap.size := ⟨_, rfl⟩
              rw [← hg] at q1 ⊢
              clear hg
              have R8 := Lib.hid q1
              clear q1
              clear HR HRD e2 hcv
              have hmid := HMD.out W8 R8.out.below
              have HMI := Lib.hid hmid
              have HB8 : Hid (b < W8.heap.size) := Lib.hid (by
                obtain ⟨b', off', hA, hb, _⟩ := (HL.out.below R8.out.below).cells j hjl
                cases hA
                exact hb)
              clear hmid
              cases q with
              | false =>
                refine wk_region_since (by kernel_rfl) (by kernel_rfl) ?_
                refine wk_load_row 45 _ g18 45 (blk T) (0, 0) _ (by kernel_rfl) rfl rfl (fun w' hC => hC.row (R8.out.get 1 rfl)) Tryd.underlying45 rfl (by rw [size_blk, HTL.out]; exact sizeB) ?_
                simp only [Act.put, List.setIfInBounds_toArray, List.set_cons_zero, List.set_cons_succ]
                repeat (first
                  | (refine wk_move _ (by first | exact wanted_none rfl | exact wanted_yes _ _ rfl rfl) rfl ?_; simp only [Act.put, Act.eval, Array.getD_eq_getD_getElem?, List.getElem?_toArray, List.getElem?_cons_succ, List.getElem?_cons_zero, Option.getD_some, List.setIfInBounds_toArray, List.set_cons_zero, List.set_cons_succ])
                  | (refine wk_assign _ (by first | exact wanted_none rfl | exact wanted_yes _ _ rfl rfl) rfl ?_; simp only [Act.put, Act.eval, Array.getD_eq_getD_getElem?, List.getElem?_toArray, List.getElem?_cons_succ, List.getElem?_cons_zero, Option.getD_some, List.setIfInBounds_toArray, List.set_cons_zero, List.set_cons_succ])
                  | (refine wk_pickt _ _ _ _ (by first | exact wanted_none rfl | exact wanted_yes _ _ rfl rfl) rfl rfl rfl ?_; simp only [Act.put, Act.eval, Array.getD_eq_getD_getElem?, List.getElem?_toArray, List.getElem?_cons_succ, List.getElem?_cons_zero, Option.getD_some, List.setIfInBounds_toArray, List.set_cons_zero, List.set_cons_succ])
                  | (refine wk_pickf _ _ _ _ (by first | exact wanted_none rfl | exact wanted_yes _ _ rfl rfl) rfl rfl rfl ?_; simp only [Act.put, Act.eval, Array.getD_eq_getD_getElem?, List.getElem?_toArray, List.getElem?_cons_succ, List.getElem?_cons_zero, Option.getD_some, List.setIfInBounds_toArray, List.set_cons_zero, List.set_cons_succ])
                  | (refine wk_skip (wanted_not _ true false rfl rfl rfl) ?_; simp only [Act.put, List.setIfInBounds_toArray, List.set_cons_zero, List.set_cons_succ])
                  | (refine wk_skip (wanted_not _ false true rfl rfl rfl) ?_; simp only [Act.put, List.setIfInBounds_toArray, List.set_cons_zero, List.set_cons_succ])
                  | (refine wk_skip (wanted_undef _ _ rfl rfl) ?_; simp only [Act.put, List.setIfInBounds_toArray, List.set_cons_zero, List.set_cons_succ])
                  | (refine wk_not true _ _ (by first | exact wanted_none rfl | exact wanted_yes _ _ rfl rfl) rfl rfl ?_; simp only [Act.put, List.setIfInBounds_toArray, List.set_cons_zero, List.set_cons_succ])
                  | (refine wk_not false _ _ (by first | exact wanted_none rfl | exact wanted_yes _ _ rfl rfl) rfl rfl ?_; simp only [Act.put, List.setIfInBounds_toArray, List.set_cons_zero, List.set_cons_succ]))
                refine wk_index 35 47 _ _ b off k c j 257 .i64 (by first | exact wanted_none rfl | exact wanted_yes _ _ rfl rfl) rfl Tryd.underlying35 sizePut rfl rfl hlj ?_
                simp only [Act.put, List.setIfInBounds_toArray, List.set_cons_zero, List.set_cons_succ]
                refine wk_field 47 _ 45 1 255 _ _ _ (by first | exact wanted_none rfl | exact wanted_yes _ _ rfl rfl) rfl (by kernel_rfl) (by kernel_rfl) (by kernel_rfl) rfl ?_
                simp only [Act.put, List.setIfInBounds_toArray, List.set_cons_zero, List.set_cons_succ, Nat.zero_add]
                refine wk_load_mid 45 _ b (off + j * 257 + 1) (blk B) _ (by first | exact wanted_none rfl | exact wanted_yes _ _ rfl rfl) rfl rfl (fun w' hC => (fun i v hv => (Below.cell hC HB8.out).trans (HMI.out i v hv))) Tryd.underlying45 rfl (by rw [size_blk, HBL.out]; exact sizeB) ?_
                simp only [Act.put, List.setIfInBounds_toArray, List.set_cons_zero, List.set_cons_succ]
                refine wk_eql .neq (false) 45 45 _ _ (by first | exact wanted_none rfl | exact wanted_yes _ _ rfl rfl) rfl _ _ rfl rfl (by kernel_rfl) (fun w => HNQ.out w) ?_
                simp only [Act.put, List.setIfInBounds_toArray, List.set_cons_zero, List.set_cons_succ]
                repeat (first
                  | (refine wk_move _ (by first | exact wanted_none rfl | exact wanted_yes _ _ rfl rfl) rfl ?_; simp only [Act.put, Act.eval, Array.getD_eq_getD_getElem?, List.getElem?_toArray, List.getElem?_cons_succ, List.getElem?_cons_zero, Option.getD_some, List.setIfInBounds_toArray, List.set_cons_zero, List.set_cons_succ])
                  | (refine wk_assign _ (by first | exact wanted_none rfl | exact wanted_yes _ _ rfl rfl) rfl ?_; simp only [Act.put, Act.eval, Array.getD_eq_getD_getElem?, List.getElem?_toArray, List.getElem?_cons_succ, List.getElem?_cons_zero, Option.getD_some, List.setIfInBounds_toArray, List.set_cons_zero, List.set_cons_succ])
                  | (refine wk_pickt _ _ _ _ (by first | exact wanted_none rfl | exact wanted_yes _ _ rfl rfl) rfl rfl rfl ?_; simp only [Act.put, Act.eval, Array.getD_eq_getD_getElem?, List.getElem?_toArray, List.getElem?_cons_succ, List.getElem?_cons_zero, Option.getD_some, List.setIfInBounds_toArray, List.set_cons_zero, List.set_cons_succ])
                  | (refine wk_pickf _ _ _ _ (by first | exact wanted_none rfl | exact wanted_yes _ _ rfl rfl) rfl rfl rfl ?_; simp only [Act.put, Act.eval, Array.getD_eq_getD_getElem?, List.getElem?_toArray, List.getElem?_cons_succ, List.getElem?_cons_zero, Option.getD_some, List.setIfInBounds_toArray, List.set_cons_zero, List.set_cons_succ])
                  | (refine wk_skip (wanted_not _ true false rfl rfl rfl) ?_; simp only [Act.put, List.setIfInBounds_toArray, List.set_cons_zero, List.set_cons_succ])
                  | (refine wk_skip (wanted_not _ false true rfl rfl rfl) ?_; simp only [Act.put, List.setIfInBounds_toArray, List.set_cons_zero, List.set_cons_succ])
                  | (refine wk_skip (wanted_undef _ _ rfl rfl) ?_; simp only [Act.put, List.setIfInBounds_toArray, List.set_cons_zero, List.set_cons_succ])
                  | (refine wk_not true _ _ (by first | exact wanted_none rfl | exact wanted_yes _ _ rfl rfl) rfl rfl ?_; simp only [Act.put, List.setIfInBounds_toArray, List.set_cons_zero, List.set_cons_succ])
                  | (refine wk_not false _ _ (by first | exact wanted_none rfl | exact wanted_yes _ _ rfl rfl) rfl rfl ?_; simp only [Act.put, List.setIfInBounds_toArray, List.set_cons_zero, List.set_cons_succ]))
                refine wk_nil ?_
                intro w' hC
                have R9 := Lib.hid ((R8.out.since hC).from2 1)
                clear hC R8
                go_wp2_with fail
                exact ⟨⟨j + 1, by omega, by go_num, R9.out⟩, by simp [intOf]; omega⟩
              | true =>
                obtain ⟨hjk, hne⟩ := HQ.out rfl
                have HE4 := Lib.hid (HN3.out hne)
                have HZ : Hid (IntKind.i64.wrap ((k : Int) - 1) = (k : Int) - 1) := Lib.hid (by rw [IntKind.wrap_i64]; omega)
                have HLS : Hid (cmpInt .lss (j : Int) ((k : Int) - 1) = some false) := Lib.hid (by simp [cmpInt]; omega)
                clear hjk hne
                refine wk_region_since (by kernel_rfl) (by kernel_rfl) ?_
                refine wk_load_row 45 _ g18 45 (blk T) (0, 0) _ (by kernel_rfl) rfl rfl (fun w' hC => hC.row (R8.out.get 1 rfl)) Tryd.underlying45 rfl (by rw [size_blk, HTL.out]; exact sizeB) ?_
                simp only [Act.put, List.setIfInBounds_toArray, List.set_cons_zero, List.set_cons_succ]
                repeat (first
                  | (refine wk_move _ (by first | exact wanted_none rfl | exact wanted_yes _ _ rfl rfl) rfl ?_; simp only [Act.put, Act.eval, Array.getD_eq_getD_getElem?, List.getElem?_toArray, List.getElem?_cons_succ, List.getElem?_cons_zero, Option.getD_some, List.setIfInBounds_toArray, List.set_cons_zero, List.set_cons_succ])
                  | (refine wk_assign _ (by first | exact wanted_none rfl | exact wanted_yes _ _ rfl rfl) rfl ?_; simp only [Act.put, Act.eval, Array.getD_eq_getD_getElem?, List.getElem?_toArray, List.getElem?_cons_succ, List.getElem?_cons_zero, Option.getD_some, List.setIfInBounds_toArray, List.set_cons_zero, List.set_cons_succ])
                  | (refine wk_pickt _ _ _ _ (by first | exact wanted_none rfl | exact wanted_yes _ _ rfl rfl) rfl rfl rfl ?_; simp only [Act.put, Act.eval, Array.getD_eq_getD_getElem?, List.getElem?_toArray, List.getElem?_cons_succ, List.getElem?_cons_zero, Option.getD_some, List.setIfInBounds_toArray, List.set_cons_zero, List.set_cons_succ])
                  | (refine wk_pickf _ _ _ _ (by first | exact wanted_none rfl | exact wanted_yes _ _ rfl rfl) rfl rfl rfl ?_; simp only [Act.put, Act.eval, Array.getD_eq_getD_getElem?, List.getElem?_toArray, List.getElem?_cons_succ, List.getElem?_cons_zero, Option.getD_some, List.setIfInBounds_toArray, List.set_cons_zero, List.set_cons_succ])
                  | (refine wk_skip (wanted_not _ true false rfl rfl rfl) ?_; simp only [Act.put, List.setIfInBounds_toArray, List.set_cons_zero, List.set_cons_succ])
                  | (refine wk_skip (wanted_not _ false true rfl rfl rfl) ?_; simp only [Act.put, List.setIfInBounds_toArray, List.set_cons_zero, List.set_cons_succ])
                  | (refine wk_skip (wanted_undef _ _ rfl rfl) ?_; simp only [Act.put, List.setIfInBounds_toArray, List.set_cons_zero, List.set_cons_succ])
                  | (refine wk_not true _ _ (by first | exact wanted_none rfl | exact wanted_yes _ _ rfl rfl) rfl rfl ?_; simp only [Act.put, List.setIfInBounds_toArray, List.set_cons_zero, List.set_cons_succ])
                  | (refine wk_not false _ _ (by first | exact wanted_none rfl | exact wanted_yes _ _ rfl rfl) rfl rfl ?_; simp only [Act.put, List.setIfInBounds_toArray, List.set_cons_zero, List.set_cons_succ]))
                refine wk_index 35 47 _ _ b off k c j 257 .i64 (by first | exact wanted_none rfl | exact wanted_yes _ _ rfl rfl) rfl Tryd.underlying35 sizePut rfl rfl hlj ?_
                simp only [Act.put, List.setIfInBounds_toArray, List.set_cons_zero, List.set_cons_succ]
                refine wk_field 47 _ 45 1 255 _ _ _ (by first | exact wanted_none rfl | exact wanted_yes _ _ rfl rfl) rfl (by kernel_rfl) (by kernel_rfl) (by kernel_rfl) rfl ?_
                simp only [Act.put, List.setIfInBounds_toArray, List.set_cons_zero, List.set_cons_succ, Nat.zero_add]
                refine wk_load_mid 45 _ b (off + j * 257 + 1) (blk B) _ (by first | exact wanted_none rfl | exact wanted_yes _ _ rfl rfl) rfl rfl (fun w' hC => (fun i v hv => (Below.cell hC HB8.out).trans (HMI.out i v hv))) Tryd.underlying45 rfl (by rw [size_blk, HBL.out]; exact sizeB) ?_
                simp only [Act.put, List.setIfInBounds_toArray, List.set_cons_zero, List.set_cons_succ]
                refine wk_eql .neq (true) 45 45 _ _ (by first | exact wanted_none rfl | exact wanted_yes _ _ rfl rfl) rfl _ _ rfl rfl (by kernel_rfl) (fun w => HNQ.out w) ?_
                simp only [Act.put, List.setIfInBounds_toArray, List.set_cons_zero, List.set_cons_succ]
                repeat (first
                  | (refine wk_move _ (by first | exact wanted_none rfl | exact wanted_yes _ _ rfl rfl) rfl ?_; simp only [Act.put, Act.eval, Array.getD_eq_getD_getElem?, List.getElem?_toArray, List.getElem?_cons_succ, List.getElem?_cons_zero, Option.getD_some, List.setIfInBounds_toArray, List.set_cons_zero, List.set_cons_succ])
                  | (refine wk_assign _ (by first | exact wanted_none rfl | exact wanted_yes _ _ rfl rfl) rfl ?_; simp only [Act.put, Act.eval, Array.getD_eq_getD_getElem?, List.getElem?_toArray, List.getElem?_cons_succ, List.getElem?_cons_zero, Option.getD_some, List.setIfInBounds_toArray, List.set_cons_zero, List.set_cons_succ])
                  | (refine wk_pickt _ _ _ _ (by first | exact wanted_none rfl | exact wanted_yes _ _ rfl rfl) rfl rfl rfl ?_; simp only [Act.put, Act.eval, Array.getD_eq_getD_getElem?, List.getElem?_toArray, List.getElem?_cons_succ, List.getElem?_cons_zero, Option.getD_some, List.setIfInBounds_toArray, List.set_cons_zero, List.set_cons_succ])
                  | (refine wk_pickf _ _ _ _ (by first | exact wanted_none rfl | exact wanted_yes _ _ rfl rfl) rfl rfl rfl ?_; simp only [Act.put, Act.eval, Array.getD_eq_getD_getElem?, List.getElem?_toArray, List.getElem?_cons_succ, List.getElem?_cons_zero, Option.getD_some, List.setIfInBounds_toArray, List.set_cons_zero, List.set_cons_succ])
                  | (refine wk_skip (wanted_not _ true false rfl rfl rfl) ?_; simp only [Act.put, List.setIfInBounds_toArray, List.set_cons_zero, List.set_cons_succ])
                  | (refine wk_skip (wanted_not _ false true rfl rfl rfl) ?_; simp only [Act.put, List.setIfInBounds_toArray, List.set_cons_zero, List.set_cons_succ])
                  | (refine wk_skip (wanted_undef _ _ rfl rfl) ?_; simp only [Act.put, List.setIfInBounds_toArray, List.set_cons_zero, List.set_cons_succ])
                  | (refine wk_not true _ _ (by first | exact wanted_none rfl | exact wanted_yes _ _ rfl rfl) rfl rfl ?_; simp only [Act.put, List.setIfInBounds_toArray, List.set_cons_zero, List.set_cons_succ])
                  | (refine wk_not false _ _ (by first | exact wanted_none rfl | exact wanted_yes _ _ rfl rfl) rfl rfl ?_; simp only [Act.put, List.setIfInBounds_toArray, List.set_cons_zero, List.set_cons_succ]))
                refine wk_len_slice _ _ _ _ _ _ Tryd.underlying35 (by first | exact wanted_none rfl | exact wanted_yes _ _ rfl rfl) rfl rfl ?_
                simp only [Act.put, List.setIfInBounds_toArray, List.set_cons_zero, List.set_cons_succ]
                refine wk_subC .i64 _ _ _ _ _ _ _ (by first | exact wanted_none rfl | exact wanted_yes _ _ rfl rfl) rfl rfl rfl HZ.out ?_
                simp only [Act.put, List.setIfInBounds_toArray, List.set_cons_zero, List.set_cons_succ]
                refine wk_cmp_int .lss (false) _ _ _ _ _ _ _ (by kernel_rfl) rfl rfl rfl (HLS.out) ?_
                simp only [Act.put, List.setIfInBounds_toArray, List.set_cons_zero, List.set_cons_succ]
                repeat (first
                  | (refine wk_move _ (by first | exact wanted_none rfl | exact wanted_yes _ _ rfl rfl) rfl ?_; simp only [Act.put, Act.eval, Array.getD_eq_getD_getElem?, List.getElem?_toArray, List.getElem?_cons_succ, List.getElem?_cons_zero, Option.getD_some, List.setIfInBounds_toArray, List.set_cons_zero, List.set_cons_succ])
                  | (refine wk_assign _ (by first | exact wanted_none rfl | exact wanted_yes _ _ rfl rfl) rfl ?_; simp only [Act.put, Act.eval, Array.getD_eq_getD_getElem?, List.getElem?_toArray, List.getElem?_cons_succ, List.getElem?_cons_zero, Option.getD_some, List.setIfInBounds_toArray, List.set_cons_zero, List.set_cons_succ])
                  | (refine wk_pickt _ _ _ _ (by first | exact wanted_none rfl | exact wanted_yes _ _ rfl rfl) rfl rfl rfl ?_; simp only [Act.put, Act.eval, Array.getD_eq_getD_getElem?, List.getElem?_toArray, List.getElem?_cons_succ, List.getElem?_cons_zero, Option.getD_some, List.setIfInBounds_toArray, List.set_cons_zero, List.set_cons_succ])
                  | (refine wk_pickf _ _ _ _ (by first | exact wanted_none rfl | exact wanted_yes _ _ rfl rfl) rfl rfl rfl ?_; simp only [Act.put, Act.eval, Array.getD_eq_getD_getElem?, List.getElem?_toArray, List.getElem?_cons_succ, List.getElem?_cons_zero, Option.getD_some, List.setIfInBounds_toArray, List.set_cons_zero, List.set_cons_succ])
                  | (refine wk_skip (wanted_not _ true false rfl rfl rfl) ?_; simp only [Act.put, List.setIfInBounds_toArray, List.set_cons_zero, List.set_cons_succ])
                  | (refine wk_skip (wanted_not _ false true rfl rfl rfl) ?_; simp only [Act.put, List.setIfInBounds_toArray, List.set_cons_zero, List.set_cons_succ])
                  | (refine wk_skip (wanted_undef _ _ rfl rfl) ?_; simp only [Act.put, List.setIfInBounds_toArray, List.set_cons_zero, List.set_cons_succ])
                  | (refine wk_not true _ _ (by first | exact wanted_none rfl | exact wanted_yes _ _ rfl rfl) rfl rfl ?_; simp only [Act.put, List.setIfInBounds_toArray, List.set_cons_zero, List.set_cons_succ])
                  | (refine wk_not false _ _ (by first | exact wanted_none rfl | exact wanted_yes _ _ rfl rfl) rfl rfl ?_; simp only [Act.put, List.setIfInBounds_toArray, List.set_cons_zero, List.set_cons_succ]))
                refine wk_load_row 34 _ g15 34 C4 (0, 0) _ (by kernel_rfl) rfl rfl (fun w' hC => hC.row (R8.out.get 2 rfl)) Tryd.underlying34 rfl (by rw [HC4.out.1]; exact sizeR) ?_
                simp only [Act.put, List.setIfInBounds_toArray, List.set_cons_zero, List.set_cons_succ]
                refine wk_load_row 34 _ g9 34 (LCF k) (0, 0) _ (by kernel_rfl) rfl rfl (fun w' hC => hC.row (R8.out.get 4 rfl)) Tryd.underlying34 rfl (by rw [(HLC.out k).2.1.1]; exact sizeR) ?_
                simp only [Act.put, List.setIfInBounds_toArray, List.set_cons_zero, List.set_cons_succ]
                refine wk_eql .eql (false) 34 34 _ _ (by first | exact wanted_none rfl | exact wanted_yes _ _ rfl rfl) rfl _ _ rfl rfl (by kernel_rfl) (fun w => HE4.out w) ?_
                simp only [Act.put, List.setIfInBounds_toArray, List.set_cons_zero, List.set_cons_succ]
                repeat (first
                  | (refine wk_move _ (by first | exact wanted_none rfl | exact wanted_yes _ _ rfl rfl) rfl ?_; simp only [Act.put, Act.eval, Array.getD_eq_getD_getElem?, List.getElem?_toArray, List.getElem?_cons_succ, List.getElem?_cons_zero, Option.getD_some, List.setIfInBounds_toArray, List.set_cons_zero, List.set_cons_succ])
                  | (refine wk_assign _ (by first | exact wanted_none rfl | exact wanted_yes _ _ rfl rfl) rfl ?_; simp only [Act.put, Act.eval, Array.getD_eq_getD_getElem?, List.getElem?_toArray, List.getElem?_cons_succ, List.getElem?_cons_zero, Option.getD_some, List.setIfInBounds_toArray, List.set_cons_zero, List.set_cons_succ])
                  | (refine wk_pickt _ _ _ _ (by first | exact wanted_none rfl | exact wanted_yes _ _ rfl rfl) rfl rfl rfl ?_; simp only [Act.put, Act.eval, Array.getD_eq_getD_getElem?, List.getElem?_toArray, List.getElem?_cons_succ, List.getElem?_cons_zero, Option.getD_some, List.setIfInBounds_toArray, List.set_cons_zero, List.set_cons_succ])
                  | (refine wk_pickf _ _ _ _ (by first | exact wanted_none rfl | exact wanted_yes _ _ rfl rfl) rfl rfl rfl ?_; simp only [Act.put, Act.eval, Array.getD_eq_getD_getElem?, List.getElem?_toArray, List.getElem?_cons_succ, List.getElem?_cons_zero, Option.getD_some, List.setIfInBounds_toArray, List.set_cons_zero, List.set_cons_succ])
                  | (refine wk_skip (wanted_not _ true false rfl rfl rfl) ?_; simp only [Act.put, List.setIfInBounds_toArray, List.set_cons_zero, List.set_cons_succ])
                  | (refine wk_skip (wanted_not _ false true rfl rfl rfl) ?_; simp only [Act.put, List.setIfInBounds_toArray, List.set_cons_zero, List.set_cons_succ])
                  | (refine wk_skip (wanted_undef _ _ rfl rfl) ?_; simp only [Act.put, List.setIfInBounds_toArray, List.set_cons_zero, List.set_cons_succ])
                  | (refine wk_not true _ _ (by first | exact wanted_none rfl | exact wanted_yes _ _ rfl rfl) rfl rfl ?_; simp only [Act.put, List.setIfInBounds_toArray, List.set_cons_zero, List.set_cons_succ])
                  | (refine wk_not false _ _ (by first | exact wanted_none rfl | exact wanted_yes _ _ rfl rfl) rfl rfl ?_; simp only [Act.put, List.setIfInBounds_toArray, List.set_cons_zero, List.set_cons_succ]))
                refine wk_nil ?_
                intro w' hC
                have R9 := Lib.hid ((R8.out.since hC).from2 1)
                clear hC R8
                go_wp2_with fail
                exact ⟨⟨j + 1, by omega, by go_num, R9.out⟩, by simp [intOf]; omega⟩
            · obtain rfl : j = k := by omega
              have hz : ¬ ((j : Int) < (j : Int)) := by omega
              go_wp2_with (go_at_call 9; refine (HH.out _).mono ?_; rintro e w9 ⟨rfl, hb⟩; have R9 := Lib.hid (HR.out.call hb); clear hb)
              go_ret
              exact ⟨rfl, R9.out.below⟩
  · have c5 : w1.cell? ⟨g5, 1, none⟩ = some (.slice A2 m c2) := R1.out.cell 1 1 rfl rfl
    by_cases h8 : 8 < n
    · have l1 : (8 : Int) < (n : Int) := by omega
      clear hg h8
      go_wp2_with (go_at_call 9; refine (HH.out _).mono ?_; rintro e w8 ⟨rfl, hb⟩; have R8 := Lib.hid (R1.out.call hb); clear hb)
      go_ret
      exact ⟨rfl, R8.out.below⟩
    · have l1 : ¬ (8 : Int) < (n : Int) := by omega
      by_cases hn0 : n = 0
      · have l3 : ((n : Int) == 0) = true := by simp; omega
        clear hg h8 hn0
        go_wp2_with (go_at_call 9; refine (HH.out _).mono ?_; rintro e w8 ⟨rfl, hb⟩; have R8 := Lib.hid (R1.out.call hb); clear hb)
        go_ret
        exact ⟨rfl, R8.out.below⟩
      · have l3 : ((n : Int) == 0) = false := by simp; omega
        have l2 : (100 : Int) < (m : Int) := by omega
        clear hg h8 hn0
        go_wp2_with (go_at_call 9; refine (HH.out _).mono ?_; rintro e w8 ⟨rfl, hb⟩; have R8 := Lib.hid (R1.out.call hb); clear hb)
        go_ret
        exact ⟨rfl, R8.out.below⟩
end
end Go.Proofs.YtnphgaiiiiknpaaDoor
