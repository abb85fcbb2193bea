/- The root layer: Format. -/
import Derived.Test.YtnphgaiiiiknpaaDoorRootTurn
import Derived.Test.YtnphgaiiiiknpaaDoorOwnT
import Derived.Test.YtnphgaiiiiknpaaDoorFlow
import Derived.Test.YtnphgaiiiiknpaaDoorDevClone
namespace Go.Proofs.YtnphgaiiiiknpaaDoor
open Go.RowKit
set_option linter.unusedSimpArgs false
set_option linter.unusedVariables false
set_option maxRecDepth 100000
theorem puts_own {W : World} {v : Value} {n : Nat} {l : List (Nat × List UInt8)} (h : W.ownsRow 0 47 257 v n (putCells l)) (hn : l.length = n) (hok : ∀ x ∈ l, x.1 < 4294967296 ∧ x.2.length = 256) {A : Option Addr} {c : Nat} (hv : v = .slice A n c) : PutsIn W A n l := by
  subst hn hv
  refine ⟨rfl, ?_, hok⟩
  rcases h.2 with ⟨_, h0⟩ | ⟨g, cap, cur, e, _, hg, _⟩
  · exact .inl h0
  · simp only [Value.slice.injEq] at e
    obtain ⟨rfl, _, rfl⟩ := e
    refine .inr ⟨g, 0, rfl, (Array.getElem?_eq_some_iff.1 hg).1, fun i hi => ?_⟩
    rw [Nat.zero_add]
    exact pend_range h (fun x hx => (hok x hx).2) i _ _ (by rw [List.getElem?_eq_getElem hi])
theorem fmtUpto_succ (s : Dv) (k : Nat) : fmtUpto s (k + 1) = fmtUpto s k ++ if readB s k = zeroBlk then [] else [(k, zeroBlk)] := by
  unfold fmtUpto
  rw [List.range_succ, List.filter_append, List.map_append]
  congr 1
  by_cases h : readB s k = zeroBlk
  · simp [h]
  · simp [h]
theorem fmtUpto_len (s : Dv) (k : Nat) : (fmtUpto s k).length ≤ k := by
  unfold fmtUpto
  rw [List.length_map]
  exact Nat.le_trans (List.length_filter_le _ _) (by simp)
theorem builtPut1 (a : Nat) : Tryd.prog.built 47 [(0, .int .u32 (a : Int))] = some (putV a zeroBlk) := by
  unfold Program.built
  obtain ⟨i, hi, hz⟩ := Option.map_eq_some_iff.1 infoPutZ
  rw [hi, structPut]
  simp only [hz, placesPut]
  kernel_rfl
theorem builtRoot5 (n f x : Int) : Tryd.prog.built 34 [(0, .int .u64 1), (1, .int .u32 n), (4, .int .u32 f), (5, .int .u32 1), (6, .int .u32 x)] = some #[.int .u64 1, .int .u32 n, .int .u32 0, .int .u32 0, .int .u32 f, .int .u32 1, .int .u32 x, .int .u8 0] := by kernel_rfl
/-- What Format's last drawn region holds. -/
def fmV (g g4 : Nat) (n d fs : Int) (rc zc : Array Value) (base : Nat) (t : Tmp) (v : Value) (w : World) : Prop :=
  match t with
  | 41 => v = .pointer (some ⟨g, 0, none⟩)
  | 42 => v = .int .u32 n
  | 43 => v = .pointer (some ⟨g, 0, none⟩)
  | 44 => v = .int .u32 n
  | 45 => v = .pointer (some ⟨g4, 2, none⟩)
  | 46 => v = .int .u32 fs
  | 47 => v = .int .u32 d
  | 48 => v = .pointer (some ⟨g4, 2, none⟩)
  | 49 => v = .int .u32 fs
  | 50 => v = .agg rc
  | 10 => ∃ b, v = .pointer (some ⟨b, 0, none⟩) ∧ base ≤ b ∧ w.heap[b]? = some (.cells zc 34 (0, 0))
  | _ => True
theorem fmV_stab (g g4 : Nat) (n d fs : Int) (rc zc : Array Value) (base : Nat) : ∀ t v w w', fmV g g4 n d fs rc zc base t v w → Below w.heap.size w w' → fmV g g4 n d fs rc zc base t v w' := by
  intro t v w w' h hb
  unfold fmV at h ⊢
  split at h <;> try exact h
  obtain ⟨b, h1, h2, h3⟩ := h
  exact ⟨b, h1, h2, (hb.block b (Array.getElem?_eq_some_iff.1 h3).1).trans h3⟩
section
variable {P : Program} {Q : Exit → Act → World → Prop} {K : Act → World → Prop} {o : Oper} {a : Act} {w : World}
theorem wp_sub32 (t ty : TypeId) (x y : Operand) (m n : Int) (ho : o.op = .binOp .sub t x y ty) (hx : a.eval x = .int .u32 m) (hy : a.eval y = .int .u32 n) (hw : IntKind.u32.wrap (m - n) = m - n) (h : K (a.put o.dst (.int .u32 (m - n))) w) : o.wp P a w K Q :=
  wp_value _ (by
    have h0 : (eqGuard .sub t x y (.int .u32 m) (.int .u32 n)).run P w = .ok () w := rfl
    have h1 : (binOp .sub t (.int .u32 m) (.int .u32 n)).run P w = .ok (.int .u32 (IntKind.u32.wrap (m - n))) w := rfl
    unfold execOp
    simp only [ho, hx, hy, Sem.run_bind, h0, Result.andThen_ok, h1, hw, Sem.run_pure]) h
end
def fmtO (s : Dv) : Root := if s.format.2 = 0 then fmtR s.size else zeroRt
section
variable {w0 W : World} {g : Nat} {s : Dv} {tl : List Thing}
set_option maxHeartbeats 4000000 in
theorem format_is (R : Held w0 W (dvT g s :: tl)) (hn : 64 ≤ s.size ∧ s.size ≤ 1048576) (hlen : s.pend.length < 50000) :
    Calls Tryd.prog 11 #[.pointer (some ⟨g, 0, none⟩)] W fun e w' => e = .returned (.tuple #[.agg (fmtO s).cells, .int .i64 s.format.2]) ∧ Held w0 w' (dvT g s.format.1 :: tl) := by
  have hok : s.Ok := (dv_open (R.thing 0 rfl)).choose_spec.choose_spec.choose_spec.ok
  have q1 := R.alloc2 zeroRt.cells 34
  obtain ⟨V0, hW⟩ : ∃ V, V = W.alloc (.cells zeroRt.cells 34) := ⟨_, rfl⟩
  obtain ⟨g2, hg⟩ : ∃ b, b = W.heap.size := ⟨_, rfl⟩
  rw [← hW, ← hg] at q1
  have HW := Lib.hid hW
  have HG := Lib.hid hg
  have R0 := Lib.hid q1
  have HOK := Lib.hid hok
  have HLEN := Lib.hid hlen
  have HND := Lib.hid (rnone_dev (q1.thing 0 rfl) (by omega))
  have HSZ : Hid (∀ w : World, (dvT g s).at w → Calls Tryd.prog 25 #[.pointer (some ⟨g, 0, none⟩)] w fun e w' => e = .returned (.int .u32 (s.size : Int)) ∧ w = w') := Lib.hid (fun w h => size_dev h)
  have hla := layout_is s.size (by omega)
  rw [(planC_yes hn).1, (planC_yes hn).2] at hla
  have hfl := firstL_le hn
  have hf4 : 4 ≤ firstL s.size := by unfold firstL picL talL upL; omega
  have hfm : firstL s.size ≤ 40000 := by have := talL_le hn.2; have := picL_le hn.2; unfold firstL; omega
  have HRR : Hid ((fmtR s.size).Ok ∧ (fmtR s.size).cells = #[.int .u64 1, .int .u32 (s.size : Int), .int .u32 0, .int .u32 0, .int .u32 ((s.size : Int) - (firstL s.size : Int)), .int .u32 1, .int .u32 (firstL s.size : Int), .int .u8 0]) := Lib.hid ⟨(fmtR_may hn).2, by unfold fmtR Root.cells; simp; omega⟩
  have HFO : Hid (s.format = s.turn (fmtUpto s (firstL s.size)) (fmtR s.size) ∧ fmtO s = if s.format.2 = 0 then fmtR s.size else zeroRt) := Lib.hid ⟨rfl, rfl⟩
  obtain ⟨pp, hpp⟩ : ∃ p, p = s.format := ⟨_, rfl⟩
  obtain ⟨oo, hoo⟩ : ∃ p, p = fmtO s := ⟨_, rfl⟩
  rw [← hpp, ← hoo] at HFO
  rw [← hpp, ← hoo]
  obtain ⟨n, hnn⟩ : ∃ n, n = s.size := ⟨_, rfl⟩
  rw [← hnn] at hn HSZ hla hfl hf4 hfm HRR HFO
  have HLA := Lib.hid hla
  generalize talL n = ta at HLA
  generalize picL n = pc at HLA
  obtain ⟨fs, hfs⟩ : ∃ f, f = firstL n := ⟨_, rfl⟩
  rw [← hfs] at HLA hfl hf4 hfm HRR HFO
  obtain ⟨RR, hRR⟩ : ∃ r, r = fmtR n := ⟨_, rfl⟩
  rw [← hRR] at HRR HFO
  have HN := Lib.hid hn
  have HFL := Lib.hid hfl
  have HFM := Lib.hid hfm
  obtain ⟨rc, hrc⟩ : ∃ c, c = RR.cells := ⟨_, rfl⟩
  have HRC : Hid (rc = RR.cells ∧ rc.size = 8 ∧ rc.all (·.oneCell') = true) := Lib.hid (by rw [hrc]; exact ⟨rfl, rfl, rcells_one _⟩)
  have HBR : Hid (Tryd.prog.built 34 [(0, .int .u64 1), (1, .int .u32 (n : Int)), (4, .int .u32 ((n : Int) - (fs : Int))), (5, .int .u32 1), (6, .int .u32 (fs : Int))] = some rc) := Lib.hid (by rw [hrc, HRR.out.2]; exact builtRoot5 _ _ _)
  have HDF : Hid (IntKind.u32.wrap ((n : Int) - (fs : Int)) = (n : Int) - (fs : Int)) := Lib.hid (by rw [IntKind.wrap_u32]; omega)
  obtain ⟨Z, hZ⟩ : ∃ Z, Z = zeroRt.cells := ⟨_, rfl⟩
  have HZ : Hid ((Tryd.prog.info? 34).bind (·.zero) = some (.agg Z)) := Lib.hid (by rw [hZ]; exact zeroR)
  have HZS : Hid (Z.size = 8 ∧ Z = zeroRt.cells ∧ Z.all (·.oneCell') = true) := Lib.hid (by rw [hZ]; exact ⟨rfl, rfl, rcells_one _⟩)
  have HBZ : Hid (Tryd.prog.built 34 [] = some Z) := Lib.hid (by rw [hZ]; exact builtRoot0)
  rw [← hZ] at R0 HW
  clear hok q1 hW hg hlen hla hn hnn hfs hRR hrc hZ hpp hoo R hfl
  go_enter Tryd.func11, Tryd.ntmps11
  go_upto_region 1 with (refine wpList_alloc_row rfl 34 rfl _ HZ.out ?_)
  rw [← HW.out, ← HG.out]
  go_upto_region 3 with (go_at_call 24; refine HND.out.mono ?_; rintro e w1 ⟨rfl, rfl⟩)
  go_upto_region 4 with (first
    | (go_at_call 25; refine (HSZ.out _ (R0.out.thing 0 rfl)).mono ?_; rintro e w1 ⟨rfl, rfl⟩)
    | (go_at_call 7; refine (HLA.out _).mono ?_; rintro e w2 ⟨rfl, hb⟩; have R1 := Lib.hid (R0.out.call hb); clear hb; have q1 := R1.out.alloc2 #[.int .u32 (ta : Int), .int .u32 (pc : Int), .int .u32 (fs : Int)] 24))
  obtain ⟨W2, hW⟩ : ∃ W, W = w2.alloc (.cells #[.int .u32 (ta : Int), .int .u32 (pc : Int), .int .u32 (fs : Int)] 24) := ⟨_, rfl⟩
  rw [← hW] at q1 ⊢
  clear hW
  obtain ⟨g4, hg⟩ : ∃ g, g = w2.heap.size := ⟨_, rfl⟩
  rw [← hg] at q1 ⊢
  clear hg
  have R2 := Lib.hid q1
  clear q1
  clear R1 R0 HND HLA
  have cf : W2.cell? ⟨g4, 2, none⟩ = some (.int .u32 (fs : Int)) := R2.out.cell 1 2 rfl rfl
  have R3 := Lib.hid (R2.out.newOwn 47 257)
  clear R2
  go_wp2_with fail
  clear cf
  obtain ⟨ip, hip, hzp, hsp, hbp⟩ := info_parts Tryd.infoPut
  have HIP := Lib.hid hip
  have HZP := Lib.hid hzp
  clear hip hzp
  go_loopw [6, 23] (fun v i wr => ∃ k : Nat, k ≤ fs ∧ i = .int .u32 (k : Int) ∧ Held w0 wr (ownT 47 257 v (fmtUpto s k).length (putCells (fmtUpto s k)) :: dvT g s :: rowT g4 #[.int .u32 (ta : Int), .int .u32 (pc : Int), .int .u32 (fs : Int)] 24 :: rowT g2 Z 34 :: tl)) (fun _ i _ => fs - (intOf i).toNat)
  case atStart => exact ⟨0, by omega, rfl, R3.out⟩
  case round =>
    obtain ⟨k, hk, rfl, hR⟩ := hrel
    have HR := Lib.hid hR
    clear hR R3
    by_cases hlt : k < fs
    · have hrd := read_dev (HR.out.thing 1 rfl) k (by omega)
      have hbl : (readB s k).length = 256 := length_readB s HOK.out k
      have hfs := fmtUpto_succ s k
      have hfl := fmtUpto_len s k
      obtain ⟨B, hB⟩ : ∃ B, B = readB s k := ⟨_, rfl⟩
      rw [← hB] at hrd hbl hfs
      have HZA := Lib.hid (zero_any B hbl)
      have HRD := Lib.hid hrd
      have HBL := Lib.hid hbl
      have HFS := Lib.hid hfs
      have HNX : Hid (IntKind.u32.wrap ((k : Int) + 1) = ((k + 1 : Nat) : Int)) := Lib.hid (by rw [IntKind.wrap_u32]; omega)
      clear hrd hbl hfs hB
      obtain ⟨z, hz⟩ : ∃ z, z = decide (B = zeroBlk) := ⟨_, rfl⟩
      rw [← hz] at HZA
      have HZD := Lib.hid hz
      clear hz
      go_wp2_with fail
      refine (HRD.out).mono ?_
      rintro e w1 ⟨rfl, hb⟩
      have q1 := (HR.out.call hb).alloc (blk B) 45
      clear hb
      go_upto_region 9 with (first | refine wpList_alloc_row rfl 45 rfl _ zeroB ?_ | refine wpList_store_new rfl 45 _ _ rfl _ (blk B) _ rfl rfl (by rw [size_blk, HBL.out]; exact sizeB) (by rw [size_blk, HBL.out, size_zeros]) (blk_one _) ?_)
      obtain ⟨W1, hW⟩ : ∃ W, W = w1.alloc (.cells (blk B) 45) := ⟨_, rfl⟩
      rw [← hW] at q1 ⊢
      clear hW
      obtain ⟨g5, hg⟩ : ∃ g, g = w1.heap.size := ⟨_, rfl⟩
      rw [← hg] at q1 ⊢
      clear hg
      have R1 := Lib.hid q1
      clear q1
      go_wp2_with (refine wpList_load_row rfl 45 _ rfl g5 rfl 45 (blk B) (0, 0) _ (R1.out.get 0 rfl) Tryd.underlying45 rfl (by rw [size_blk, HBL.out]; exact sizeB) ?_)
      refine (HZA.out _).mono ?_
      rintro e w2 ⟨rfl, hb⟩
      have R2 := Lib.hid (R1.out.call hb)
      clear hb R1
      cases z with
      | true =>
        have HFE : Hid (fmtUpto s (k + 1) = fmtUpto s k) := Lib.hid (by rw [HFS.out, if_pos (of_decide_eq_true HZD.out.symm), List.append_nil])
        have R4 := Lib.hid (R2.out.drop 1)
        go_wp2_with fail
        exact ⟨⟨k + 1, by omega, by go_num, by rw [HFE.out]; exact R4.out⟩, by simp [intOf]; omega⟩
      | false =>
        have hfe : fmtUpto s (k + 1) = fmtUpto s k ++ [(k, zeroBlk)] := by rw [HFS.out, if_neg (of_decide_eq_false HZD.out.symm)]
        obtain ⟨PV, hPV⟩ : ∃ p, p = putV k zeroBlk := ⟨_, rfl⟩
        have HPV : Hid (PV.size = 257 ∧ PV.toList.length = 1 * 257 ∧ (∀ u ∈ PV.toList, u.oneCell' = true)) := Lib.hid (by
          have h1 := size_putV k zeroBlk length_zeroBlk
          have h2 := putV_one k zeroBlk
          rw [← hPV] at h1 h2
          rw [Array.all_eq_true_iff_forall_mem] at h2
          exact ⟨h1, by simpa using h1, fun u hu => h2 u (by simpa using hu)⟩)
        have HBP : Hid (Tryd.prog.built 47 [(0, .int .u32 (k : Int))] = some PV) := Lib.hid (by rw [hPV]; exact builtPut1 k)
        have HXS : Hid ((fmtUpto s (k + 1)).length = (fmtUpto s k).length + 1 ∧ putCells (fmtUpto s (k + 1)) = putCells (fmtUpto s k) ++ PV.toList) := Lib.hid (by
          rw [hfe, putCells_snoc, hPV]
          exact ⟨by simp, by simp [putV]⟩)
        have HOWN := Lib.hid (R2.out.own 1 rfl)
        obtain ⟨m, hm⟩ : ∃ m, m = (fmtUpto s k).length := ⟨_, rfl⟩
        obtain ⟨xs, hxs⟩ : ∃ m, m = putCells (fmtUpto s k) := ⟨_, rfl⟩
        rw [← hm, ← hxs] at HXS HOWN R2
        rw [← hm] at hfl
        clear hPV hfe hm hxs HFS HZD
        go_upto_region 11 with (first
          | refine wpList_builtC rfl 47 _ rfl [(0, .int .u32 (k : Int))] PV (by simp [Act.eval]) HBP.out ?_
          | refine wpList_plain rfl fun K hK' => wp_build_one 35 47 _ rfl PV rfl ip _ Tryd.underlying35 HIP.out HZP.out (by rw [hsp]; exact HPV.out.1) (by omega) (by omega) (hK' _ _ ?_)
          | (at_builtin; refine wpList_append_own_at _ rfl _ _ 35 rfl 0 47 ip _ 257 260 Tryd.underlying35 HIP.out HZP.out hsp hbp (size_putV 0 zeroBlk length_zeroBlk) (by decide) _ m xs rfl (World.ownsRow.alloc HOWN.out _) ⟨w2.heap.size, 0, none⟩ 1 1 PV.toList rfl HPV.out.2.1 (news_row _ _ _) HPV.out.2.2 (by unfold maxLen; omega) (by omega) (by simp) ?_; intro v' w13 hown' hgrow hq' hat; have R5 := Lib.hid (R2.out.appendOne 1 rfl hown' hgrow hat); clear hown' hgrow hq' hat))
        have R4 := Lib.hid (R5.out.drop 1)
        clear R5
        go_wp2_with fail
        exact ⟨⟨k + 1, by omega, by go_num, by rw [HXS.out.1, HXS.out.2]; exact R4.out⟩, by simp [intOf]; omega⟩
    · obtain rfl : k = fs := by omega
      clear HFL
      have hz : ¬ ((k : Int) < (k : Int)) := by omega
      obtain ⟨A, c, hv⟩ := own_slice (HR.out.own 0 rfl)
      subst hv
      have HD := Lib.hid (HR.out.thing 1 rfl)
      have HG4 : Hid (∀ x : World, Below wr.heap.size wr x → x.cell? ⟨g4, 2, none⟩ = some (.int .u32 (k : Int))) := Lib.hid (fun x hb => (hb.cell (HR.out.lt 2 rfl)).trans (HR.out.cell 2 2 rfl rfl))
      go_upto_region 12 with (fail)
      refine wp_region_flow (by kernel_rfl) 11 (fmV g g4 (n : Int) ((n : Int) - (k : Int)) (k : Int) rc Z wr.heap.size) (fmV_stab _ _ _ _ _ _ _ _) (by kernel_rfl) (by kernel_rfl) (by kernel_rfl) (by kernel_rfl) ?heads ?tail
      case heads =>
        refine ⟨.inr ⟨rfl, 41, rfl, fun a v hB hO hD K hK => ?_⟩, .inr ⟨rfl, 42, rfl, fun a v hB hO hD K hK => ?_⟩, .inr ⟨rfl, 43, rfl, fun a v hB hO hD K hK => ?_⟩, .inr ⟨rfl, 44, rfl, fun a v hB hO hD K hK => ?_⟩, .inr ⟨rfl, 45, rfl, fun a v hB hO hD K hK => ?_⟩, .inr ⟨rfl, 46, rfl, fun a v hB hO hD K hK => ?_⟩, .inr ⟨rfl, 47, rfl, fun a v hB hO hD K hK => ?_⟩, .inr ⟨rfl, 48, rfl, fun a v hB hO hD K hK => ?_⟩, .inr ⟨rfl, 49, rfl, fun a v hB hO hD K hK => ?_⟩, .inr ⟨rfl, 50, rfl, fun a v hB hO hD K hK => ?_⟩, .inr ⟨rfl, 10, rfl, fun a v hB hO hD K hK => ?_⟩, .inl (by decide), trivial⟩
        · skip
          exact wp_move _ _ rfl (eval_of (t := 0) (by rw [hO 0 (not_dst 0 (by kernel_rfl))]; rfl)) (hK _ _ rfl (Below.refl _ _))
        · skip
          obtain ⟨u, hu, hv⟩ := flow_of hD 0 (by kernel_rfl) 41 (by kernel_rfl)
          refine wp_call1 25 (.tmp 41) _ rfl (hu.trans hv) Tryd.func25 rfl (by kernel_rfl) (HSZ.out v (HD.out.since hB)) ?_
          rintro e w2 ⟨rfl, rfl⟩
          exact ⟨_, rfl, hK _ _ rfl (Below.refl _ _)⟩
        · skip
          exact wp_move _ _ rfl (eval_of (t := 0) (by rw [hO 0 (not_dst 0 (by kernel_rfl))]; rfl)) (hK _ _ rfl (Below.refl _ _))
        · skip
          obtain ⟨u, hu, hv⟩ := flow_of hD 2 (by kernel_rfl) 43 (by kernel_rfl)
          refine wp_call1 25 (.tmp 43) _ rfl (hu.trans hv) Tryd.func25 rfl (by kernel_rfl) (HSZ.out v (HD.out.since hB)) ?_
          rintro e w2 ⟨rfl, rfl⟩
          exact ⟨_, rfl, hK _ _ rfl (Below.refl _ _)⟩
        · exact wp_field 24 2 22 2 0 _ g4 0 rfl (by kernel_rfl) (by kernel_rfl) (by kernel_rfl) (eval_of (t := 4) (by rw [hO 4 (not_dst 4 (by kernel_rfl))]; rfl)) (hK _ _ rfl (Below.refl _ _))
        · skip
          obtain ⟨u, hu, hv⟩ := flow_of hD 4 (by kernel_rfl) 45 (by kernel_rfl)
          exact wp_load_cell 22 _ ⟨g4, 2, none⟩ (.int .u32 (k : Int)) _ rfl rfl (hu.trans hv) (HG4.out v hB) Tryd.underlying22 (hK _ _ rfl (Below.refl _ _))
        · skip
          obtain ⟨u, hu, hv⟩ := flow_of hD 3 (by kernel_rfl) 44 (by kernel_rfl)
          obtain ⟨u', hu', hv'⟩ := flow_of hD 5 (by kernel_rfl) 46 (by kernel_rfl)
          exact wp_sub32 _ _ _ _ (n : Int) (k : Int) rfl (hu.trans hv) (hu'.trans hv') HDF.out (hK _ _ rfl (Below.refl _ _))
        · exact wp_field 24 2 22 2 0 _ g4 0 rfl (by kernel_rfl) (by kernel_rfl) (by kernel_rfl) (eval_of (t := 4) (by rw [hO 4 (not_dst 4 (by kernel_rfl))]; rfl)) (hK _ _ rfl (Below.refl _ _))
        · skip
          obtain ⟨u, hu, hv⟩ := flow_of hD 7 (by kernel_rfl) 48 (by kernel_rfl)
          exact wp_load_cell 22 _ ⟨g4, 2, none⟩ (.int .u32 (k : Int)) _ rfl rfl (hu.trans hv) (HG4.out v hB) Tryd.underlying22 (hK _ _ rfl (Below.refl _ _))
        · skip
          obtain ⟨u, hu, hv⟩ := flow_of hD 1 (by kernel_rfl) 42 (by kernel_rfl)
          obtain ⟨u', hu', hv'⟩ := flow_of hD 6 (by kernel_rfl) 47 (by kernel_rfl)
          obtain ⟨u2, hu2, hv2⟩ := flow_of hD 8 (by kernel_rfl) 49 (by kernel_rfl)
          refine wp_built 34 _ [(0, .int .u64 1), (1, .int .u32 (n : Int)), (4, .int .u32 ((n : Int) - (k : Int))), (5, .int .u32 1), (6, .int .u32 (k : Int))] rc rfl ?_ HBR.out (hK _ _ rfl (Below.refl _ _))
          have e1 := hu.trans hv
          have e2 := hu'.trans hv'
          have e3 := hu2.trans hv2
          simp only [List.map_toArray, List.map_cons, List.map_nil, e1, e2, e3]
          rfl
        · exact wp_alloc_row 34 rfl Z HZ.out (hK _ _ ⟨_, rfl, hB.size, heap_alloc_new _ _⟩ ((Below.refl _ _).alloc (Nat.le_refl _) _))
      case tail =>
        intro F v hV hB
        obtain ⟨b, e10, hbb, hgb⟩ : ∃ b, F 10 = .pointer (some ⟨b, 0, none⟩) ∧ wr.heap.size ≤ b ∧ v.heap[b]? = some (.cells Z 34 (0, 0)) := hV _ (List.mem_of_getElem? (i := 10) rfl) 10 rfl
        have e50 : F 50 = .agg rc := hV _ (List.mem_of_getElem? (i := 9) rfl) 50 rfl
        have R3 := Lib.hid (HR.out.more hB (x := rowT b Z 34) (F := [b]) ⟨rfl, hgb⟩ (by simpa using hbb) (by simp))
        simp only [List.take_succ_cons, List.take_zero, List.drop_succ_cons, List.drop_zero, putAll, List.setIfInBounds_toArray, List.set_cons_zero, List.set_cons_succ]
        rw [e10, e50]
        clear hV e10 e50 hB hbb hgb HR HD HG4
        have q1 := R3.out.setRow 0 rc rfl
        go_upto_region 13 with (refine wpList_store_row rfl 34 _ _ rfl b rc rfl rfl 34 _ (R3.out.get 0 rfl) (by rw [HRC.out.2.1]; exact sizeR) (by rw [HRC.out.2.1, HZS.out.1]) HRC.out.2.2 ?_)
        obtain ⟨W3, hW3⟩ : ∃ V, V = v.setRow b rc := ⟨_, rfl⟩
        rw [← hW3] at q1 ⊢
        clear hW3
        have R4 := Lib.hid (show Held w0 W3 (dvT g s :: rowT b rc 34 :: ownT 47 257 (.slice A (fmtUpto s k).length c) (fmtUpto s k).length (putCells (fmtUpto s k)) :: rowT g4 #[.int .u32 (ta : Int), .int .u32 (pc : Int), .int .u32 (k : Int)] 24 :: rowT g2 Z 34 :: tl) from q1.pull 2 rfl)
        have hfl := fmtUpto_len s k
        have hf40 := HFM.out
        have hl5 := HLEN.out
        have htu := turn_is RR HRR.out.1 A (fmtUpto s k).length c (fmtUpto s k) (by omega) R4.out (fun W' t h => puts_own (h.own 2 rfl) rfl (fun x hx => ⟨by have := (fmtUpto_mem hx).1; omega, by rw [(fmtUpto_mem hx).2]; exact length_zeroBlk⟩) rfl) (by omega)
        rw [← HRC.out.1, ← HFO.out.1] at htu
        have HTU := Lib.hid htu
        have HOO := Lib.hid HFO.out.2
        clear htu hfl hf40 hl5 q1 R3 HFO HFM HLEN
        obtain ⟨t', E⟩ := pp
        simp only at HTU HOO
        generalize (fmtUpto s k).length = m at HTU R4 ⊢
        generalize putCells (fmtUpto s k) = xs at HTU R4
        by_cases hE : E = 0
        · subst hE
          have HOR : Hid (oo = RR) := Lib.hid (by rw [HOO.out, if_pos rfl])
          go_wp2_with (first
            | refine wpList_load_row rfl 34 _ rfl b rfl 34 rc (0, 0) _ (R4.out.get 1 rfl) Tryd.underlying34 rfl (by rw [HRC.out.2.1]; exact sizeR) ?_
            | (go_at_call 27; refine HTU.out.mono ?_; rintro e w5 ⟨rfl, hR⟩; have R5 := Lib.hid hR; clear hR)
            | refine wpList_load_row rfl 34 _ rfl b rfl 34 rc (0, 0) _ (R5.out.get 1 rfl) Tryd.underlying34 rfl (by rw [HRC.out.2.1]; exact sizeR) ?_
            | refine wpList_store_row rfl 34 _ _ rfl g2 rc rfl rfl 34 _ (R5.out.get 4 rfl) (by rw [HRC.out.2.1]; exact sizeR) (by rw [HRC.out.2.1, HZS.out.1]) HRC.out.2.2 ?_)
          have R6 := R5.out.setRow 4 rc rfl
          exact bodyPost_ret (v := .tuple #[.agg rc, .int .i64 0]) (results_cell_slot rfl _ _ g2 34 _ (0, 0) _ _ rfl rfl (R6.get 4 rfl) Tryd.underlying34 rfl (by rw [HRC.out.2.1]; exact sizeR)) rfl ⟨by rw [HOR.out, ← HRC.out.1], R6.from2 4⟩
        · have h0' : (E != 0) = true := by simp [hE]
          have HOR : Hid (oo = zeroRt) := Lib.hid (by rw [HOO.out, if_neg hE])
          go_wp2_with (first
            | refine wpList_load_row rfl 34 _ rfl b rfl 34 rc (0, 0) _ (R4.out.get 1 rfl) Tryd.underlying34 rfl (by rw [HRC.out.2.1]; exact sizeR) ?_
            | (go_at_call 27; refine HTU.out.mono ?_; rintro e w5 ⟨rfl, hR⟩; have R5 := Lib.hid hR; clear hR)
            | (refine wpList_builtC rfl 34 _ rfl [] Z (by simp) HBZ.out ?_)
            | (refine wpList_store_row rfl 34 _ _ rfl g2 Z rfl rfl 34 _ (R5.out.get 4 rfl) (by rw [HZS.out.1]; exact sizeR) rfl HZS.out.2.2 ?_))
          have R6 := R5.out.setRow 4 Z rfl
          exact bodyPost_ret (v := .tuple #[.agg Z, .int .i64 E]) (results_cell_slot rfl _ _ g2 34 _ (0, 0) _ _ rfl rfl (R6.get 4 rfl) Tryd.underlying34 rfl (by rw [HZS.out.1]; exact sizeR)) rfl ⟨by rw [HOR.out, ← HZS.out.2.1], R6.from2 4⟩
end
end Go.Proofs.YtnphgaiiiiknpaaDoor
