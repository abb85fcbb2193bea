/- The device layer: Crash. -/
import Derived.Test.YtnbdnnlomgjlmaaDev12
import Derived.Test.YtnbdnnlomgjlmaaDevTorn
namespace Go.Proofs.Ytnbdnnlomgjlmaa
open Go.RowKit
set_option linter.unusedSimpArgs false
set_option linter.unusedVariables false
set_option maxRecDepth 100000
/-- A slice of what a crash keeps. -/
structure KeepsIn (w : World) (A : Option Addr) (n : Nat) (ks : List (Nat × Nat)) (F : List Nat) : Prop where
  len : ks.length = n
  at_ : n = 0 ∨ ∃ b off, A = some ⟨b, off, none⟩ ∧ b < w.heap.size ∧ b ∉ F ∧ ∀ i, (hi : i < ks.length) → w.cell? ⟨b, off + i * 2, none⟩ = some (.int .u16 (ks[i].1 : Int)) ∧ w.cell? ⟨b, off + i * 2 + 1, none⟩ = some (.int .u8 (ks[i].2 : Int))
  lt : ∀ k ∈ ks, k.1 < 65536 ∧ k.2 < 256
theorem KeepsIn.only {w w' : World} {A : Option Addr} {n : Nat} {ks : List (Nat × Nat)} {F : List Nat} (h : KeepsIn w A n ks F) (ho : Only F w w') : KeepsIn w' A n ks F := by
  refine ⟨h.len, ?_, h.lt⟩
  rcases h.at_ with h0 | ⟨b, off, rfl, h1, h2, h3⟩
  · exact .inl h0
  · refine .inr ⟨b, off, rfl, Nat.lt_of_lt_of_le h1 ho.size, h2, fun i hi => ?_⟩
    have e : ∀ o, w'.cell? ⟨b, o, none⟩ = w.cell? ⟨b, o, none⟩ := fun o => World.cell?_of_block (w := w) (ho.block b h1 h2)
    rw [e, e]; exact h3 i hi
theorem wk_look_map {ops : Array Oper} {C : World → Prop} {o : Oper} {act : Act} {rest : List Oper} {Q : Act → Prop} (m x : Operand) (hw : Region.wanted o (yielded ops act.tmps) = true) (ho : o.op = Op.lookup 105 m x false)
    (gm : Nat) (f : Nat → List UInt8) (hm : act.eval m = .map (some gm)) (hown : ∀ w, C w → MapAt w gm f) (a : Nat) (ha : a < 4294967296) (hx : act.eval x = .int .u32 (a : Int))
    (hK : WQ Try.prog ops C Q rest (act.put o.dst (.agg (blk (f a))))) : WQ Try.prog ops C Q (o :: rest) act :=
  wk_val _ hw (fun w hC => by
    have hrun := ((hown w hC).look a ha).1
    unfold execOp
    simp [ho, hm, hx, hrun, Result.andThen]) hK
theorem sizeKeep : (Try.prog.info? 80).map (·.size) = some 2 := by kernel_rfl
theorem zeroKeep : (Try.prog.info? 80).bind (·.zero) = some (.agg #[.int .u16 0, .int .u8 0]) := by kernel_rfl
def keepV (k : Nat × Nat) : Array Value := #[.int .u16 (k.1 : Int), .int .u8 (k.2 : Int)]
theorem keepOne (k : Nat × Nat) : (keepV k).all (·.oneCell') = true := by
  rw [Array.all_eq_true_iff_forall_mem]
  intro v hv
  simp only [keepV, List.mem_toArray, List.mem_cons, List.not_mem_nil, or_false] at hv
  rcases hv with rfl | rfl <;> rfl
/-- The slots of Crash's region. -/
def crV (g gp c n j gk : Nat) (a' : Nat) (b' : List UInt8) (base : Nat) (t : Tmp) (v : Value) (w : World) : Prop :=
  match t with
  | 25 => v = .pointer (some ⟨g, 0, none⟩)
  | 26 => v = .pointer (some ⟨g, 0, none⟩)
  | 27 => v = .pointer (some ⟨g, 2, none⟩)
  | 28 => v = .slice (some ⟨gp, 0, none⟩) n c
  | 29 => v = .pointer (some ⟨gk, 0, none⟩)
  | 30 => v = .int .u16 (j : Int)
  | 31 => v = .pointer (some ⟨gp, j * 257, none⟩)
  | 32 => v = .agg (putV a' b')
  | 7 => ∃ b, v = .pointer (some ⟨b, 0, none⟩) ∧ w.heap[b]? = some (.cells (putV 0 zeroBlk) 114 (0, 0)) ∧ base ≤ b
  | _ => True
set_option maxHeartbeats 4000000 in
theorem crash_dev {F : List Nat} {w : World} {g : Nat} {s : Dv} (h : (dvT g s).says F w) (hn : F.Nodup) (A : Option Addr) (n c : Nat) (hn63 : n ≤ 9223372036854775807) (ks : List (Nat × Nat)) (hks : KeepsIn w A n ks F) :
    Calls Try.prog 48 #[.pointer (some ⟨g, 0, none⟩), .slice A n c] w fun e w' => e = .returned (.int .i64 0) ∧ Turns F w w' (dvT g (s.crash ks)) := by
  have HAT : Hid ((dvT g s).at w) := Lib.hid ⟨F, h⟩
  obtain ⟨gm, pv, fv, hG, hV⟩ := h
  have HV := Lib.hid hV
  have HG := Lib.hid hG
  have HN := Lib.hid hn
  have HAP := Lib.hid (dv_apart (hG ▸ hn))
  have HKS := Lib.hid hks
  have HKL : Hid (n = ks.length) := Lib.hid hks.len.symm
  have HND : Hid (dvFoot g gm pv fv).Nodup := Lib.hid (hG ▸ hn)
  obtain ⟨A', c', hpv⟩ := own_len hV.pend
  subst hpv
  have hnb : s.pend.length ≤ 9223372036854775807 := by
    rcases hV.pend.2 with ⟨_, h0⟩ | ⟨_, cap, _, _, _, _, hc, hm, _⟩
    · omega
    · unfold maxLen at hm; omega
  clear hV hG hn hks
  go_enter Try.func48, Try.ntmps48
  go_wp2_with (go_at_call 74; refine (none_dev HAT.out).mono ?_; rintro e w1 ⟨rfl, rfl⟩)
  go_loopw [12] (fun i wr => ∃ k : Nat, k ≤ n ∧ i = .int .i64 (k : Int) ∧ DvV wr g gm (.slice A' s.pend.length c') fv { s with good := keepsB s.pend s.good (ks.take k) } ∧ Only [gm] w wr) (fun i _ => n - (intOf i).toNat)
  case atStart => exact ⟨0, by omega, rfl, HV.out, Only.refl _ _⟩
  case round =>
    obtain ⟨k, hk, rfl, hVr, hOr⟩ := hrel
    have HVR := Lib.hid hVr
    have HOR := Lib.hid hOr
    clear hVr hOr
    by_cases hlt : k < n
    · have hkl : k < ks.length := by rw [← HKL.out]; exact hlt
      obtain ⟨⟨ka, km⟩, hkk⟩ : ∃ x, x = ks[k] := ⟨_, rfl⟩
      have hkb := HKS.out.lt (ka, km) (by rw [hkk]; exact List.getElem_mem hkl)
      have hgmF : gm ∈ F := by rw [HG.out]; simp [dvFoot]
      have hks2 := HKS.out.only (HOR.out.mono (fun x hx _ => by simp at hx; subst hx; exact hgmF))
      obtain ⟨b, off, hA, hb1, hb2, hb3⟩ := hks2.at_.resolve_left (by omega)
      subst hA
      have hc := hb3 k hkl
      rw [← hkk] at hc
      have c1 := hc.1
      have c2 := hc.2
      simp only at c1 c2
      have HKB := Lib.hid hkb
      have HKK := Lib.hid hkk
      have hgood : keepsB s.pend s.good (ks.take (k + 1)) = keepB s.pend (keepsB s.pend s.good (ks.take k)) (ka, km) := by
        rw [List.take_succ_eq_append_getElem hkl, keepsB_snoc, ← hkk]
      have HGD := Lib.hid hgood
      clear hkb hkk hgood hks2 hb1 hb2 hb3 hc hgmF
      go_upto_region 6 with (first
        | refine wpList_alloc_row rfl 80 rfl _ zeroKeep ?_
        | refine wpList_store_new rfl 80 _ _ rfl _ (keepV (ka, km)) _ rfl rfl sizeKeep rfl (keepOne _) ?_)
      simp only [Act.put, List.setIfInBounds_toArray, List.set_cons_zero, List.set_cons_succ]
      have hb4 : Below wr.heap.size wr (wr.alloc (.cells (keepV (ka, km)) 80)) := (Below.refl _ _).alloc (Nat.le_refl _) _
      have hk4 : (wr.alloc (.cells (keepV (ka, km)) 80)).heap[wr.heap.size]? = some (.cells (keepV (ka, km)) 80 (0, 0)) := heap_alloc_new _ _
      obtain ⟨W4, hW4⟩ : ∃ W, W = wr.alloc (.cells (keepV (ka, km)) 80) := ⟨_, rfl⟩
      obtain ⟨gk, hgk⟩ : ∃ b, b = wr.heap.size := ⟨_, rfl⟩
      rw [← hW4] at hb4 hk4 ⊢
      rw [← hgk] at hk4 ⊢
      have hV4 := HVR.out.below hb4
      have c0 : W4.cell? ⟨gk, 0, none⟩ = some (.int .u16 (ka : Int)) := cell_of_row W4 gk 0 _ _ _ hk4
      have h2 : W4.cell? ⟨g, 2, none⟩ = some (.slice A' s.pend.length c') := cell_of_row W4 g 2 _ _ _ hV4.row
      have HB4 := Lib.hid hb4
      have HK4 := Lib.hid hk4
      have HV4 := Lib.hid hV4
      clear hb4 hk4 hV4 hW4 hgk c1 c2
      refine wk_region_since (by kernel_rfl) (by kernel_rfl) ?_
      refine wk_field 80 _ 32 0 0 _ _ _ (by first | exact wanted_none rfl | exact wanted_yes _ _ rfl rfl) rfl (by kernel_rfl) (by kernel_rfl) (by kernel_rfl) rfl ?_
      simp only [Act.put, List.setIfInBounds_toArray, List.set_cons_zero, List.set_cons_succ, Nat.zero_add]
      refine wk_load1 _ _ _ _ _ rfl (by kernel_rfl) rfl rfl (fun w' hC => hC.cell c0) Try.underlying32 ?_
      simp only [Act.put, List.setIfInBounds_toArray, List.set_cons_zero, List.set_cons_succ]
      refine wk_convert 32 3 _ _ (.int .i64 (ka : Int)) (by exact wanted_none rfl) rfl rfl (fun w => run_conv_int _ _ .u16 .i64 Try.underlying32 Try.underlying3 _ (by have := HKB.out.1; rw [IntKind.wrap_i64]; omega) w) ?_
      simp only [Act.put, List.setIfInBounds_toArray, List.set_cons_zero, List.set_cons_succ]
      repeat (first
        | (refine wk_move _ (by first | exact wanted_none rfl | exact wanted_yes _ _ rfl rfl) rfl ?_; simp only [Act.put, Act.eval, Array.getD_eq_getD_getElem?, List.getElem?_toArray, List.getElem?_cons_succ, List.getElem?_cons_zero, Option.getD_some, List.setIfInBounds_toArray, List.set_cons_zero, List.set_cons_succ])
        | (refine wk_assign _ (by first | exact wanted_none rfl | exact wanted_yes _ _ rfl rfl) rfl ?_; simp only [Act.put, Act.eval, Array.getD_eq_getD_getElem?, List.getElem?_toArray, List.getElem?_cons_succ, List.getElem?_cons_zero, Option.getD_some, List.setIfInBounds_toArray, List.set_cons_zero, List.set_cons_succ])
        | (refine wk_pickt _ _ _ _ (by first | exact wanted_none rfl | exact wanted_yes _ _ rfl rfl) rfl rfl rfl ?_; simp only [Act.put, Act.eval, Array.getD_eq_getD_getElem?, List.getElem?_toArray, List.getElem?_cons_succ, List.getElem?_cons_zero, Option.getD_some, List.setIfInBounds_toArray, List.set_cons_zero, List.set_cons_succ])
        | (refine wk_pickf _ _ _ _ (by first | exact wanted_none rfl | exact wanted_yes _ _ rfl rfl) rfl rfl rfl ?_; simp only [Act.put, Act.eval, Array.getD_eq_getD_getElem?, List.getElem?_toArray, List.getElem?_cons_succ, List.getElem?_cons_zero, Option.getD_some, List.setIfInBounds_toArray, List.set_cons_zero, List.set_cons_succ])
        | (refine wk_skip (wanted_not _ true false rfl rfl rfl) ?_; simp only [Act.put, List.setIfInBounds_toArray, List.set_cons_zero, List.set_cons_succ])
        | (refine wk_skip (wanted_not _ false true rfl rfl rfl) ?_; simp only [Act.put, List.setIfInBounds_toArray, List.set_cons_zero, List.set_cons_succ])
        | (refine wk_skip (wanted_undef _ _ rfl rfl) ?_; simp only [Act.put, List.setIfInBounds_toArray, List.set_cons_zero, List.set_cons_succ])
        | (refine wk_not true _ _ (by first | exact wanted_none rfl | exact wanted_yes _ _ rfl rfl) rfl rfl ?_; simp only [Act.put, List.setIfInBounds_toArray, List.set_cons_zero, List.set_cons_succ])
        | (refine wk_not false _ _ (by first | exact wanted_none rfl | exact wanted_yes _ _ rfl rfl) rfl rfl ?_; simp only [Act.put, List.setIfInBounds_toArray, List.set_cons_zero, List.set_cons_succ]))
      refine wk_nilcheck _ _ (by first | exact wanted_none rfl | exact wanted_yes _ _ rfl rfl) rfl rfl ?_
      simp only [Act.put, List.setIfInBounds_toArray, List.set_cons_zero, List.set_cons_succ]
      refine wk_field 108 _ 73 2 0 _ _ _ (by first | exact wanted_none rfl | exact wanted_yes _ _ rfl rfl) rfl (by kernel_rfl) (by kernel_rfl) (by kernel_rfl) rfl ?_
      simp only [Act.put, List.setIfInBounds_toArray, List.set_cons_zero, List.set_cons_succ, Nat.zero_add]
      refine wk_load1 _ _ _ _ _ rfl (by kernel_rfl) rfl rfl (fun w' hC => hC.cell h2) Try.underlying73 ?_
      simp only [Act.put, List.setIfInBounds_toArray, List.set_cons_zero, List.set_cons_succ]
      refine wk_len_slice _ _ _ _ _ _ Try.underlying73 (by kernel_rfl) rfl rfl ?_
      simp only [Act.put, List.setIfInBounds_toArray, List.set_cons_zero, List.set_cons_succ]
      refine wk_cmp_int .lss (decide (ka < s.pend.length)) _ _ _ _ _ _ _ (by kernel_rfl) rfl rfl rfl (by simp [cmpInt]) ?_
      simp only [Act.put, List.setIfInBounds_toArray, List.set_cons_zero, List.set_cons_succ]
      repeat (first
        | (refine wk_move _ (by first | exact wanted_none rfl | exact wanted_yes _ _ rfl rfl) rfl ?_; simp only [Act.put, Act.eval, Array.getD_eq_getD_getElem?, List.getElem?_toArray, List.getElem?_cons_succ, List.getElem?_cons_zero, Option.getD_some, List.setIfInBounds_toArray, List.set_cons_zero, List.set_cons_succ])
        | (refine wk_assign _ (by first | exact wanted_none rfl | exact wanted_yes _ _ rfl rfl) rfl ?_; simp only [Act.put, Act.eval, Array.getD_eq_getD_getElem?, List.getElem?_toArray, List.getElem?_cons_succ, List.getElem?_cons_zero, Option.getD_some, List.setIfInBounds_toArray, List.set_cons_zero, List.set_cons_succ])
        | (refine wk_pickt _ _ _ _ (by first | exact wanted_none rfl | exact wanted_yes _ _ rfl rfl) rfl rfl rfl ?_; simp only [Act.put, Act.eval, Array.getD_eq_getD_getElem?, List.getElem?_toArray, List.getElem?_cons_succ, List.getElem?_cons_zero, Option.getD_some, List.setIfInBounds_toArray, List.set_cons_zero, List.set_cons_succ])
        | (refine wk_pickf _ _ _ _ (by first | exact wanted_none rfl | exact wanted_yes _ _ rfl rfl) rfl rfl rfl ?_; simp only [Act.put, Act.eval, Array.getD_eq_getD_getElem?, List.getElem?_toArray, List.getElem?_cons_succ, List.getElem?_cons_zero, Option.getD_some, List.setIfInBounds_toArray, List.set_cons_zero, List.set_cons_succ])
        | (refine wk_skip (wanted_not _ true false rfl rfl rfl) ?_; simp only [Act.put, List.setIfInBounds_toArray, List.set_cons_zero, List.set_cons_succ])
        | (refine wk_skip (wanted_not _ false true rfl rfl rfl) ?_; simp only [Act.put, List.setIfInBounds_toArray, List.set_cons_zero, List.set_cons_succ])
        | (refine wk_skip (wanted_undef _ _ rfl rfl) ?_; simp only [Act.put, List.setIfInBounds_toArray, List.set_cons_zero, List.set_cons_succ])
        | (refine wk_not true _ _ (by first | exact wanted_none rfl | exact wanted_yes _ _ rfl rfl) rfl rfl ?_; simp only [Act.put, List.setIfInBounds_toArray, List.set_cons_zero, List.set_cons_succ])
        | (refine wk_not false _ _ (by first | exact wanted_none rfl | exact wanted_yes _ _ rfl rfl) rfl rfl ?_; simp only [Act.put, List.setIfInBounds_toArray, List.set_cons_zero, List.set_cons_succ]))
      refine wk_nil ?_
      intro w' hC
      have HC5 := Lib.hid hC
      have HB5 := Lib.hid (HB4.out.trans (hC.mono HB4.out.size))
      have HV5 := Lib.hid (HV4.out.below hC)
      have HK5 := Lib.hid (hC.row HK4.out)
      clear hC h2 c0 HB4 HK4 HV4
      by_cases hin : ka < s.pend.length
      · have hd : decide (ka < s.pend.length) = true := by simp [hin]
        rw [hd]
        obtain ⟨⟨a', b'⟩, hab⟩ : ∃ x, x = s.pend[ka] := ⟨_, rfl⟩
        have hgt : s.pend[ka]? = some (a', b') := by rw [List.getElem?_eq_getElem hin, hab]
        obtain ⟨gp, hA⟩ : ∃ gp, A' = some ⟨gp, 0, none⟩ := by
          rcases HV.out.pend.2 with ⟨_, h0⟩ | ⟨gp, _, _, e, _⟩
          · omega
          · simp only [Value.slice.injEq] at e; exact ⟨gp, e.1⟩
        subst hA
        have hbl := HV.out.ok.pend (a', b') (List.mem_of_getElem? hgt)
        have hps := size_putV a' b' hbl.2
        have c2 : w'.cell? ⟨g, 2, none⟩ = some (.slice (some ⟨gp, 0, none⟩) s.pend.length c') := cell_of_row w' g 2 _ _ _ HV5.out.row
        have c0 : w'.cell? ⟨gk, 0, none⟩ = some (.int .u16 (ka : Int)) := cell_of_row w' gk 0 _ _ _ HK5.out
        have HPS := Lib.hid hps
        have HBL := Lib.hid hbl
        have HGT := Lib.hid hgt
        have HC2 := Lib.hid c2
        have HC0 := Lib.hid c0
        clear hps hbl hab c2 c0 hgt hd
        go_upto_region 7 with (fail)
        refine wp_region_flow (by kernel_rfl) 9 (crV g gp c' s.pend.length ka gk a' b' w'.heap.size) ?stab (by kernel_rfl) (by kernel_rfl) (by kernel_rfl) (by kernel_rfl) ?heads ?tail
        case stab =>
          intro t v x y h hb
          unfold crV at h ⊢
          split at h
          all_goals first | exact h | skip
          obtain ⟨b, e1, e2, e3⟩ := h
          exact ⟨b, e1, (hb.block b (Array.getElem?_eq_some_iff.1 e2).1).trans e2, e3⟩
        case heads =>
          refine ⟨.inr ⟨rfl, 25, rfl, fun a1 v hB hO hD K hK => ?_⟩, .inr ⟨rfl, 26, rfl, fun a1 v hB hO hD K hK => ?_⟩, .inr ⟨rfl, 27, rfl, fun a1 v hB hO hD K hK => ?_⟩, .inr ⟨rfl, 28, rfl, fun a1 v hB hO hD K hK => ?_⟩, .inr ⟨rfl, 29, rfl, fun a1 v hB hO hD K hK => ?_⟩, .inr ⟨rfl, 30, rfl, fun a1 v hB hO hD K hK => ?_⟩, .inr ⟨rfl, 31, rfl, fun a1 v hB hO hD K hK => ?_⟩, .inr ⟨rfl, 32, rfl, fun a1 v hB hO hD K hK => ?_⟩, .inr ⟨rfl, 7, rfl, fun a1 v hB hO hD K hK => ?_⟩, .inl (by decide), trivial⟩
          · skip
            exact wp_move _ _ rfl (eval_of (t := 0) (by rw [hO 0 (not_dst 0 (by kernel_rfl))]; rfl)) (hK _ _ rfl (Below.refl _ _))
          · skip
            obtain ⟨u, hu, hv⟩ := flow_of hD 0 (by kernel_rfl) 25 (by kernel_rfl)
            exact wp_nilcheck _ _ rfl (hu.trans hv) (hK _ _ rfl (Below.refl _ _))
          · skip
            obtain ⟨u, hu, hv⟩ := flow_of hD 1 (by kernel_rfl) 26 (by kernel_rfl)
            exact wp_field 108 2 73 2 0 _ g 0 rfl (by kernel_rfl) (by kernel_rfl) (by kernel_rfl) (hu.trans hv) (hK _ _ rfl (Below.refl _ _))
          · skip
            obtain ⟨u, hu, hv⟩ := flow_of hD 2 (by kernel_rfl) 27 (by kernel_rfl)
            exact wp_load_cell 73 _ ⟨g, 2, none⟩ (.slice (some ⟨gp, 0, none⟩) s.pend.length c') _ rfl rfl (hu.trans hv) ((hB.cell (by have := (Array.getElem?_eq_some_iff.1 HV5.out.row).1; exact this)).trans HC2.out) Try.underlying73 (hK _ _ rfl (Below.refl _ _))
          · exact wp_field 80 0 32 0 0 _ gk 0 rfl (by kernel_rfl) (by kernel_rfl) (by kernel_rfl) (eval_of (t := 6) (by rw [hO 6 (not_dst 6 (by kernel_rfl))]; rfl)) (hK _ _ rfl (Below.refl _ _))
          · skip
            obtain ⟨u, hu, hv⟩ := flow_of hD 4 (by kernel_rfl) 29 (by kernel_rfl)
            exact wp_load_cell 32 _ ⟨gk, 0, none⟩ (.int .u16 (ka : Int)) _ rfl rfl (hu.trans hv) ((hB.cell (by have := (Array.getElem?_eq_some_iff.1 HK5.out).1; exact this)).trans HC0.out) Try.underlying32 (hK _ _ rfl (Below.refl _ _))
          · skip
            obtain ⟨u, hu, hv⟩ := flow_of hD 3 (by kernel_rfl) 28 (by kernel_rfl)
            obtain ⟨u', hu', hv'⟩ := flow_of hD 5 (by kernel_rfl) 30 (by kernel_rfl)
            refine wp_of_wq rfl (wk_index 73 114 _ _ gp 0 s.pend.length c' ka 257 .u16 (by exact wanted_none rfl) rfl Try.underlying73 sizePut (hu.trans hv) (hu'.trans hv') hin ?_)
            rw [Nat.zero_add]
            refine wk_nil ?_
            intro w' hC
            exact hK _ _ rfl hC
          · skip
            obtain ⟨u, hu, hv⟩ := flow_of hD 6 (by kernel_rfl) 31 (by kernel_rfl)
            refine wp_of_wq rfl (wk_load_mid 114 _ gp (ka * 257) (putV a' b') _ (by exact wanted_none rfl) rfl (hu.trans hv) (fun w' hC => ?_) Try.underlying114 rfl (by rw [HPS.out]; exact sizePut) ?_)
            · exact pend_range ((HV5.out.below hB).below hC).pend (fun x hx => (HV.out.ok.pend x hx).2) ka a' b' HGT.out
            refine wk_nil ?_
            intro w' hC
            exact hK _ _ rfl hC
          · exact wp_alloc_row 114 rfl _ zeroPut (hK _ _ ⟨_, rfl, heap_alloc_new _ _, hB.size⟩ ((Below.refl _ _).alloc (Nat.le_refl _) _))
        case tail =>
          intro F1 v hFV hB
          obtain ⟨gx, e7, hr7, hb7⟩ : ∃ b, F1 7 = .pointer (some ⟨b, 0, none⟩) ∧ v.heap[b]? = some (.cells (putV 0 zeroBlk) 114 (0, 0)) ∧ w'.heap.size ≤ b := hFV _ (List.mem_of_getElem? (i := 8) rfl) 7 rfl
          have e32 : F1 32 = .agg (putV a' b') := hFV _ (List.mem_of_getElem? (i := 7) rfl) 32 rfl
          simp only [List.take_succ_cons, List.take_zero, List.drop_succ_cons, List.drop_zero, putAll, List.setIfInBounds_toArray, List.set_cons_zero, List.set_cons_succ]
          rw [e7, e32]
          clear hFV e7 e32
          refine wpList_store_row rfl 114 _ _ rfl gx (putV a' b') rfl rfl 114 _ hr7 (by rw [HPS.out]; exact sizePut) (by rw [HPS.out]; rfl) (putV_one _ _) ?_
          simp only [Act.put, List.setIfInBounds_toArray, List.set_cons_zero, List.set_cons_succ]
          have hb6 : Below w'.heap.size w' (v.setRow gx (putV a' b')) := below_setRow hB hb7 _
          have hr6 : (v.setRow gx (putV a' b')).heap[gx]? = some (.cells (putV a' b') 114 (0, 0)) := setRow_heap _ _ _ _ _ _ hr7
          obtain ⟨W6, hW6⟩ : ∃ W, W = v.setRow gx (putV a' b') := ⟨_, rfl⟩
          rw [← hW6] at hb6 hr6 ⊢
          have HX6 := Lib.hid hr6
          have HV6 := Lib.hid (HV5.out.below hb6)
          have hk6 := (hb6.block gk (Array.getElem?_eq_some_iff.1 HK5.out).1).trans HK5.out
          have HB6 := Lib.hid (HB5.out.trans (hb6.mono HB5.out.size))
          have x0 : W6.cell? ⟨gx, 0, none⟩ = some (.int .u32 (a' : Int)) := cell_of_row W6 gx 0 _ _ _ hr6
          have k1 : W6.cell? ⟨gk, 1, none⟩ = some (.int .u8 (km : Int)) := cell_of_row W6 gk 1 _ _ _ hk6
          have m1 : W6.cell? ⟨g, 1, none⟩ = some (.map (some gm)) := cell_of_row W6 g 1 _ _ _ HV6.out.row
          clear hW6 hr7 hb7 hr6 hb6 hB hk6
          go_upto_region 8 with (fail)
          refine wk_region_tail 16 (by kernel_rfl) (by kernel_rfl) ?_
          simp only [List.take_succ_cons, List.take_zero, List.drop_succ_cons, List.drop_zero]
          repeat (first
            | (refine wk_move _ (by first | exact wanted_none rfl | exact wanted_yes _ _ rfl rfl) rfl ?_; simp only [Act.put, Act.eval, Array.getD_eq_getD_getElem?, List.getElem?_toArray, List.getElem?_cons_succ, List.getElem?_cons_zero, Option.getD_some, List.setIfInBounds_toArray, List.set_cons_zero, List.set_cons_succ])
            | (refine wk_assign _ (by first | exact wanted_none rfl | exact wanted_yes _ _ rfl rfl) rfl ?_; simp only [Act.put, Act.eval, Array.getD_eq_getD_getElem?, List.getElem?_toArray, List.getElem?_cons_succ, List.getElem?_cons_zero, Option.getD_some, List.setIfInBounds_toArray, List.set_cons_zero, List.set_cons_succ])
            | (refine wk_pickt _ _ _ _ (by first | exact wanted_none rfl | exact wanted_yes _ _ rfl rfl) rfl rfl rfl ?_; simp only [Act.put, Act.eval, Array.getD_eq_getD_getElem?, List.getElem?_toArray, List.getElem?_cons_succ, List.getElem?_cons_zero, Option.getD_some, List.setIfInBounds_toArray, List.set_cons_zero, List.set_cons_succ])
            | (refine wk_pickf _ _ _ _ (by first | exact wanted_none rfl | exact wanted_yes _ _ rfl rfl) rfl rfl rfl ?_; simp only [Act.put, Act.eval, Array.getD_eq_getD_getElem?, List.getElem?_toArray, List.getElem?_cons_succ, List.getElem?_cons_zero, Option.getD_some, List.setIfInBounds_toArray, List.set_cons_zero, List.set_cons_succ])
            | (refine wk_skip (wanted_not _ true false rfl rfl rfl) ?_; simp only [Act.put, List.setIfInBounds_toArray, List.set_cons_zero, List.set_cons_succ])
            | (refine wk_skip (wanted_not _ false true rfl rfl rfl) ?_; simp only [Act.put, List.setIfInBounds_toArray, List.set_cons_zero, List.set_cons_succ])
            | (refine wk_skip (wanted_undef _ _ rfl rfl) ?_; simp only [Act.put, List.setIfInBounds_toArray, List.set_cons_zero, List.set_cons_succ])
            | (refine wk_not true _ _ (by first | exact wanted_none rfl | exact wanted_yes _ _ rfl rfl) rfl rfl ?_; simp only [Act.put, List.setIfInBounds_toArray, List.set_cons_zero, List.set_cons_succ])
            | (refine wk_not false _ _ (by first | exact wanted_none rfl | exact wanted_yes _ _ rfl rfl) rfl rfl ?_; simp only [Act.put, List.setIfInBounds_toArray, List.set_cons_zero, List.set_cons_succ]))
          refine wk_field 114 _ 25 0 0 _ _ _ (by first | exact wanted_none rfl | exact wanted_yes _ _ rfl rfl) rfl (by kernel_rfl) (by kernel_rfl) (by kernel_rfl) rfl ?_
          simp only [Act.put, List.setIfInBounds_toArray, List.set_cons_zero, List.set_cons_succ, Nat.zero_add]
          refine wk_load1 _ _ _ _ _ rfl (by kernel_rfl) rfl rfl (fun w' hC => hC.cell x0) Try.underlying25 ?_
          simp only [Act.put, List.setIfInBounds_toArray, List.set_cons_zero, List.set_cons_succ]
          repeat (first
            | (refine wk_move _ (by first | exact wanted_none rfl | exact wanted_yes _ _ rfl rfl) rfl ?_; simp only [Act.put, Act.eval, Array.getD_eq_getD_getElem?, List.getElem?_toArray, List.getElem?_cons_succ, List.getElem?_cons_zero, Option.getD_some, List.setIfInBounds_toArray, List.set_cons_zero, List.set_cons_succ])
            | (refine wk_assign _ (by first | exact wanted_none rfl | exact wanted_yes _ _ rfl rfl) rfl ?_; simp only [Act.put, Act.eval, Array.getD_eq_getD_getElem?, List.getElem?_toArray, List.getElem?_cons_succ, List.getElem?_cons_zero, Option.getD_some, List.setIfInBounds_toArray, List.set_cons_zero, List.set_cons_succ])
            | (refine wk_pickt _ _ _ _ (by first | exact wanted_none rfl | exact wanted_yes _ _ rfl rfl) rfl rfl rfl ?_; simp only [Act.put, Act.eval, Array.getD_eq_getD_getElem?, List.getElem?_toArray, List.getElem?_cons_succ, List.getElem?_cons_zero, Option.getD_some, List.setIfInBounds_toArray, List.set_cons_zero, List.set_cons_succ])
            | (refine wk_pickf _ _ _ _ (by first | exact wanted_none rfl | exact wanted_yes _ _ rfl rfl) rfl rfl rfl ?_; simp only [Act.put, Act.eval, Array.getD_eq_getD_getElem?, List.getElem?_toArray, List.getElem?_cons_succ, List.getElem?_cons_zero, Option.getD_some, List.setIfInBounds_toArray, List.set_cons_zero, List.set_cons_succ])
            | (refine wk_skip (wanted_not _ true false rfl rfl rfl) ?_; simp only [Act.put, List.setIfInBounds_toArray, List.set_cons_zero, List.set_cons_succ])
            | (refine wk_skip (wanted_not _ false true rfl rfl rfl) ?_; simp only [Act.put, List.setIfInBounds_toArray, List.set_cons_zero, List.set_cons_succ])
            | (refine wk_skip (wanted_undef _ _ rfl rfl) ?_; simp only [Act.put, List.setIfInBounds_toArray, List.set_cons_zero, List.set_cons_succ])
            | (refine wk_not true _ _ (by first | exact wanted_none rfl | exact wanted_yes _ _ rfl rfl) rfl rfl ?_; simp only [Act.put, List.setIfInBounds_toArray, List.set_cons_zero, List.set_cons_succ])
            | (refine wk_not false _ _ (by first | exact wanted_none rfl | exact wanted_yes _ _ rfl rfl) rfl rfl ?_; simp only [Act.put, List.setIfInBounds_toArray, List.set_cons_zero, List.set_cons_succ]))
          refine wk_nilcheck _ _ (by first | exact wanted_none rfl | exact wanted_yes _ _ rfl rfl) rfl rfl ?_
          simp only [Act.put, List.setIfInBounds_toArray, List.set_cons_zero, List.set_cons_succ]
          refine wk_field 108 _ 105 1 0 _ _ _ (by first | exact wanted_none rfl | exact wanted_yes _ _ rfl rfl) rfl (by kernel_rfl) (by kernel_rfl) (by kernel_rfl) rfl ?_
          simp only [Act.put, List.setIfInBounds_toArray, List.set_cons_zero, List.set_cons_succ, Nat.zero_add]
          refine wk_load1 _ _ _ _ _ rfl (by kernel_rfl) rfl rfl (fun w' hC => hC.cell m1) Try.underlying105 ?_
          simp only [Act.put, List.setIfInBounds_toArray, List.set_cons_zero, List.set_cons_succ]
          refine wk_field 114 _ 25 0 0 _ _ _ (by first | exact wanted_none rfl | exact wanted_yes _ _ rfl rfl) rfl (by kernel_rfl) (by kernel_rfl) (by kernel_rfl) rfl ?_
          simp only [Act.put, List.setIfInBounds_toArray, List.set_cons_zero, List.set_cons_succ, Nat.zero_add]
          refine wk_load1 _ _ _ _ _ rfl (by kernel_rfl) rfl rfl (fun w' hC => hC.cell x0) Try.underlying25 ?_
          simp only [Act.put, List.setIfInBounds_toArray, List.set_cons_zero, List.set_cons_succ]
          refine wk_look_map _ _ (by exact wanted_none rfl) rfl gm _ rfl (fun w' hC => (HV6.out.below hC).good) a' HBL.out.1 rfl ?_
          simp only [Act.put, List.setIfInBounds_toArray, List.set_cons_zero, List.set_cons_succ]
          refine wk_field 114 _ 23 1 255 _ _ _ (by first | exact wanted_none rfl | exact wanted_yes _ _ rfl rfl) rfl (by kernel_rfl) (by kernel_rfl) (by kernel_rfl) rfl ?_
          simp only [Act.put, List.setIfInBounds_toArray, List.set_cons_zero, List.set_cons_succ, Nat.zero_add]
          refine wk_load_mid 23 _ gx 1 (blk b') _ (by first | exact wanted_none rfl | exact wanted_yes _ _ rfl rfl) rfl rfl (fun w' hC => putV_range (hC.row HX6.out)) Try.underlying23 rfl (by rw [size_blk, HBL.out.2]; exact sizeB) ?_
          simp only [Act.put, List.setIfInBounds_toArray, List.set_cons_zero, List.set_cons_succ]
          refine wk_field 80 _ 5 1 0 _ _ _ (by first | exact wanted_none rfl | exact wanted_yes _ _ rfl rfl) rfl (by kernel_rfl) (by kernel_rfl) (by kernel_rfl) rfl ?_
          simp only [Act.put, List.setIfInBounds_toArray, List.set_cons_zero, List.set_cons_succ, Nat.zero_add]
          refine wk_load1 _ _ _ _ _ rfl (by kernel_rfl) rfl rfl (fun w' hC => hC.cell k1) Try.underlying5 ?_
          simp only [Act.put, List.setIfInBounds_toArray, List.set_cons_zero, List.set_cons_succ]
          have hgl : (keepsB s.pend s.good (ks.take k) a').length = 256 := HV6.out.ok.good a'
          refine wk_call 75 _ _ _ _ _ (by kernel_rfl) rfl Try.func75 rfl (by kernel_rfl) (fun w' hC => hC.call (torn_dev (keepsB s.pend s.good (ks.take k) a') b' hgl HBL.out.2 km HKB.out.2 w')) ?_
          simp only [Act.put, List.setIfInBounds_toArray, List.set_cons_zero, List.set_cons_succ]
          refine wk_build 114 _ [(0, .int .u32 (a' : Int)), (1, .agg (blk (dtorn (keepsB s.pend s.good (ks.take k) a') b' km)))] (putV a' (dtorn (keepsB s.pend s.good (ks.take k) a') b' km)) (by exact wanted_none rfl) rfl (by simp [Act.eval]) (builtPut _ _ (length_dtorn _ _ _)) ?_
          simp only [Act.put, List.setIfInBounds_toArray, List.set_cons_zero, List.set_cons_succ]
          refine wk_nil ?_
          intro w' hC
          have HV7 := Lib.hid (HV6.out.below hC)
          have HB7 := Lib.hid (HB6.out.trans (hC.mono HB6.out.size))
          have HKP : Hid (keepB s.pend (keepsB s.pend s.good (ks.take k)) (ka, km) = updB (keepsB s.pend s.good (ks.take k)) a' (dtorn (keepsB s.pend s.good (ks.take k) a') b' km)) := Lib.hid (by
            unfold keepB
            rw [show s.pend[(ka, km).1]? = some (a', b') from HGT.out])
          clear hC hgl x0 k1 m1 HV6 HX6 HB6
          obtain ⟨tb, htb⟩ : ∃ tb, tb = dtorn (keepsB s.pend s.good (ks.take k) a') b' km := ⟨_, rfl⟩
          have htl : tb.length = 256 := by rw [htb]; exact length_dtorn _ _ _
          rw [← htb] at HKP ⊢
          have HTL := Lib.hid htl
          clear htb htl
          go_wp2_with (go_at_call 71; refine (put_devV HV7.out HND.out a' tb HBL.out.1 HTL.out).mono ?_; rintro e w8 ⟨rfl, hv8, ho8⟩; have HV8 := Lib.hid hv8; have HO8 := Lib.hid ho8; clear hv8 ho8)
          refine ⟨⟨k + 1, by omega, by simp, by rw [HGD.out, HKP.out]; exact HV8.out, (HOR.out.trans (Only.of_below HB7.out)).trans HO8.out⟩, by simp [intOf]; omega⟩
      · have hd : decide (ka < s.pend.length) = false := by simp [hin]
        rw [hd]
        have HKP : Hid (keepB s.pend (keepsB s.pend s.good (ks.take k)) (ka, km) = keepsB s.pend s.good (ks.take k)) := Lib.hid (by
          unfold keepB
          rw [List.getElem?_eq_none (by omega)])
        clear hin hd
        go_wp2_with fail
        refine ⟨⟨k + 1, by omega, by simp, by rw [HGD.out, HKP.out]; exact HV5.out, HOR.out.trans (Only.of_below HB5.out)⟩, by simp [intOf]; omega⟩
    · obtain rfl : k = n := by omega
      have hz : ¬ ((k : Int) < (k : Int)) := by omega
      have htk : ks.take k = ks := List.take_of_length_le (by rw [HKL.out]; exact Nat.le_refl _)
      have hVe := HVR.out
      rw [htk] at hVe
      have hrow := hVe.row
      have hap2 : DvApart g gm (.slice none 0 0) (.pointer none) := ⟨HAP.out.map, fun b hb => by simp [Value.ownBlock] at hb, fun b hb => by simp [ptrBlock] at hb⟩
      have c2 : wr.cell? ⟨g, 2, none⟩ = some (.slice A' s.pend.length c') := cell_of_row wr g 2 _ _ _ hrow
      have f2 : wr.frozen? ⟨g, 2, none⟩ = false := frozen_of_row wr g 2 _ _ hrow
      have hr1 := heap_setCell_same wr g 2 _ _ (.slice none 0 0) hrow
      have c3 : (wr.setCell ⟨g, 2, none⟩ (.slice none 0 0)).cell? ⟨g, 3, none⟩ = some fv := cell_of_row _ g 3 _ _ _ hr1
      have f3 : (wr.setCell ⟨g, 2, none⟩ (.slice none 0 0)).frozen? ⟨g, 3, none⟩ = false := frozen_of_row _ g 3 _ _ hr1
      have hr2 := heap_setCell_same _ g 3 _ _ (.pointer none) hr1
      have c4 : ((wr.setCell ⟨g, 2, none⟩ (.slice none 0 0)).setCell ⟨g, 3, none⟩ (.pointer none)).cell? ⟨g, 4, none⟩ = some (.bool s.down) := cell_of_row _ g 4 _ _ _ hr2
      have f4 : ((wr.setCell ⟨g, 2, none⟩ (.slice none 0 0)).setCell ⟨g, 3, none⟩ (.pointer none)).frozen? ⟨g, 4, none⟩ = false := frozen_of_row _ g 4 _ _ hr2
      have hr3 := heap_setCell_same _ g 4 _ _ (.bool false) hr2
      have hT : Turns F w (((wr.setCell ⟨g, 2, none⟩ (.slice none 0 0)).setCell ⟨g, 3, none⟩ (.pointer none)).setCell ⟨g, 4, none⟩ (.bool false)) (dvT g (s.crash ks)) := by
        have hgF : g ∈ F := by rw [HG.out]; simp [dvFoot]
        have hgmF : gm ∈ F := by rw [HG.out]; simp [dvFoot]
        have hO1 : Only F w wr := HOR.out.mono (fun x hx _ => by simp at hx; subst hx; exact hgmF)
        refine ⟨_, ⟨gm, _, _, rfl, ?_, ?_, World.ownsRow_nil _ _ _ _, rfl, HV.out.ok.crash ks⟩, ((hO1.setCell (.inl hgF) _).setCell (.inl hgF) _).setCell (.inl hgF) _, ?_, dv_foot hap2⟩
        · rw [hr3]; simp [dvCells, Dv.crash]
        · have e : (((wr.setCell ⟨g, 2, none⟩ (.slice none 0 0)).setCell ⟨g, 3, none⟩ (.pointer none)).setCell ⟨g, 4, none⟩ (.bool false)).heap[gm]? = wr.heap[gm]? := by
            rw [heap_setCell_other _ _ _ _ HAP.out.map, heap_setCell_other _ _ _ _ HAP.out.map, heap_setCell_other _ _ _ _ HAP.out.map]
          exact hVe.good.kept e
        · intro b hb
          simp only [dvFoot, List.mem_cons, Value.ownBlock, Option.toList_none, ptrBlock, List.append_nil, List.not_mem_nil, or_false] at hb
          rcases hb with rfl | rfl
          · exact .inl hgF
          · exact .inl hgmF
      have HT := Lib.hid hT
      clear hT hr1 hr2 hr3 hap2 hrow hVe htk
      go_wp2
      go_ret
      exact ⟨rfl, HT.out⟩
end Go.Proofs.Ytnbdnnlomgjlmaa
