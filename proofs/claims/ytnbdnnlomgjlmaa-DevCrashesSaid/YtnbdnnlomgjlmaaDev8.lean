/- The device layer: Write. -/
import Derived.Test.YtnbdnnlomgjlmaaDev7
namespace Go.Proofs.Ytnbdnnlomgjlmaa
open Go.RowKit
set_option linter.unusedSimpArgs false
set_option linter.unusedVariables false
set_option maxRecDepth 100000
theorem upE_far (s : Dv) (x : Ask) (a : Nat) (h2 : x.e = 2) (hr : x.r = decide (s.size ≤ a)) : upE s [x] = if s.size ≤ a then 2 else if s.down then 30 else 0 := by
  unfold upE
  by_cases h : s.size ≤ a
  · simp [hr, h, h2]
  · simp [hr, h]
/-- The slots of Write's region. -/
def wrV (g a : Nat) (b : List UInt8) (pv : Value) (xs : List Value) (n base : Nat) (t : Tmp) (v : Value) (w : World) : Prop :=
  match t with
  | 17 => v = .pointer (some ⟨g, 0, none⟩)
  | 18 => v = .pointer (some ⟨g, 0, none⟩)
  | 19 => v = .pointer (some ⟨g, 0, none⟩)
  | 20 => v = .pointer (some ⟨g, 2, none⟩)
  | 21 => v = pv
  | 22 => v = .int .u32 (a : Int)
  | 23 => v = .agg (blk b)
  | 24 => v = .agg (putV a b)
  | 25 => ∃ b', v = .slice (some ⟨b', 0, none⟩) 1 1 ∧ w.heap[b']? = some (.cells (putV a b) 114 (0, 0)) ∧ base ≤ b'
  | 26 => w.ownsRow 0 114 257 v (n + 1) (xs ++ (putV a b).toList) ∧ (v.ownBlock = pv.ownBlock ∨ ∃ k, base ≤ k ∧ v.ownBlock = some k)
  | _ => True
def wrSt (pv : Value) (i : Nat) (w w' : World) : Prop := if i = 9 then Only pv.ownBlock.toList w w' else Below w.heap.size w w'
theorem wrV_stab (g a : Nat) (b : List UInt8) (pv : Value) (xs : List Value) (n base : Nat) (hpv : ∀ k, pv.ownBlock = some k → k < base) (i : Nat) (t : Tmp) (v : Value) (w w' : World) (h26 : i = 9 → t ≠ 26) (h : wrV g a b pv xs n base t v w) (hs : wrSt pv i w w') : wrV g a b pv xs n base t v w' := by
  have ho : Only pv.ownBlock.toList w w' := by
    unfold wrSt at hs
    split at hs
    · exact hs
    · exact Only.of_below hs
  unfold wrV at h ⊢
  split at h
  all_goals first | exact h | skip
  · obtain ⟨b', h1, h2, h3⟩ := h
    refine ⟨b', h1, (ho.block b' (Array.getElem?_eq_some_iff.1 h2).1 (fun hm => ?_)).trans h2, h3⟩
    have := hpv b' (by simpa using hm)
    omega
  · have hi : ¬ i = 9 := fun e => h26 e rfl
    unfold wrSt at hs
    rw [if_neg hi] at hs
    exact ⟨ownsRow_below h.1 hs, h.2⟩
set_option maxHeartbeats 4000000 in
theorem write_dev {F : List Nat} {w : World} {g : Nat} {s : Dv} (h : (dvT g s).says F w) (hn : F.Nodup) (hlen : s.pend.length < 100000) (a : Nat) (b : List UInt8) (ha : a < 4294967296) (hb : b.length = 256) :
    Calls Try.prog 43 #[.pointer (some ⟨g, 0, none⟩), .int .u32 (a : Int), .agg (blk b)] w fun e w' => e = .returned (.int .i64 (s.write a b).2) ∧ Turns F w w' (dvT g (s.write a b).1) := by
  have H := Lib.hid h
  have HN := Lib.hid hn
  have HB := Lib.hid hb
  have HA := Lib.hid ha
  have HLN := Lib.hid hlen
  clear h hn hb ha hlen
  obtain ⟨i, hi, hz, hs2, hby⟩ := info_parts Try.infoAsk
  have hI := Lib.hid hi
  have hZ := Lib.hid hz
  clear hi hz
  obtain ⟨W0, hW0⟩ : ∃ W, W = w.alloc (.cells (blk b) 23) := ⟨_, rfl⟩
  have hb0 : Below w.heap.size w W0 := by rw [hW0]; exact (Below.refl _ _).alloc (Nat.le_refl _) _
  obtain ⟨bb, hbb⟩ : ∃ b, b = w.heap.size := ⟨_, rfl⟩
  have HBB : Hid (W0.heap[bb]? = some (.cells (blk b) 23 (0, 0))) := Lib.hid (by rw [hW0, hbb]; exact heap_alloc_new _ _)
  have HB0 := Lib.hid hb0
  have HAT : Hid ((dvT g s).at w) := Lib.hid ⟨F, H.out⟩
  have hcase : (∃ E : Int, E ≠ 0 ∧ (∀ x : Ask, x.e = 2 → x.r = decide (s.size ≤ a) → upE s [x] = E) ∧ s.write a b = (s, E)) ∨ ((∀ x : Ask, x.e = 2 → x.r = decide (s.size ≤ a) → upE s [x] = 0) ∧ s.write a b = Dv.burn { s with pend := s.pend ++ [(a, b)] }) := by
    by_cases h1 : s.size ≤ a
    · exact .inl ⟨2, by decide, fun x e1 e2 => by rw [upE_far s x a e1 e2, if_pos h1], by unfold Dv.write; rw [if_pos h1]⟩
    · cases h2 : s.down with
      | true => exact .inl ⟨30, by decide, fun x e1 e2 => by rw [upE_far s x a e1 e2, if_neg h1, h2, if_pos rfl], by unfold Dv.write; rw [if_neg h1, h2, if_pos rfl]⟩
      | false => exact .inr ⟨fun x e1 e2 => by rw [upE_far s x a e1 e2, if_neg h1, h2, if_neg (by decide)], by unfold Dv.write; rw [if_neg h1, h2, if_neg (by decide)]⟩
  rcases hcase with ⟨E, hE0, hE, hwr⟩ | ⟨hE, hwr⟩
  · have HE := Lib.hid hE
    have hne : (E != 0) = true := by simpa using hE0
    have HWR := Lib.hid hwr
    clear hE hE0 hwr
    go_enter Try.func43, Try.ntmps43
    go_upto_region 1 with (fail)
    rw [← hW0, ← hbb]
    clear hW0 hb0 hbb
    go_wp2_with (first
      | (go_at_call 72; refine (far_dev (HAT.out.since HB0.out) a).mono ?_; rintro e w1 ⟨x, rfl, hxo, hxe, hxr, hb1⟩; have HXO := Lib.hid hxo; have HXE := Lib.hid hxe; have HXR := Lib.hid hxr; have HB1 := Lib.hid hb1; clear hxo hxe hxr hb1)
      | refine wpList_plain rfl fun K hK' => wp_build_one 132 112 _ rfl (askV x) rfl i _ Try.underlying132 hI.out hZ.out (by rw [hs2]; rfl) (by omega) (by omega) (hK' _ _ ?_)
      | (go_at_call 68; refine (up_dev (HAT.out.since (HB0.out.trans ((HB1.out.trans ((Below.refl _ _).alloc HB1.out.size _)).mono HB0.out.size))) _ [x] (by simp) (.one _ 1 x (heap_alloc_new _ _)) (by intro z hz; simp at hz; subst hz; exact HXO.out.below ((Below.refl _ _).alloc (Nat.le_refl _) _))).mono ?_; rintro e w2 ⟨rfl, hb2⟩; have HB2 := Lib.hid hb2; clear hb2; rw [HE.out x HXE.out HXR.out]))
    go_ret
    rw [HWR.out]
    exact ⟨rfl, dv_same H.out HN.out (HB0.out.trans ((HB1.out.trans (((Below.refl _ _).alloc HB1.out.size _).trans (HB2.out.mono (by have := HB1.out.size; simp; omega)))).mono HB0.out.size))⟩
  · have HE := Lib.hid hE
    have HWR := Lib.hid hwr
    clear hE hwr
    go_enter Try.func43, Try.ntmps43
    go_upto_region 1 with (fail)
    rw [← hW0, ← hbb]
    have HBE := Lib.hid hbb
    clear hW0 hb0 hbb
    go_upto_region 4 with (first
      | (go_at_call 72; refine (far_dev (HAT.out.since HB0.out) a).mono ?_; rintro e w1 ⟨x, rfl, hxo, hxe, hxr, hb1⟩; have HXO := Lib.hid hxo; have HXE := Lib.hid hxe; have HXR := Lib.hid hxr; have HB1 := Lib.hid hb1; clear hxo hxe hxr hb1)
      | refine wpList_plain rfl fun K hK' => wp_build_one 132 112 _ rfl (askV x) rfl i _ Try.underlying132 hI.out hZ.out (by rw [hs2]; rfl) (by omega) (by omega) (hK' _ _ ?_)
      | (go_at_call 68; refine (up_dev (HAT.out.since (HB0.out.trans ((HB1.out.trans ((Below.refl _ _).alloc HB1.out.size _)).mono HB0.out.size))) _ [x] (by simp) (.one _ 1 x (heap_alloc_new _ _)) (by intro z hz; simp at hz; subst hz; exact HXO.out.below ((Below.refl _ _).alloc (Nat.le_refl _) _))).mono ?_; rintro e w2 ⟨rfl, hb2⟩; have HB2 := Lib.hid hb2; clear hb2; rw [HE.out x HXE.out HXR.out]))
    have HBW : Hid (Below W0.heap.size W0 w2) := Lib.hid (HB1.out.trans (((Below.refl _ _).alloc HB1.out.size _).trans (HB2.out.mono (by have := HB1.out.size; simp; omega))))
    have hbw2 : Below w.heap.size w w2 := HB0.out.trans (HBW.out.mono HB0.out.size)
    obtain ⟨gm, pv, fv, hF, hV⟩ := H.out
    have HV2 := Lib.hid (hV.below hbw2)
    have HBB2 := Lib.hid ((HBW.out.block bb (Array.getElem?_eq_some_iff.1 HBB.out).1).trans HBB.out)
    have HBW2 := Lib.hid hbw2
    have hap := dv_apart (hF ▸ HN.out)
    have HAP := Lib.hid hap
    have HF := Lib.hid hF
    have hpw : ∀ k, pv.ownBlock = some k → k < w.heap.size := fun k hk => (World.ownsRow.lt hV.pend k hk).2
    clear HB1 HB2 HXO HXE HXR HE hap hF hV hbw2 hI hZ hs2 hby
    obtain ⟨i, hi, hz, hs2, hby⟩ := info_parts Try.infoPut
    have hpb : ∀ k, pv.ownBlock = some k → k < w2.heap.size := fun k hk => (World.ownsRow.lt HV2.out.pend k hk).2
    have h2 : w2.cell? ⟨g, 2, none⟩ = some pv := cell_of_row w2 g 2 _ _ _ HV2.out.row
    refine wp_region_flowG (by kernel_rfl) 10 (wrV g a b pv (putCells s.pend) s.pend.length w2.heap.size) (fun lst x => if lst 9 = true then Only pv.ownBlock.toList w2 x else Below w2.heap.size w2 x) (wrSt pv) (fun j o t v lst x y ho hd _ _ hv hst => wrV_stab _ _ _ _ _ _ _ hpb j t v x y ?_ hv hst) (fun j lst x y hj hx hst => ?_) ((Below.refl _ _).drew) (by kernel_rfl) (by kernel_rfl) (by kernel_rfl) (by kernel_rfl) ?heads ?tail
    · rintro rfl rfl
      simp at ho
      subst ho
      exact hd rfl
    · unfold wrSt at hst
      by_cases h9 : j = 9
      · subst h9
        rw [if_pos rfl] at hst
        rw [if_pos (by simp)]
        rw [if_neg (by rw [hj]; simp)] at hx
        exact (Only.of_below hx).trans hst
      · rw [if_neg h9] at hst
        have e9 : (fun k => if k = j then true else lst k) 9 = lst 9 := if_neg (fun e => h9 e.symm)
        show (if (fun k => if k = j then true else lst k) 9 = true then _ else _)
        rw [e9]
        split at hx
        · rename_i h; rw [if_pos h]; exact hx.trans (Only.of_below hst)
        · rename_i h; rw [if_neg h]; exact hx.trans (hst.mono hx.size)
    case heads =>
      have hBO : ∀ (lst : Nat → Bool) (v : World), (if lst 9 = true then Only pv.ownBlock.toList w2 v else Below w2.heap.size w2 v) → Only pv.ownBlock.toList w2 v := fun lst v h => by split at h; exact h; exact Only.of_below h
      have hn9 : ∀ j x y, j ≠ 9 → Below x.heap.size x y → wrSt pv j x y := fun j x y hj hb => by unfold wrSt; rw [if_neg hj]; exact hb
      refine ⟨.inr ⟨rfl, 17, rfl, fun lst a1 v hls hB' hO hD K hK => ?_⟩, .inr ⟨rfl, 18, rfl, fun lst a1 v hls hB' hO hD K hK => ?_⟩, .inr ⟨rfl, 19, rfl, fun lst a1 v hls hB' hO hD K hK => ?_⟩, .inr ⟨rfl, 20, rfl, fun lst a1 v hls hB' hO hD K hK => ?_⟩, .inr ⟨rfl, 21, rfl, fun lst a1 v hls hB' hO hD K hK => ?_⟩, .inr ⟨rfl, 22, rfl, fun lst a1 v hls hB' hO hD K hK => ?_⟩, .inr ⟨rfl, 23, rfl, fun lst a1 v hls hB' hO hD K hK => ?_⟩, .inr ⟨rfl, 24, rfl, fun lst a1 v hls hB' hO hD K hK => ?_⟩, .inr ⟨rfl, 25, rfl, fun lst a1 v hls hB' hO hD K hK => ?_⟩, .inr ⟨rfl, 26, rfl, fun lst a1 v hls hB' hO hD K hK => ?_⟩, .inl (by decide), .inl (by decide), .inl (by decide), trivial⟩
      · have hB := hBO _ _ hB'
        exact wp_move _ _ rfl (eval_of (t := 0) (by rw [hO 0 (not_dst 0 (by kernel_rfl))]; rfl)) (hK _ _ rfl (hn9 _ _ _ (by decide) (Below.refl _ _)))
      · have hB := hBO _ _ hB'
        exact wp_move _ _ rfl (eval_of (t := 0) (by rw [hO 0 (not_dst 0 (by kernel_rfl))]; rfl)) (hK _ _ rfl (hn9 _ _ _ (by decide) (Below.refl _ _)))
      · have hB := hBO _ _ hB'
        obtain ⟨u, hu, hv⟩ := flow_of hD 1 (by kernel_rfl) 18 (by kernel_rfl)
        exact wp_nilcheck _ _ rfl (hu.trans hv) (hK _ _ rfl (hn9 _ _ _ (by decide) (Below.refl _ _)))
      · have hB := hBO _ _ hB'
        obtain ⟨u, hu, hv⟩ := flow_of hD 2 (by kernel_rfl) 19 (by kernel_rfl)
        exact wp_field 108 2 73 2 0 _ g 0 rfl (by kernel_rfl) (by kernel_rfl) (by kernel_rfl) (hu.trans hv) (hK _ _ rfl (hn9 _ _ _ (by decide) (Below.refl _ _)))
      · have hB := hBO _ _ hB'
        obtain ⟨u, hu, hv⟩ := flow_of hD 3 (by kernel_rfl) 20 (by kernel_rfl)
        have hr : v.heap[g]? = w2.heap[g]? := hB.block g (Array.getElem?_eq_some_iff.1 HV2.out.row).1 (fun hm => (HAP.out.pend g (by simpa using hm)).1 rfl)
        exact wp_load_cell 73 _ ⟨g, 2, none⟩ pv _ rfl rfl (hu.trans hv) ((World.cell?_of_block (w := w2) hr).trans h2) Try.underlying73 (hK _ _ rfl (hn9 _ _ _ (by decide) (Below.refl _ _)))
      · have hB := hBO _ _ hB'
        exact wp_move _ _ rfl (eval_of (t := 1) (by rw [hO 1 (not_dst 1 (by kernel_rfl))]; rfl)) (hK _ _ rfl (hn9 _ _ _ (by decide) (Below.refl _ _)))
      · have hB := hBO _ _ hB'
        have hne : bb ∉ pv.ownBlock.toList := by
          intro hm
          have h1 := hpw bb (by simpa using hm)
          have h2 := HBE.out
          omega
        refine wp_load_all 23 _ bb 23 (blk b) (0, 0) _ rfl (eval_of (t := 5) (by rw [hO 5 (not_dst 5 (by kernel_rfl))]; rfl)) ((hB.block bb (Array.getElem?_eq_some_iff.1 HBB2.out).1 hne).trans HBB2.out) Try.underlying23 rfl (by rw [size_blk, HB.out]; exact sizeB) (hK _ _ rfl (hn9 _ _ _ (by decide) (Below.refl _ _)))
      · have hB := hBO _ _ hB'
        obtain ⟨u, hu, hv⟩ := flow_of hD 5 (by kernel_rfl) 22 (by kernel_rfl)
        obtain ⟨u', hu', hv'⟩ := flow_of hD 6 (by kernel_rfl) 23 (by kernel_rfl)
        refine wp_built 114 _ [(0, .int .u32 (a : Int)), (1, .agg (blk b))] (putV a b) rfl ?_ (builtPut a b HB.out) (hK _ _ rfl (hn9 _ _ _ (by decide) (Below.refl _ _)))
        simp only [List.map_toArray, List.map_cons, List.map_nil, hu.trans hv, hu'.trans hv']
      · have hB := hBO _ _ hB'
        obtain ⟨u, hu, hv⟩ := flow_of hD 7 (by kernel_rfl) 24 (by kernel_rfl)
        refine wp_build_one 73 114 _ rfl (putV a b) (hu.trans hv) i _ Try.underlying73 hi hz (by rw [hs2, size_putV a b HB.out]) (by omega) (by omega) (hK _ _ ⟨_, rfl, heap_alloc_new _ _, hB.size⟩ (hn9 _ _ _ (by decide) ((Below.refl _ _).alloc (Nat.le_refl _) _)))
      · have hB := hBO _ _ hB'
        obtain ⟨u, hu, hv⟩ := flow_of hD 4 (by kernel_rfl) 21 (by kernel_rfl)
        obtain ⟨u', hu', b', rfl, hb', hbb'⟩ := flow_of hD 8 (by kernel_rfl) 25 (by kernel_rfl)
        rw [if_neg (by rw [hls]; simp)] at hB'
        have hown := ownsRow_below HV2.out.pend hB'
        have hcell : ∀ (j : Nat) u, (putV a b).toList[j]? = some u → v.cell? ((⟨b', 0, none⟩ : Addr).add j) = some u := by
          intro j u hj
          rw [Addr.add_lit, Nat.zero_add, cell_of_row v b' j _ _ _ hb']
          simpa using hj
        have hln := HLN.out
        obtain ⟨v', w', hr, h2', h3', h4', h5'⟩ := run_append_own_at (P := Try.prog) v 0 73 73 114 i _ 257 260 Try.underlying73 hi hz hs2 hby (size_putV 0 zeroBlk length_zeroBlk) (by decide) pv s.pend.length (putCells s.pend) hown ⟨b', 0, none⟩ 1 1 (putV a b).toList (by simp [size_putV a b HB.out]) hcell (fun u hu => by
          have := putV_one a b
          rw [Array.all_eq_true_iff_forall_mem] at this
          exact this u (by simpa using hu)) (by unfold maxLen; omega) (by omega) (Nat.zero_le _)
        refine wp_append_run _ _ 73 rfl _ _ v' (hu.trans hv) hu' hr (hK _ _ ⟨h2', ?_⟩ (by unfold wrSt; rw [if_pos rfl]; exact Only.of_grown h3' (fun k hk => by simp [hk])))
        rcases h5' with h | h
        · exact .inl h
        · exact .inr ⟨_, hB.size, h⟩
    case tail =>
      intro Fv v hV hB
      rw [if_pos (by simp)] at hB
      have v26 : v.ownsRow 0 114 257 (Fv 26) (s.pend.length + 1) (putCells s.pend ++ (putV a b).toList) ∧ ((Fv 26).ownBlock = pv.ownBlock ∨ ∃ k, w2.heap.size ≤ k ∧ (Fv 26).ownBlock = some k) := hV _ (List.mem_of_getElem? (i := 9) rfl) 26 rfl
      have v17 : Fv 17 = .pointer (some ⟨g, 0, none⟩) := hV _ (List.mem_of_getElem? (i := 0) rfl) 17 rfl
      simp only [List.take_succ_cons, List.take_zero, List.drop_succ_cons, List.drop_zero, putAll, List.setIfInBounds_toArray, List.set_cons_zero, List.set_cons_succ]
      rw [v17]
      generalize Fv 26 = s26 at v26 ⊢
      clear hV v17
      have hlt := HV2.out.lt
      have hne : ∀ k ∈ dvFoot g gm pv fv, pv.ownBlock ≠ some k → v.heap[k]? = w2.heap[k]? := fun k hk hnk => hB.block k (hlt k hk) (fun hm => hnk (by simpa using hm))
      have hrow := (hne g (by simp [dvFoot]) (fun e => (HAP.out.pend g e).1 rfl)).trans HV2.out.row
      have c2 : v.cell? ⟨g, 2, none⟩ = some pv := cell_of_row v g 2 _ _ _ hrow
      have f2 : v.frozen? ⟨g, 2, none⟩ = false := frozen_of_row v g 2 _ _ hrow
      have hs26 : ∀ k, s26.ownBlock = some k → k ≠ g ∧ k ≠ gm ∧ k ∉ ptrBlock fv := by
        intro k hk
        rcases v26.2 with h | ⟨k', hk', h⟩
        · rw [hk] at h
          refine ⟨(HAP.out.pend k h.symm).1, (HAP.out.pend k h.symm).2, fun hm => (HAP.out.fuse k hm).2.2 h.symm⟩
        · rw [hk] at h
          cases h
          refine ⟨fun e => ?_, fun e => ?_, fun hm => ?_⟩
          · have := hlt g (by simp [dvFoot]); omega
          · have := hlt gm (by simp [dvFoot]); omega
          · have := hlt k (by simp [dvFoot, hm]); omega
      have hap3 : DvApart g gm s26 fv := ⟨HAP.out.map, fun k hk => ⟨(hs26 k hk).1, (hs26 k hk).2.1⟩, fun k hk => ⟨(HAP.out.fuse k hk).1, (HAP.out.fuse k hk).2.1, fun e => (hs26 k e).2.2 hk⟩⟩
      have hV3 : DvV (v.setCell ⟨g, 2, none⟩ s26) g gm s26 fv { s with pend := s.pend ++ [(a, b)] } := by
        have ho : ∀ k, k ≠ g → (v.setCell ⟨g, 2, none⟩ s26).heap[k]? = v.heap[k]? := fun k hk => heap_setCell_other _ _ _ _ hk
        refine ⟨?_, ?_, ?_, ?_, HV2.out.ok.more a b HA.out HB.out⟩
        · have := heap_setCell_same v g 2 _ _ s26 hrow
          rw [this]
          simp [dvCells]
        · refine HV2.out.good.kept ((ho gm HAP.out.map).trans (hne gm (by simp [dvFoot]) (fun e => (HAP.out.pend gm e).2 rfl)))
        · have h1 := ownsRow_same v26.1 (fun k hk => ho k (hs26 k hk).1)
          rw [putCells_snoc, List.length_append]
          simpa [putV] using h1
        · have hfu := HV2.out.fuse
          show fuseAt _ fv s.fuse
          unfold fuseAt at hfu ⊢
          split at hfu
          · exact hfu
          · obtain ⟨gf, rfl, hgf⟩ := hfu
            have hh := HAP.out.fuse gf (by simp [ptrBlock])
            exact ⟨gf, rfl, ((ho gf hh.1).trans (hne gf (by simp [dvFoot, ptrBlock]) hh.2.2)).trans hgf⟩
      have hO3 : Only F w (v.setCell ⟨g, 2, none⟩ s26) := by
        refine (((Only.of_below HBW2.out).trans' hB ?_).setCell (.inl (by rw [HF.out]; simp [dvFoot])) _)
        intro k hk _
        rw [HF.out]
        simp only [dvFoot, List.mem_cons, List.mem_append]
        exact .inr (.inr (.inl hk))
      have hG3 : ∀ k ∈ dvFoot g gm s26 fv, k ∈ F ∨ w.heap.size ≤ k := by
        intro k hk
        rw [HF.out]
        simp only [dvFoot, List.mem_cons, List.mem_append] at hk ⊢
        rcases hk with h | h | h | h
        · exact .inl (.inl h)
        · exact .inl (.inr (.inl h))
        · rcases v26.2 with h' | ⟨k', hk', h'⟩
          · exact .inl (.inr (.inr (.inl (by rw [← h']; exact h))))
          · have : s26.ownBlock = some k := by simpa using h
            rw [h'] at this
            cases this
            exact .inr (Nat.le_trans HBW2.out.size hk')
        · exact .inl (.inr (.inr (.inr h)))
      obtain ⟨A', c', hs26e⟩ := own_len v26.1
      have HBURN := Lib.hid (burn_dev (F := dvFoot g gm s26 fv) (w := v.setCell ⟨g, 2, none⟩ s26) (g := g) (s := { s with pend := s.pend ++ [(a, b)] }) ⟨gm, s26, fv, rfl, hV3⟩ (dv_foot hap3))
      have HO3 := Lib.hid hO3
      have HG3 := Lib.hid hG3
      clear hV3 hO3 hG3 hap3 hs26 hne hlt hrow v26 hB h2
      subst hs26e
      go_wp2_with (go_at_call 70; refine (HBURN.out).mono ?_; rintro e w4 ⟨rfl, ht⟩)
      go_ret
      rw [HWR.out]
      exact ⟨rfl, HO3.out.turns HG3.out ht⟩
end Go.Proofs.Ytnbdnnlomgjlmaa
