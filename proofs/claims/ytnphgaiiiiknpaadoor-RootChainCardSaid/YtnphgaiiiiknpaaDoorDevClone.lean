/- The device layer: maps.Clone and slices.Clone at the device's types. The device layer: Copy. -/
import Derived.Test.YtnphgaiiiiknpaaDoorDev9
import Derived.Shelf.SlMaps.Clone
import Derived.Shelf.SlicesE.Clone
import Derived.Test.YtnphgaiiiiknpaaDoorDev3
namespace Go.Proofs.YtnphgaiiiiknpaaDoor
open Go.RowKit Go.Shelf
set_option linter.unusedSimpArgs false
set_option linter.unusedVariables false
set_option maxRecDepth 100000
set_option maxHeartbeats 2000000 in
theorem mapclone_any (b : Nat) (es : Array MapEntry) (clock : Nat) (w : World) (hb : w.heap[b]? = some (.map es clock)) :
    Calls Tryd.prog 41 #[.map (some b)] w fun e w' => e = .returned (.map (some w.heap.size)) ∧ w' = w.alloc (.map es clock) := by
  have hq := fun w => run_eql_map_nil_sl (P := Tryd.prog) w 62 _ _ (some b) Tryd.underlying62
  go_enter Tryd.func41, Tryd.ntmps41
  go_wp2
  rw [run_callFunc_extern Tryd.func57 (by kernel_rfl) (by kernel_rfl) (by kernel_rfl) (e := Extern.MapsClone.clone) (by kernel_rfl), run_maps_clone_sl w 62 hb]
  simp only [Result.andThen]
  rw [Oper.upon_value]
  go_wp2
  rw [run_typeAssert_map_sl _ 62 20 _ _ _ Tryd.underlying62]
  simp only [Result.andThen]
  rw [Oper.upon_value]
  go_wp2
  go_ret
  exact ⟨rfl, rfl⟩
theorem mapclone_at (b : Nat) (f : Nat → List UInt8) (w : World) (h : MapAt w b f) :
    Calls Tryd.prog 41 #[.map (some b)] w fun e w' => ∃ b', e = .returned (.map (some b')) ∧ MapAt w' b' f ∧ w.heap.size ≤ b' ∧ Below w.heap.size w w' := by
  obtain ⟨D, ⟨es, clock, hb, F, hs, hD⟩, hf⟩ := h
  refine (mapclone_any b es clock w hb).mono ?_
  rintro e w' ⟨rfl, rfl⟩
  exact ⟨_, rfl, ⟨D, ⟨es, clock, (MapKept.heap_alloc w _).1, F, hs, hD⟩, hf⟩, Nat.le_refl _, (Below.refl _ w).alloc (Nat.le_refl _) _⟩
theorem ownsRow_base {w : World} {base base' : Nat} {e : TypeId} {size : Nat} {v : Value} {n : Nat} {xs : List Value} (h : w.ownsRow base e size v n xs) (hb : ∀ b, v.ownBlock = some b → base' ≤ b) : w.ownsRow base' e size v n xs := by
  refine ⟨h.1, ?_⟩
  rcases h.2 with h' | ⟨g, cap, cur, rfl, h1, h2⟩
  · exact .inl h'
  · exact .inr ⟨g, cap, cur, rfl, hb g rfl, h2⟩
theorem putCells_one (l : List (Nat × List UInt8)) : ∀ u ∈ putCells l, u.oneCell' = true := by
  intro u hu
  simp only [putCells, List.mem_flatMap, List.mem_cons, List.mem_map] at hu
  obtain ⟨x, _, rfl | ⟨y, _, rfl⟩⟩ := hu <;> rfl
set_option maxHeartbeats 2000000 in
theorem putsclone_at (v : Value) (l : List (Nat × List UInt8)) (w : World) (h : w.ownsRow 0 47 257 v l.length (putCells l)) (hlen : l.length < 100000) :
    Calls Tryd.prog 42 #[v] w fun e w' => ∃ v', e = .returned v' ∧ w'.ownsRow w.heap.size 47 257 v' l.length (putCells l) ∧ Below w.heap.size w w' := by
  have q22 : ∀ (w : World) (a : Option Addr) (n c n' c' : Nat), (binOp .eql 35 (.slice a n c) (.slice none n' c')).run Tryd.prog w = .ok (.bool a.isNone) w := fun w a n c n' c' => Lib.run_eql_slice_nil w _ _ a n c n' c' Tryd.underlying35
  rcases h.2 with ⟨rfl, h0⟩ | ⟨g, cap, cur, rfl, _, hg, hcap, hm, hsz, hcur⟩
  · have hl : l = [] := List.eq_nil_of_length_eq_zero h0
    subst hl
    clear h h0
    go_enter Tryd.func42, Tryd.ntmps42
    go_wp2
    go_ret
    exact ⟨_, rfl, World.ownsRow_nil _ _ _ _, Below.refl _ _⟩
  · obtain ⟨i, hi, hz, hs2, hby⟩ := info_parts Tryd.infoPut
    have hc : ∀ j u, (putCells l)[j]? = some u → w.cell? ⟨g, j, none⟩ = some u := by
      intro j u hj
      rw [cell_of_row w g j _ _ _ hg]
      rw [← hcur, List.getElem?_take] at hj
      split at hj
      · simpa using hj
      · cases hj
    have HC := Lib.hid hc
    have HL := Lib.hid h.1
    have u22 : ∀ w, Sem.run Tryd.prog (underlying 35) w = .ok (TypeDesc.slice 47) w := run_underlying Tryd.underlying35
    have hgl : g < w.heap.size := (Array.getElem?_eq_some_iff.1 hg).1
    clear hc h hg hcap hm hsz hcur
    go_enter Tryd.func42, Tryd.ntmps42
    go_wp2_with (at_builtin; refine wpList_append_own _ rfl _ _ 35 rfl w.heap.size 47 i _ 257 260 Tryd.underlying35 hi hz hs2 hby (size_putV 0 zeroBlk length_zeroBlk) (by decide) _ _ _ rfl (World.ownsRow_made w #[] 0 (Nat.le_refl _) (Nat.zero_le _) (by simp)) ⟨g, 0, none⟩ l.length cap (putCells l) rfl ?qc1 ?qc2 ?qc3 ?qc4 ?qc5 ?qc6 ?_)
    case qc1 => exact HL.out
    case qc2 =>
      intro j u hj
      rw [Addr.add_lit, Nat.zero_add]
      exact Lib.cell?_alloc_some _ (HC.out j u hj)
    case qc3 => exact putCells_one l
    case qc4 => unfold maxLen; omega
    case qc5 => omega
    case qc6 => simp
    intro v' w1 hown hgrow hnil
    go_wp2
    go_ret
    exact ⟨v', rfl, by simpa using hown, ((Below.refl _ w).alloc (Nat.le_refl _) _).grown hgrow (by simp) (by intro k hk; simp [Value.ownBlock] at hk; omega)⟩
end Go.Proofs.YtnphgaiiiiknpaaDoor
namespace Go.Proofs.YtnphgaiiiiknpaaDoor
open Go.RowKit
set_option linter.unusedSimpArgs false
set_option linter.unusedVariables false
set_option maxRecDepth 100000
theorem sizeDev : (Tryd.prog.info? 65).map (·.size) = some 6 := by kernel_rfl
theorem zeroDev : (Tryd.prog.info? 65).bind (·.zero) = some (.agg #[.int .u32 0, .map none, .slice none 0 0, .pointer none, .bool false, .int .u64 0]) := by kernel_rfl
theorem dvOne (s : Dv) (gm : Nat) (A : Option Addr) (n c : Nat) (q : Option Addr) : (dvCells s gm (.slice A n c) (.pointer q)).all (·.oneCell') = true := by
  rw [Array.all_eq_true_iff_forall_mem]
  intro v hv
  simp only [dvCells, List.mem_toArray, List.mem_cons, List.not_mem_nil, or_false] at hv
  rcases hv with rfl | rfl | rfl | rfl | rfl | rfl <;> rfl
/-- The slots of Copy's region. -/
def cpV (g gm : Nat) (pv : Value) (s : Dv) (base : Nat) (t : Tmp) (v : Value) (w : World) : Prop :=
  match t with
  | 10 => v = .pointer (some ⟨g, 0, none⟩)
  | 11 => v = .pointer (some ⟨g, 0, none⟩)
  | 12 => v = .pointer (some ⟨g, 1, none⟩)
  | 13 => v = .map (some gm)
  | 14 => ∃ b, v = .map (some b) ∧ MapAt w b s.good ∧ base ≤ b
  | 15 => v = .pointer (some ⟨g, 0, none⟩)
  | 16 => v = .pointer (some ⟨g, 0, none⟩)
  | 17 => v = .pointer (some ⟨g, 2, none⟩)
  | 18 => v = pv
  | 19 => w.ownsRow base 47 257 v s.pend.length (putCells s.pend)
  | _ => True
theorem cpV_stab (g gm : Nat) (pv : Value) (s : Dv) (base : Nat) : ∀ t v w w', cpV g gm pv s base t v w → Below w.heap.size w w' → cpV g gm pv s base t v w' := by
  intro t v w w' h hb
  unfold cpV at h ⊢
  split at h
  all_goals first | exact h | skip
  · obtain ⟨b, h1, h2, h3⟩ := h
    exact ⟨b, h1, h2.kept (hb.block b h2.lt), h3⟩
  · exact ownsRow_below h hb
theorem map_ne_row {w : World} {b : Nat} {f : Nat → List UInt8} {base : Nat} {v : Value} {n : Nat} {xs : List Value} {e : TypeId} {sz : Nat} (h : MapAt w b f) (h2 : w.ownsRow base e sz v n xs) : v.ownBlock ≠ some b := by
  intro hv
  obtain ⟨D, ⟨es, clock, hb, _⟩, _⟩ := h
  rcases h2.2 with ⟨rfl, _⟩ | ⟨g, cap, cur, rfl, _, hg, _⟩
  · cases hv
  · cases hv
    rw [hg] at hb
    cases hb
theorem made_dv {w W : World} {g gm : Nat} {pv fv : Value} {s : Dv} (h : DvV W g gm pv fv s) (ha : DvApart g gm pv fv) (hg : ∀ b ∈ dvFoot g gm pv fv, w.heap.size ≤ b) (hb : Below w.heap.size w W) : MadeT w W (dvT g s) :=
  ⟨dvFoot g gm pv fv, ⟨gm, pv, fv, rfl, h⟩, hg, dv_foot ha, hb⟩
theorem wp_call1 {P : Program} {o : Oper} {a : Act} {w : World} {K : Act → World → Prop} {Q : Exit → Act → World → Prop} (f : FuncId) (x : Operand) (ts : Array TypeId) {v : Value} {fn : Func} {c : Code} {R : Ending → World → Prop}
    (ho : o.op = .call { callee := .value (.func f), args := #[x], argTypes := ts }) (hx : a.eval x = v) (hf : P.funcs[f]? = some fn) (hb : fn.body = some c) (hn : (fn.name == "runtime.NumGoroutine") = false)
    (hc : Calls P f #[v] w R) (hK : ∀ e w', R e w' → ∃ v, e = .returned v ∧ K (a.put o.dst v) w') : o.wp P a w K Q := by
  have he : (execOp a.eval o).run P w = .ok (.enter f #[v]) w := by
    unfold execOp
    simp only [ho, resolve]
    show ((do let d ← Deferred.ofValue (.func (.func f) #[] #[]) (#[x].map a.eval); invoke d.target d.args) : Sem Next).run P w = _
    have hn' : ¬ fn.name = "runtime.NumGoroutine" := by simpa using hn
    simp [Deferred.ofValue, invoke, callFunc, hf, hb, hn', hx]
  unfold Oper.wp
  rw [he]
  refine hc.mono ?_
  intro e w' h
  obtain ⟨u, rfl, h2⟩ := hK e w' h
  exact h2
set_option maxHeartbeats 4000000 in
theorem copy_dev {w : World} {g : Nat} {s : Dv} (h : (dvT g s).at w) (hlen : s.pend.length < 100000) :
    Calls Tryd.prog 17 #[.pointer (some ⟨g, 0, none⟩)] w fun e w' => ∃ g', e = .returned (.pointer (some ⟨g', 0, none⟩)) ∧ MadeT w w' (dvT g' s) := by
  have HD := Lib.hid h
  have HLN := Lib.hid hlen
  obtain ⟨gm, pv, fv, hV⟩ := dv_open h
  obtain ⟨q, hq⟩ : ∃ q, fv = .pointer q := by
    have := hV.fuse
    unfold fuseAt at this
    split at this
    · exact ⟨_, this⟩
    · obtain ⟨gf, e, _⟩ := this; exact ⟨_, e⟩
  subst hq
  obtain ⟨A, c, rfl⟩ := own_len hV.pend
  have hrow := hV.row
  have HV := Lib.hid hV
  have HROW := Lib.hid hrow
  have q1 := (Rows.start w).alloc (dvCells s gm (.slice A s.pend.length c) (.pointer q)) 65
  clear h hV hlen hrow
  go_enter Tryd.func17, Tryd.ntmps17
  go_upto_region 4 with (first
    | (go_at_call 33; refine (none_dev HD.out).mono ?_; rintro e w1 ⟨rfl, rfl⟩)
    | refine wpList_load_row rfl 65 _ rfl g rfl 65 (dvCells s gm (.slice A s.pend.length c) (.pointer q)) (0, 0) _ HROW.out Tryd.underlying65 rfl sizeDev ?_
    | refine wpList_alloc_row rfl 65 rfl _ zeroDev ?_
    | refine wpList_store_new rfl 65 _ _ rfl _ (dvCells s gm (.slice A s.pend.length c) (.pointer q)) _ rfl rfl sizeDev rfl (dvOne _ _ _ _ _ _) ?_)
  obtain ⟨W, hW⟩ : ∃ W, W = w.alloc (.cells (dvCells s gm (.slice A s.pend.length c) (.pointer q)) 65) := ⟨_, rfl⟩
  obtain ⟨g3, hg3⟩ : ∃ b, b = w.heap.size := ⟨_, rfl⟩
  rw [← hW] at q1 ⊢
  rw [← hg3] at q1 ⊢
  have HR := Lib.hid q1
  have HG3 := Lib.hid hg3
  have HVW := Lib.hid (HV.out.below q1.below)
  clear q1 hW hg3
  have c1 : W.cell? ⟨g, 1, none⟩ = some (.map (some gm)) := cell_of_row W g 1 _ _ _ HVW.out.row
  have c2 : W.cell? ⟨g, 2, none⟩ = some (.slice A s.pend.length c) := cell_of_row W g 2 _ _ _ HVW.out.row
  have hgl : g < W.heap.size := (Array.getElem?_eq_some_iff.1 HVW.out.row).1
  refine wp_region_flow (by kernel_rfl) 10 (cpV g gm (.slice A s.pend.length c) s W.heap.size) (cpV_stab _ _ _ _ _) (by kernel_rfl) (by kernel_rfl) (by kernel_rfl) (by kernel_rfl) ?heads ?tail
  case heads =>
    refine ⟨.inr ⟨rfl, 10, rfl, fun a v hB hO hD K hK => ?_⟩, .inr ⟨rfl, 11, rfl, fun a v hB hO hD K hK => ?_⟩, .inr ⟨rfl, 12, rfl, fun a v hB hO hD K hK => ?_⟩, .inr ⟨rfl, 13, rfl, fun a v hB hO hD K hK => ?_⟩, .inr ⟨rfl, 14, rfl, fun a v hB hO hD K hK => ?_⟩, .inr ⟨rfl, 15, rfl, fun a v hB hO hD K hK => ?_⟩, .inr ⟨rfl, 16, rfl, fun a v hB hO hD K hK => ?_⟩, .inr ⟨rfl, 17, rfl, fun a v hB hO hD K hK => ?_⟩, .inr ⟨rfl, 18, rfl, fun a v hB hO hD K hK => ?_⟩, .inr ⟨rfl, 19, rfl, fun a v hB hO hD K hK => ?_⟩, .inl (by decide), .inl (by decide), .inl (by decide), .inl (by decide), trivial⟩
    · exact wp_move _ _ rfl (eval_of (t := 0) (by rw [hO 0 (not_dst 0 (by kernel_rfl))]; rfl)) (hK _ _ rfl (Below.refl _ _))
    · obtain ⟨u, hu, hv⟩ := flow_of hD 0 (by kernel_rfl) 10 (by kernel_rfl)
      exact wp_nilcheck _ _ rfl (hu.trans hv) (hK _ _ rfl (Below.refl _ _))
    · obtain ⟨u, hu, hv⟩ := flow_of hD 1 (by kernel_rfl) 11 (by kernel_rfl)
      exact wp_field 65 1 62 1 0 _ g 0 rfl (by kernel_rfl) (by kernel_rfl) (by kernel_rfl) (hu.trans hv) (hK _ _ rfl (Below.refl _ _))
    · obtain ⟨u, hu, hv⟩ := flow_of hD 2 (by kernel_rfl) 12 (by kernel_rfl)
      exact wp_load_cell 62 _ ⟨g, 1, none⟩ (.map (some gm)) _ rfl rfl (hu.trans hv) ((hB.cell hgl).trans c1) Tryd.underlying62 (hK _ _ rfl (Below.refl _ _))
    · obtain ⟨u, hu, hv⟩ := flow_of hD 3 (by kernel_rfl) 13 (by kernel_rfl)
      refine wp_call1 41 (.tmp 13) _ rfl (hu.trans hv) Tryd.func41 rfl (by kernel_rfl) (mapclone_at gm s.good v ((HVW.out.good).kept (hB.block gm HVW.out.good.lt))) ?_
      rintro e w2 ⟨b', rfl, h1, h2, h3⟩
      exact ⟨_, rfl, hK _ _ ⟨b', rfl, h1, Nat.le_trans hB.size h2⟩ h3⟩
    · exact wp_move _ _ rfl (eval_of (t := 0) (by rw [hO 0 (not_dst 0 (by kernel_rfl))]; rfl)) (hK _ _ rfl (Below.refl _ _))
    · obtain ⟨u, hu, hv⟩ := flow_of hD 5 (by kernel_rfl) 15 (by kernel_rfl)
      exact wp_nilcheck _ _ rfl (hu.trans hv) (hK _ _ rfl (Below.refl _ _))
    · obtain ⟨u, hu, hv⟩ := flow_of hD 6 (by kernel_rfl) 16 (by kernel_rfl)
      exact wp_field 65 2 35 2 0 _ g 0 rfl (by kernel_rfl) (by kernel_rfl) (by kernel_rfl) (hu.trans hv) (hK _ _ rfl (Below.refl _ _))
    · obtain ⟨u, hu, hv⟩ := flow_of hD 7 (by kernel_rfl) 17 (by kernel_rfl)
      exact wp_load_cell 35 _ ⟨g, 2, none⟩ (.slice A s.pend.length c) _ rfl rfl (hu.trans hv) ((hB.cell hgl).trans c2) Tryd.underlying35 (hK _ _ rfl (Below.refl _ _))
    · obtain ⟨u, hu, hv⟩ := flow_of hD 8 (by kernel_rfl) 18 (by kernel_rfl)
      refine wp_call1 42 (.tmp 18) _ rfl (hu.trans hv) Tryd.func42 rfl (by kernel_rfl) (putsclone_at _ s.pend v (ownsRow_below HVW.out.pend hB) HLN.out) ?_
      rintro e w2 ⟨v', rfl, h1, h2⟩
      exact ⟨_, rfl, hK _ _ (ownsRow_base h1 (fun b hb => Nat.le_trans hB.size (World.ownsRow.lt h1 b hb).1)) h2⟩
  case tail =>
    intro F v hV hB
    obtain ⟨gm', e14, hm, hmb⟩ : ∃ b, F 14 = .map (some b) ∧ MapAt v b s.good ∧ W.heap.size ≤ b := hV _ (List.mem_of_getElem? (i := 4) rfl) 14 rfl
    have v19 : v.ownsRow W.heap.size 47 257 (F 19) s.pend.length (putCells s.pend) := hV _ (List.mem_of_getElem? (i := 9) rfl) 19 rfl
    simp only [List.take_succ_cons, List.take_zero, List.drop_succ_cons, List.drop_zero, putAll, List.setIfInBounds_toArray, List.set_cons_zero, List.set_cons_succ]
    rw [e14]
    generalize F 19 = s19 at v19 ⊢
    clear hV e14
    obtain ⟨A', c', rfl⟩ := own_len v19
    have hne := map_ne_row hm v19
    have hR := HR.out.since hB
    have hlt3 : g3 < W.heap.size := HR.out.lt 0 rfl
    have hpb : ∀ b, (Value.slice A' s.pend.length c').ownBlock = some b → W.heap.size ≤ b := fun b hb => (World.ownsRow.lt v19 b hb).1
    have d1 : v.cell? ⟨g3, 1, none⟩ = some (.map (some gm)) := hR.cell 0 1 rfl rfl
    have f1 : v.frozen? ⟨g3, 1, none⟩ = false := hR.free 0 1 rfl
    have hR1 := hR.setCell 0 1 (.map (some gm')) rfl
    have d2 : (v.setCell ⟨g3, 1, none⟩ (.map (some gm'))).cell? ⟨g3, 2, none⟩ = some (.slice A s.pend.length c) := hR1.cell 0 2 rfl rfl
    have f2 : (v.setCell ⟨g3, 1, none⟩ (.map (some gm'))).frozen? ⟨g3, 2, none⟩ = false := hR1.free 0 2 rfl
    have hR2 := hR1.setCell 0 2 (.slice A' s.pend.length c') rfl
    have hkept : ∀ b, b ≠ g3 → ((v.setCell ⟨g3, 1, none⟩ (.map (some gm'))).setCell ⟨g3, 2, none⟩ (.slice A' s.pend.length c')).heap[b]? = v.heap[b]? := fun b hb => (heap_setCell_other _ _ _ _ hb).trans (heap_setCell_other _ _ _ _ hb)
    have hm2 := hm.kept (hkept gm' (by omega))
    have hp2 := ownsRow_same v19 (fun b hb => hkept b (by have := hpb b hb; omega))
    have hV2 := HVW.out.below hB
    have hV3 := hV2.same (fun b hb => hkept b (by have := HV.out.lt b hb; have := HG3.out; omega))
    have HM2 := Lib.hid hm2
    have HP2 := Lib.hid hp2
    have HR2 := Lib.hid hR2
    have HV3 := Lib.hid hV3
    have HNE := Lib.hid hne
    have HPB := Lib.hid hpb
    clear hm2 hp2 hR2 hV3 hV2 hm v19 hR hR1 hkept hne hpb HD HV HROW c1 c2
    have hr : Rows w ((v.setCell ⟨g3, 1, none⟩ (.map (some gm'))).setCell ⟨g3, 2, none⟩ (.slice A' s.pend.length c')) [(g3, dvCells s gm' (.slice A' s.pend.length c') (.pointer q), 65)] := by
      have := HR2.out
      simpa [dvCells] using this
    have HRX := Lib.hid hr
    clear hr HR2
    go_upto_region 5 with (fail)
    clear d1 d2 f1 f2
    obtain ⟨X, hX⟩ : ∃ X, X = (v.setCell ⟨g3, 1, none⟩ (.map (some gm'))).setCell ⟨g3, 2, none⟩ (.slice A' s.pend.length c') := ⟨_, rfl⟩
    rw [← hX] at HRX HM2 HP2 HV3 ⊢
    have hsz : W.heap.size ≤ X.heap.size := by rw [hX]; simpa using hB.size
    clear hX hB
    have c3 : X.cell? ⟨g, 3, none⟩ = some (.pointer q) := cell_of_row X g 3 _ _ _ HV3.out.row
    have hfu := HV3.out.fuse
    have hge3 : w.heap.size ≤ g3 := Nat.le_of_eq HG3.out.symm
    have HOK := Lib.hid HV3.out.ok
    clear HV3 HVW HR
    cases hf : s.fuse with
    | none =>
      rw [hf] at hfu
      have e : q = none := by have : Value.pointer q = .pointer none := hfu; cases this; rfl
      subst e
      clear hfu
      go_wp2
      go_ret
      refine ⟨g3, rfl, made_dv (gm := gm') (pv := .slice A' s.pend.length c') (fv := .pointer none) ⟨HRX.out.get 0 rfl, HM2.out, ownsRow_base HP2.out (fun _ _ => Nat.zero_le _), by rw [hf]; rfl, HOK.out⟩ ⟨by omega, fun k hk => ⟨by have := HPB.out k hk; omega, fun e => HNE.out (by rw [hk, e])⟩, fun k hk => by simp [ptrBlock] at hk⟩ ?_ HRX.out.below⟩
      intro b hb
      simp only [dvFoot, List.mem_cons, List.mem_append, ptrBlock, List.not_mem_nil, or_false] at hb
      rcases hb with h | h | h
      · omega
      · omega
      · have := HPB.out b (by simpa using h); omega
    | some k =>
      rw [hf] at hfu
      obtain ⟨gf, e, hgf⟩ : ∃ gf, Value.pointer q = .pointer (some ⟨gf, 0, none⟩) ∧ X.heap[gf]? = some (.cells #[.int .i64 (k : Int)] 3 (0, 0)) := hfu
      cases e
      have ck : X.cell? ⟨gf, 0, none⟩ = some (.int .i64 (k : Int)) := cell_of_row X gf 0 _ _ _ hgf
      have hR4 := HRX.out.alloc #[.int .i64 (k : Int)] 3
      have d3 : (X.alloc (.cells #[.int .i64 (k : Int)] 3)).cell? ⟨g3, 3, none⟩ = some (.pointer (some ⟨gf, 0, none⟩)) := hR4.cell 1 3 rfl rfl
      have f3 : (X.alloc (.cells #[.int .i64 (k : Int)] 3)).frozen? ⟨g3, 3, none⟩ = false := hR4.free 1 3 rfl
      have hR5 := hR4.setCell 1 3 (.pointer (some ⟨X.heap.size, 0, none⟩)) rfl
      have hr5 : Rows w ((X.alloc (.cells #[.int .i64 (k : Int)] 3)).setCell ⟨g3, 3, none⟩ (.pointer (some ⟨X.heap.size, 0, none⟩))) [(X.heap.size, #[.int .i64 (k : Int)], 3), (g3, dvCells s gm' (.slice A' s.pend.length c') (.pointer (some ⟨X.heap.size, 0, none⟩)), 65)] := by
        simpa [dvCells] using hR5
      have HR5 := Lib.hid hr5
      have hold : ∀ b, b ≠ g3 → b < X.heap.size → ((X.alloc (.cells #[.int .i64 (k : Int)] 3)).setCell ⟨g3, 3, none⟩ (.pointer (some ⟨X.heap.size, 0, none⟩))).heap[b]? = X.heap[b]? := fun b hb hl => (heap_setCell_other _ _ _ _ hb).trans (Go.heap_alloc_old _ _ hl)
      have HM5 := Lib.hid (HM2.out.kept (hold gm' (by omega) HM2.out.lt))
      have HP5 := Lib.hid (ownsRow_same HP2.out (fun b hb => hold b (by have := HPB.out b hb; omega) (World.ownsRow.lt HP2.out b hb).2))
      have hml := HM2.out.lt
      have hpl : ∀ b, (Value.slice A' s.pend.length c').ownBlock = some b → b < X.heap.size := fun b hb => (World.ownsRow.lt HP2.out b hb).2
      have HPL := Lib.hid hpl
      clear hgf hR4 hR5 hr5 hold hpl
      go_wp2
      go_ret
      refine ⟨g3, rfl, made_dv (gm := gm') (pv := .slice A' s.pend.length c') (fv := .pointer (some ⟨X.heap.size, 0, none⟩)) ⟨HR5.out.get 1 rfl, HM5.out, ownsRow_base HP5.out (fun _ _ => Nat.zero_le _), by rw [hf]; exact ⟨_, rfl, HR5.out.get 0 rfl⟩, HOK.out⟩ ⟨by omega, fun k hk => ⟨by have := HPB.out k hk; omega, fun e => HNE.out (by rw [hk, e])⟩, fun b hb => ?_⟩ ?_ HR5.out.below⟩
      · simp only [ptrBlock, List.mem_singleton] at hb
        subst hb
        refine ⟨by omega, by omega, fun e => ?_⟩
        have := HPL.out _ e
        omega
      · intro b hb
        simp only [dvFoot, List.mem_cons, List.mem_append, ptrBlock, List.not_mem_nil, or_false] at hb
        rcases hb with h | h | h | h
        · omega
        · omega
        · have := HPB.out b (by simpa using h); omega
        · omega
end Go.Proofs.YtnphgaiiiiknpaaDoor
