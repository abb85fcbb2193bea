/- The device layer: Read. -/
import Derived.Test.YtnbdnnlomgjlmaaDev11
import Derived.Scope
import Derived.Test.YtnbdnnlomgjlmaaWpq
import Derived.Test.YtnbdnnlomgjlmaaAppend
namespace Go.Proofs.Ytnbdnnlomgjlmaa
open Go.RowKit
set_option linter.unusedSimpArgs false
set_option linter.unusedVariables false
set_option maxRecDepth 100000
def readB (s : Dv) (a : Nat) : List UInt8 := if s.size ≤ a then zeroBlk else s.read a
def readE (s : Dv) (a : Nat) : Int := if s.size ≤ a then 2 else 0
theorem length_readB (s : Dv) (h : s.Ok) (a : Nat) : (readB s a).length = 256 := by
  unfold readB
  split
  · exact length_zeroBlk
  · unfold Dv.read lastB
    have : ∀ (l : List (Nat × List UInt8)) (d : List UInt8), d.length = 256 → (∀ x ∈ l, x.2.length = 256) → (l.foldl (fun r x => if x.1 = a then x.2 else r) d).length = 256 := by
      intro l
      induction l with
      | nil => intro d hd _; exact hd
      | cons x l ih =>
        intro d hd hl
        refine ih _ ?_ (fun y hy => hl y (by simp [hy]))
        show (if x.1 = a then x.2 else d).length = 256
        split
        · exact hl x (by simp)
        · exact hd
    exact this _ _ (h.good a) (fun x hx => (h.pend x hx).2)
theorem wpList_look_map {ops : Array Oper} {o : Oper} {act : Act} {rest : List Oper} {w : World} {Q : Exit → Act → World → Prop} (hgd : o.guard = none) (m x : Operand) (ho : o.op = Op.lookup 105 m x false)
    (gm : Nat) (f : Nat → List UInt8) (hm : act.eval m = .map (some gm)) (hown : MapAt w gm f) (a : Nat) (ha : a < 4294967296) (hx : act.eval x = .int .u32 (a : Int))
    (hK : wpList Try.prog ops Q rest (act.put o.dst (.agg (blk (f a)))) w) : wpList Try.prog ops Q (o :: rest) act w := by
  refine wpList_plain hgd fun K hK' => ?_
  have hrun := (hown.look a ha).1
  unfold Oper.wp
  simp [execOp, ho, hm, hx, hrun, Result.andThen]
  exact hK' _ _ hK
/-- A slice literal of two elements. -/
theorem wp_build_two {P : Program} {o : Oper} {a : Act} {w : World} {K : Act → World → Prop} {Q : Exit → Act → World → Prop} (t e : TypeId) (p q : Operand) (ho : o.op = .buildSlice t 2 #[(0, p), (1, q)]) (c1 c2 : Array Value) (hx : a.eval p = .agg c1) (hy : a.eval q = .agg c2)
    (ie : TypeInfo) (z : Value) (hu : P.underlying t = some (.slice e)) (hie : P.info? e = some ie) (hz : ie.zero = some z) (hs : c1.size = ie.size) (hs2 : c2.size = ie.size) (h0 : 0 < ie.size) (h1 : ie.size ≤ 1000)
    (h : K (a.put o.dst (.slice (some ⟨w.heap.size, 0, none⟩) 2 2)) (w.alloc (.cells (c1 ++ c2) e))) : o.wp P a w K Q := by
  refine wp_buildSlice t e 2 _ ho (c1 ++ c2) ie z hu hie hz (by omega) (by omega) ?_ h
  have := Great.fill_whole (s := ie.size) h0 [Value.agg c1, Value.agg c2] ((Array.range (2 * ie.size)).map (z.cells[· % z.cells.size]!)) (by
    intro v hv
    simp only [List.mem_cons, List.not_mem_nil, or_false] at hv
    rcases hv with rfl | rfl
    · simpa [Value.cells] using hs
    · simpa [Value.cells] using hs2) (by simp)
  have e1 : ((#[(0, p), (1, q)] : Array (Nat × Operand)).map fun (i, x) => (i, a.eval x)).toList = (([Value.agg c1, Value.agg c2].zipIdx 0).map fun x => (x.2, x.1)) := by simp [hx, hy]
  rw [e1, this]
  simp [Value.cells]
/-- The slots of Read's region. -/
def rdV (g a gp c n k : Nat) (a' : Nat) (b' : List UInt8) (base : Nat) (t : Tmp) (v : Value) (w : World) : Prop :=
  match t with
  | 36 => v = .pointer (some ⟨g, 0, none⟩)
  | 37 => v = .pointer (some ⟨g, 0, none⟩)
  | 38 => v = .pointer (some ⟨g, 2, none⟩)
  | 39 => v = .slice (some ⟨gp, 0, none⟩) n c
  | 40 => v = .pointer (some ⟨g, 0, none⟩)
  | 41 => v = .pointer (some ⟨g, 0, none⟩)
  | 42 => v = .pointer (some ⟨g, 2, none⟩)
  | 43 => v = .slice (some ⟨gp, 0, none⟩) n c
  | 44 => v = .int .i64 (n : Int)
  | 45 => v = .int .i64 ((n - 1 : Nat) : Int)
  | 46 => v = .int .i64 (k : Int)
  | 47 => v = .int .i64 ((n - 1 - k : Nat) : Int)
  | 48 => v = .pointer (some ⟨gp, (n - 1 - k) * 257, none⟩)
  | 49 => v = .agg (putV a' b')
  | 9 => ∃ b, v = .pointer (some ⟨b, 0, none⟩) ∧ w.heap[b]? = some (.cells (putV 0 zeroBlk) 114 (0, 0)) ∧ base ≤ b
  | _ => True
set_option maxHeartbeats 4000000 in
theorem read_dev {w : World} {g : Nat} {s : Dv} (h : (dvT g s).at w) (a : Nat) (ha : a < 4294967296) :
    Calls Try.prog 45 #[.pointer (some ⟨g, 0, none⟩), .int .u32 (a : Int)] w fun e w' => e = .returned (.tuple #[.agg (blk (readB s a)), .int .i64 (readE s a)]) ∧ Below w.heap.size w w' := by
  have H := Lib.hid h
  have HA := Lib.hid ha
  clear h ha
  obtain ⟨i, hi, hz, hs2, hby⟩ := info_parts Try.infoAsk
  have hI := Lib.hid hi
  have hZ := Lib.hid hz
  clear hi hz
  have hmf : ∀ (fn : Fn) (first cap : Array Value) (w : World), (Instr.makeFunc fn first cap).run Try.prog w = .ok (.func fn first cap) w := fun _ _ _ _ => rfl
  obtain ⟨W0, hW0⟩ : ∃ W, W = w.alloc (.cells (zeros 256 (.int .u8 0)) 23) := ⟨_, rfl⟩
  obtain ⟨g4, hg4⟩ : ∃ b, b = w.heap.size := ⟨_, rfl⟩
  have R0 : Rows w W0 [(g4, blk zeroBlk, 23)] := by rw [hW0, hg4, zero_cells]; exact (Rows.start w).alloc _ _
  have HR0 := Lib.hid R0
  have HG4 := Lib.hid hg4
  clear R0
  have hE : ∀ x : Ask, x.e = 2 → x.r = decide (s.size ≤ a) → checkE [noneQ g, x] = readE s a := by
    intro x e1 e2
    unfold checkE readE
    by_cases hs : s.size ≤ a
    · rw [if_pos hs, List.find?_cons_of_neg (by simp [noneQ]), List.find?_cons_of_pos (by simp [e2, hs])]; exact e1
    · rw [if_neg hs, List.find?_cons_of_neg (by simp [noneQ]), List.find?_cons_of_neg (by simp [e2, hs])]; rfl
  have HE := Lib.hid hE
  clear hE
  go_enter Try.func45, Try.ntmps45
  go_upto_region 1 with (refine wpList_alloc_row rfl 23 rfl _ zeroB ?_)
  rw [← hW0, ← hg4]
  clear hW0 hg4
  refine wp_scope_straight ?_
  go_upto_region 2 with (first
    | (go_at_call 72; refine (far_dev (H.out.since HR0.out.below) a).mono ?_; rintro e w1 ⟨x, rfl, hxo, hxe, hxr, hb1⟩; have HXO := Lib.hid hxo; have HXE := Lib.hid hxe; have HXR := Lib.hid hxr; have HB1 := Lib.hid hb1; clear hxo hxe hxr hb1)
    | refine wpList_plain rfl fun K hK' => wp_build_two 132 112 _ _ rfl (askV (noneQ g)) (askV x) rfl rfl i _ Try.underlying132 hI.out hZ.out (by rw [hs2]; rfl) (by rw [hs2]; rfl) (by omega) (by omega) (hK' _ _ ?_)
    | (go_at_call 73; refine (check_any _ w1.heap.size 2 [noneQ g, x] (askV (noneQ g) ++ askV x) 112 (by simp) (heap_alloc_new _ _) (by simp [askV, askCells]) (by
        intro z hz
        simp only [List.mem_cons, List.not_mem_nil, or_false] at hz
        rcases hz with rfl | rfl
        · exact noneQ_ok (H.out.since (HR0.out.below.trans ((HB1.out.trans ((Below.refl _ _).alloc HB1.out.size _)).mono HR0.out.below.size)))
        · exact HXO.out.below ((Below.refl _ _).alloc (Nat.le_refl _) _))).mono ?_; rintro e w2 ⟨rfl, hb2⟩; have HB2 := Lib.hid hb2; clear hb2; rw [HE.out x HXE.out HXR.out]))
  have HR2 := Lib.hid (HR0.out.call (HB1.out.trans (((Below.refl _ _).alloc HB1.out.size _).trans (HB2.out.mono (by have := HB1.out.size; simp; omega)))))
  clear HB1 HB2 HXO HXE HXR HE HR0 hI hZ hs2 hby
  by_cases hfar : s.size ≤ a
  · have hre : readE s a = 2 := by unfold readE; rw [if_pos hfar]
    have HRB : Hid (readB s a = zeroBlk) := Lib.hid (by unfold readB; rw [if_pos hfar])
    have HRE := Lib.hid hre
    rw [hre]
    clear hre hfar
    go_wp2_with (first
      | refine wpList_build_none rfl 23 rfl _ zeroB Try.underlying23 rfl ?_
      | refine wpList_store_row rfl 23 _ _ rfl g4 (zeros 256 (.int .u8 0)) rfl rfl 23 _ (HR2.out.get 0 rfl) (by rw [size_zeros]; exact sizeB) (by rw [size_zeros, size_blk, length_zeroBlk]) (by rw [zero_cells]; exact blk_one _) ?_)
    have R3 := HR2.out.setRow 0 (zeros 256 (.int .u8 0)) rfl
    simp only [Exit.noGoto]
    refine bodyPost_ret (v := .tuple #[.agg (zeros 256 (.int .u8 0)), .int .i64 2]) (results_cell_slot rfl _ _ g4 23 _ (0, 0) _ _ rfl rfl (R3.get 0 rfl) Try.underlying23 rfl (by rw [size_zeros]; exact sizeB)) rfl ⟨?_, R3.below⟩
    rw [HRB.out, HRE.out, zero_cells]
  · have hre : readE s a = 0 := by unfold readE; rw [if_neg hfar]
    have HRB : Hid (readB s a = s.read a) := Lib.hid (by unfold readB; rw [if_neg hfar])
    have HRE := Lib.hid hre
    rw [hre]
    clear hre hfar
    obtain ⟨gm, pv, fv, hV⟩ := dv_open (H.out.since HR2.out.below)
    have hgl := (MapAt.look hV.good a HA.out).2
    obtain ⟨A, c, hpv⟩ := own_len hV.pend
    subst hpv
    have h1 : w2.cell? ⟨g, 1, none⟩ = some (.map (some gm)) := cell_of_row w2 g 1 _ _ _ hV.row
    have HV := Lib.hid hV
    have HGL : Hid ((blk (s.good a)).size = 256) := Lib.hid (by rw [size_blk, hgl])
    have HGL2 := Lib.hid hgl
    have hnb : s.pend.length ≤ 9223372036854775807 := by
      rcases hV.pend.2 with ⟨_, h0⟩ | ⟨_, cap, _, _, _, _, hc, hm, _⟩
      · omega
      · unfold maxLen at hm; omega
    clear hV hgl
    have q1 := HR2.out.alloc (blk (s.good a)) 23
    go_upto_region 5 with (first
      | refine wpList_look_map rfl _ _ rfl gm s.good rfl HV.out.good a HA.out rfl ?_
      | refine wpList_alloc_row rfl 23 rfl _ zeroB ?_
      | refine wpList_store_new rfl 23 _ _ rfl _ (blk (s.good a)) _ rfl rfl (by rw [HGL.out]; exact sizeB) (by rw [HGL.out, size_zeros]) (blk_one _) ?_)
    have hb3 : Below w2.heap.size w2 (w2.alloc (.cells (blk (s.good a)) 23)) := (Below.refl _ _).alloc (Nat.le_refl _) _
    obtain ⟨W3, hW3⟩ : ∃ W, W = w2.alloc (.cells (blk (s.good a)) 23) := ⟨_, rfl⟩
    rw [← hW3] at q1 hb3 ⊢
    obtain ⟨g7, hg7⟩ : ∃ b, b = w2.heap.size := ⟨_, rfl⟩
    rw [← hg7] at q1 ⊢
    simp only [Act.put, List.setIfInBounds_toArray, List.set_cons_zero, List.set_cons_succ]
    have HR3 := Lib.hid q1
    have hV3 := HV.out.below hb3
    have h2 : W3.cell? ⟨g, 2, none⟩ = some (.slice A s.pend.length c) := cell_of_row W3 g 2 _ _ _ hV3.row
    have HV3 := Lib.hid hV3
    obtain ⟨n, hn⟩ : ∃ n, n = s.pend.length := ⟨_, rfl⟩
    have hV3s := hV3
    rw [← hn] at h2 hnb
    have HNN := Lib.hid hn
    clear hV3 h1 hn q1 hW3 hg7 hb3 HV HR2 hV3s hmf
    go_step3
    go_wp2_with fail
    go_loopw [33, 8, 9] (fun i _ _ wr => ∃ k : Nat, k ≤ n ∧ i = .int .i64 (k : Int) ∧ (∀ j, (hj : j < s.pend.length) → n - k ≤ j → s.pend[j].1 ≠ a) ∧ Rows w wr [(g7, blk (s.good a), 23), (g4, blk zeroBlk, 23)] ∧ Below W3.heap.size W3 wr) (fun i _ _ _ => n - (intOf i).toNat)
    case atStart => exact ⟨0, by omega, rfl, by intro j hj h1; have := HNN.out; omega, HR3.out, Below.refl _ _⟩
    case round =>
      obtain ⟨k, hk, rfl, hne, hRr, hBr⟩ := hrel
      have HNE := Lib.hid hne
      have HRR := Lib.hid hRr
      have HBR := Lib.hid hBr
      clear hne hRr hBr
      by_cases hlt : k < n
      · have hjl : n - 1 - k < s.pend.length := by have := HNN.out; omega
        obtain ⟨⟨a', b'⟩, hab⟩ : ∃ x, x = s.pend[n - 1 - k] := ⟨_, rfl⟩
        have hgk : s.pend[n - 1 - k]? = some (a', b') := by rw [List.getElem?_eq_getElem hjl, hab]
        obtain ⟨gp, hA⟩ : ∃ gp, A = some ⟨gp, 0, none⟩ := by
          rcases HV3.out.pend.2 with ⟨_, h0⟩ | ⟨gp, _, _, e, _⟩
          · omega
          · simp only [Value.slice.injEq] at e; exact ⟨gp, e.1⟩
        subst hA
        have HVR := Lib.hid (HV3.out.below HBR.out)
        have hbl := HV3.out.ok.pend (a', b') (List.mem_of_getElem? hgk)
        have hrange : wr.rangeAt gp ((n - 1 - k) * 257) (putV a' b').toList := pend_range HVR.out.pend (fun x hx => (HV3.out.ok.pend x hx).2) (n - 1 - k) a' b' hgk
        have hps := size_putV a' b' hbl.2
        have c2 : wr.cell? ⟨g, 2, none⟩ = some (.slice (some ⟨gp, 0, none⟩) n c) := by rw [HNN.out]; exact cell_of_row wr g 2 _ _ _ HVR.out.row
        have HRG := Lib.hid hrange
        have HPS := Lib.hid hps
        have HBL := Lib.hid hbl
        have HAB := Lib.hid hab
        have HC2 := Lib.hid c2
        clear hrange hps hbl hab c2 hgk
        go_upto_region 8 with (fail)
        refine wp_region_flow (by kernel_rfl) 15 (rdV g a gp c n k a' b' wr.heap.size) ?stab (by kernel_rfl) (by kernel_rfl) (by kernel_rfl) (by kernel_rfl) ?heads ?tail
        case stab =>
          intro t v x y h hb
          unfold rdV at h ⊢
          split at h
          all_goals first | exact h | skip
          obtain ⟨b, e1, e2, e3⟩ := h
          exact ⟨b, e1, (hb.block b (Array.getElem?_eq_some_iff.1 e2).1).trans e2, e3⟩
        case heads =>
          refine ⟨.inr ⟨rfl, 36, rfl, fun a1 v hB hO hD K hK => ?_⟩, .inr ⟨rfl, 37, rfl, fun a1 v hB hO hD K hK => ?_⟩, .inr ⟨rfl, 38, rfl, fun a1 v hB hO hD K hK => ?_⟩, .inr ⟨rfl, 39, rfl, fun a1 v hB hO hD K hK => ?_⟩, .inr ⟨rfl, 40, rfl, fun a1 v hB hO hD K hK => ?_⟩, .inr ⟨rfl, 41, rfl, fun a1 v hB hO hD K hK => ?_⟩, .inr ⟨rfl, 42, rfl, fun a1 v hB hO hD K hK => ?_⟩, .inr ⟨rfl, 43, rfl, fun a1 v hB hO hD K hK => ?_⟩, .inr ⟨rfl, 44, rfl, fun a1 v hB hO hD K hK => ?_⟩, .inr ⟨rfl, 45, rfl, fun a1 v hB hO hD K hK => ?_⟩, .inr ⟨rfl, 46, rfl, fun a1 v hB hO hD K hK => ?_⟩, .inr ⟨rfl, 47, rfl, fun a1 v hB hO hD K hK => ?_⟩, .inr ⟨rfl, 48, rfl, fun a1 v hB hO hD K hK => ?_⟩, .inr ⟨rfl, 49, rfl, fun a1 v hB hO hD K hK => ?_⟩, .inr ⟨rfl, 9, rfl, fun a1 v hB hO hD K hK => ?_⟩, .inl (by decide), trivial⟩
          · skip
            exact wp_move _ _ rfl (eval_of (t := 0) (by rw [hO 0 (not_dst 0 (by kernel_rfl))]; rfl)) (hK _ _ rfl (Below.refl _ _))
          · skip
            obtain ⟨u, hu, hv⟩ := flow_of hD 0 (by kernel_rfl) 36 (by kernel_rfl)
            exact wp_nilcheck _ _ rfl (hu.trans hv) (hK _ _ rfl (Below.refl _ _))
          · skip
            obtain ⟨u, hu, hv⟩ := flow_of hD 1 (by kernel_rfl) 37 (by kernel_rfl)
            exact wp_field 108 2 73 2 0 _ g 0 rfl (by kernel_rfl) (by kernel_rfl) (by kernel_rfl) (hu.trans hv) (hK _ _ rfl (Below.refl _ _))
          · skip
            obtain ⟨u, hu, hv⟩ := flow_of hD 2 (by kernel_rfl) 38 (by kernel_rfl)
            exact wp_load_cell 73 _ ⟨g, 2, none⟩ (.slice (some ⟨gp, 0, none⟩) n c) _ rfl rfl (hu.trans hv) ((hB.cell (by have := (Array.getElem?_eq_some_iff.1 HVR.out.row).1; exact this)).trans HC2.out) Try.underlying73 (hK _ _ rfl (Below.refl _ _))
          · skip
            exact wp_move _ _ rfl (eval_of (t := 0) (by rw [hO 0 (not_dst 0 (by kernel_rfl))]; rfl)) (hK _ _ rfl (Below.refl _ _))
          · skip
            obtain ⟨u, hu, hv⟩ := flow_of hD 4 (by kernel_rfl) 40 (by kernel_rfl)
            exact wp_nilcheck _ _ rfl (hu.trans hv) (hK _ _ rfl (Below.refl _ _))
          · skip
            obtain ⟨u, hu, hv⟩ := flow_of hD 5 (by kernel_rfl) 41 (by kernel_rfl)
            exact wp_field 108 2 73 2 0 _ g 0 rfl (by kernel_rfl) (by kernel_rfl) (by kernel_rfl) (hu.trans hv) (hK _ _ rfl (Below.refl _ _))
          · skip
            obtain ⟨u, hu, hv⟩ := flow_of hD 6 (by kernel_rfl) 42 (by kernel_rfl)
            exact wp_load_cell 73 _ ⟨g, 2, none⟩ (.slice (some ⟨gp, 0, none⟩) n c) _ rfl rfl (hu.trans hv) ((hB.cell (by have := (Array.getElem?_eq_some_iff.1 HVR.out.row).1; exact this)).trans HC2.out) Try.underlying73 (hK _ _ rfl (Below.refl _ _))
          · skip
            obtain ⟨u, hu, hv⟩ := flow_of hD 7 (by kernel_rfl) 43 (by kernel_rfl)
            refine wp_of_wq rfl (wk_len_slice 73 114 _ (some ⟨gp, 0, none⟩) n c Try.underlying73 (by exact wanted_none rfl) rfl (hu.trans hv) ?_)
            refine wk_nil ?_
            intro w' hC
            exact hK _ _ rfl hC
          · skip
            obtain ⟨u, hu, hv⟩ := flow_of hD 8 (by kernel_rfl) 44 (by kernel_rfl)
            refine wp_of_wq rfl (wk_sub _ _ _ _ (n : Int) 1 ((n - 1 : Nat) : Int) (by exact wanted_none rfl) rfl (hu.trans hv) rfl (by rw [IntKind.wrap_i64]; omega) ?_)
            refine wk_nil ?_
            intro w' hC
            exact hK _ _ rfl hC
          · skip
            exact wp_move _ _ rfl (eval_of (t := 8) (by rw [hO 8 (not_dst 8 (by kernel_rfl))]; rfl)) (hK _ _ rfl (Below.refl _ _))
          · skip
            obtain ⟨u, hu, hv⟩ := flow_of hD 9 (by kernel_rfl) 45 (by kernel_rfl)
            obtain ⟨u', hu', hv'⟩ := flow_of hD 10 (by kernel_rfl) 46 (by kernel_rfl)
            refine wp_of_wq rfl (wk_sub _ _ _ _ ((n - 1 : Nat) : Int) (k : Int) ((n - 1 - k : Nat) : Int) (by exact wanted_none rfl) rfl (hu.trans hv) (hu'.trans hv') (by rw [IntKind.wrap_i64]; omega) ?_)
            refine wk_nil ?_
            intro w' hC
            exact hK _ _ rfl hC
          · skip
            obtain ⟨u, hu, hv⟩ := flow_of hD 3 (by kernel_rfl) 39 (by kernel_rfl)
            obtain ⟨u', hu', hv'⟩ := flow_of hD 11 (by kernel_rfl) 47 (by kernel_rfl)
            refine wp_of_wq rfl (wk_index 73 114 _ _ gp 0 n c (n - 1 - k) 257 .i64 (by exact wanted_none rfl) rfl Try.underlying73 sizePut (hu.trans hv) (hu'.trans hv') (by omega) ?_)
            rw [Nat.zero_add]
            refine wk_nil ?_
            intro w' hC
            exact hK _ _ rfl hC
          · skip
            obtain ⟨u, hu, hv⟩ := flow_of hD 12 (by kernel_rfl) 48 (by kernel_rfl)
            refine wp_of_wq rfl (wk_load_mid 114 _ gp ((n - 1 - k) * 257) (putV a' b') _ (by exact wanted_none rfl) rfl (hu.trans hv) (fun w' hC => ?_) Try.underlying114 rfl (by rw [HPS.out]; exact sizePut) ?_)
            · exact pend_range ((HVR.out.below hB).below hC).pend (fun x hx => (HV3.out.ok.pend x hx).2) (n - 1 - k) a' b' (by rw [List.getElem?_eq_getElem hjl, HAB.out])
            refine wk_nil ?_
            intro w' hC
            exact hK _ _ rfl hC
          · exact wp_alloc_row 114 rfl _ zeroPut (hK _ _ ⟨_, rfl, heap_alloc_new _ _, hB.size⟩ ((Below.refl _ _).alloc (Nat.le_refl _) _))
        case tail =>
          intro F v hV hB
          obtain ⟨g9, e9, hr9, hb9⟩ : ∃ b, F 9 = .pointer (some ⟨b, 0, none⟩) ∧ v.heap[b]? = some (.cells (putV 0 zeroBlk) 114 (0, 0)) ∧ wr.heap.size ≤ b := hV _ (List.mem_of_getElem? (i := 14) rfl) 9 rfl
          have e49 : F 49 = .agg (putV a' b') := hV _ (List.mem_of_getElem? (i := 13) rfl) 49 rfl
          simp only [List.take_succ_cons, List.take_zero, List.drop_succ_cons, List.drop_zero, putAll, List.setIfInBounds_toArray, List.set_cons_zero, List.set_cons_succ]
          rw [e9, e49]
          clear hV e9 e49
          refine wpList_store_row rfl 114 _ _ rfl g9 (putV a' b') rfl rfl 114 _ hr9 (by rw [HPS.out]; exact sizePut) (by rw [HPS.out]; rfl) (putV_one _ _) ?_
          simp only [Act.put, List.setIfInBounds_toArray, List.set_cons_zero, List.set_cons_succ]
          have hb5 : Below wr.heap.size wr (v.setRow g9 (putV a' b')) := below_setRow hB hb9 _
          have hr5 : (v.setRow g9 (putV a' b')).heap[g9]? = some (.cells (putV a' b') 114 (0, 0)) := setRow_heap _ _ _ _ _ _ hr9
          obtain ⟨W5, hW5⟩ : ∃ W, W = v.setRow g9 (putV a' b') := ⟨_, rfl⟩
          rw [← hW5] at hb5 hr5 ⊢
          have HR5 := Lib.hid hr5
          have HRR5 := Lib.hid (HRR.out.call hb5)
          have HBR5 := Lib.hid (HBR.out.trans (hb5.mono HBR.out.size))
          have c0 : W5.cell? ⟨g9, 0, none⟩ = some (.int .u32 (a' : Int)) := cell_of_row W5 g9 0 _ _ _ hr5
          clear hW5 hr9 hb9 hr5 hb5 hB
          by_cases e : a' = a
          · have hcmp : ((a' : Int) == (a : Int)) = true := by simp [e]
            have HSB : Hid ((blk b').size = 256) := Lib.hid (by rw [size_blk, HBL.out.2])
            have R6 := Lib.hid (HRR5.out.setRow 0 (blk b') rfl)
            have HEA := Lib.hid e
            clear e
            go_wp2_with (first
              | refine wpList_load_arr rfl 23 _ rfl g9 1 rfl (blk b') _ (putV_range HR5.out) Try.underlying23 rfl (by rw [HSB.out]; exact sizeB) ?_
              | refine wpList_store_row rfl 23 _ _ rfl g7 (blk b') rfl rfl 23 _ (HRR5.out.get 0 rfl) (by rw [HSB.out]; exact sizeB) (by rw [HSB.out, size_blk, HGL2.out]) (blk_one _) ?_
              | refine wpList_load_row rfl 23 _ rfl g7 rfl 23 (blk b') (0, 0) _ (R6.out.get 0 rfl) Try.underlying23 rfl (by rw [HSB.out]; exact sizeB) ?_
              | refine wpList_store_row rfl 23 _ _ rfl g4 (blk b') rfl rfl 23 _ (R6.out.get 1 rfl) (by rw [HSB.out]; exact sizeB) (by rw [HSB.out, size_blk, length_zeroBlk]) (blk_one _) ?_)
            have R8 := R6.out.setRow 1 (blk (b')) rfl
            refine bodyPost_ret (v := .tuple #[.agg (blk (b')), .int .i64 0]) (results_cell_slot rfl _ _ g4 23 _ (0, 0) _ _ rfl rfl (R8.get 1 rfl) Try.underlying23 rfl (by rw [HSB.out]; exact sizeB)) rfl ⟨?_, R8.below⟩
            rw [HRB.out, HRE.out]
            have : s.read a = b' := by
              unfold Dv.read
              rw [lastB_hit s.pend a _ (n - 1 - k) hjl (by rw [← HAB.out]; exact HEA.out) (fun j hj hlt => HNE.out j hj (by omega)), ← HAB.out]
            rw [this]
          · have hcmp : ((a' : Int) == (a : Int)) = false := by
              simp only [beq_eq_false_iff_ne, ne_eq]
              omega
            have HEA := Lib.hid e
            clear e
            go_wp2_with fail
            refine ⟨⟨k + 1, by omega, by simp, fun j hj h1 => ?_, HRR5.out, HBR5.out⟩, by simp [intOf]; omega⟩
            by_cases hj2 : n - k ≤ j
            · exact HNE.out j hj hj2
            · have : j = n - 1 - k := by omega
              subst this
              rw [← HAB.out]; exact HEA.out
      · obtain rfl : k = n := by omega
        have hz : ¬ ((k : Int) < (k : Int)) := by omega
        have HSB : Hid ((blk (s.good a)).size = 256) := HGL
        go_wp2_with (first
          | refine wpList_load_row rfl 23 _ rfl g7 rfl 23 (blk (s.good a)) (0, 0) _ (HRR.out.get 0 rfl) Try.underlying23 rfl (by rw [HSB.out]; exact sizeB) ?_
          | refine wpList_store_row rfl 23 _ _ rfl g4 (blk (s.good a)) rfl rfl 23 _ (HRR.out.get 1 rfl) (by rw [HSB.out]; exact sizeB) (by rw [HSB.out, size_blk, length_zeroBlk]) (blk_one _) ?_)
        have R8 := HRR.out.setRow 1 (blk (s.good a)) rfl
        refine bodyPost_ret (v := .tuple #[.agg (blk (s.good a)), .int .i64 0]) (results_cell_slot rfl _ _ g4 23 _ (0, 0) _ _ rfl rfl (R8.get 1 rfl) Try.underlying23 rfl (by rw [HSB.out]; exact sizeB)) rfl ⟨?_, R8.below⟩
        rw [HRB.out, HRE.out]
        have : s.read a = s.good a := by
          unfold Dv.read
          exact lastB_none s.pend a _ (fun j hj => HNE.out j hj (by omega))
        rw [this]
end Go.Proofs.Ytnbdnnlomgjlmaa
