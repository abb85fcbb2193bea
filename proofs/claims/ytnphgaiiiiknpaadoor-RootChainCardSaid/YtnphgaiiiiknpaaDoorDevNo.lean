/- The device layer: a device that is none. -/
import Derived.Test.YtnphgaiiiiknpaaDoorDev9
namespace Go.Proofs.YtnphgaiiiiknpaaDoor
open Go.RowKit
set_option linter.unusedSimpArgs false
set_option linter.unusedVariables false
set_option maxRecDepth 100000
/-- A pointer to no device: nil, or to one that has no map. -/
def NoDev (p : Option Addr) (w : World) : Prop := p = none ∨ ∃ g cs, p = some ⟨g, 0, none⟩ ∧ w.heap[g]? = some (.cells cs 65 (0, 0)) ∧ cs[1]? = some (.map none)
theorem NoDev.since {p : Option Addr} {w w' : World} (h : NoDev p w) (hb : Below w.heap.size w w') : NoDev p w' := by
  rcases h with h | ⟨g, cs, h1, h2, h3⟩
  · exact .inl h
  · exact .inr ⟨g, cs, h1, (hb.block g (Array.getElem?_eq_some_iff.1 h2).1).trans h2, h3⟩
theorem eql_map_none (w : World) : (binOp .eql 62 (.map none) (.map none)).run Tryd.prog w = .ok (.bool true) w := by
  simp [binOp, Op.equal, Op.maxDepth, run_equalIn_map_nil w 9999 62 22 45 none Tryd.underlying62]
theorem none_no {p : Option Addr} {w : World} (h : NoDev p w) : Calls Tryd.prog 33 #[.pointer p] w fun e w' => e = .returned (.bool true) ∧ w = w' := by
  rcases h with rfl | ⟨g, cs, rfl, h2, h3⟩
  · go_enter Tryd.func33, Tryd.ntmps33
    go_wp2
    go_ret
    exact ⟨rfl, rfl⟩
  · have h1 : w.cell? ⟨g, 1, none⟩ = some (.map none) := (cell_of_row w g 1 _ _ _ h2).trans h3
    have hm := eql_map_none w
    clear h2 h3
    go_enter Tryd.func33, Tryd.ntmps33
    go_wp2
    go_ret
    exact ⟨rfl, rfl⟩
def noQ (p : Option Addr) : Ask := ⟨1, 33, #[.pointer p], #[], true⟩
theorem noQ_ok {p : Option Addr} {w : World} (h : NoDev p w) : (noQ p).Ok w :=
  ⟨⟨_, _, Tryd.func33, rfl, by kernel_rfl⟩, fun w' hb => by
    refine (none_no (h.since hb)).mono ?_
    rintro e w2 ⟨rfl, rfl⟩
    exact ⟨rfl, Below.refl _ _⟩⟩
def downN (b : Nat) : Ask := ⟨30, 51, #[], #[.pointer (some ⟨b, 0, none⟩)], false⟩
def farN (ba bd : Nat) : Ask := ⟨2, 56, #[], #[.pointer (some ⟨ba, 0, none⟩), .pointer (some ⟨bd, 0, none⟩)], false⟩
set_option maxHeartbeats 1000000 in
theorem check_first (w : World) (b c n : Nat) (x : Ask) (cells : Array Value) (T : TypeId) (hn : 0 < n) (hb : w.heap[b]? = some (.cells cells T (0, 0))) (hcs : cells.toList.take 2 = askCells [x]) (hok : x.Ok w) (hr : x.r = true) :
    Calls Tryd.prog 39 #[.slice (some ⟨b, 0, none⟩) n c] w fun e w' => e = .returned (.int .i64 x.e) ∧ Below w.heap.size w w' := by
  have h0 : cells[0]? = some (.int .i64 x.e) ∧ cells[1]? = some (.func (.func x.f) x.first x.cap) := by
    have e0 := congrArg (·[0]?) hcs
    have e1 := congrArg (·[1]?) hcs
    simp [List.getElem?_take, askCells] at e0 e1
    exact ⟨e0, e1⟩
  have hc1 : w.cell? ⟨b, 0 * 2, none⟩ = some (.int .i64 x.e) := (cell_of_row w b 0 _ _ _ hb).trans h0.1
  have hc2 : w.cell? ⟨b, 0 * 2 + 1, none⟩ = some (.func (.func x.f) x.first x.cap) := (cell_of_row w b 1 _ _ _ hb).trans h0.2
  have HX := Lib.hid hok
  clear hb hcs hok h0
  obtain ⟨e0, f0, first0, cap0, r0⟩ := x
  simp only at hc1 hc2 hr
  subst hr
  have HC1 := Lib.hid hc1
  have HC2 := Lib.hid hc2
  clear hc1 hc2
  go_enter Tryd.func39, Tryd.ntmps39
  go_wp2_with fail
  go_loopw [7] (fun i wr => i = .int .i64 0 ∧ wr = w) (fun i _ => 0)
  case atStart => exact ⟨rfl, rfl⟩
  case round =>
    obtain ⟨rfl, rfl⟩ := hrel
    have hc1 := HC1.out
    have hc2 := HC2.out
    go_wp2_with (first
      | refine wpList_alloc_row rfl 71 rfl _ zeroAsk ?_
      | refine wpList_store_new rfl 71 _ _ rfl _ #[.int .i64 e0, .func (.func f0) first0 cap0] _ rfl rfl sizeAsk rfl (askOne _ _ _ _) ?_
      | (refine wpList_ask rfl _ _ rfl f0 first0 cap0 rfl HX.out.ex (.bool true) ((HX.out.below (Below.refl _ _ |>.alloc (Nat.le_refl _) _)).calls _ (Below.refl _ _)) ?_; intro w2 hw2; have c0 : w2.cell? ⟨wr.heap.size, 0, none⟩ = some (.int .i64 e0) := (hw2.cell (by simp)).trans (cell_of_row _ _ 0 _ _ _ (heap_alloc_new _ _)); have HW2 := Lib.hid hw2; clear hw2))
    go_ret
    exact ⟨rfl, ((Below.refl _ _).alloc (Nat.le_refl _) _).trans (HW2.out.mono (by simp))⟩
theorem far_no (w : World) (p : Option Addr) (a : Nat) : Calls Tryd.prog 40 #[.pointer p, .int .u32 (a : Int)] w fun e w' => ∃ x : Ask, e = .returned (.agg (askV x)) ∧ Below w.heap.size w w' := by
  have hmf : ∀ (fn : Fn) (first cap : Array Value) (w : World), (Instr.makeFunc fn first cap).run Tryd.prog w = .ok (.func fn first cap) w := fun _ _ _ _ => rfl
  have q := (((Rows.start w).alloc #[.pointer p] 39).alloc #[.int .u32 (a : Int)] 22).alloc #[.int .i64 0, .nilFunc] 71
  rw [show ((w.alloc (.cells #[.pointer p] 39)).alloc (.cells #[.int .u32 (a : Int)] 22)).heap.size = w.heap.size + 1 + 1 by simp, show (w.alloc (.cells #[.pointer p] 39)).heap.size = w.heap.size + 1 by simp] at q
  have HQ := Lib.hid q
  clear q
  go_enter Tryd.func40, Tryd.ntmps40
  go_upto_region 1 with (refine wpList_alloc_row rfl 71 rfl _ zeroAsk ?_)
  obtain ⟨W, hW⟩ : ∃ W, W = ((w.alloc (.cells #[.pointer p] 39)).alloc (.cells #[.int .u32 (a : Int)] 22)).alloc (.cells #[.int .i64 0, .nilFunc] 71) := ⟨_, rfl⟩
  rw [← hW]
  rw [show ((w.alloc (.cells #[.pointer p] 39)).alloc (.cells #[.int .u32 (a : Int)] 22)).heap.size = w.heap.size + 1 + 1 by simp]
  have R := HQ.out
  rw [← hW] at R
  have HR := Lib.hid R
  clear R HQ hW
  obtain ⟨bd, hbd⟩ : ∃ b, b = w.heap.size := ⟨_, rfl⟩
  rw [← hbd] at HR ⊢
  have HBD := Lib.hid hbd
  clear hbd
  go_wp2_with (refine wpList_store_row rfl 71 _ _ rfl (bd + 1 + 1) #[.int .i64 2, .func (.func 56) #[] #[.pointer (some ⟨bd + 1, 0, none⟩), .pointer (some ⟨bd, 0, none⟩)]] rfl rfl 71 _ (HR.out.get 0 rfl) sizeAsk rfl (askOne _ _ _ _) ?_)
  have R1 := HR.out.setRow 0 #[.int .i64 2, .func (.func 56) #[] #[.pointer (some ⟨bd + 1, 0, none⟩), .pointer (some ⟨bd, 0, none⟩)]] rfl
  refine bodyPost_ret (v := .agg (askV (farN (bd + 1) bd))) (results_cell_row rfl _ _ (bd + 1 + 1) 71 _ (0, 0) _ rfl (R1.get 0 rfl) Tryd.underlying71 rfl sizeAsk) rfl ⟨farN (bd + 1) bd, rfl, R1.below⟩
set_option maxHeartbeats 2000000 in
theorem up_no {w : World} {p : Option Addr} (h : NoDev p w) (sv : Value) (l : List Ask) (hl : l.length < 50) (hs : AskSrc w sv l) :
    Calls Tryd.prog 28 #[.pointer p, sv] w fun e w' => e = .returned (.int .i64 1) ∧ Below w.heap.size w w' := by
  have H := Lib.hid h
  have HS := Lib.hid hs
  have hmf : ∀ (fn : Fn) (first cap : Array Value) (w : World), (Instr.makeFunc fn first cap).run Tryd.prog w = .ok (.func fn first cap) w := fun _ _ _ _ => rfl
  have q := ((((Rows.start w).alloc #[.pointer p] 39).alloc (askV (noQ p)) 71)).alloc (askV (downN w.heap.size)) 71
  rw [show ((w.alloc (.cells #[.pointer p] 39)).alloc (.cells (askV (noQ p)) 71)).heap.size = w.heap.size + 1 + 1 by simp, show (w.alloc (.cells #[.pointer p] 39)).heap.size = w.heap.size + 1 by simp] at q
  have HQ := Lib.hid q
  have c0 : (w.alloc (.cells #[.pointer p] 39)).cell? ⟨w.heap.size, 0, none⟩ = some (.pointer p) := cell_of_row _ _ 0 _ _ _ (heap_alloc_new _ _)
  clear h hs q
  go_enter Tryd.func28, Tryd.ntmps28
  go_upto_region 3 with (first
    | refine wpList_alloc_row rfl 71 rfl _ zeroAsk ?_
    | refine wpList_store_new rfl 71 _ _ rfl _ (askV (noQ p)) _ rfl rfl sizeAsk rfl (askOne _ _ _ _) ?_
    | refine wpList_store_new rfl 71 _ _ rfl _ (askV (downN w.heap.size)) _ rfl rfl sizeAsk rfl (askOne _ _ _ _) ?_)
  simp only [Act.put, List.setIfInBounds_toArray, List.set_cons_zero, List.set_cons_succ]
  rw [show ((w.alloc (.cells #[.pointer p] 39)).alloc (.cells (askV (noQ p)) 71)).heap.size = w.heap.size + 1 + 1 by simp]
  obtain ⟨W, hW⟩ : ∃ W, W = ((w.alloc (.cells #[.pointer p] 39)).alloc (.cells (askV (noQ p)) 71)).alloc (.cells (askV (downN w.heap.size)) 71) := ⟨_, rfl⟩
  rw [← hW]
  have R := HQ.out
  rw [← hW] at R
  clear HQ hW c0
  obtain ⟨b0, hb0⟩ : ∃ b, b = w.heap.size := ⟨_, rfl⟩
  rw [← hb0] at R ⊢
  have HB0 := Lib.hid hb0
  have HR := Lib.hid R
  clear hb0 R
  have HWH := Lib.hid (H.out.since HR.out.below)
  obtain ⟨x, hx⟩ : ∃ x, x = noQ p := ⟨_, rfl⟩
  obtain ⟨y, hy⟩ : ∃ y, y = downN b0 := ⟨_, rfl⟩
  have hxo : x.Ok W := by rw [hx]; exact noQ_ok HWH.out
  have hxr : x.e = 1 ∧ x.r = true := by rw [hx]; exact ⟨rfl, rfl⟩
  rw [← hx, ← hy] at HR
  have hsW := HS.out.since HR.out.below
  obtain ⟨i, hi, hz, hs2, hby⟩ := info_parts Tryd.infoAsk
  refine wp_region_flow (by kernel_rfl) 6 (upV W.heap.size x y sv l) (upV_stab W.heap.size x y sv l) (by kernel_rfl) (by kernel_rfl) (by kernel_rfl) (by kernel_rfl) ?heads ?tail
  case heads =>
    refine ⟨.inr ⟨rfl, 12, rfl, fun a v hB hO hD K hK => ?_⟩, .inr ⟨rfl, 13, rfl, fun a v hB hO hD K hK => ?_⟩, .inr ⟨rfl, 14, rfl, fun a v hB hO hD K hK => ?_⟩, .inr ⟨rfl, 15, rfl, fun a v hB hO hD K hK => ?_⟩, .inr ⟨rfl, 16, rfl, fun a v hB hO hD K hK => ?_⟩, .inr ⟨rfl, 17, rfl, fun a v hB hO hD K hK => ?_⟩, .inl (by decide), .inl (by decide), .inl (by decide), trivial⟩
    · refine wp_load_all 71 _ (b0 + 1) 71 (askV x) (0, 0) _ rfl (eval_of (t := 5) ?_) ?_ Tryd.underlying71 rfl sizeAsk (hK _ _ rfl (Below.refl _ _))
      · rw [hO 5 (not_dst 5 (by kernel_rfl))]; rfl
      · exact (hB.block _ (HR.out.lt 1 rfl)).trans (HR.out.get 1 rfl)
    · obtain ⟨u, hu, hV⟩ := flow_of hD 0 (by kernel_rfl) 12 (by kernel_rfl)
      refine wp_build_one 97 71 _ rfl (askV x) (hu.trans hV) i _ Tryd.underlying97 hi hz (by rw [hs2]; rfl) (by omega) (by omega) (hK _ _ ⟨_, rfl, heap_alloc_new _ _, ?_⟩ ((Below.refl _ _).alloc (Nat.le_refl _) _))
      exact hB.size
    · have e : a.eval (.tmp 1) = sv := eval_of (by rw [hO 1 (not_dst 1 (by kernel_rfl))]; rfl)
      refine wp_value sv ?_ (hK _ _ rfl (Below.refl _ _))
      rw [← e]; rfl
    · obtain ⟨u, hu, b, rfl, hb, hbb⟩ := flow_of hD 1 (by kernel_rfl) 13 (by kernel_rfl)
      obtain ⟨u2, hu2, hu3⟩ := flow_of hD 2 (by kernel_rfl) 14 (by kernel_rfl)
      obtain ⟨v', w', hr, hbe, hown⟩ := ask_append v 97 b x hb sv l (hsW.since hB) W.heap.size hbb
      exact wp_append_run _ _ 97 rfl _ sv v' hu (hu2.trans hu3) hr (hK _ _ hown hbe)
    · refine wp_load_all 71 _ (b0 + 1 + 1) 71 (askV y) (0, 0) _ rfl (eval_of (t := 6) ?_) ?_ Tryd.underlying71 rfl sizeAsk (hK _ _ rfl (Below.refl _ _))
      · rw [hO 6 (not_dst 6 (by kernel_rfl))]; rfl
      · exact (hB.block _ (HR.out.lt 0 rfl)).trans (HR.out.get 0 rfl)
    · obtain ⟨u, hu, hV⟩ := flow_of hD 4 (by kernel_rfl) 16 (by kernel_rfl)
      refine wp_build_one 97 71 _ rfl (askV y) (hu.trans hV) i _ Tryd.underlying97 hi hz (by rw [hs2]; rfl) (by omega) (by omega) (hK _ _ ⟨_, rfl, heap_alloc_new _ _, ?_⟩ ((Below.refl _ _).alloc (Nat.le_refl _) _))
      exact hB.size
  case tail =>
    intro F v hV hB
    have v15 : v.ownsRow W.heap.size 71 2 (F 15) (1 + l.length) (askCells (x :: l)) := hV _ (List.mem_of_getElem? (i := 3) rfl) 15 rfl
    obtain ⟨b17, e17, hb17, hbb17⟩ : ∃ b, F 17 = .slice (some ⟨b, 0, none⟩) 1 1 ∧ v.heap[b]? = some (.cells (askV y) 71 (0, 0)) ∧ W.heap.size ≤ b := hV _ (List.mem_of_getElem? (i := 5) rfl) 17 rfl
    simp only [List.take_succ_cons, List.take_zero, List.drop_succ_cons, List.drop_zero, putAll, List.setIfInBounds_toArray, List.set_cons_zero, List.set_cons_succ]
    rw [e17]
    generalize F 15 = s15 at v15 ⊢
    refine wpList_append_own_at _ rfl _ _ 97 rfl W.heap.size 71 i _ 2 16 Tryd.underlying97 hi hz hs2 hby rfl (by decide) s15 (1 + l.length) (askCells (x :: l)) rfl v15 ⟨b17, 0, none⟩ 1 1 (askCells [y]) rfl (by rw [len_askCells]; rfl) (ask_cells hb17) (askCells_one _) (by unfold maxLen; omega) (by omega) hB.size ?_
    intro v' w1 hown' hgrow _ _
    have hb1 : Below W.heap.size W w1 := hB.grown hgrow hB.size (fun k hk => (World.ownsRow.lt v15 k hk).1)
    have hb2 : Below w.heap.size w w1 := HR.out.below.trans (hb1.mono HR.out.below.size)
    rcases hown'.2 with ⟨_, h0⟩ | ⟨g', cap, cur, rfl, _, hg', _, _, _, hcur⟩
    · omega
    have hlen : (x :: l ++ [y]).length = 1 + l.length + 1 := by simp; omega
    have CK := check_first w1 g' cap (1 + l.length + 1) x cur 71 (by omega) hg' (by
      have h4 : cur.toList.take 2 = (cur.toList.take (2 * (1 + l.length + 1))).take 2 := by rw [List.take_take, Nat.min_eq_left (by omega)]
      rw [h4, Nat.mul_comm, hcur]
      simp [askCells]) (hxo.below hb1) hxr.2
    rw [hxr.1] at CK
    have HCK := Lib.hid CK
    have HB2 := Lib.hid hb2
    clear CK hb2 hb1 hgrow hown' hg' hcur v15 hV hB hb17 hxo hxr hsW
    simp only [Act.put, List.setIfInBounds_toArray, List.set_cons_zero, List.set_cons_succ]
    go_wp2_with (go_at_call 39; refine (HCK.out).mono ?_; rintro e w2 ⟨rfl, hb⟩)
    go_ret
    exact ⟨rfl, HB2.out.trans (hb.mono HB2.out.size)⟩
end Go.Proofs.YtnphgaiiiiknpaaDoor
