/- The device layer: up. -/
import Derived.Test.YtnbdnnlomgjlmaaDev5
namespace Go.Proofs.Ytnbdnnlomgjlmaa
open Go.RowKit
set_option linter.unusedSimpArgs false
set_option linter.unusedVariables false
set_option maxRecDepth 100000
/-- What up answers. -/
def upE (s : Dv) (l : List Ask) : Int := match l.find? (·.r) with | some x => x.e | none => if s.down then 30 else 0
theorem checkE_up (s : Dv) (g b : Nat) (l : List Ask) : checkE (noneQ g :: l ++ [downQ s b]) = upE s l := by
  unfold checkE upE
  rw [List.find?_append, List.find?_cons_of_neg (by simp [noneQ])]
  cases h : l.find? (·.r) with
  | some x => rfl
  | none => cases hd : s.down <;> simp [downQ, hd]
/-- The slots of up's last region. -/
def upV (base : Nat) (x y : Ask) (sv : Value) (l : List Ask) (t : Tmp) (v : Value) (w : World) : Prop :=
  match t with
  | 12 => v = .agg (askV x)
  | 13 => ∃ b, v = .slice (some ⟨b, 0, none⟩) 1 1 ∧ w.heap[b]? = some (.cells (askV x) 112 (0, 0)) ∧ base ≤ b
  | 14 => v = sv
  | 15 => w.ownsRow base 112 2 v (1 + l.length) (askCells (x :: l))
  | 16 => v = .agg (askV y)
  | 17 => ∃ b, v = .slice (some ⟨b, 0, none⟩) 1 1 ∧ w.heap[b]? = some (.cells (askV y) 112 (0, 0)) ∧ base ≤ b
  | _ => True
theorem ownsRow_below {w w' : World} {base : Nat} {e : TypeId} {size : Nat} {v : Value} {n : Nat} {xs : List Value} (h : w.ownsRow base e size v n xs) (hb : Below w.heap.size w w') : w'.ownsRow base e size v n xs :=
  ownsRow_same h (fun b hb' => hb.block b (World.ownsRow.lt h b hb').2)
theorem upV_stab (base : Nat) (x y : Ask) (sv : Value) (l : List Ask) : ∀ t v w w', upV base x y sv l t v w → Below w.heap.size w w' → upV base x y sv l t v w' := by
  intro t v w w' h hb
  unfold upV at h ⊢
  split at h
  · exact h
  · obtain ⟨b, h1, h2, h3⟩ := h
    exact ⟨b, h1, (hb.block b (Array.getElem?_eq_some_iff.1 h2).1).trans h2, h3⟩
  · exact h
  · exact ownsRow_below h hb
  · exact h
  · obtain ⟨b, h1, h2, h3⟩ := h
    exact ⟨b, h1, (hb.block b (Array.getElem?_eq_some_iff.1 h2).1).trans h2, h3⟩
  · trivial
theorem flow_of {l : List Oper} {V : Tmp → Value → World → Prop} {o : Oper} {a : Act} {w : World}
    (hD : ∀ e ∈ o.after, Region.binds .any e = true → ∀ (o' : Oper) (s : Tmp), l[e.on]? = some o' → o'.dst = some s → ∃ v, a.tmps[s]? = some v ∧ V s v w)
    (j : Nat) (hj : (o.after.any fun e => e.on == j && Region.binds .any e) = true) (s : Tmp) (hs : (l[j]?).bind (·.dst) = some s) : ∃ v, a.eval (.tmp s) = v ∧ V s v w := by
  obtain ⟨e, he, h2⟩ := Array.any_eq_true'.1 hj
  simp only [Bool.and_eq_true, beq_iff_eq] at h2
  cases hl : l[j]? with
  | none => rw [hl] at hs; cases hs
  | some o' =>
    rw [hl] at hs
    obtain ⟨v, h3, h4⟩ := hD e he h2.2 o' s (by rw [h2.1]; exact hl) hs
    exact ⟨v, eval_of h3, h4⟩
theorem wp_append_run {P : Program} {o : Oper} {a : Act} {w w' : World} {K : Act → World → Prop} {Q : Exit → Act → World → Prop} (s x : Operand) (t : TypeId) (ho : o.op = .call { callee := .builtin .append, args := #[s, x], argTypes := #[t, t] })
    (sv xv v' : Value) (hs : a.eval s = sv) (hx : a.eval x = xv) (hr : (Builtin.append_ #[t, t] o.type #[sv, xv]).run P w = .ok v' w') (h : K (a.put o.dst v') w') : o.wp P a w K Q := by
  unfold Oper.wp execOp
  simp only [ho, resolve, invoke, builtin, Sem.run_bind, Sem.run_pure, Result.andThen_ok, List.map_toArray, List.map_cons, List.map_nil, hs, hx, hr]
  exact h
set_option maxHeartbeats 2000000 in
theorem up_dev {w : World} {g : Nat} {s : Dv} (h : (dvT g s).at w) (sv : Value) (l : List Ask) (hl : l.length < 50) (hs : AskSrc w sv l) (hok : ∀ x ∈ l, x.Ok w) :
    Calls Try.prog 68 #[.pointer (some ⟨g, 0, none⟩), sv] w fun e w' => e = .returned (.int .i64 (upE s l)) ∧ Below w.heap.size w w' := by
  have H := Lib.hid h
  have HS := Lib.hid hs
  have HOK := Lib.hid hok
  have hmf : ∀ (fn : Fn) (first cap : Array Value) (w : World), (Instr.makeFunc fn first cap).run Try.prog w = .ok (.func fn first cap) w := fun _ _ _ _ => rfl
  have q := ((((Rows.start w).alloc #[.pointer (some ⟨g, 0, none⟩)] 56).alloc (askV (noneQ g)) 112)).alloc (askV (downQ s w.heap.size)) 112
  rw [show ((w.alloc (.cells #[.pointer (some ⟨g, 0, none⟩)] 56)).alloc (.cells (askV (noneQ g)) 112)).heap.size = w.heap.size + 1 + 1 by simp, show (w.alloc (.cells #[.pointer (some ⟨g, 0, none⟩)] 56)).heap.size = w.heap.size + 1 by simp] at q
  have HQ := Lib.hid q
  have c0 : (w.alloc (.cells #[.pointer (some ⟨g, 0, none⟩)] 56)).cell? ⟨w.heap.size, 0, none⟩ = some (.pointer (some ⟨g, 0, none⟩)) := cell_of_row _ _ 0 _ _ _ (heap_alloc_new _ _)
  clear h hs hok q
  go_enter Try.func68, Try.ntmps68
  go_upto_region 3 with (first
    | refine wpList_alloc_row rfl 112 rfl _ zeroAsk ?_
    | refine wpList_store_new rfl 112 _ _ rfl _ (askV (noneQ g)) _ rfl rfl sizeAsk rfl (askOne _ _ _ _) ?_
    | refine wpList_store_new rfl 112 _ _ rfl _ (askV (downQ s w.heap.size)) _ rfl rfl sizeAsk rfl (askOne _ _ _ _) ?_)
  simp only [Act.put, List.setIfInBounds_toArray, List.set_cons_zero, List.set_cons_succ]
  rw [show ((w.alloc (.cells #[.pointer (some ⟨g, 0, none⟩)] 56)).alloc (.cells (askV (noneQ g)) 112)).heap.size = w.heap.size + 1 + 1 by simp]
  obtain ⟨W, hW⟩ : ∃ W, W = ((w.alloc (.cells #[.pointer (some ⟨g, 0, none⟩)] 56)).alloc (.cells (askV (noneQ g)) 112)).alloc (.cells (askV (downQ s w.heap.size)) 112) := ⟨_, rfl⟩
  rw [← hW]
  have R := HQ.out
  rw [← hW] at R
  clear HQ hW c0
  obtain ⟨b0, hb0⟩ : ∃ b, b = w.heap.size := ⟨_, rfl⟩
  rw [← hb0] at R ⊢
  have HB0 := Lib.hid hb0
  have HR := Lib.hid R
  clear hb0 R
  have HWH := Lib.hid (H.out.since HR.out.below)
  obtain ⟨x, hx⟩ : ∃ x, x = noneQ g := ⟨_, rfl⟩
  obtain ⟨y, hy⟩ : ∃ y, y = downQ s b0 := ⟨_, rfl⟩
  have hxo : x.Ok W := by rw [hx]; exact noneQ_ok HWH.out
  have hyo : y.Ok W := by rw [hy]; exact downQ_ok HWH.out _ (HR.out.cell 2 0 rfl rfl) (HR.out.lt 2 rfl)
  have hlo : ∀ z ∈ l, z.Ok W := fun z hz => (HOK.out z hz).below HR.out.below
  have hE : checkE (x :: l ++ [y]) = upE s l := by rw [hx, hy]; exact checkE_up s g b0 l
  rw [← hx, ← hy] at HR
  have hsW := HS.out.since HR.out.below
  obtain ⟨i, hi, hz, hs2, hby⟩ := info_parts Try.infoAsk
  refine wp_region_flow (by kernel_rfl) 6 (upV W.heap.size x y sv l) (upV_stab W.heap.size x y sv l) (by kernel_rfl) (by kernel_rfl) (by kernel_rfl) (by kernel_rfl) ?heads ?tail
  case heads =>
    refine ⟨.inr ⟨rfl, 12, rfl, fun a v hB hO hD K hK => ?_⟩, .inr ⟨rfl, 13, rfl, fun a v hB hO hD K hK => ?_⟩, .inr ⟨rfl, 14, rfl, fun a v hB hO hD K hK => ?_⟩, .inr ⟨rfl, 15, rfl, fun a v hB hO hD K hK => ?_⟩, .inr ⟨rfl, 16, rfl, fun a v hB hO hD K hK => ?_⟩, .inr ⟨rfl, 17, rfl, fun a v hB hO hD K hK => ?_⟩, .inl (by decide), .inl (by decide), .inl (by decide), trivial⟩
    · refine wp_load_all 112 _ (b0 + 1) 112 (askV x) (0, 0) _ rfl (eval_of (t := 5) ?_) ?_ Try.underlying112 rfl sizeAsk (hK _ _ rfl (Below.refl _ _))
      · rw [hO 5 (not_dst 5 (by kernel_rfl))]; rfl
      · exact (hB.block _ (HR.out.lt 1 rfl)).trans (HR.out.get 1 rfl)
    · obtain ⟨u, hu, hV⟩ := flow_of hD 0 (by kernel_rfl) 12 (by kernel_rfl)
      refine wp_build_one 132 112 _ rfl (askV x) (hu.trans hV) i _ Try.underlying132 hi hz (by rw [hs2]; rfl) (by omega) (by omega) (hK _ _ ⟨_, rfl, heap_alloc_new _ _, ?_⟩ ((Below.refl _ _).alloc (Nat.le_refl _) _))
      exact hB.size
    · have e : a.eval (.tmp 1) = sv := eval_of (by rw [hO 1 (not_dst 1 (by kernel_rfl))]; rfl)
      refine wp_value sv ?_ (hK _ _ rfl (Below.refl _ _))
      rw [← e]; rfl
    · obtain ⟨u, hu, b, rfl, hb, hbb⟩ := flow_of hD 1 (by kernel_rfl) 13 (by kernel_rfl)
      obtain ⟨u2, hu2, hu3⟩ := flow_of hD 2 (by kernel_rfl) 14 (by kernel_rfl)
      obtain ⟨v', w', hr, hbe, hown⟩ := ask_append v 132 b x hb sv l (hsW.since hB) W.heap.size hbb
      exact wp_append_run _ _ 132 rfl _ sv v' hu (hu2.trans hu3) hr (hK _ _ hown hbe)
    · refine wp_load_all 112 _ (b0 + 1 + 1) 112 (askV y) (0, 0) _ rfl (eval_of (t := 6) ?_) ?_ Try.underlying112 rfl sizeAsk (hK _ _ rfl (Below.refl _ _))
      · rw [hO 6 (not_dst 6 (by kernel_rfl))]; rfl
      · exact (hB.block _ (HR.out.lt 0 rfl)).trans (HR.out.get 0 rfl)
    · obtain ⟨u, hu, hV⟩ := flow_of hD 4 (by kernel_rfl) 16 (by kernel_rfl)
      refine wp_build_one 132 112 _ rfl (askV y) (hu.trans hV) i _ Try.underlying132 hi hz (by rw [hs2]; rfl) (by omega) (by omega) (hK _ _ ⟨_, rfl, heap_alloc_new _ _, ?_⟩ ((Below.refl _ _).alloc (Nat.le_refl _) _))
      exact hB.size
  case tail =>
    intro F v hV hB
    have v15 : v.ownsRow W.heap.size 112 2 (F 15) (1 + l.length) (askCells (x :: l)) := hV _ (List.mem_of_getElem? (i := 3) rfl) 15 rfl
    obtain ⟨b17, e17, hb17, hbb17⟩ : ∃ b, F 17 = .slice (some ⟨b, 0, none⟩) 1 1 ∧ v.heap[b]? = some (.cells (askV y) 112 (0, 0)) ∧ W.heap.size ≤ b := hV _ (List.mem_of_getElem? (i := 5) rfl) 17 rfl
    simp only [List.take_succ_cons, List.take_zero, List.drop_succ_cons, List.drop_zero, putAll, List.setIfInBounds_toArray, List.set_cons_zero, List.set_cons_succ]
    rw [e17]
    generalize F 15 = s15 at v15 ⊢
    refine wpList_append_own_at _ rfl _ _ 132 rfl W.heap.size 112 i _ 2 16 Try.underlying132 hi hz hs2 hby rfl (by decide) s15 (1 + l.length) (askCells (x :: l)) rfl v15 ⟨b17, 0, none⟩ 1 1 (askCells [y]) rfl (by rw [len_askCells]; rfl) (ask_cells hb17) (askCells_one _) (by unfold maxLen; omega) (by omega) hB.size ?_
    intro v' w1 hown' hgrow _ _
    have hb1 : Below W.heap.size W w1 := hB.grown hgrow hB.size (fun k hk => (World.ownsRow.lt v15 k hk).1)
    have hb2 : Below w.heap.size w w1 := HR.out.below.trans (hb1.mono HR.out.below.size)
    rcases hown'.2 with ⟨_, h0⟩ | ⟨g', cap, cur, rfl, _, hg', _, _, _, hcur⟩
    · omega
    have hlen : (x :: l ++ [y]).length = 1 + l.length + 1 := by simp; omega
    have CK := check_any w1 g' cap (x :: l ++ [y]) cur 112 (by simp; omega) hg' (by rw [hlen, Nat.mul_comm, hcur]; simp [askCells]) (by
      intro z hz
      simp only [List.cons_append, List.mem_cons, List.mem_append, List.not_mem_nil, or_false] at hz
      rcases hz with rfl | hz | rfl
      · exact hxo.below hb1
      · exact (hlo z hz).below hb1
      · exact hyo.below hb1)
    rw [hlen, hE] at CK
    have HCK := Lib.hid CK
    have HB2 := Lib.hid hb2
    clear CK hb2 hb1 hgrow hown' hg' hcur v15 hV hB hb17 hE hxo hyo hlo hsW
    simp only [Act.put, List.setIfInBounds_toArray, List.set_cons_zero, List.set_cons_succ]
    go_wp2_with (go_at_call 73; refine (HCK.out).mono ?_; rintro e w2 ⟨rfl, hb⟩)
    go_ret
    exact ⟨rfl, HB2.out.trans (hb.mono HB2.out.size)⟩
end Go.Proofs.Ytnbdnnlomgjlmaa
