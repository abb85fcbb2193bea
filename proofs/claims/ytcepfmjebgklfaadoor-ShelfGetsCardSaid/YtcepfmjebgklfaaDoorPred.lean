/- A drawn region whose calls' results hang on the memory that they find (a new slice): each slot's value is known by a predicate that later memory keeps. Over any program. -/
import Derived.Test.YtcepfmjebgklfaaDoorFree
namespace Go.Proofs.YtcepfmjebgklfaaDoor
open Go.RowKit
section
variable {P : Program}
/-- What holds once the operations of 'listed' are done: each of their slots holds what R says. -/
structure PredInv (l : List Oper) (R : Tmp → Value → World → Prop) (W0 : World) (a0 : Act) (listed : Array Bool) (a : Act) (w : World) : Prop where
  defers : a.defers = a0.defers
  size : a.tmps.size = a0.tmps.size
  other : ∀ t, (∀ o ∈ l, o.dst ≠ some t) → a.tmps[t]? = a0.tmps[t]?
  done : ∀ (i : Nat) (o : Oper) (t : Tmp), l[i]? = some o → o.dst = some t → listed.getD i false = true → ∃ v, a.tmps[t]? = some v ∧ R t v w
  below : Below W0.heap.size W0 w
/-- What one operation owes. -/
def PredOp (P : Program) (Q : Exit → Act → World → Prop) (l : List Oper) (R : Tmp → Value → World → Prop) (W0 : World) (a0 : Act) (o : Oper) : Prop :=
  ∃ t, o.dst = some t ∧ ∀ a w, Below W0.heap.size W0 w → (∀ s, (∀ o ∈ l, o.dst ≠ some s) → a.tmps[s]? = a0.tmps[s]?) →
    (∀ e ∈ o.after, Region.binds .any e = true → ∀ (o' : Oper) (s : Tmp), l[e.on]? = some o' → o'.dst = some s → ∃ v, a.tmps[s]? = some v ∧ R s v w) →
    ∀ K : Act → World → Prop, (∀ v w', Below w.heap.size w w' → R t v w' → K (a.put o.dst v) w') → if Region.wanted o (yielded l.toArray a.tmps) = true then o.wp P a w K Q else K (a.put o.dst undef) w
theorem wp_region_pred {id : Nat} {Q : Exit → Act → World → Prop} {a0 : Act} {W0 : World} {l : List Oper} (hm : P.follows .mixedOrders = true) (R : Tmp → Value → World → Prop)
    (hstab : ∀ t v w w', R t v w → Below w.heap.size w w' → R t v w')
    (horder : (l.zipIdx.all fun x => x.1.after.all fun e => !Region.binds .any e || decide (e.on < x.2)) = true)
    (hdist : (l.zipIdx.all fun x => l.zipIdx.all fun y => x.1.dst.isNone || x.1.dst != y.1.dst || x.2 == y.2) = true)
    (hltB : (l.all fun o => match o.dst with | none => true | some t => decide (t < a0.tmps.size)) = true)
    (ops : AllQ (fun _ o => PredOp P Q l R W0 a0 o) 0 l)
    (fin : ∀ (V : Tmp → Value) (w : World), Below W0.heap.size W0 w → (∀ (i : Nat) (o : Oper) (t : Tmp), l[i]? = some o → o.dst = some t → R t (V t) w) → Q .normal ⟨putAll V a0.tmps l, a0.defers⟩ w) :
    (Code.region id l.toArray true).wp P Q a0 W0 := by
  have dist : ∀ (i j : Nat) (o o' : Oper) (t : Tmp), l[i]? = some o → l[j]? = some o' → o.dst = some t → o'.dst = some t → i = j := by
    intro i j o o' t hi hj h1 h2
    rw [List.all_eq_true] at hdist
    have q1 := hdist (o, i) (List.mem_iff_getElem?.2 ⟨i, by simpa [List.getElem?_zipIdx] using hi⟩)
    rw [List.all_eq_true] at q1
    have q2 := q1 (o', j) (List.mem_iff_getElem?.2 ⟨j, by simpa [List.getElem?_zipIdx] using hj⟩)
    simpa [h1, h2] using q2
  have hlt : ∀ o ∈ l, ∀ t, o.dst = some t → t < a0.tmps.size := by
    intro o ho t hd
    rw [List.all_eq_true] at hltB
    have := hltB o ho
    rw [hd] at this
    simpa using this
  refine wp_region_any hm (wpAny_inv (fun listed a w => PredInv l R W0 a0 listed a w) ?_ ?_ ?_ _ _ _ _ (by simp) (Nat.le_trans List.countP_le_length (by simp)) ?_)
  · intro i o ho e he hb
    have hh := horder
    rw [List.all_eq_true] at hh
    have hmem : (o, i) ∈ l.zipIdx := List.mem_iff_getElem?.2 ⟨i, by simpa [List.getElem?_zipIdx] using ho⟩
    have h2 := hh _ hmem
    rw [Array.all_eq_true_iff_forall_mem] at h2
    have := h2 e he
    simpa [hb] using this
  · intro listed a w hs I i o ho hni hready
    have ho' : l[i]? = some o := by simpa using ho
    have hil : i < l.length := (List.getElem?_eq_some_iff.1 ho').1
    have hsz : i < listed.size := by rw [hs]; simpa using hil
    have hset : ∀ k, (listed.setIfInBounds i true).getD k false = if k = i then true else listed.getD k false := fun k => getD_set listed i k hsz
    have hdone : ∀ e ∈ o.after, Region.binds .any e = true → listed.getD e.on false = true := by
      intro e he hb
      rw [Array.all_eq_true_iff_forall_mem] at hready
      have := hready e he
      simpa [hb] using this
    have hop := AllQ.get ops i o ho'
    obtain ⟨t, hd, hq⟩ := hop
    have key := hq a w I.below I.other (fun e he hb o' s hl' hd' => I.done _ o' s hl' hd' (hdone e he hb)) (PredInv l R W0 a0 (listed.setIfInBounds i true)) ?_
    · unfold wpOp
      simp only [ho]
      by_cases hw : Region.wanted o (yielded l.toArray a.tmps) = true
      · rw [if_pos hw] at key ⊢
        exact .inl key
      · rw [if_neg hw] at key ⊢
        exact key
    · intro v w' hB hR
      have hsz' : t < a.tmps.size := by rw [I.size]; exact hlt o (List.mem_of_getElem? ho') t hd
      refine ⟨by rw [hd]; exact I.defers, by rw [hd]; simpa [Act.put] using I.size, ?_, ?_, I.below.trans (hB.mono I.below.size)⟩
      · intro s hs'
        have : o.dst ≠ some s := hs' o (List.mem_of_getElem? ho')
        rw [hd] at this ⊢
        show (a.tmps.setIfInBounds t _)[s]? = _
        rw [Array.getElem?_setIfInBounds_ne (fun e => this (by rw [e]))]
        exact I.other s hs'
      · intro j o' s hj hd' hlj
        rw [hd]
        show ∃ u, (a.tmps.setIfInBounds t _)[s]? = some u ∧ _
        by_cases hji : j = i
        · subst hji
          rw [ho'] at hj; cases hj
          rw [hd] at hd'; cases hd'
          rw [Array.getElem?_setIfInBounds_self_of_lt hsz']
          exact ⟨v, rfl, hR⟩
        · rw [hset, if_neg hji] at hlj
          rw [Array.getElem?_setIfInBounds_ne (fun e => hji (dist j i o' o s hj ho' hd' (by rw [hd, e])))]
          obtain ⟨u, h1, h2⟩ := I.done j o' s hj hd' hlj
          exact ⟨u, h1, hstab _ _ _ _ h2 hB⟩
  · intro listed a w hs I hall
    have hea : a = ⟨putAll (fun t => a.tmps.getD t undef) a0.tmps l, a0.defers⟩ := by
      have ht : a.tmps = putAll (fun t => a.tmps.getD t undef) a0.tmps l := by
        apply Array.ext_getElem?
        intro t
        by_cases hd : ∀ o ∈ l, o.dst ≠ some t
        · rw [I.other t hd, putAll_other _ t l _ hd]
        · have hd : ∃ o ∈ l, o.dst = some t := by
            apply Classical.byContradiction
            intro hne
            exact hd (fun o ho he => hne ⟨o, ho, he⟩)
          obtain ⟨o', hm', hd'⟩ := hd
          obtain ⟨j, hj⟩ := List.mem_iff_getElem?.1 hm'
          obtain ⟨v, h1, _⟩ := I.done j o' t hj hd' (hall j (by simpa using (List.getElem?_eq_some_iff.1 hj).1))
          rw [putAll_some _ t l _ (hlt o' hm' t hd') ⟨o', hm', hd'⟩, h1]
          simp [Array.getD_eq_getD_getElem?, h1]
      have hdf := I.defers
      cases a
      simp only at ht hdf
      rw [← ht, hdf]
    rw [hea]
    refine fin _ w I.below fun i o t hi hd => ?_
    obtain ⟨v, h1, h2⟩ := I.done i o t hi hd (hall i (by simpa using (List.getElem?_eq_some_iff.1 hi).1))
    have : a.tmps.getD t undef = v := by simp [Array.getD_eq_getD_getElem?, h1]
    rw [this]; exact h2
  · have h0 : ∀ j, (Array.replicate l.toArray.size false).getD j false = false := by
      intro j
      simp [Array.getD_eq_getD_getElem?, Array.getElem?_replicate]
      split <;> rfl
    exact ⟨rfl, rfl, fun _ _ => rfl, fun i o t _ _ hl => (by rw [h0] at hl; exact absurd hl (by simp)), (Below.refl _ _).drew⟩
/-- What an operation that is waited for has left. -/
theorem pred_dep {l : List Oper} {R : Tmp → Value → World → Prop} {o : Oper} {a : Act} {w : World}
    (hD : ∀ e ∈ o.after, Region.binds .any e = true → ∀ (o' : Oper) (s : Tmp), l[e.on]? = some o' → o'.dst = some s → ∃ v, a.tmps[s]? = some v ∧ R s v w)
    (j : Nat) (hj : (o.after.any fun e => e.on == j && Region.binds .any e) = true) (s : Tmp) (hs : (l[j]?).bind (·.dst) = some s) : ∃ v, a.tmps[s]? = some v ∧ R s v w := by
  obtain ⟨e, he, h2⟩ := Array.any_eq_true'.1 hj
  simp only [Bool.and_eq_true, beq_iff_eq] at h2
  cases hl : l[j]? with
  | none => rw [hl] at hs; cases hs
  | some o' =>
    rw [hl] at hs
    exact hD e he h2.2 o' s (by rw [h2.1]; exact hl) hs
/-- The same where R fixes the value. -/
theorem pred_val {l : List Oper} {R : Tmp → Value → World → Prop} {o : Oper} {a : Act} {w : World}
    (hD : ∀ e ∈ o.after, Region.binds .any e = true → ∀ (o' : Oper) (s : Tmp), l[e.on]? = some o' → o'.dst = some s → ∃ v, a.tmps[s]? = some v ∧ R s v w)
    (j : Nat) (hj : (o.after.any fun e => e.on == j && Region.binds .any e) = true) (s : Tmp) (hs : (l[j]?).bind (·.dst) = some s) (u : Value) (hu : ∀ v, R s v w → v = u) : a.eval (.tmp s) = u := by
  obtain ⟨v, h1, h2⟩ := pred_dep hD j hj s hs
  rw [← hu v h2]
  exact eval_of h1
theorem pred_yes {l : List Oper} {R : Tmp → Value → World → Prop} {o : Oper} {a : Act} {w : World}
    (hD : ∀ e ∈ o.after, Region.binds .any e = true → ∀ (o' : Oper) (s : Tmp), l[e.on]? = some o' → o'.dst = some s → ∃ v, a.tmps[s]? = some v ∧ R s v w)
    (j : Nat) (b : Bool) (hg : o.guard = some (j, b)) (hj : (o.after.any fun e => e.on == j && Region.binds .any e) = true) (s : Tmp) (hs : (l[j]?).bind (·.dst) = some s) (hu : ∀ v, R s v w → v = .bool b) :
    Region.wanted o (yielded l.toArray a.tmps) = true := by
  obtain ⟨v, h1, h2⟩ := pred_dep hD j hj s hs
  have : v = .bool b := hu v h2
  subst this
  have hy : yielded l.toArray a.tmps j = some b := by
    unfold yielded
    have e : l.toArray[j]? = l[j]? := by simp
    rw [e, hs, Option.bind_some, h1]
  simp [Region.wanted, hg, hy]
theorem pred_no {l : List Oper} {R : Tmp → Value → World → Prop} {o : Oper} {a : Act} {w : World}
    (hD : ∀ e ∈ o.after, Region.binds .any e = true → ∀ (o' : Oper) (s : Tmp), l[e.on]? = some o' → o'.dst = some s → ∃ v, a.tmps[s]? = some v ∧ R s v w)
    (j : Nat) (b : Bool) (hg : o.guard = some (j, b)) (hj : (o.after.any fun e => e.on == j && Region.binds .any e) = true) (s : Tmp) (hs : (l[j]?).bind (·.dst) = some s) (hu : ∀ v, R s v w → v ≠ .bool b) :
    ¬ Region.wanted o (yielded l.toArray a.tmps) = true := by
  obtain ⟨v, h1, h2⟩ := pred_dep hD j hj s hs
  have hne : v ≠ .bool b := hu v h2
  have e : l.toArray[j]? = l[j]? := by simp
  unfold Region.wanted
  simp only [hg]
  unfold yielded
  rw [e, hs, Option.bind_some, h1]
  intro h
  cases v <;> simp at h
  rename_i c
  exact hne (by rw [h])
/-! ### The operations, one by one -/
variable {Q : Exit → Act → World → Prop} {K : Act → World → Prop} {o : Oper} {a : Act} {w : World}
theorem wpo_move (x : Operand) (v : Value) (ho : o.op = .move x) (hx : a.eval x = v) (h : K (a.put o.dst v) w) : o.wp P a w K Q :=
  wp_value v (by unfold execOp; rw [ho, ← hx]; rfl) h
theorem wpo_assign (x : Operand) (v : Value) (ho : o.op = .assign x) (hx : a.eval x = v) (h : K (a.put o.dst v) w) : o.wp P a w K Q :=
  wp_value v (by unfold execOp; rw [ho, ← hx]; rfl) h
theorem wpo_pick (t : Bool) (c x y : Operand) (v : Value) (ho : o.op = .pick c x y) (hc : a.eval c = .bool t) (hv : (if t then a.eval x else a.eval y) = v) (h : K (a.put o.dst v) w) : o.wp P a w K Q :=
  wp_value v (by unfold execOp; rw [ho, ← hv]; cases t <;> simp [hc, asBool]) h
theorem wpo_not (r : Bool) (t : TypeId) (x : Operand) (ho : o.op = .unOp .not t x) (hx : a.eval x = .bool r) (h : K (a.put o.dst (.bool (!r))) w) : o.wp P a w K Q :=
  wp_value _ (by unfold execOp; simp only [ho, hx]; rfl) h
theorem wpo_bin (v : Value) (op : BinOp) (t ty : TypeId) (x y : Operand) (ho : o.op = .binOp op t x y ty)
    (hrun : (do eqGuard op t x y (a.eval x) (a.eval y); binOp op t (a.eval x) (a.eval y) : Sem Value).run P w = .ok v w) (h : K (a.put o.dst v) w) : o.wp P a w K Q :=
  wp_value v (by
    unfold execOp
    simp only [ho, Sem.run_bind, Sem.run_pure] at hrun ⊢
    rw [hrun]
    rfl) h
theorem wpo_cmp (op : BinOp) (r : Bool) (t ty : TypeId) (x y : Operand) (k : IntKind) (m n : Int) (ho : o.op = .binOp op t x y ty) (hx : a.eval x = .int k m) (hy : a.eval y = .int k n) (hr : cmpInt op m n = some r)
    (h : K (a.put o.dst (.bool r)) w) : o.wp P a w K Q :=
  wpo_bin _ op t ty x y ho (by
    have h0 : (eqGuard op t x y (.int k m) (.int k n)).run P w = .ok () w := by cases op <;> rfl
    simp only [hx, hy, Sem.run_bind, h0, Result.andThen_ok, run_cmp_int w op t k m n r hr]) h
theorem wpo_agg (op : BinOp) (r : Bool) (t ty : TypeId) (x y : Operand) (cs ds : Array Value) (ho : o.op = .binOp op t x y ty) (hx : a.eval x = .agg cs) (hy : a.eval y = .agg ds) (hm : P.eqGuardType P.depth t = false)
    (hrun : (binOp op t (.agg cs) (.agg ds)).run P w = .ok (.bool r) w) (h : K (a.put o.dst (.bool r)) w) : o.wp P a w K Q :=
  wpo_bin _ op t ty x y ho (by
    simp only [hx, hy, Sem.run_bind, run_eqGuard_agg w op t x y cs ds hm, Result.andThen_ok, hrun]) h
theorem wpo_call (f : FuncId) (xs : List Operand) (ts : Array TypeId) (args : Array Value) (fn : Func) (c : Code) (R : Value → World → Prop)
    (ho : o.op = .call { callee := .value (.func f), args := xs.toArray, argTypes := ts }) (hf : P.funcs[f]? = some fn) (hb : fn.body = some c) (hn : (fn.name == "runtime.NumGoroutine") = false) (hx : (xs.map a.eval).toArray = args)
    (hc : Calls P f args w fun e w'' => ∃ v, e = .returned v ∧ R v w'' ∧ Below w.heap.size w w'')
    (hK : ∀ v w', Below w.heap.size w w' → R v w' → K (a.put o.dst v) w') : o.wp P a w K Q := by
  have he : (execOp a.eval o).run P w = .ok (.enter f (xs.map a.eval).toArray) w := by
    unfold execOp
    simp only [ho, resolve]
    show ((do let d ← Deferred.ofValue (.func (.func f) #[] #[]) (xs.toArray.map a.eval); invoke d.target d.args) : Sem Next).run P w = _
    have hn' : ¬ fn.name = "runtime.NumGoroutine" := by simpa using hn
    simp [Deferred.ofValue, invoke, callFunc, hf, hb, hn']
  unfold Oper.wp
  rw [he, hx]
  refine hc.mono ?_
  rintro e w' ⟨v, rfl, h1, h2⟩
  exact hK v w' h2 h1
/-! ### A plain region: its first operations quiet, the rest as they come -/
theorem wpList_quiet_then {ops : Array Oper} {C : World → Prop} {l2 : List Oper} : ∀ (l : List Oper) (a : Act) (w : World), C w → wpQuiet P ops C (fun a' => ∀ w', C w' → wpList P ops Q l2 a' w') l a → wpList P ops Q (l ++ l2) a w
  | [], a, w, hC, h => h w hC
  | o :: l, a, w, hC, h => by
    unfold wpQuiet at h
    rw [List.cons_append]
    unfold wpList
    by_cases hw : Region.wanted o (yielded ops a.tmps) = true
    · rw [if_pos hw] at h ⊢
      exact .inl (Oper.wp_of_quiet hC (fun a' w' hC' hh => wpList_quiet_then l a' w' hC' hh) h)
    · rw [if_neg hw] at h ⊢
      exact wpList_quiet_then l _ w hC h
theorem wk_plain_tail {id : Nat} {l : List Oper} (n : Nat)
    (h : WQ P l.toArray (Since w) (fun a' => ∀ w', Since w w' → wpList P l.toArray Q (l.drop n) a' w') (l.take n) a) : (Code.region id l.toArray false).wp P Q a w := by
  refine wp_region_lit ?_
  have := wpList_quiet_then (l.take n) a w (show Since w w from Below.refl _ _) h.out
  rwa [List.take_append_drop] at this
theorem wpList_want {ops : Array Oper} {rest : List Oper} (hw : Region.wanted o (yielded ops a.tmps) = true) (h : o.wp P a w (fun a' w' => wpList P ops Q rest a' w') Q) : wpList P ops Q (o :: rest) a w := by
  unfold wpList
  rw [if_pos hw]
  exact .inl h
theorem wpList_end {ops : Array Oper} (h : Q .normal a w) : wpList P ops Q [] a w := h
theorem call_is {f : FuncId} {args : Array Value} {v : Value} (h : Calls P f args w fun e w'' => e = .returned v ∧ Below w.heap.size w w'') : Calls P f args w fun e w'' => ∃ u, e = .returned u ∧ u = v ∧ Below w.heap.size w w'' :=
  h.mono fun _ _ ⟨h1, h2⟩ => ⟨v, h1, rfl, h2⟩
end
end Go.Proofs.YtcepfmjebgklfaaDoor
