/- A drawn region 'v := T{f(x), ..}' where v's address is taken: the new variable may be made anywhere among the calls; the store comes last. Over any program. The law of the free alloc in a form that a walk can use: what is decided is decided by the kernel; the frame behind it is computed. Over any program. Steps of the law of the free alloc. Over any program. -/
import Derived.Test.YtnphgaiiiiknpaaDoorCopies
import Derived.Test.YtnphgaiiiiknpaaDoorQuiet
import Derived.Laws.Tables
namespace Go.Proofs.YtnphgaiiiiknpaaDoor
open Go.RowKit
section
variable {P : Program}
/-- What holds once the operations of 'listed' are done: F the values of the slots. -/
structure FreeInv (l : List Oper) (A : Nat) (F : Tmp → Value) (Z : Array Value) (T : TypeId) (da : Tmp) (W0 : World) (a0 : Act) (listed : Array Bool) (b : Nat) (a : Act) (w : World) : Prop where
  defers : a.defers = a0.defers
  size : a.tmps.size = a0.tmps.size
  other : ∀ t, (∀ o ∈ l, o.dst ≠ some t) → a.tmps[t]? = a0.tmps[t]?
  done : ∀ i o t, l[i]? = some o → i ≠ A → o.dst = some t → listed.getD i false = true → a.tmps[t]? = some (F t)
  made : listed.getD A false = true → a.tmps[da]? = some (.pointer (some ⟨b, 0, none⟩)) ∧ W0.heap.size ≤ b ∧ w.heap[b]? = some (.cells Z T (0, 0))
  below : Below W0.heap.size W0 w
theorem wp_region_free {id : Nat} {Q : Exit → Act → World → Prop} {a0 : Act} {W0 : World} {l : List Oper} (hm : P.follows .mixedOrders = true) (A N : Nat) (F : Tmp → Value) (Z : Array Value) (T : TypeId) (da : Tmp) (hN : l.length = N + 1) (hAN : A < N)
    (horder : (l.zipIdx.all fun x => x.1.after.all fun e => !Region.binds .any e || decide (e.on < x.2)) = true)
    (hA : ∃ o, l[A]? = some o ∧ o.op = .alloc T ∧ o.dst = some da ∧ o.guard = none) (hz : (P.info? T).bind (·.zero) = some (.agg Z))
    (dist : ∀ (i j : Nat) (o o' : Oper) (t : Tmp), l[i]? = some o → l[j]? = some o' → o.dst = some t → o'.dst = some t → i = j)
    (hlt : ∀ o ∈ l, ∀ t, o.dst = some t → t < a0.tmps.size)
    (quiet : ∀ (i : Nat) (o : Oper), l[i]? = some o → i ≠ A → i < N → o.guard = none ∧ ∃ t, o.dst = some t ∧ ∀ a w, Below W0.heap.size W0 w → (∀ s, (∀ o ∈ l, o.dst ≠ some s) → a.tmps[s]? = a0.tmps[s]?) →
      (∀ e ∈ o.after, Region.binds .any e = true → e.on ≠ A → ∀ (o' : Oper) (s : Tmp), l[e.on]? = some o' → o'.dst = some s → a.tmps[s]? = some (F s)) →
      ∀ K : Act → World → Prop, (∀ w', Below w.heap.size w w' → K (a.put o.dst (F t)) w') → o.wp P a w K Q)
    (fin : Nat → Array Value) (hf0 : ∀ b t, (∀ o ∈ l, o.dst ≠ some t) → (fin b)[t]? = a0.tmps[t]?) (hfd : ∀ (b i : Nat) (o : Oper) (t : Tmp), l[i]? = some o → i ≠ A → o.dst = some t → (fin b)[t]? = some (F t))
    (hfa : ∀ b, (fin b)[da]? = some (.pointer (some ⟨b, 0, none⟩)))
    (last : ∃ o, l[N]? = some o ∧ o.guard = none ∧ o.dst = none ∧ (∀ j, j < N → (o.after.any (fun e => e.on == j && Region.binds .any e)) = true) ∧
      ∀ b w, W0.heap.size ≤ b → w.heap[b]? = some (.cells Z T (0, 0)) → Below W0.heap.size W0 w → o.wp P ⟨fin b, a0.defers⟩ w (Q .normal) Q) :
    (Code.region id l.toArray true).wp P Q a0 W0 := by
  obtain ⟨oA, hoA, hAop, hAd, hAg⟩ := hA
  obtain ⟨oN, hoN, hNg, hNd, hNa, hNw⟩ := last
  refine wp_region_any hm (wpAny_inv (fun listed a w => if listed.getD N false = true then (∀ j, j < N + 1 → listed.getD j false = true) ∧ Q .normal a w else ∃ b, FreeInv l A F Z T da W0 a0 listed b a w) ?_ ?_ ?_ _ _ _ _ (by simp) (Nat.le_trans List.countP_le_length (by simp)) ?_)
  · intro i o ho e he hb
    have hh := horder
    rw [List.all_eq_true] at hh
    have hmem : (o, i) ∈ l.zipIdx := List.mem_iff_getElem?.2 ⟨i, by simpa [List.getElem?_zipIdx] using ho⟩
    have h2 := hh _ hmem
    rw [Array.all_eq_true_iff_forall_mem] at h2
    have := h2 e he
    simpa [hb] using this
  · intro listed a w hs hI i o ho hni hready
    have hsz : listed.size = N + 1 := by rw [hs]; simpa using hN
    have ho' : l[i]? = some o := by simpa using ho
    have hil : i < N + 1 := by rw [← hN]; exact (List.getElem?_eq_some_iff.1 ho').1
    have hni' : listed.getD i false = false := by
      have : i < listed.size := by omega
      simp only [Array.getD, this, dif_pos] at hni ⊢; exact hni
    have hset : ∀ k, (listed.setIfInBounds i true).getD k false = if k = i then true else listed.getD k false := fun k => getD_set listed i k (by omega)
    have hdone : ∀ e ∈ o.after, Region.binds .any e = true → listed.getD e.on false = true := by
      intro e he hb
      rw [Array.all_eq_true_iff_forall_mem] at hready
      have := hready e he
      simpa [hb] using this
    by_cases hL : listed.getD N false = true
    · rw [if_pos hL] at hI
      rw [hI.1 i hil] at hni'; cases hni'
    rw [if_neg hL] at hI
    obtain ⟨b, I⟩ := hI
    have hwp : ∀ (K : Act → World → Prop), o.guard = none → o.wp P a w K Q → wpOp P l.toArray Q i K a w := by
      intro K hgd hK
      have hw : Region.wanted o (yielded l.toArray a.tmps) = true := by simp [Region.wanted, hgd]
      unfold wpOp
      simp only [ho, hw, if_true]
      exact .inl hK
    by_cases ciN : i = N
    · subst ciN
      rw [hoN] at ho'; cases ho'
      have hall : ∀ j, j < i → listed.getD j false = true := by
        intro j hj
        have := hNa j hj
        obtain ⟨e, he, h2⟩ := Array.any_eq_true'.1 this
        simp only [Bool.and_eq_true, beq_iff_eq] at h2
        rw [← h2.1]
        exact hdone e he h2.2
      have hea : a = ⟨fin b, a0.defers⟩ := by
        have ht : a.tmps = fin b := by
          apply Array.ext_getElem?
          intro t
          by_cases hd : ∀ o ∈ l, o.dst ≠ some t
          · rw [I.other t hd, hf0 b t hd]
          · have hd : ∃ o ∈ l, o.dst = some t := by
              apply Classical.byContradiction
              intro hne
              exact hd (fun o ho he => hne ⟨o, ho, he⟩)
            obtain ⟨o', hm', hd'⟩ := hd
            obtain ⟨j, hj⟩ := List.mem_iff_getElem?.1 hm'
            by_cases hjA : j = A
            · subst hjA
              rw [hoA] at hj; cases hj
              rw [hAd] at hd'; cases hd'
              rw [hfa b]
              exact (I.made (hall _ hAN)).1
            · have hjl : j < i + 1 := by rw [← hN]; exact (List.getElem?_eq_some_iff.1 hj).1
              have hji : j ≠ i := by rintro rfl; rw [hoN] at hj; cases hj; rw [hNd] at hd'; cases hd'
              rw [hfd b j o' t hj hjA hd']
              exact I.done j o' t hj hjA hd' (hall j (by omega))
        have hdf := I.defers
        cases a; simp only at ht hdf; subst ht; subst hdf; rfl
      refine hwp _ hNg ?_
      rw [hea]
      obtain ⟨m1, m2, m3⟩ := I.made (hall _ hAN)
      refine Oper.wp_mono (fun a' w' hQ => ?_) (hNw b w m2 m3 I.below)
      rw [if_pos (by rw [hset, if_pos rfl])]
      exact ⟨fun j hj => by rw [hset]; split; rfl; exact hall j (by omega), hQ⟩
    have hN2 : ¬ (listed.setIfInBounds i true).getD N false = true := by rw [hset, if_neg (fun e => ciN e.symm)]; exact hL
    by_cases ciA : i = A
    · subst ciA
      rw [hoA] at ho'; cases ho'
      refine hwp _ hAg (wp_alloc_row T hAop Z hz ?_)
      rw [if_neg hN2]
      refine ⟨w.heap.size, by rw [hAd]; exact I.defers, by rw [hAd]; simpa [Act.put] using I.size, ?_, ?_, ?_, I.below.alloc I.below.size _⟩
      · intro t ht
        have : oA.dst ≠ some t := ht oA (List.mem_of_getElem? hoA)
        rw [hAd] at this ⊢
        show (a.tmps.setIfInBounds da _)[t]? = _
        rw [Array.getElem?_setIfInBounds_ne (fun e => this (by rw [e]))]
        exact I.other t ht
      · intro j o' t hj hjA hd hlj
        rw [hset, if_neg hjA] at hlj
        rw [hAd]
        show (a.tmps.setIfInBounds da _)[t]? = _
        rw [Array.getElem?_setIfInBounds_ne (fun e => hjA (dist j i o' oA t hj hoA hd (by rw [hAd, e])))]
        exact I.done j o' t hj hjA hd hlj
      · intro _
        rw [hAd]
        refine ⟨?_, I.below.size, heap_alloc_new _ _⟩
        show (a.tmps.setIfInBounds da _)[da]? = _
        rw [Array.getElem?_setIfInBounds_self_of_lt (by rw [I.size]; exact hlt oA (List.mem_of_getElem? hoA) da hAd)]
    · obtain ⟨hg, t, hd, hq⟩ := quiet i o ho' ciA (by omega)
      refine hwp _ hg (hq a w I.below I.other ?_ _ ?_)
      · intro e he hb hne o' s hl' hd'
        exact I.done _ o' s hl' hne hd' (hdone e he hb)
      · intro w' hB
        rw [if_neg hN2]
        have hsz' : t < a.tmps.size := by rw [I.size]; exact hlt o (List.mem_of_getElem? ho') t hd
        refine ⟨b, by rw [hd]; exact I.defers, by rw [hd]; simpa [Act.put] using I.size, ?_, ?_, ?_, I.below.trans (hB.mono I.below.size)⟩
        · intro s hs'
          have : o.dst ≠ some s := hs' o (List.mem_of_getElem? ho')
          rw [hd] at this ⊢
          show (a.tmps.setIfInBounds t _)[s]? = _
          rw [Array.getElem?_setIfInBounds_ne (fun e => this (by rw [e]))]
          exact I.other s hs'
        · intro j o' s hj hjA hd' hlj
          rw [hd]
          show (a.tmps.setIfInBounds t _)[s]? = _
          by_cases hji : j = i
          · subst hji
            rw [ho'] at hj; cases hj
            rw [hd] at hd'; cases hd'
            rw [Array.getElem?_setIfInBounds_self_of_lt hsz']
          · rw [hset, if_neg hji] at hlj
            rw [Array.getElem?_setIfInBounds_ne (fun e => hji (dist j i o' o s hj ho' hd' (by rw [hd, e])))]
            exact I.done j o' s hj hjA hd' hlj
        · intro hlA
          rw [hset, if_neg (fun e => ciA e.symm)] at hlA
          obtain ⟨m1, m2, m3⟩ := I.made hlA
          refine ⟨?_, m2, (hB.block b (Array.getElem?_eq_some_iff.1 m3).1).trans m3⟩
          rw [hd]
          show (a.tmps.setIfInBounds t _)[da]? = _
          rw [Array.getElem?_setIfInBounds_ne (fun e => ciA (dist i A o oA t ho' hoA hd (by rw [hAd, e])))]
          exact m1
  · intro listed a w hs hI hall
    rw [if_pos (hall N (by simp [hN]))] at hI
    exact hI.2
  · have h0 : ∀ j, (Array.replicate l.toArray.size false).getD j false = false := by
      intro j
      simp [Array.getD_eq_getD_getElem?, Array.getElem?_replicate]
      split <;> rfl
    rw [if_neg (by rw [h0]; simp)]
    exact ⟨0, rfl, rfl, fun _ _ => rfl, fun i o t _ _ _ hl => (by rw [h0] at hl; exact absurd hl (by simp)), fun hl => (by rw [h0] at hl; exact absurd hl (by simp)), (Below.refl _ _).drew⟩
end
end Go.Proofs.YtnphgaiiiiknpaaDoor
namespace Go.Proofs.YtnphgaiiiiknpaaDoor
open Go.RowKit
section
variable {P : Program}
def AllQ (p : Nat → Oper → Prop) : Nat → List Oper → Prop
  | _, [] => True
  | i, o :: l => p i o ∧ AllQ p (i + 1) l
theorem AllQ.get {p : Nat → Oper → Prop} : ∀ {l : List Oper} {k : Nat}, AllQ p k l → ∀ i o, l[i]? = some o → p (k + i) o
  | [], _, _, i, o, h => by simp at h
  | x :: l, k, h, 0, o, ho => by simp at ho; subst ho; exact h.1
  | x :: l, k, h, i + 1, o, ho => by
    have := AllQ.get h.2 i o (by simpa using ho)
    rwa [show k + 1 + i = k + (i + 1) by omega] at this
def putAll (V : Tmp → Value) (tm : Array Value) : List Oper → Array Value
  | [] => tm
  | o :: l => putAll V (match o.dst with | none => tm | some t => tm.setIfInBounds t (V t)) l
theorem size_putAll (V : Tmp → Value) : ∀ (l : List Oper) (tm : Array Value), (putAll V tm l).size = tm.size
  | [], _ => rfl
  | o :: l, tm => by
    rw [putAll, size_putAll V l]
    cases o.dst <;> simp
theorem putAll_other (V : Tmp → Value) (t : Tmp) : ∀ (l : List Oper) (tm : Array Value), (∀ o ∈ l, o.dst ≠ some t) → (putAll V tm l)[t]? = tm[t]?
  | [], _, _ => rfl
  | o :: l, tm, h => by
    rw [putAll, putAll_other V t l _ (fun o ho => h o (List.mem_cons_of_mem _ ho))]
    have := h o List.mem_cons_self
    cases hd : o.dst with
    | none => rfl
    | some s => rw [hd] at this; exact Array.getElem?_setIfInBounds_ne (fun e => this (by rw [e]))
theorem putAll_some (V : Tmp → Value) (t : Tmp) : ∀ (l : List Oper) (tm : Array Value), t < tm.size → (∃ o ∈ l, o.dst = some t) → (putAll V tm l)[t]? = some (V t)
  | [], _, _, h => by obtain ⟨o, ho, _⟩ := h; simp at ho
  | o :: l, tm, hlt, h => by
    rw [putAll]
    by_cases hl : ∃ o ∈ l, o.dst = some t
    · exact putAll_some V t l _ (by cases o.dst <;> simpa using hlt) hl
    · rw [putAll_other V t l _ (fun o' ho' e => hl ⟨o', ho', e⟩)]
      obtain ⟨o', ho', hd⟩ := h
      rcases List.mem_cons.1 ho' with rfl | hm
      · rw [hd]; exact Array.getElem?_setIfInBounds_self_of_lt hlt
      · exact absurd ⟨o', hm, hd⟩ hl
theorem wp_region_free2 {id : Nat} {Q : Exit → Act → World → Prop} {a0 : Act} {W0 : World} {l : List Oper} (hm : P.follows .mixedOrders = true) (A N : Nat) (F : Tmp → Value) (Z : Array Value) (T : TypeId) (da : Tmp) (hN : l.length = N + 1) (hAN : A < N)
    (horder : (l.zipIdx.all fun x => x.1.after.all fun e => !Region.binds .any e || decide (e.on < x.2)) = true)
    (hA : ∃ o, l[A]? = some o ∧ o.op = .alloc T ∧ o.dst = some da ∧ o.guard = none) (hz : (P.info? T).bind (·.zero) = some (.agg Z))
    (hdist : (l.zipIdx.all fun x => l.zipIdx.all fun y => x.1.dst.isNone || x.1.dst != y.1.dst || x.2 == y.2) = true)
    (hltB : (l.all fun o => match o.dst with | none => true | some t => decide (t < a0.tmps.size)) = true)
    (quiet : AllQ (fun i o => i = A ∨ i = N ∨ (o.guard = none ∧ ∃ t, o.dst = some t ∧ ∀ a w, Below W0.heap.size W0 w → (∀ s, (∀ o ∈ l, o.dst ≠ some s) → a.tmps[s]? = a0.tmps[s]?) →
      (∀ e ∈ o.after, Region.binds .any e = true → e.on ≠ A → ∀ (o' : Oper) (s : Tmp), l[e.on]? = some o' → o'.dst = some s → a.tmps[s]? = some (F s)) →
      ∀ K : Act → World → Prop, (∀ w', Below w.heap.size w w' → K (a.put o.dst (F t)) w') → o.wp P a w K Q)) 0 l)
    (hlast : ∃ o, l[N]? = some o ∧ o.guard = none ∧ o.dst = none ∧ ((List.range N).all fun j => o.after.any (fun e => e.on == j && Region.binds .any e)) = true ∧
      ∀ b w, W0.heap.size ≤ b → w.heap[b]? = some (.cells Z T (0, 0)) → Below W0.heap.size W0 w → o.wp P ⟨putAll (fun t => if t = da then .pointer (some ⟨b, 0, none⟩) else F t) a0.tmps l, a0.defers⟩ w (Q .normal) Q) :
    (Code.region id l.toArray true).wp P Q a0 W0 := by
  have dist : ∀ (i j : Nat) (o o' : Oper) (t : Tmp), l[i]? = some o → l[j]? = some o' → o.dst = some t → o'.dst = some t → i = j := by
    intro i j o o' t hi hj h1 h2
    rw [List.all_eq_true] at hdist
    have q1 := hdist (o, i) (List.mem_iff_getElem?.2 ⟨i, by simpa [List.getElem?_zipIdx] using hi⟩)
    rw [List.all_eq_true] at q1
    have q2 := q1 (o', j) (List.mem_iff_getElem?.2 ⟨j, by simpa [List.getElem?_zipIdx] using hj⟩)
    simpa [h1, h2] using q2
  have hlt : ∀ o ∈ l, ∀ t, o.dst = some t → t < a0.tmps.size := by
    intro o ho t hd
    rw [List.all_eq_true] at hltB
    have := hltB o ho
    rw [hd] at this
    simpa using this
  obtain ⟨oA, hoA, hAop, hAd, hAg⟩ := hA
  obtain ⟨oN, hoN, hNg, hNd, hNa, hNw⟩ := hlast
  refine wp_region_free hm A N F Z T da hN hAN horder ⟨oA, hoA, hAop, hAd, hAg⟩ hz dist hlt ?_ (fun b => putAll (fun t => if t = da then .pointer (some ⟨b, 0, none⟩) else F t) a0.tmps l) ?_ ?_ ?_ ⟨oN, hoN, hNg, hNd, ?_, hNw⟩
  · intro i o ho hiA hiN
    have := AllQ.get quiet i o ho
    rw [Nat.zero_add] at this
    rcases this with h | h | h
    · exact absurd h hiA
    · omega
    · exact h
  · intro b t h
    exact putAll_other _ t l _ h
  · intro b i o t hi hiA hd
    have hm := List.mem_of_getElem? hi
    show (putAll _ _ l)[t]? = _
    rw [putAll_some _ t l _ (hlt o hm t hd) ⟨o, hm, hd⟩, if_neg]
    rintro rfl
    exact hiA (dist i A o oA t hi hoA hd hAd)
  · intro b
    have hm := List.mem_of_getElem? hoA
    show (putAll _ _ l)[da]? = _
    rw [putAll_some _ da l _ (hlt oA hm da hAd) ⟨oA, hm, hAd⟩, if_pos rfl]
  · intro j hj
    rw [List.all_eq_true] at hNa
    exact hNa j (List.mem_range.2 hj)
end
end Go.Proofs.YtnphgaiiiiknpaaDoor
namespace Go.Proofs.YtnphgaiiiiknpaaDoor
open Go.RowKit
section
variable {P : Program} {Q : Exit → Act → World → Prop} {K : Act → World → Prop} {o : Oper} {a : Act} {w : World}
theorem not_dst {l : List Oper} (t : Tmp) (h : (l.all fun o => o.dst != some t) = true) : ∀ o ∈ l, o.dst ≠ some t := by
  intro o ho he
  rw [List.all_eq_true] at h
  have := h o ho
  simp [he] at this
theorem eval_of {t : Tmp} {v : Value} (h : a.tmps[t]? = some v) : a.eval (.tmp t) = v := by
  show a.tmps.getD t undef = v
  rw [Array.getD_eq_getD_getElem?, h]; rfl
theorem wp_value (v : Value) (hrun : (execOp a.eval o).run P w = .ok (.value v) w) (h : K (a.put o.dst v) w) : o.wp P a w K Q := by
  unfold Oper.wp; rw [hrun]; exact h
theorem wp_call_any (f : FuncId) (xs : List Operand) (ts : Array TypeId) (args : Array Value) (v : Value) (fn : Func) (c : Code)
    (ho : o.op = .call { callee := .value (.func f), args := xs.toArray, argTypes := ts }) (hf : P.funcs[f]? = some fn) (hb : fn.body = some c) (hn : (fn.name == "runtime.NumGoroutine") = false) (hx : (xs.map a.eval).toArray = args)
    (hc : Calls P f args w fun e w'' => e = .returned v ∧ Below w.heap.size w w'')
    (hK : ∀ w', Below w.heap.size w w' → K (a.put o.dst v) w') : o.wp P a w K Q := by
  have he : (execOp a.eval o).run P w = .ok (.enter f (xs.map a.eval).toArray) w := by
    unfold execOp
    simp only [ho, resolve]
    show ((do let d ← Deferred.ofValue (.func (.func f) #[] #[]) (xs.toArray.map a.eval); invoke d.target d.args) : Sem Next).run P w = _
    have hn' : ¬ fn.name = "runtime.NumGoroutine" := by simpa using hn
    simp [Deferred.ofValue, invoke, callFunc, hf, hb, hn']
  unfold Oper.wp
  rw [he, hx]
  refine hc.mono ?_
  rintro e w' ⟨rfl, h⟩
  exact hK w' h
theorem dep_of {l : List Oper} {A : Nat} {F : Tmp → Value}
    (hD : ∀ e ∈ o.after, Region.binds .any e = true → e.on ≠ A → ∀ (o' : Oper) (s : Tmp), l[e.on]? = some o' → o'.dst = some s → a.tmps[s]? = some (F s))
    (j : Nat) (hj : (o.after.any fun e => e.on == j && Region.binds .any e) = true) (hA : (j != A) = true) (s : Tmp) (hs : (l[j]?).bind (·.dst) = some s) : a.eval (.tmp s) = F s := by
  obtain ⟨e, he, h2⟩ := Array.any_eq_true'.1 hj
  simp only [Bool.and_eq_true, beq_iff_eq] at h2
  cases hl : l[j]? with
  | none => rw [hl] at hs; cases hs
  | some o' =>
    rw [hl] at hs
    exact eval_of (hD e he h2.2 (by rw [h2.1]; simpa using hA) o' s (by rw [h2.1]; exact hl) hs)
theorem wp_load_all (ty : TypeId) (x : Operand) (g : Nat) (t : TypeId) (cs : Array Value) (fr : Nat × Nat) (d : TypeDesc) (ho : o.op = .load ty x)
    (hx : a.eval x = .pointer (some ⟨g, 0, none⟩)) (hg : w.heap[g]? = some (.cells cs t fr))
    (hu : P.underlying ty = some d) (hd : (match d with | .struct _ | .array _ _ => true | _ => false) = true) (hi : (P.info? ty).map (·.size) = some cs.size)
    (h : K (a.put o.dst (.agg cs)) w) : o.wp P a w K Q :=
  wp_value _ (by
    unfold execOp
    simp only [ho, hx, Instr.loadAt, Instr.sureAddr, Sem.run_bind, Sem.run_pure, Result.andThen_ok, run_loadVar_row w g t ty cs fr d hg hu hd hi]) h
theorem wp_load_cell (ty : TypeId) (x : Operand) (ad : Addr) (v : Value) (d : TypeDesc) (hd : (match d with | .struct _ | .array _ _ => true | _ => false) = false) (ho : o.op = .load ty x)
    (hx : a.eval x = .pointer (some ad)) (hg : w.cell? ad = some v) (hu : P.underlying ty = some d) (h : K (a.put o.dst v) w) : o.wp P a w K Q :=
  wp_value _ (by
    unfold execOp
    simp only [ho, hx, run_loadAt_one w ty ad v d hd hu hg, Sem.run_bind, Sem.run_pure, Result.andThen_ok]) h
theorem wp_convert (s d : TypeId) (x : Operand) (u v : Value) (ho : o.op = .convert s d x) (hx : a.eval x = u) (hr : (convert s d u).run P w = .ok v w) (h : K (a.put o.dst v) w) : o.wp P a w K Q :=
  wp_value _ (by
    unfold execOp
    simp only [ho, hx, Sem.run_bind, hr, Sem.run_pure, Result.andThen_ok]) h
theorem wp_index_arr (t e : TypeId) (x ix : Operand) (g k N : Nat) (kk : IntKind) (ho : o.op = .indexAddr t x ix)
    (ht : P.underlying t = some (.array N e)) (hs : (P.info? e).map (·.size) = some 1) (hx : a.eval x = .pointer (some ⟨g, 0, none⟩)) (hi : a.eval ix = .int kk (k : Int)) (hk : k < N)
    (h : K (a.put o.dst (.pointer (some ⟨g, k, none⟩))) w) : o.wp P a w K Q :=
  wp_value _ (by
    obtain ⟨f, hf, hf1⟩ : ∃ f, P.info? e = some f ∧ f.size = 1 := by
      cases hq : P.info? e with
      | none => simp [hq] at hs
      | some f => exact ⟨f, rfl, by simpa [hq] using hs⟩
    have hk' : (0 : Int) ≤ (k : Int) ∧ (k : Int) < (N : Int) := by omega
    unfold execOp
    simp only [ho, hx, hi]
    simp [Instr.indexAt, asIntOf, run_underlying ht, hk', sizeOf, typeInfo, hf, hf1, Addr.add_lit, hk, Instr.sureAddr]) h
theorem wp_built (t : TypeId) (parts : Array (Nat × Operand)) (vals : List (Nat × Value)) (cells : Array Value) (ho : o.op = .build t parts) (hv : (parts.map fun (i, x) => (i, a.eval x)).toList = vals)
    (hb : P.built t vals = some cells) (h : K (a.put o.dst (.agg cells)) w) : o.wp P a w K Q :=
  wp_value _ (by
    unfold execOp
    have := run_build w t (parts.map fun (i, x) => (i, a.eval x)) cells (by rw [hv]; exact hb)
    simp only [ho, Sem.run_bind, this, Result.andThen_ok, Sem.run_pure]) h
end
end Go.Proofs.YtnphgaiiiiknpaaDoor
