/- A drawn region whose calls answer fresh blocks: as XPred's law, and the fresh ones are told apart. Over any program. -/
import Derived.Test.YtnfmdcohacflmaaDoorPred
namespace Go.Proofs.YtnfmdcohacflmaaDoor
open Go.RowKit
section
variable {P : Program}
def InW (v : Value) (w : World) : Prop := ∃ p : Addr, v = .pointer (some p) ∧ p.block < w.heap.size
structure PredInvS (l : List Oper) (R : Tmp → Value → World → Prop) (fr : Tmp → Bool) (cp : Tmp → Option Tmp) (W0 : World) (a0 : Act) (listed : Array Bool) (a : Act) (w : World) : Prop where
  pred : PredInv l R W0 a0 listed a w
  apart : ∀ (i j : Nat) (o o' : Oper) (t s : Tmp), l[i]? = some o → l[j]? = some o' → o.dst = some t → o'.dst = some s → listed.getD i false = true → listed.getD j false = true → fr t = true → fr s = true → t ≠ s → a.tmps[t]? ≠ a.tmps[s]?
  copy : ∀ (i : Nat) (o : Oper) (t s : Tmp), l[i]? = some o → o.dst = some t → listed.getD i false = true → cp t = some s → a.tmps[t]? = a.tmps[s]? ∧ ∃ (j : Nat) (o' : Oper), l[j]? = some o' ∧ o'.dst = some s ∧ listed.getD j false = true
/-- What one operation owes. -/
def PredOpS (P : Program) (Q : Exit → Act → World → Prop) (l : List Oper) (R : Tmp → Value → World → Prop) (fr : Tmp → Bool) (cp : Tmp → Option Tmp) (W0 : World) (a0 : Act) (o : Oper) : Prop :=
  ∃ t, o.dst = some t ∧ ∀ a w, Below W0.heap.size W0 w → (∀ s, (∀ o ∈ l, o.dst ≠ some s) → a.tmps[s]? = a0.tmps[s]?) →
    (∀ e ∈ o.after, Region.binds .any e = true → ∀ (o' : Oper) (s : Tmp), l[e.on]? = some o' → o'.dst = some s → ∃ v, a.tmps[s]? = some v ∧ R s v w) →
    ∀ K : Act → World → Prop, (∀ v w', Below w.heap.size w w' → R t v w' → (fr t = true → ¬ InW v w) → (∀ s, cp t = some s → a.tmps[s]? = some v ∧ ∃ (j : Nat) (o' : Oper), l[j]? = some o' ∧ o'.dst = some s ∧ (o.after.any fun e => e.on == j && Region.binds .any e) = true) → K (a.put o.dst v) w') →
      if Region.wanted o (yielded l.toArray a.tmps) = true then o.wp P a w K Q else K (a.put o.dst undef) w
set_option maxHeartbeats 1000000 in
theorem wp_region_predS {id : Nat} {Q : Exit → Act → World → Prop} {a0 : Act} {W0 : World} {l : List Oper} (hm : P.follows .mixedOrders = true) (R : Tmp → Value → World → Prop) (fr : Tmp → Bool) (cp : Tmp → Option Tmp)
    (hstab : ∀ t v w w', R t v w → Below w.heap.size w w' → R t v w') (hin : ∀ t v w, fr t = true → R t v w → InW v w)
    (horder : (l.zipIdx.all fun x => x.1.after.all fun e => !Region.binds .any e || decide (e.on < x.2)) = true)
    (hdist : (l.zipIdx.all fun x => l.zipIdx.all fun y => x.1.dst.isNone || x.1.dst != y.1.dst || x.2 == y.2) = true)
    (hltB : (l.all fun o => match o.dst with | none => true | some t => decide (t < a0.tmps.size)) = true)
    (ops : AllQ (fun _ o => PredOpS P Q l R fr cp W0 a0 o) 0 l)
    (fin : ∀ (V : Tmp → Value) (w : World), Below W0.heap.size W0 w → (∀ (i : Nat) (o : Oper) (t : Tmp), l[i]? = some o → o.dst = some t → R t (V t) w) →
      (∀ (i j : Nat) (o o' : Oper) (t s : Tmp), l[i]? = some o → l[j]? = some o' → o.dst = some t → o'.dst = some s → fr t = true → fr s = true → t ≠ s → V t ≠ V s) →
      (∀ (i : Nat) (o : Oper) (t s : Tmp), l[i]? = some o → o.dst = some t → cp t = some s → V t = V s) → Q .normal ⟨putAll V a0.tmps l, a0.defers⟩ w) :
    (Code.region id l.toArray true).wp P Q a0 W0 := by
  have dist : ∀ (i j : Nat) (o o' : Oper) (t : Tmp), l[i]? = some o → l[j]? = some o' → o.dst = some t → o'.dst = some t → i = j := by
    intro i j o o' t hi hj h1 h2
    rw [List.all_eq_true] at hdist
    have q1 := hdist (o, i) (List.mem_iff_getElem?.2 ⟨i, by simpa [List.getElem?_zipIdx] using hi⟩)
    rw [List.all_eq_true] at q1
    have q2 := q1 (o', j) (List.mem_iff_getElem?.2 ⟨j, by simpa [List.getElem?_zipIdx] using hj⟩)
    simpa [h1, h2] using q2
  have hlt : ∀ o ∈ l, ∀ t, o.dst = some t → t < a0.tmps.size := by
    intro o ho t hd
    rw [List.all_eq_true] at hltB
    have := hltB o ho
    rw [hd] at this
    simpa using this
  refine wp_region_any hm (wpAny_inv (fun listed a w => PredInvS l R fr cp W0 a0 listed a w) ?_ ?_ ?_ _ _ _ _ (by simp) (Nat.le_trans List.countP_le_length (by simp)) ?_)
  · intro i o ho e he hb
    have hh := horder
    rw [List.all_eq_true] at hh
    have hmem : (o, i) ∈ l.zipIdx := List.mem_iff_getElem?.2 ⟨i, by simpa [List.getElem?_zipIdx] using ho⟩
    have h2 := hh _ hmem
    rw [Array.all_eq_true_iff_forall_mem] at h2
    have := h2 e he
    simpa [hb] using this
  · intro listed a w hs J i o ho hni hready
    have I := J.pred
    have ho' : l[i]? = some o := by simpa using ho
    have hil : i < l.length := (List.getElem?_eq_some_iff.1 ho').1
    have hsz : i < listed.size := by rw [hs]; simpa using hil
    have hset : ∀ k, (listed.setIfInBounds i true).getD k false = if k = i then true else listed.getD k false := fun k => getD_set listed i k hsz
    have hdone : ∀ e ∈ o.after, Region.binds .any e = true → listed.getD e.on false = true := by
      intro e he hb
      rw [Array.all_eq_true_iff_forall_mem] at hready
      have := hready e he
      simpa [hb] using this
    have hop := AllQ.get ops i o ho'
    obtain ⟨t, hd, hq⟩ := hop
    have key := hq a w I.below I.other (fun e he hb o' s hl' hd' => I.done _ o' s hl' hd' (hdone e he hb)) (PredInvS l R fr cp W0 a0 (listed.setIfInBounds i true)) ?_
    · unfold wpOp
      simp only [ho]
      by_cases hw : Region.wanted o (yielded l.toArray a.tmps) = true
      · rw [if_pos hw] at key ⊢
        exact .inl key
      · rw [if_neg hw] at key ⊢
        exact key
    · intro v w' hB hR hfr hcp
      have hsz' : t < a.tmps.size := by rw [I.size]; exact hlt o (List.mem_of_getElem? ho') t hd
      have hself : (a.put o.dst v).tmps[t]? = some v := by
        rw [hd]
        show (a.tmps.setIfInBounds t _)[t]? = _
        rw [Array.getElem?_setIfInBounds_self_of_lt hsz']
      have hoth : ∀ s, s ≠ t → (a.put o.dst v).tmps[s]? = a.tmps[s]? := by
        intro s hst
        rw [hd]
        show (a.tmps.setIfInBounds t _)[s]? = _
        rw [Array.getElem?_setIfInBounds_ne (fun e => hst e.symm)]
      refine ⟨⟨by rw [hd]; exact I.defers, by rw [hd]; simpa [Act.put] using I.size, ?_, ?_, I.below.trans (hB.mono I.below.size)⟩, ?_, ?_⟩
      · intro s hs'
        rw [hoth s (fun e => hs' o (List.mem_of_getElem? ho') (by rw [hd, e]))]
        exact I.other s hs'
      · intro j o' s hj hd' hlj
        by_cases hji : j = i
        · subst hji
          rw [ho'] at hj; cases hj
          rw [hd] at hd'; cases hd'
          exact ⟨v, hself, hR⟩
        · rw [hset, if_neg hji] at hlj
          rw [hoth s (fun e => hji (dist j i o' o s hj ho' hd' (by rw [hd, e])))]
          obtain ⟨u, h1, h2⟩ := I.done j o' s hj hd' hlj
          exact ⟨u, h1, hstab _ _ _ _ h2 hB⟩
      · intro j k oj ok tj tk hj hk hdj hdk hlj hlk hfj hfk hne
        rw [hset] at hlj hlk
        by_cases hji : j = i
        · subst hji
          rw [ho'] at hj; cases hj
          rw [hd] at hdj; cases hdj
          by_cases hki : k = j
          · subst hki
            rw [ho'] at hk; cases hk
            rw [hd] at hdk; cases hdk
            exact absurd rfl hne
          · rw [if_neg hki] at hlk
            rw [hself, hoth tk (fun e => hne e.symm)]
            obtain ⟨u, h1, h2⟩ := I.done k ok tk hk hdk hlk
            rw [h1]
            intro e
            cases e
            exact hfr hfj (hin _ _ _ hfk h2)
        · rw [if_neg hji] at hlj
          by_cases hki : k = i
          · subst hki
            rw [ho'] at hk; cases hk
            rw [hd] at hdk; cases hdk
            rw [hself, hoth tj hne]
            obtain ⟨u, h1, h2⟩ := I.done j oj tj hj hdj hlj
            rw [h1]
            intro e
            cases e
            exact hfr hfk (hin _ _ _ hfj h2)
          · rw [if_neg hki] at hlk
            rw [hoth tj (fun e => hji (dist j i oj o tj hj ho' hdj (by rw [hd, e]))), hoth tk (fun e => hki (dist k i ok o tk hk ho' hdk (by rw [hd, e])))]
            exact J.apart j k oj ok tj tk hj hk hdj hdk hlj hlk hfj hfk hne
      · intro j oj tj s hj hdj hlj hc
        by_cases hji : j = i
        · subst hji
          rw [ho'] at hj; cases hj
          rw [hd] at hdj; cases hdj
          obtain ⟨h1, k, ok, hk, hdk, hk2⟩ := hcp s hc
          obtain ⟨e, he, h2⟩ := Array.any_eq_true'.1 hk2
          simp only [Bool.and_eq_true, beq_iff_eq] at h2
          have hlk : listed.getD k false = true := by rw [← h2.1]; exact hdone e he h2.2
          refine ⟨?_, k, ok, hk, hdk, by rw [hset]; split <;> simp_all⟩
          rw [hself]
          by_cases hst : s = t
          · subst hst
            rw [hself]
          · rw [hoth s hst, h1]
        · rw [hset, if_neg hji] at hlj
          obtain ⟨h1, k, ok, hk, hdk, hlk⟩ := J.copy j oj tj s hj hdj hlj hc
          have hki : k ≠ i := fun e => by
            subst e
            rw [show listed.getD k false = false by simp only [Array.getD_eq_getD_getElem?] at hni ⊢; cases h : listed[k]? <;> simp_all] at hlk
            cases hlk
          refine ⟨?_, k, ok, hk, hdk, by rw [hset, if_neg hki]; exact hlk⟩
          rw [hoth tj (fun e => hji (dist j i oj o tj hj ho' hdj (by rw [hd, e]))), hoth s (fun e => hki (dist k i ok o s hk ho' hdk (by rw [hd, e])))]
          exact h1
  · intro listed a w hs J hall
    have I := J.pred
    have hea : a = ⟨putAll (fun t => a.tmps.getD t undef) a0.tmps l, a0.defers⟩ := by
      have ht : a.tmps = putAll (fun t => a.tmps.getD t undef) a0.tmps l := by
        apply Array.ext_getElem?
        intro t
        by_cases hd : ∀ o ∈ l, o.dst ≠ some t
        · rw [I.other t hd, putAll_other _ t l _ hd]
        · have hd : ∃ o ∈ l, o.dst = some t := by
            apply Classical.byContradiction
            intro hne
            exact hd (fun o ho he => hne ⟨o, ho, he⟩)
          obtain ⟨o', hm', hd'⟩ := hd
          obtain ⟨j, hj⟩ := List.mem_iff_getElem?.1 hm'
          obtain ⟨v, h1, _⟩ := I.done j o' t hj hd' (hall j (by simpa using (List.getElem?_eq_some_iff.1 hj).1))
          rw [putAll_some _ t l _ (hlt o' hm' t hd') ⟨o', hm', hd'⟩, h1]
          simp [Array.getD_eq_getD_getElem?, h1]
      have hdf := I.defers
      cases a
      simp only at ht hdf
      rw [← ht, hdf]
    rw [hea]
    have hall' : ∀ (i : Nat) (o : Oper), l[i]? = some o → listed.getD i false = true := fun i o hi => hall i (by simpa using (List.getElem?_eq_some_iff.1 hi).1)
    have hgd : ∀ (i : Nat) (o : Oper) (t : Tmp), l[i]? = some o → o.dst = some t → a.tmps[t]? = some (a.tmps.getD t undef) := fun i o t hi hd => by
      obtain ⟨v, h1, _⟩ := I.done i o t hi hd (hall' i o hi)
      simp [Array.getD_eq_getD_getElem?, h1]
    refine fin _ w I.below (fun i o t hi hd => ?_) (fun i j o o' t s hi hj hd hd' hf hf' hne e => ?_) (fun i o t s hi hd hc => ?_)
    · obtain ⟨v, h1, h2⟩ := I.done i o t hi hd (hall' i o hi)
      have : a.tmps.getD t undef = v := by simp [Array.getD_eq_getD_getElem?, h1]
      rw [this]; exact h2
    · refine J.apart i j o o' t s hi hj hd hd' (hall' i o hi) (hall' j o' hj) hf hf' hne ?_
      rw [hgd i o t hi hd, hgd j o' s hj hd', e]
    · obtain ⟨h1, _⟩ := J.copy i o t s hi hd (hall' i o hi) hc
      simp [Array.getD_eq_getD_getElem?, h1]
  · have h0 : ∀ j, (Array.replicate l.toArray.size false).getD j false = false := by
      intro j
      simp [Array.getD_eq_getD_getElem?, Array.getElem?_replicate]
      split <;> rfl
    exact ⟨⟨rfl, rfl, fun _ _ => rfl, fun i o t _ _ hl => (by rw [h0] at hl; exact absurd hl (by simp)), (Below.refl _ _).drew⟩, fun i _ _ _ _ _ _ _ _ _ hl => (by rw [h0] at hl; exact absurd hl (by simp)), fun i _ _ _ _ _ hl => (by rw [h0] at hl; exact absurd hl (by simp))⟩
end
end Go.Proofs.YtnfmdcohacflmaaDoor
