/- A region that draws its order: its first n operations, in whatever order, only make memory, and each slot's value is known by a predicate that stands behind later allocations; then a tail in one forced order. And: such a region may be read in another order of its text. Over any program. A drawn region that makes one new variable and stores into it a value that its other operations bring forth, all in whatever order: 'v, e := f(g(x), ..)' where v's address is taken. Over any program. -/
import Derived.Test.YtnphgaiiiiknpaaDoorFree
import Derived.Test.YtnphgaiiiiknpaaDoorQuiet
import Derived.Test.YtnphgaiiiiknpaaDoorHeld
namespace Go.Proofs.YtnphgaiiiiknpaaDoor
open Go.RowKit
section
variable {P : Program}
/-- The first n are done. -/
def headsB (N n : Nat) : Array Bool := (Array.range N).map fun i => decide (i < n)
theorem AllQ.imp {p q : Nat → Oper → Prop} (h : ∀ i o, p i o → q i o) : ∀ {l : List Oper} {k : Nat}, AllQ p k l → AllQ q k l
  | [], _, _ => trivial
  | _ :: _, _, hl => ⟨h _ _ hl.1, AllQ.imp h hl.2⟩
structure FlowInv (l : List Oper) (n : Nat) (V : Tmp → Value → World → Prop) (a0 : Act) (I : (Nat → Bool) → World → Prop) (listed : Array Bool) (a : Act) (w : World) : Prop where
  defers : a.defers = a0.defers
  size : a.tmps.size = a0.tmps.size
  other : ∀ s, (∀ o ∈ l, o.dst ≠ some s) → a.tmps[s]? = a0.tmps[s]?
  undone : ∀ s, (∀ (i : Nat) o, l[i]? = some o → listed.getD i false = true → o.dst ≠ some s) → a.tmps[s]? = a0.tmps[s]?
  done : ∀ (i : Nat) o t, l[i]? = some o → o.dst = some t → listed.getD i false = true → ∃ v, a.tmps[t]? = some v ∧ V t v w
  inv : I (fun k => listed.getD k false) w
theorem flow_any {l : List Oper} {n : Nat} {V : Tmp → Value → World → Prop} {a0 : Act} {I : (Nat → Bool) → World → Prop} {St : Nat → World → World → Prop} {Q : Exit → Act → World → Prop}
    (hstab : ∀ i o t v lst w w', l[i]? = some o → o.dst ≠ some t → lst i = false → I lst w → V t v w → St i w w' → V t v w') (hinv : ∀ i lst w w', lst i = false → I lst w → St i w w' → I (fun k => if k = i then true else lst k) w')
    (order : ∀ (i : Nat) o, l[i]? = some o → ∀ e ∈ o.after, Region.binds .any e = true → e.on < i)
    (dist : ∀ (i j : Nat) (o o' : Oper) (t : Tmp), l[i]? = some o → l[j]? = some o' → o.dst = some t → o'.dst = some t → i = j)
    (lt : ∀ o ∈ l, ∀ t, o.dst = some t → t < a0.tmps.size)
    (hs : Region.sinkB .any l.toArray n = true) (hc : Region.chainB .any l.toArray n = true) (hn : n < l.length) (hseq : Region.seqB .any l.toArray (l.length - n) n (headsB l.length n) = true)
    (heads : ∀ (i : Nat) o, l[i]? = some o → i < n → o.guard = none ∧ ∃ t, o.dst = some t ∧ ∀ lst a w, lst i = false → I lst w → (∀ s, (∀ o ∈ l, o.dst ≠ some s) → a.tmps[s]? = a0.tmps[s]?) →
      (∀ e ∈ o.after, Region.binds .any e = true → ∀ (o' : Oper) (s : Tmp), l[e.on]? = some o' → o'.dst = some s → ∃ v, a.tmps[s]? = some v ∧ V s v w) →
      ∀ K : Act → World → Prop, (∀ v w', V t v w' → St i w w' → K (a.put o.dst v) w') → o.wp P a w K Q)
    (tail : ∀ (F : Tmp → Value) w, (∀ o ∈ l.take n, ∀ t, o.dst = some t → V t (F t) w) → I (fun k => decide (k < n)) w → wpList P l.toArray Q (l.drop n) ⟨putAll F a0.tmps (l.take n), a0.defers⟩ w) :
    ∀ (f : Nat) (listed : Array Bool) (a : Act) (w : World), HeadInv .any l.toArray n listed → FlowInv l n V a0 I listed a w → (List.range n).countP (fun i => !listed.getD i false) = f → wpAny P .any l.toArray Q (f + (l.length - n)) listed a w := by
  intro f
  induction f with
  | zero =>
    intro listed a w inv J hf
    have hall : ∀ i, i < n → listed.getD i false = true := by
      intro i hi
      have := List.countP_eq_zero.1 hf i (List.mem_range.2 hi)
      simpa using this
    have hl : listed = headsB l.length n := by
      have hsz := inv.size
      simp only [List.size_toArray] at hsz
      apply Array.ext
      · simp [headsB, hsz]
      · intro i h1 h2
        simp only [headsB, Array.getElem_map, Array.getElem_range]
        by_cases hi : i < n
        · have := hall i hi
          simp only [Array.getD, h1, dif_pos] at this
          simpa [hi] using this
        · have := inv.tail i (by omega) (by simpa using (by omega : i < l.length))
          simp only [Array.getD, h1, dif_pos] at this
          simpa [hi] using this
    rw [Nat.zero_add]
    have hd : (l.drop n).length = l.length - n := by simp
    rw [← hd]
    refine wpAny_of_seq (l.drop n) n listed a w (fun j => by simp) (by rw [hd, hl]; exact hseq) ?_
    have ha : a = ⟨putAll (fun t => a.tmps.getD t undef) a0.tmps (l.take n), a0.defers⟩ := by
      have ht : a.tmps = putAll (fun t => a.tmps.getD t undef) a0.tmps (l.take n) := by
        apply Array.ext_getElem?
        intro t
        by_cases h : ∃ o ∈ l.take n, o.dst = some t
        · obtain ⟨o, ho, hd⟩ := h
          rw [putAll_some _ t _ _ (lt o (List.mem_of_mem_take ho) t hd) ⟨o, ho, hd⟩]
          have hlt : t < a.tmps.size := by rw [J.size]; exact lt o (List.mem_of_mem_take ho) t hd
          simp [Array.getD, hlt]
        · rw [putAll_other _ t _ _ (fun o ho hd => h ⟨o, ho, hd⟩)]
          refine J.undone t (fun i o ho hli hd => ?_)
          have hin : i < n := by
            refine Nat.lt_of_not_le (fun hni => ?_)
            have h1 := inv.tail i hni (by simpa using (List.getElem?_eq_some_iff.1 ho).1)
            rw [getD_both h1] at hli
            cases hli
          exact h ⟨o, List.mem_of_getElem? (i := i) (by rw [List.getElem?_take, if_pos hin]; exact ho), hd⟩
      have hdf := J.defers
      cases a
      simp only at ht hdf
      rw [← ht, hdf]
    rw [ha]
    have hI : (fun k => listed.getD k false) = fun k => decide (k < n) := by
      funext k
      rw [hl]
      simp only [headsB, Array.getD_eq_getD_getElem?, Array.getElem?_map, Array.getElem?_range]
      by_cases hk : k < l.length
      · simp [hk]
      · simp [hk]; omega
    refine tail _ w ?_ (hI ▸ J.inv)
    intro o ho t hd
    obtain ⟨i, hi⟩ := List.mem_iff_getElem?.1 ho
    rw [List.getElem?_take] at hi
    split at hi
    · rename_i hin
      obtain ⟨v, hv, hV⟩ := J.done i o t hi hd (hall i hin)
      have : a.tmps.getD t undef = v := by rw [Array.getD_eq_getD_getElem?, hv]; rfl
      show V t (a.tmps.getD t undef) w
      rw [this]; exact hV
    · cases hi
  | succ f ih =>
    intro listed a w inv J hf
    have hsz : listed.size = l.length := by simpa using inv.size
    obtain ⟨i0, hi0, hu0⟩ : ∃ i, i < n ∧ listed.getD i false = false := by
      refine Classical.byContradiction fun h => ?_
      have : (List.range n).countP (fun i => !listed.getD i false) = 0 := by
        rw [List.countP_eq_zero]
        intro i hi
        have := List.mem_range.1 hi
        cases hl : listed.getD i false with
        | true => simp
        | false => exact absurd ⟨i, this, hl⟩ h
      omega
    have flip : ∀ i, i < listed.size → listed.getD i false = false → listed.getD i true = false := by
      intro i hi h
      simp only [Array.getD, hi, dif_pos] at h ⊢
      exact h
    have hwait := tail_waits (ops := l.toArray) hs hc (by simpa using hn) inv _ i0 rfl hi0 (flip i0 (by omega) hu0)
    have hex : ∀ k i, i ≤ k → i < n → listed.getD i false = false → ∃ j, j ∈ Region.ready .any l.toArray listed := by
      intro k
      induction k with
      | zero =>
        intro i hik hin hu
        obtain rfl : i = 0 := by omega
        have hlt : 0 < l.length := by omega
        refine ⟨0, mem_ready.2 ⟨flip 0 (by omega) hu, l[0], by simp [hlt], fun e he hb => ?_⟩⟩
        have := order 0 l[0] (List.getElem?_eq_getElem hlt) e he hb
        omega
      | succ k ihk =>
        intro i hik hin hu
        have hlt : i < l.length := by omega
        by_cases h : ∃ j, j < i ∧ listed.getD j false = false
        · obtain ⟨j, hj, hjl⟩ := h
          exact ihk j (by omega) (by omega) hjl
        · refine ⟨i, mem_ready.2 ⟨flip i (by omega) hu, l[i], by simp [hlt], fun e he hb => ?_⟩⟩
          have := order i l[i] (List.getElem?_eq_getElem hlt) e he hb
          cases hl : listed.getD e.on false with
          | true => rfl
          | false => exact absurd ⟨e.on, this, hl⟩ h
    obtain ⟨j0, hj0⟩ := hex i0 i0 (Nat.le_refl _) hi0 hu0
    rw [show f + 1 + (l.length - n) = (f + (l.length - n)) + 1 by omega]
    refine ⟨fun h0 => (by rw [h0] at hj0; cases hj0), fun i hi => ?_⟩
    have hin : i < n := Nat.lt_of_not_le fun h => hwait i h hi
    obtain ⟨hun, o, ho, hall⟩ := mem_ready.1 hi
    have ho' : l[i]? = some o := by simpa using ho
    have hun' := getD_both hun
    obtain ⟨hg, t, hd, hq⟩ := heads i o ho' hin
    have hw : Region.wanted o (yielded l.toArray a.tmps) = true := by simp [Region.wanted, hg]
    unfold wpOp
    simp only [ho, hw, if_true]
    left
    refine hq _ a w hun' J.inv J.other (fun e he hb o' s hl' hd' => J.done _ o' s hl' hd' (hall e he hb)) _ (fun v w' hV hB => ?_)
    have hset : ∀ k, (listed.setIfInBounds i true).getD k false = if k = i then true else listed.getD k false := fun k => getD_set listed i k (by omega)
    have htl : t < a.tmps.size := by rw [J.size]; exact lt o (List.mem_of_getElem? ho') t hd
    refine ih _ _ _ (inv.set hi hin) ?_ ?_
    · rw [hd]
      refine ⟨J.defers, by simpa [Act.put] using J.size, ?_, ?_, ?_, ?_⟩
      · intro s hs'
        have := hs' o (List.mem_of_getElem? ho')
        rw [hd] at this
        show (a.tmps.setIfInBounds t v)[s]? = _
        rw [Array.getElem?_setIfInBounds_ne (fun e => this (by rw [e]))]
        exact J.other s hs'
      · intro s hs'
        have h1 := hs' i o ho' (by rw [hset, if_pos rfl])
        rw [hd] at h1
        show (a.tmps.setIfInBounds t v)[s]? = _
        rw [Array.getElem?_setIfInBounds_ne (fun e => h1 (by rw [e]))]
        refine J.undone s (fun j o' ho'' hl => ?_)
        by_cases hji : j = i
        · subst hji; rw [hun'] at hl; cases hl
        · exact hs' j o' ho'' (by rw [hset, if_neg hji]; exact hl)
      · intro j o' s ho'' hd' hl
        show ∃ v', (a.tmps.setIfInBounds t v)[s]? = some v' ∧ _
        by_cases hji : j = i
        · subst hji
          rw [ho'] at ho''; cases ho''
          rw [hd] at hd'; cases hd'
          exact ⟨v, Array.getElem?_setIfInBounds_self_of_lt htl, hV⟩
        · rw [hset, if_neg hji] at hl
          obtain ⟨v', h1, h2⟩ := J.done j o' s ho'' hd' hl
          exact ⟨v', by rw [Array.getElem?_setIfInBounds_ne (fun e => hji (dist j i o' o s ho'' ho' hd' (by rw [hd, e])))]; exact h1, hstab i o _ _ _ _ _ ho' (fun e => hji (dist j i o' o s ho'' ho' hd' e)) hun' J.inv h2 hB⟩
      · have := hinv i _ _ _ hun' J.inv hB
        have e : (fun k => (listed.setIfInBounds i true).getD k false) = fun k => if k = i then true else listed.getD k false := funext hset
        rw [e]; exact this
    · have e1 : (List.range n).countP (fun k => !(listed.setIfInBounds i true).getD k false) + 1 = (List.range n).countP (fun k => !listed.getD k false) := by
        have hperm : List.range n = List.range i ++ i :: (List.range' (i + 1) (n - i - 1)) := by
          rw [List.range_eq_range', List.range_eq_range']
          have := List.range'_append (s := 0) (m := i) (n := n - i) (step := 1)
          rw [show i + (n - i) = n by omega] at this
          rw [← this]
          congr 1
          rw [show n - i = (n - i - 1) + 1 by omega, List.range'_succ]
          simp
        rw [hperm, List.countP_append, List.countP_append, List.countP_cons, List.countP_cons]
        have a1 : (List.range i).countP (fun k => !(listed.setIfInBounds i true).getD k false) = (List.range i).countP (fun k => !listed.getD k false) := by
          apply List.countP_congr
          intro k hk
          have := List.mem_range.1 hk
          rw [hset, if_neg (by omega)]
        have a2 : (List.range' (i + 1) (n - i - 1)).countP (fun k => !(listed.setIfInBounds i true).getD k false) = (List.range' (i + 1) (n - i - 1)).countP (fun k => !listed.getD k false) := by
          apply List.countP_congr
          intro k hk
          have := (List.mem_range'_1.1 hk).1
          rw [hset, if_neg (by omega)]
        rw [a1, a2, hset, if_pos rfl, hun']
        simp
        omega
      omega
theorem wp_region_flowG {id : Nat} {Q : Exit → Act → World → Prop} {a0 : Act} {W0 : World} {l : List Oper} (hm : P.follows .mixedOrders = true) (n : Nat) (V : Tmp → Value → World → Prop) (I : (Nat → Bool) → World → Prop) (St : Nat → World → World → Prop)
    (hstab : ∀ i o t v lst w w', l[i]? = some o → o.dst ≠ some t → lst i = false → I lst w → V t v w → St i w w' → V t v w') (hinv : ∀ i lst w w', lst i = false → I lst w → St i w w' → I (fun k => if k = i then true else lst k) w') (hI0 : I (fun _ => false) { W0 with drawn := W0.drawn + 1 })
    (horder : (l.zipIdx.all fun x => x.1.after.all fun e => !Region.binds .any e || decide (e.on < x.2)) = true)
    (hdist : (l.zipIdx.all fun x => l.zipIdx.all fun y => x.1.dst.isNone || x.1.dst != y.1.dst || x.2 == y.2) = true)
    (hltB : (l.all fun o => match o.dst with | none => true | some t => decide (t < a0.tmps.size)) = true)
    (hB : (Region.sinkB .any l.toArray n && Region.chainB .any l.toArray n && decide (n < l.length) && Region.seqB .any l.toArray (l.length - n) n (headsB l.length n)) = true)
    (heads : AllQ (fun i o => n ≤ i ∨ (o.guard = none ∧ ∃ t, o.dst = some t ∧ ∀ lst a w, lst i = false → I lst w → (∀ s, (∀ o ∈ l, o.dst ≠ some s) → a.tmps[s]? = a0.tmps[s]?) →
      (∀ e ∈ o.after, Region.binds .any e = true → ∀ (o' : Oper) (s : Tmp), l[e.on]? = some o' → o'.dst = some s → ∃ v, a.tmps[s]? = some v ∧ V s v w) →
      ∀ K : Act → World → Prop, (∀ v w', V t v w' → St i w w' → K (a.put o.dst v) w') → o.wp P a w K Q)) 0 l)
    (tail : ∀ (F : Tmp → Value) w, (∀ o ∈ l.take n, ∀ t, o.dst = some t → V t (F t) w) → I (fun k => decide (k < n)) w → wpList P l.toArray Q (l.drop n) ⟨putAll F a0.tmps (l.take n), a0.defers⟩ w) :
    (Code.region id l.toArray true).wp P Q a0 W0 := by
  simp only [Bool.and_eq_true, decide_eq_true_eq] at hB
  obtain ⟨⟨⟨hs, hc⟩, hn⟩, hseq⟩ := hB
  have dist : ∀ (i j : Nat) (o o' : Oper) (t : Tmp), l[i]? = some o → l[j]? = some o' → o.dst = some t → o'.dst = some t → i = j := by
    intro i j o o' t hi hj h1 h2
    rw [List.all_eq_true] at hdist
    have q1 := hdist (o, i) (List.mem_iff_getElem?.2 ⟨i, by simpa [List.getElem?_zipIdx] using hi⟩)
    rw [List.all_eq_true] at q1
    have q2 := q1 (o', j) (List.mem_iff_getElem?.2 ⟨j, by simpa [List.getElem?_zipIdx] using hj⟩)
    simpa [h1, h2] using q2
  have hlt : ∀ o ∈ l, ∀ t, o.dst = some t → t < a0.tmps.size := by
    intro o ho t hd
    rw [List.all_eq_true] at hltB
    have := hltB o ho
    rw [hd] at this
    simpa using this
  have order : ∀ (i : Nat) o, l[i]? = some o → ∀ e ∈ o.after, Region.binds .any e = true → e.on < i := by
    intro i o ho e he hb
    rw [List.all_eq_true] at horder
    have hmem : (o, i) ∈ l.zipIdx := List.mem_iff_getElem?.2 ⟨i, by simpa [List.getElem?_zipIdx] using ho⟩
    have h2 := horder _ hmem
    rw [Array.all_eq_true_iff_forall_mem] at h2
    have := h2 e he
    simpa [hb] using this
  have h0 : ∀ j, (Array.replicate l.toArray.size false).getD j false = false := by
    intro j
    simp [Array.getD_eq_getD_getElem?, Array.getElem?_replicate]
    split <;> rfl
  have inv0 : HeadInv .any l.toArray n (Array.replicate l.toArray.size false) :=
    ⟨by simp, fun j oj _ hl => (by rw [h0] at hl; cases hl), fun t _ ht => getD_in (by simpa using ht) (getD_replicate_false _ _)⟩
  have := flow_any (P := P) (Q := Q) hstab hinv order dist hlt hs hc hn hseq (fun i o ho hin => by
    have := AllQ.get heads i o ho
    rw [Nat.zero_add] at this
    rcases this with h | h
    · omega
    · exact h) tail n (Array.replicate l.toArray.size false) a0 { W0 with drawn := W0.drawn + 1 } inv0
    ⟨rfl, rfl, fun _ _ => rfl, fun _ _ => rfl, fun i o t _ _ hl => (by rw [h0] at hl; cases hl), (by rw [funext h0]; exact hI0)⟩ (by
      rw [List.countP_eq_length.2]
      · simp
      · intro i _
        rw [h0]; rfl)
  refine wp_region_any hm ?_
  rw [show n + (l.length - n) = l.toArray.size by simp; omega] at this
  exact this
theorem wp_region_flow {id : Nat} {Q : Exit → Act → World → Prop} {a0 : Act} {W0 : World} {l : List Oper} (hm : P.follows .mixedOrders = true) (n : Nat) (V : Tmp → Value → World → Prop)
    (hstab : ∀ t v w w', V t v w → Below w.heap.size w w' → V t v w')
    (horder : (l.zipIdx.all fun x => x.1.after.all fun e => !Region.binds .any e || decide (e.on < x.2)) = true)
    (hdist : (l.zipIdx.all fun x => l.zipIdx.all fun y => x.1.dst.isNone || x.1.dst != y.1.dst || x.2 == y.2) = true)
    (hltB : (l.all fun o => match o.dst with | none => true | some t => decide (t < a0.tmps.size)) = true)
    (hB : (Region.sinkB .any l.toArray n && Region.chainB .any l.toArray n && decide (n < l.length) && Region.seqB .any l.toArray (l.length - n) n (headsB l.length n)) = true)
    (heads : AllQ (fun i o => n ≤ i ∨ (o.guard = none ∧ ∃ t, o.dst = some t ∧ ∀ a w, Below W0.heap.size W0 w → (∀ s, (∀ o ∈ l, o.dst ≠ some s) → a.tmps[s]? = a0.tmps[s]?) →
      (∀ e ∈ o.after, Region.binds .any e = true → ∀ (o' : Oper) (s : Tmp), l[e.on]? = some o' → o'.dst = some s → ∃ v, a.tmps[s]? = some v ∧ V s v w) →
      ∀ K : Act → World → Prop, (∀ v w', V t v w' → Below w.heap.size w w' → K (a.put o.dst v) w') → o.wp P a w K Q)) 0 l)
    (tail : ∀ (F : Tmp → Value) w, (∀ o ∈ l.take n, ∀ t, o.dst = some t → V t (F t) w) → Below W0.heap.size W0 w → wpList P l.toArray Q (l.drop n) ⟨putAll F a0.tmps (l.take n), a0.defers⟩ w) :
    (Code.region id l.toArray true).wp P Q a0 W0 := by
  refine wp_region_flowG hm n V (fun _ => Below W0.heap.size W0) (fun _ w w' => Below w.heap.size w w') (fun _ _ t v _ w w' _ _ _ _ h hb => hstab t v w w' h hb) (fun _ _ w w' _ h hb => h.trans (hb.mono h.size)) ((Below.refl _ _).drew) horder hdist hltB hB (AllQ.imp ?_ heads) tail
  intro i o h
  rcases h with h | ⟨h1, t, h2, h3⟩
  · exact .inl h
  · exact .inr ⟨h1, t, h2, fun _ a w _ => h3 a w⟩
end
theorem flow_of {l : List Oper} {V : Tmp → Value → World → Prop} {o : Oper} {a : Act} {w : World}
    (hD : ∀ e ∈ o.after, Region.binds .any e = true → ∀ (o' : Oper) (s : Tmp), l[e.on]? = some o' → o'.dst = some s → ∃ v, a.tmps[s]? = some v ∧ V s v w)
    (j : Nat) (hj : (o.after.any fun e => e.on == j && Region.binds .any e) = true) (s : Tmp) (hs : (l[j]?).bind (·.dst) = some s) : ∃ v, a.eval (.tmp s) = v ∧ V s v w := by
  obtain ⟨e, he, h2⟩ := Array.any_eq_true'.1 hj
  simp only [Bool.and_eq_true, beq_iff_eq] at h2
  cases hl : l[j]? with
  | none => rw [hl] at hs; cases hs
  | some o' =>
    rw [hl] at hs
    obtain ⟨v, h3, h4⟩ := hD e he h2.2 o' s (by rw [h2.1]; exact hl) hs
    exact ⟨v, eval_of h3, h4⟩
end Go.Proofs.YtnphgaiiiiknpaaDoor
namespace Go.Proofs.YtnphgaiiiiknpaaDoor
open Go.RowKit
set_option linter.unusedVariables false
section
variable {P : Program}
/-- What holds once the operations of 'listed' are done. -/
structure BoxInv (l : List Oper) (A S X : Nat) (V : Tmp → Value → World → Prop) (Z : Array Value) (T : TypeId) (da sx : Tmp) (W0 : World) (a0 : Act) (listed : Array Bool) (a : Act) (w : World) : Prop where
  defers : a.defers = a0.defers
  size : a.tmps.size = a0.tmps.size
  other : ∀ t, (∀ o ∈ l, o.dst ≠ some t) → a.tmps[t]? = a0.tmps[t]?
  done : ∀ i o t, l[i]? = some o → i ≠ A → o.dst = some t → listed.getD i false = true → ∃ v, a.tmps[t]? = some v ∧ V t v w
  made : listed.getD A false = true → ∃ b, W0.heap.size ≤ b ∧ a.tmps[da]? = some (.pointer (some ⟨b, 0, none⟩)) ∧
    ((listed.getD S false = false ∧ w.heap[b]? = some (.cells Z T (0, 0))) ∨ (listed.getD S false = true ∧ ∃ C, w.heap[b]? = some (.cells C T (0, 0)) ∧ a.tmps[sx]? = some (.agg C) ∧ V sx (.agg C) w))
  below : Below W0.heap.size W0 w
  dep : ∀ j, (j = A ∨ j = X) → listed.getD j false = false → listed.getD S false = false
theorem wp_region_box {id : Nat} {Q : Exit → Act → World → Prop} {a0 : Act} {W0 : World} {l : List Oper} (hm : P.follows .mixedOrders = true) (A S X : Nat) (V : Tmp → Value → World → Prop) (Z : Array Value) (T : TypeId) (da sx : Tmp)
    (hstabB : ∀ t v w w', V t v w → Below w.heap.size w w' → V t v w')
    (hstabS : ∀ t v w w' b, V t v w → W0.heap.size ≤ b → w.heap[b]? = some (.cells Z T (0, 0)) → Only [b] w w' → V t v w')
    (horder : (l.zipIdx.all fun x => x.1.after.all fun e => !Region.binds .any e || decide (e.on < x.2)) = true)
    (hdist : (l.zipIdx.all fun x => l.zipIdx.all fun y => x.1.dst.isNone || x.1.dst != y.1.dst || x.2 == y.2) = true)
    (hltB : (l.all fun o => match o.dst with | none => true | some t => decide (t < a0.tmps.size)) = true)
    (hA : ∃ o, l[A]? = some o ∧ o.op = .alloc T ∧ o.dst = some da ∧ o.guard = none) (hz : (P.info? T).bind (·.zero) = some (.agg Z))
    (hS : ∃ o, l[S]? = some o ∧ o.op = .store T (.tmp da) (.tmp sx) ∧ o.dst = none ∧ o.guard = none ∧ (o.after.any fun e => e.on == A && Region.binds .any e) = true ∧ (o.after.any fun e => e.on == X && Region.binds .any e) = true)
    (hX : (l[X]?).bind (·.dst) = some sx) (hXA : X ≠ A) (hAS : A ≠ S)
    (hC : ∀ v w, V sx v w → ∃ C, v = .agg C ∧ (P.info? T).map (·.size) = some C.size ∧ Z.size = C.size ∧ C.all (·.oneCell') = true)
    (heads : AllQ (fun i o => i = A ∨ i = S ∨ (o.guard = none ∧ ∃ t, o.dst = some t ∧ ∀ a w, Below W0.heap.size W0 w → (∀ s, (∀ o ∈ l, o.dst ≠ some s) → a.tmps[s]? = a0.tmps[s]?) →
      (∀ e ∈ o.after, Region.binds .any e = true → e.on ≠ A → ∀ (o' : Oper) (s : Tmp), l[e.on]? = some o' → o'.dst = some s → ∃ v, a.tmps[s]? = some v ∧ V s v w) →
      ∀ K : Act → World → Prop, (∀ v w', V t v w' → Below w.heap.size w w' → K (a.put o.dst v) w') → o.wp P a w K Q)) 0 l)
    (fin : ∀ (F : Tmp → Value) w b C, W0.heap.size ≤ b → F da = .pointer (some ⟨b, 0, none⟩) → F sx = .agg C → w.heap[b]? = some (.cells C T (0, 0)) → V sx (.agg C) w →
      (∀ i o t, l[i]? = some o → i ≠ A → o.dst = some t → V t (F t) w) → Below W0.heap.size W0 w → Q .normal ⟨putAll F a0.tmps l, a0.defers⟩ w) :
    (Code.region id l.toArray true).wp P Q a0 W0 := by
  have dist : ∀ (i j : Nat) (o o' : Oper) (t : Tmp), l[i]? = some o → l[j]? = some o' → o.dst = some t → o'.dst = some t → i = j := by
    intro i j o o' t hi hj h1 h2
    rw [List.all_eq_true] at hdist
    have q1 := hdist (o, i) (List.mem_iff_getElem?.2 ⟨i, by simpa [List.getElem?_zipIdx] using hi⟩)
    rw [List.all_eq_true] at q1
    have q2 := q1 (o', j) (List.mem_iff_getElem?.2 ⟨j, by simpa [List.getElem?_zipIdx] using hj⟩)
    simpa [h1, h2] using q2
  have hlt : ∀ o ∈ l, ∀ t, o.dst = some t → t < a0.tmps.size := by
    intro o ho t hd
    rw [List.all_eq_true] at hltB
    have := hltB o ho
    rw [hd] at this
    simpa using this
  obtain ⟨oA, hoA, hAop, hAd, hAg⟩ := hA
  obtain ⟨oS, hoS, hSop, hSd, hSg, hSA, hSX⟩ := hS
  obtain ⟨oX, hoX, hXd⟩ : ∃ o, l[X]? = some o ∧ o.dst = some sx := by
    cases h : l[X]? with
    | none => rw [h] at hX; cases hX
    | some o => exact ⟨o, rfl, by rw [h] at hX; exact hX⟩
  have hdsx : sx ≠ da := by
    rintro rfl
    exact hXA (dist X A oX oA sx hoX hoA hXd hAd)
  refine wp_region_any hm (wpAny_inv (fun listed a w => BoxInv l A S X V Z T da sx W0 a0 listed a w) ?_ ?_ ?_ _ _ _ _ (by simp) (Nat.le_trans List.countP_le_length (by simp)) ?_)
  · intro i o ho e he hb
    have hh := horder
    rw [List.all_eq_true] at hh
    have hmem : (o, i) ∈ l.zipIdx := List.mem_iff_getElem?.2 ⟨i, by simpa [List.getElem?_zipIdx] using ho⟩
    have h2 := hh _ hmem
    rw [Array.all_eq_true_iff_forall_mem] at h2
    have := h2 e he
    simpa [hb] using this
  · intro listed a w hs I i o ho hni hready
    have hsz : listed.size = l.length := by simpa using hs
    have ho' : l[i]? = some o := by simpa using ho
    have hil : i < l.length := (List.getElem?_eq_some_iff.1 ho').1
    have hni' : listed.getD i false = false := getD_both hni
    have hset : ∀ k, (listed.setIfInBounds i true).getD k false = if k = i then true else listed.getD k false := fun k => getD_set listed i k (by omega)
    have hdone : ∀ e ∈ o.after, Region.binds .any e = true → listed.getD e.on false = true := by
      intro e he hb
      rw [Array.all_eq_true_iff_forall_mem] at hready
      have := hready e he
      simpa [hb] using this
    have hdep : ∀ j, (o.after.any fun e => e.on == j && Region.binds .any e) = true → listed.getD j false = true := by
      intro j hj
      obtain ⟨e, he, h2⟩ := Array.any_eq_true'.1 hj
      simp only [Bool.and_eq_true, beq_iff_eq] at h2
      rw [← h2.1]
      exact hdone e he h2.2
    have hwp : ∀ (K : Act → World → Prop), o.guard = none → o.wp P a w K Q → wpOp P l.toArray Q i K a w := by
      intro K hgd hK
      have hw : Region.wanted o (yielded l.toArray a.tmps) = true := by simp [Region.wanted, hgd]
      unfold wpOp
      simp only [ho, hw, if_true]
      exact .inl hK
    by_cases ciA : i = A
    · subst ciA
      rw [hoA] at ho'; cases ho'
      refine hwp _ hAg (wp_alloc_row T hAop Z hz ?_)
      have hb : Below w.heap.size w (w.alloc (.cells Z T)) := (Below.refl _ _).alloc (Nat.le_refl _) _
      have hSn : listed.getD S false = false := I.dep i (.inl rfl) hni'
      refine ⟨by rw [hAd]; exact I.defers, by rw [hAd]; simpa [Act.put] using I.size, ?_, ?_, ?_, I.below.alloc I.below.size _, fun j hj hl => ?_⟩
      · intro t ht
        have : oA.dst ≠ some t := ht oA (List.mem_of_getElem? hoA)
        rw [hAd] at this ⊢
        show (a.tmps.setIfInBounds da _)[t]? = _
        rw [Array.getElem?_setIfInBounds_ne (fun e => this (by rw [e]))]
        exact I.other t ht
      · intro j o' t hj hjA hd hlj
        rw [hset, if_neg hjA] at hlj
        rw [hAd]
        obtain ⟨v, h1, h2⟩ := I.done j o' t hj hjA hd hlj
        refine ⟨v, ?_, hstabB _ _ _ _ h2 hb⟩
        show (a.tmps.setIfInBounds da _)[t]? = _
        rw [Array.getElem?_setIfInBounds_ne (fun e => hjA (dist j i o' oA t hj hoA hd (by rw [hAd, e])))]
        exact h1
      · intro _
        rw [hAd]
        refine ⟨w.heap.size, I.below.size, ?_, .inl ⟨?_, heap_alloc_new _ _⟩⟩
        · show (a.tmps.setIfInBounds da _)[da]? = _
          rw [Array.getElem?_setIfInBounds_self_of_lt (by rw [I.size]; exact hlt oA (List.mem_of_getElem? hoA) da hAd)]
        · rw [hset, if_neg (fun e => hAS e.symm)]; exact hSn
      · rw [hset, if_neg (fun e => hAS e.symm)]; exact hSn
    · by_cases ciS : i = S
      · subst ciS
        rw [hoS] at ho'; cases ho'
        have hlA := hdep A hSA
        have hlX := hdep X hSX
        obtain ⟨b, hb0, hbp, hb1⟩ := I.made hlA
        have hbz : w.heap[b]? = some (.cells Z T (0, 0)) := by
          rcases hb1 with ⟨_, hbz⟩ | ⟨h1, _⟩
          · exact hbz
          · rw [h1] at hni'; cases hni'
        obtain ⟨u, hu, hVu⟩ := I.done X oX sx hoX hXA hXd hlX
        obtain ⟨C, rfl, hC1, hC2, hC3⟩ := hC u w hVu
        refine hwp _ hSg (wp_store_row T _ _ hSop b C (eval_of hbp) (eval_of hu) T Z hbz hC1 hC2 hC3 ?_)
        have ho1 : Only [b] w (w.setRow b C) := ⟨rfl, rfl, rfl, by simp [World.setRow], fun k _ hk => setRow_other _ _ _ _ (by simpa using hk)⟩
        have hpt : a.put oS.dst undef = a := by rw [hSd]; rfl
        rw [hpt]
        refine ⟨I.defers, I.size, I.other, ?_, ?_, ?_, fun j hj hl => ?_⟩
        · intro j o' t hj hjA hd hlj
          rw [hset] at hlj
          have hjS : j ≠ i := by
            rintro rfl
            rw [hoS] at hj; cases hj
            rw [hSd] at hd; cases hd
          rw [if_neg hjS] at hlj
          obtain ⟨v, h1, h2⟩ := I.done j o' t hj hjA hd hlj
          exact ⟨v, h1, hstabS _ _ _ _ b h2 hb0 hbz ho1⟩
        · intro _
          exact ⟨b, hb0, hbp, .inr ⟨by rw [hset, if_pos rfl], C, setRow_heap _ _ _ _ _ _ hbz, hu, hstabS _ _ _ _ b hVu hb0 hbz ho1⟩⟩
        · exact below_setRow I.below hb0 _
        · rw [hset] at hl
          split at hl
          · cases hl
          · rcases hj with rfl | rfl
            · rw [hlA] at hl; cases hl
            · rw [hlX] at hl; cases hl
      · have hq := AllQ.get heads i o ho'
        rw [Nat.zero_add] at hq
        rcases hq with h | h | ⟨hg, t, hd, hq⟩
        · exact absurd h ciA
        · exact absurd h ciS
        refine hwp _ hg (hq a w I.below I.other ?_ _ ?_)
        · intro e he hb hne o' s hl' hd'
          exact I.done _ o' s hl' hne hd' (hdone e he hb)
        · intro v w' hV hB
          have hsz' : t < a.tmps.size := by rw [I.size]; exact hlt o (List.mem_of_getElem? ho') t hd
          rw [hd]
          refine ⟨I.defers, by simpa [Act.put] using I.size, ?_, ?_, ?_, I.below.trans (hB.mono I.below.size), fun j hj hl => ?_⟩
          · intro s hs'
            have : o.dst ≠ some s := hs' o (List.mem_of_getElem? ho')
            rw [hd] at this
            show (a.tmps.setIfInBounds t _)[s]? = _
            rw [Array.getElem?_setIfInBounds_ne (fun e => this (by rw [e]))]
            exact I.other s hs'
          · intro j o' s hj hjA hd' hlj
            show ∃ v', (a.tmps.setIfInBounds t v)[s]? = some v' ∧ _
            by_cases hji : j = i
            · subst hji
              rw [ho'] at hj; cases hj
              rw [hd] at hd'; cases hd'
              exact ⟨v, Array.getElem?_setIfInBounds_self_of_lt hsz', hV⟩
            · rw [hset, if_neg hji] at hlj
              obtain ⟨v', h1, h2⟩ := I.done j o' s hj hjA hd' hlj
              exact ⟨v', by rw [Array.getElem?_setIfInBounds_ne (fun e => hji (dist j i o' o s hj ho' hd' (by rw [hd, e])))]; exact h1, hstabB _ _ _ _ h2 hB⟩
          · intro hlA
            rw [hset, if_neg (fun e => ciA e.symm)] at hlA
            obtain ⟨b, m1, m2, m3⟩ := I.made hlA
            have hbl : ∀ {o : Obj}, w.heap[b]? = some o → w'.heap[b]? = some o := fun h => (hB.block b (Array.getElem?_eq_some_iff.1 h).1).trans h
            refine ⟨b, m1, ?_, ?_⟩
            · show (a.tmps.setIfInBounds t _)[da]? = _
              rw [Array.getElem?_setIfInBounds_ne (fun e => ciA (dist i A o oA t ho' hoA hd (by rw [hAd, e])))]
              exact m2
            · rw [hset, if_neg (fun e => ciS e.symm)]
              rcases m3 with ⟨n1, n2⟩ | ⟨n1, C, n2, n3, n4⟩
              · exact .inl ⟨n1, hbl n2⟩
              · refine .inr ⟨n1, C, hbl n2, ?_, hstabB _ _ _ _ n4 hB⟩
                show (a.tmps.setIfInBounds t _)[sx]? = _
                by_cases hiX : i = X
                · subst hiX
                  rw [I.dep i (.inr rfl) hni'] at n1; cases n1
                · rw [Array.getElem?_setIfInBounds_ne (fun e => hiX (dist i X o oX t ho' hoX hd (by rw [hXd, e])))]
                  exact n3
          · rw [hset] at hl ⊢
            split at hl
            · cases hl
            · rw [if_neg (fun e => ciS e.symm)]
              exact I.dep j hj hl
  · intro listed a w hs I hall
    have hall' : ∀ i, i < l.length → listed.getD i false = true := fun i hi => hall i (by simpa using hi)
    obtain ⟨b, m1, m2, m3⟩ := I.made (hall' A (List.getElem?_eq_some_iff.1 hoA).1)
    rcases m3 with ⟨n1, _⟩ | ⟨_, C, n2, n3, n4⟩
    · rw [hall' S (List.getElem?_eq_some_iff.1 hoS).1] at n1; cases n1
    have hgd : ∀ (t : Tmp) (v : Value), a.tmps[t]? = some v → a.tmps.getD t undef = v := fun t v h => by rw [Array.getD_eq_getD_getElem?, h]; rfl
    have hfr : a = ⟨putAll (fun t => a.tmps.getD t undef) a0.tmps l, a0.defers⟩ := by
      have ht : a.tmps = putAll (fun t => a.tmps.getD t undef) a0.tmps l := by
        apply Array.ext_getElem?
        intro t
        by_cases h : ∃ o ∈ l, o.dst = some t
        · obtain ⟨o, ho, hd⟩ := h
          rw [putAll_some _ t _ _ (hlt o ho t hd) ⟨o, ho, hd⟩]
          have hl : t < a.tmps.size := by rw [I.size]; exact hlt o ho t hd
          simp [Array.getD, hl]
        · rw [putAll_other _ t _ _ (fun o ho hd => h ⟨o, ho, hd⟩)]
          exact I.other t (fun o ho hd => h ⟨o, ho, hd⟩)
      have hdf := I.defers
      cases a
      simp only at ht hdf
      rw [← ht, hdf]
    rw [hfr]
    refine fin (fun t => a.tmps.getD t undef) w b C m1 (hgd _ _ m2) (hgd _ _ n3) n2 n4 ?_ I.below
    intro i o t hi hiA hd
    obtain ⟨v, h1, h2⟩ := I.done i o t hi hiA hd (hall' i (List.getElem?_eq_some_iff.1 hi).1)
    show V t (a.tmps.getD t undef) w
    rw [hgd t v h1]; exact h2
  · have h0 : ∀ j, (Array.replicate l.toArray.size false).getD j false = false := getD_replicate_false _
    exact ⟨rfl, rfl, fun _ _ => rfl, fun i o t _ _ _ hl => (by rw [h0] at hl; cases hl), fun hl => (by rw [h0] at hl; cases hl), (Below.refl _ _).drew, fun _ _ _ => h0 _⟩
end
theorem box_of {l : List Oper} {A : Nat} {V : Tmp → Value → World → Prop} {o : Oper} {a : Act} {w : World}
    (hD : ∀ e ∈ o.after, Region.binds .any e = true → e.on ≠ A → ∀ (o' : Oper) (s : Tmp), l[e.on]? = some o' → o'.dst = some s → ∃ v, a.tmps[s]? = some v ∧ V s v w)
    (j : Nat) (hj : (o.after.any fun e => e.on == j && Region.binds .any e) = true) (hA : (j != A) = true) (s : Tmp) (hs : (l[j]?).bind (·.dst) = some s) : ∃ v, a.eval (.tmp s) = v ∧ V s v w := by
  obtain ⟨e, he, h2⟩ := Array.any_eq_true'.1 hj
  simp only [Bool.and_eq_true, beq_iff_eq] at h2
  cases hl : l[j]? with
  | none => rw [hl] at hs; cases hs
  | some o' =>
    rw [hl] at hs
    obtain ⟨v, h3, h4⟩ := hD e he h2.2 (by rw [h2.1]; simpa using hA) o' s (by rw [h2.1]; exact hl) hs
    exact ⟨v, eval_of h3, h4⟩
theorem wpb_extract {P : Program} {o : Oper} {a : Act} {w : World} {K : Act → World → Prop} {Q : Exit → Act → World → Prop} (x : Operand) (vs : Array Value) (i : Nat) (v : Value) (ho : o.op = .extract x i) (hx : a.eval x = .tuple vs) (hv : vs[i]? = some v) (h : K (a.put o.dst v) w) : o.wp P a w K Q :=
  wp_value v (by unfold execOp; simp [ho, hx, Instr.extract, hv]) h
theorem wpb_assign {P : Program} {o : Oper} {a : Act} {w : World} {K : Act → World → Prop} {Q : Exit → Act → World → Prop} (x : Operand) (v : Value) (ho : o.op = .assign x) (hx : a.eval x = v) (h : K (a.put o.dst v) w) : o.wp P a w K Q :=
  wp_value v (by unfold execOp; rw [ho, ← hx]; rfl) h
end Go.Proofs.YtnphgaiiiiknpaaDoor
