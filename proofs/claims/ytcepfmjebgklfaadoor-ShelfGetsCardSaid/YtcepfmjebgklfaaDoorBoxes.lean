/- A drawn region that stores into some variables, new ones or old ones, a value each that its other operations bring forth, all in whatever order. What a slot's value stands on is a list of blocks. Over any program. -/
import Derived.Test.YtcepfmjebgklfaaDoorFlow
import Derived.Test.YtcepfmjebgklfaaDoorHeld
namespace Go.Proofs.YtcepfmjebgklfaaDoor
open Go.RowKit
set_option linter.unusedVariables false
/-- A variable that is stored into: the operations that make it (A), fill it (S), bring forth its value (X); its first cells, its type, its slot, the value's slot; its block, if it is there already (A is then no operation's). -/
structure BoxD where
  A : Nat
  S : Nat
  X : Nat
  Z : Array Value
  T : TypeId
  da : Tmp
  sx : Tmp
  old : Option Nat := none
/-- Is the variable there? -/
def BoxD.is (x : BoxD) (listed : Array Bool) : Bool := x.old.isSome || listed.getD x.A false
def oldsOf (bs : List BoxD) : List Nat := bs.filterMap (·.old)
theorem Only.setRow {F : List Nat} {a b : World} (h : Only F a b) {g : Nat} (hg : g ∈ F ∨ a.heap.size ≤ g) (C : Array Value) : Only F a (b.setRow g C) :=
  ⟨h.os, h.tape, h.output, by have := h.size; simpa [World.setRow] using this, fun k hk hF => (setRow_other _ _ _ _ (by
    rintro rfl
    rcases hg with hg | hg
    · exact hF hg
    · omega)).trans (h.block k hk hF)⟩
section
variable {P : Program}
/-- What holds once the operations of 'listed' are done. -/
structure BoxesInv (l : List Oper) (bs : List BoxD) (V : Tmp → Value → List Nat → World → Prop) (W0 : World) (a0 : Act) (listed : Array Bool) (a : Act) (w : World) (β : Nat → Nat) : Prop where
  defers : a.defers = a0.defers
  size : a.tmps.size = a0.tmps.size
  other : ∀ t, (∀ o ∈ l, o.dst ≠ some t) → a.tmps[t]? = a0.tmps[t]?
  done : ∀ i o t, l[i]? = some o → (∀ x ∈ bs, i ≠ x.A) → o.dst = some t → listed.getD i false = true → ∃ v F, a.tmps[t]? = some v ∧ V t v F w ∧ ∀ k ∈ F, ∀ j x, bs[j]? = some x → x.is listed = true → k ≠ β j
  made : ∀ j x, bs[j]? = some x → x.is listed = true → (x.old = none → W0.heap.size ≤ β j) ∧ (∀ g, x.old = some g → β j = g) ∧ a.tmps[x.da]? = some (.pointer (some ⟨β j, 0, none⟩)) ∧
    ((listed.getD x.S false = false ∧ w.heap[β j]? = some (.cells x.Z x.T (0, 0))) ∨ (listed.getD x.S false = true ∧ ∃ C, w.heap[β j]? = some (.cells C x.T (0, 0)) ∧ a.tmps[x.sx]? = some (.agg C)))
  apart : ∀ j k x y, bs[j]? = some x → bs[k]? = some y → x.is listed = true → y.is listed = true → j ≠ k → β j ≠ β k
  below : Only (oldsOf bs) W0 w
  dep : ∀ x ∈ bs, ∀ j, ((x.old = none ∧ j = x.A) ∨ j = x.X) → listed.getD j false = false → listed.getD x.S false = false
theorem wp_region_boxes {id : Nat} {Q : Exit → Act → World → Prop} {a0 : Act} {W0 : World} {l : List Oper} (hm : P.follows .mixedOrders = true) (bs : List BoxD) (V : Tmp → Value → List Nat → World → Prop)
    (hlt : ∀ t v F w, V t v F w → ∀ k ∈ F, k < w.heap.size) (hloc : ∀ t v F w w', V t v F w → (∀ k ∈ F, w'.heap[k]? = w.heap[k]?) → V t v F w')
    (horder : (l.zipIdx.all fun x => x.1.after.all fun e => !Region.binds .any e || decide (e.on < x.2)) = true)
    (hdist : (l.zipIdx.all fun x => l.zipIdx.all fun y => x.1.dst.isNone || x.1.dst != y.1.dst || x.2 == y.2) = true)
    (hltB : (l.all fun o => match o.dst with | none => true | some t => decide (t < a0.tmps.size)) = true)
    (hbs : ∀ x ∈ bs, (x.old = none → (∃ o, l[x.A]? = some o ∧ o.op = .alloc x.T ∧ o.dst = some x.da ∧ o.guard = none) ∧ (P.info? x.T).bind (·.zero) = some (.agg x.Z)) ∧
      (∀ g, x.old = some g → W0.heap[g]? = some (.cells x.Z x.T (0, 0)) ∧ a0.tmps[x.da]? = some (.pointer (some ⟨g, 0, none⟩)) ∧ (l.all fun o => o.dst != some x.da) = true ∧ l.length ≤ x.A) ∧
      (∃ o, l[x.S]? = some o ∧ o.op = .store x.T (.tmp x.da) (.tmp x.sx) ∧ o.dst = none ∧ o.guard = none ∧ (x.old = none → (o.after.any fun e => e.on == x.A && Region.binds .any e) = true) ∧ (o.after.any fun e => e.on == x.X && Region.binds .any e) = true) ∧
      (l[x.X]?).bind (·.dst) = some x.sx ∧
      (∀ v F w, V x.sx v F w → ∃ C, v = .agg C ∧ (P.info? x.T).map (·.size) = some C.size ∧ x.Z.size = C.size ∧ C.all (·.oneCell') = true))
    (hnum : (bs.zipIdx.all fun x => bs.zipIdx.all fun y => (x.2 == y.2 || (x.1.A != y.1.A && x.1.S != y.1.S)) && x.1.A != y.1.S && x.1.X != y.1.A) = true)
    (hold : ∀ (j k : Nat) (x y : BoxD) (g : Nat), bs[j]? = some x → bs[k]? = some y → x.old = some g → y.old = some g → j = k)
    (heads : AllQ (fun i o => (bs.any fun x => i == x.A || i == x.S) = true ∨ (o.guard = none ∧ ∃ t, o.dst = some t ∧ ∀ a w (OK : Nat → Prop), (∀ k, k < W0.heap.size → k ∉ oldsOf bs → OK k) → Only (oldsOf bs) W0 w → (∀ s, (∀ o ∈ l, o.dst ≠ some s) → a.tmps[s]? = a0.tmps[s]?) →
      (∀ e ∈ o.after, Region.binds .any e = true → (bs.all fun x => e.on != x.A) = true → ∀ (o' : Oper) (s : Tmp), l[e.on]? = some o' → o'.dst = some s → ∃ v F, a.tmps[s]? = some v ∧ V s v F w ∧ ∀ k ∈ F, OK k) →
      ∀ K : Act → World → Prop, (∀ v F w', V t v F w' → (∀ k ∈ F, OK k ∨ w.heap.size ≤ k) → Below w.heap.size w w' → K (a.put o.dst v) w') → o.wp P a w K Q)) 0 l)
    (fin : ∀ (F : Tmp → Value) w (β : Nat → Nat), (∀ j x, bs[j]? = some x → (x.old = none → W0.heap.size ≤ β j ∧ F x.da = .pointer (some ⟨β j, 0, none⟩)) ∧ (∀ g, x.old = some g → β j = g) ∧ ∃ C G, F x.sx = .agg C ∧ w.heap[β j]? = some (.cells C x.T (0, 0)) ∧ V x.sx (.agg C) G w ∧ ∀ k ∈ G, ∀ j x, bs[j]? = some x → k ≠ β j) →
      (∀ j k, j < bs.length → k < bs.length → j ≠ k → β j ≠ β k) →
      (∀ i o t, l[i]? = some o → (bs.all fun x => i != x.A) = true → o.dst = some t → ∃ G, V t (F t) G w) → Only (oldsOf bs) W0 w → Q .normal ⟨putAll F a0.tmps l, a0.defers⟩ w) :
    (Code.region id l.toArray true).wp P Q a0 W0 := by
  have dist : ∀ (i j : Nat) (o o' : Oper) (t : Tmp), l[i]? = some o → l[j]? = some o' → o.dst = some t → o'.dst = some t → i = j := by
    intro i j o o' t hi hj h1 h2
    rw [List.all_eq_true] at hdist
    have q1 := hdist (o, i) (List.mem_iff_getElem?.2 ⟨i, by simpa [List.getElem?_zipIdx] using hi⟩)
    rw [List.all_eq_true] at q1
    have q2 := q1 (o', j) (List.mem_iff_getElem?.2 ⟨j, by simpa [List.getElem?_zipIdx] using hj⟩)
    simpa [h1, h2] using q2
  have hltS : ∀ o ∈ l, ∀ t, o.dst = some t → t < a0.tmps.size := by
    intro o ho t hd
    rw [List.all_eq_true] at hltB
    have := hltB o ho
    rw [hd] at this
    simpa using this
  have num : ∀ (j k : Nat) (x y : BoxD), bs[j]? = some x → bs[k]? = some y → (j = k ∨ (x.A ≠ y.A ∧ x.S ≠ y.S)) ∧ x.A ≠ y.S ∧ x.X ≠ y.A := by
    intro j k x y hj hk
    rw [List.all_eq_true] at hnum
    have q1 := hnum (x, j) (List.mem_iff_getElem?.2 ⟨j, by simpa [List.getElem?_zipIdx] using hj⟩)
    rw [List.all_eq_true] at q1
    have q2 := q1 (y, k) (List.mem_iff_getElem?.2 ⟨k, by simpa [List.getElem?_zipIdx] using hk⟩)
    simpa [and_assoc] using q2
  have mem : ∀ {j : Nat} {x : BoxD}, bs[j]? = some x → x ∈ bs := fun h => List.mem_of_getElem? h
  have olds : ∀ {j : Nat} {x : BoxD} {g : Nat}, bs[j]? = some x → x.old = some g → g ∈ oldsOf bs := fun {j x g} h e => List.mem_filterMap.2 ⟨x, mem h, e⟩
  have oldlt : ∀ {j : Nat} {x : BoxD} {g : Nat}, bs[j]? = some x → x.old = some g → g < W0.heap.size := fun {j x g} h e => (Array.getElem?_eq_some_iff.1 ((hbs x (mem h)).2.1 g e).1).1
  have oX : ∀ x ∈ bs, ∃ o, l[x.X]? = some o ∧ o.dst = some x.sx := by
    intro x hx
    have h0 := (hbs x hx).2.2.2.1
    cases h : l[x.X]? with
    | none => rw [h] at h0; cases h0
    | some o => exact ⟨o, rfl, by rw [h] at h0; exact h0⟩
  have daX : ∀ {j k : Nat} {x y : BoxD}, bs[j]? = some x → bs[k]? = some y → x.sx ≠ y.da := by
    intro j k x y hj hk e
    obtain ⟨o, ho, hd⟩ := oX x (mem hj)
    cases hy : y.old with
    | none =>
      obtain ⟨⟨oA, hoA, _, hAd, _⟩, _⟩ := (hbs y (mem hk)).1 hy
      exact (num j k x y hj hk).2.2 (dist x.X y.A o oA x.sx ho hoA hd (by rw [hAd, e]))
    | some g =>
      have := ((hbs y (mem hk)).2.1 g hy).2.2.1
      rw [List.all_eq_true] at this
      have := this o (List.mem_of_getElem? ho)
      rw [hd, e] at this
      simp at this
  refine wp_region_any hm (wpAny_inv (fun listed a w => ∃ β, BoxesInv l bs V W0 a0 listed a w β) ?_ ?_ ?_ _ _ _ _ (by simp) (Nat.le_trans List.countP_le_length (by simp)) ?_)
  · intro i o ho e he hb
    have hh := horder
    rw [List.all_eq_true] at hh
    have hmem : (o, i) ∈ l.zipIdx := List.mem_iff_getElem?.2 ⟨i, by simpa [List.getElem?_zipIdx] using ho⟩
    have h2 := hh _ hmem
    rw [Array.all_eq_true_iff_forall_mem] at h2
    have := h2 e he
    simpa [hb] using this
  · rintro listed a w hs ⟨β, I⟩ i o ho hni hready
    have hsz : listed.size = l.length := by simpa using hs
    have ho' : l[i]? = some o := by simpa using ho
    have hil : i < l.length := (List.getElem?_eq_some_iff.1 ho').1
    have hni' : listed.getD i false = false := getD_both hni
    have hset : ∀ k, (listed.setIfInBounds i true).getD k false = if k = i then true else listed.getD k false := fun k => getD_set listed i k (by omega)
    have hdone : ∀ e ∈ o.after, Region.binds .any e = true → listed.getD e.on false = true := by
      intro e he hb
      rw [Array.all_eq_true_iff_forall_mem] at hready
      have := hready e he
      simpa [hb] using this
    have hdep : ∀ j, (o.after.any fun e => e.on == j && Region.binds .any e) = true → listed.getD j false = true := by
      intro j hj
      obtain ⟨e, he, h2⟩ := Array.any_eq_true'.1 hj
      simp only [Bool.and_eq_true, beq_iff_eq] at h2
      rw [← h2.1]
      exact hdone e he h2.2
    have hwp : ∀ (K : Act → World → Prop), o.guard = none → o.wp P a w K Q → wpOp P l.toArray Q i K a w := by
      intro K hgd hK
      have hw : Region.wanted o (yielded l.toArray a.tmps) = true := by simp [Region.wanted, hgd]
      unfold wpOp
      simp only [ho, hw, if_true]
      exact .inl hK
    have hβ : ∀ (j : Nat) (x : BoxD), bs[j]? = some x → x.is listed = true → β j < w.heap.size := by
      intro j x hj hl
      obtain ⟨_, _, _, m3⟩ := I.made j x hj hl
      rcases m3 with ⟨_, n2⟩ | ⟨_, C, n2, _⟩ <;> exact (Array.getElem?_eq_some_iff.1 n2).1
    -- an operation that makes no variable leaves what is there
    have isn : ∀ (j : Nat) (x : BoxD), bs[j]? = some x → i ≠ x.A → x.is (listed.setIfInBounds i true) = x.is listed := by
      intro j x hj hne
      unfold BoxD.is
      rw [hset, if_neg (fun e => hne e.symm)]
    by_cases ciA : ∃ (j : Nat) (x : BoxD), bs[j]? = some x ∧ i = x.A
    · obtain ⟨j0, x0, hj0, rfl⟩ := ciA
      have hx0 : x0.old = none := by
        cases h : x0.old with
        | none => rfl
        | some g => have := ((hbs x0 (mem hj0)).2.1 g h).2.2.2; omega
      obtain ⟨⟨oA, hoA, hAop, hAd, hAg⟩, hz⟩ := (hbs x0 (mem hj0)).1 hx0
      rw [hoA] at ho'; cases ho'
      refine hwp _ hAg (wp_alloc_row x0.T hAop x0.Z hz ?_)
      have hb : Below w.heap.size w (w.alloc (.cells x0.Z x0.T)) := (Below.refl _ _).alloc (Nat.le_refl _) _
      have hnA : ∀ {j : Nat} {x : BoxD}, bs[j]? = some x → j ≠ j0 → x0.A ≠ x.A := by
        intro j x hj hne
        rcases (num j j0 x x0 hj hj0).1 with e | e
        · exact absurd e hne
        · exact fun h => e.1 h.symm
      have hlA : ∀ (j : Nat) (x : BoxD), bs[j]? = some x → j ≠ j0 → x.is (listed.setIfInBounds x0.A true) = true → x.is listed = true := by
        intro j x hj hne h
        rwa [isn j x hj (hnA hj hne)] at h
      have hdn : ∀ {j : Nat} {x : BoxD}, bs[j]? = some x → j ≠ j0 → x.da ≠ x0.da := by
        intro j x hj hne e
        cases hy : x.old with
        | none =>
          obtain ⟨⟨oA', hoA', _, hAd', _⟩, _⟩ := (hbs x (mem hj)).1 hy
          exact hnA hj hne (dist x0.A x.A o oA' x0.da hoA hoA' hAd (by rw [hAd', e]))
        | some g =>
          have := ((hbs x (mem hj)).2.1 g hy).2.2.1
          rw [List.all_eq_true] at this
          have := this o (List.mem_of_getElem? hoA)
          rw [hAd, e] at this
          simp at this
      refine ⟨fun j => if j = j0 then w.heap.size else β j, by rw [hAd]; exact I.defers, by rw [hAd]; simpa [Act.put] using I.size, ?_, ?_, ?_, ?_, I.below.alloc _, ?_⟩
      · intro t ht
        have : o.dst ≠ some t := ht o (List.mem_of_getElem? hoA)
        rw [hAd] at this ⊢
        show (a.tmps.setIfInBounds x0.da _)[t]? = _
        rw [Array.getElem?_setIfInBounds_ne (fun e => this (by rw [e]))]
        exact I.other t ht
      · intro j o' t hj hjA hd hlj
        have hjn : j ≠ x0.A := hjA x0 (mem hj0)
        rw [hset, if_neg hjn] at hlj
        rw [hAd]
        obtain ⟨v, F, h1, h2, h3⟩ := I.done j o' t hj hjA hd hlj
        refine ⟨v, F, ?_, hloc _ _ _ _ _ h2 (fun k hk => hb.block k (hlt _ _ _ _ h2 k hk)), fun k hk j' (x : BoxD) hj' hl => ?_⟩
        · show (a.tmps.setIfInBounds x0.da _)[t]? = _
          rw [Array.getElem?_setIfInBounds_ne (fun e => hjn (dist j x0.A o' o t hj hoA hd (by rw [hAd, e])))]
          exact h1
        · have := hlt _ _ _ _ h2 k hk
          show k ≠ if j' = j0 then w.heap.size else β j'
          split
          · omega
          · rename_i hne
            exact h3 k hk j' x hj' (hlA j' x hj' hne hl)
      · intro j x hj hl
        rw [hAd]
        by_cases hjj : j = j0
        · subst hjj
          obtain rfl : x0 = x := by rw [hj0] at hj; exact Option.some.inj hj
          rw [if_pos rfl]
          refine ⟨fun _ => I.below.size, fun g hg => (by rw [hx0] at hg; cases hg), ?_, .inl ⟨?_, heap_alloc_new _ _⟩⟩
          · show (a.tmps.setIfInBounds x0.da _)[x0.da]? = _
            rw [Array.getElem?_setIfInBounds_self_of_lt (by rw [I.size]; exact hltS o (List.mem_of_getElem? hoA) x0.da hAd)]
          · rw [hset, if_neg (fun e => (num j j x0 x0 hj hj).2.1 e.symm)]
            exact I.dep x0 (mem hj) x0.A (.inl ⟨hx0, rfl⟩) hni'
        · rw [if_neg hjj]
          obtain ⟨m0, m1, m2, m3⟩ := I.made j x hj (hlA j x hj hjj hl)
          refine ⟨m0, m1, ?_, ?_⟩
          · show (a.tmps.setIfInBounds x0.da _)[x.da]? = _
            rw [Array.getElem?_setIfInBounds_ne (fun e => hdn hj hjj e.symm)]
            exact m2
          · rw [hset, if_neg (fun e => (num j0 j x0 x hj0 hj).2.1 e.symm)]
            rcases m3 with ⟨n1, n2⟩ | ⟨n1, C, n2, n3⟩
            · exact .inl ⟨n1, (hb.block _ (Array.getElem?_eq_some_iff.1 n2).1).trans n2⟩
            · refine .inr ⟨n1, C, (hb.block _ (Array.getElem?_eq_some_iff.1 n2).1).trans n2, ?_⟩
              show (a.tmps.setIfInBounds x0.da _)[x.sx]? = _
              rw [Array.getElem?_setIfInBounds_ne (fun e => daX hj hj0 e.symm)]
              exact n3
      · intro j k x y hj hk hlj hlk hne
        show (if j = j0 then w.heap.size else β j) ≠ if k = j0 then w.heap.size else β k
        by_cases e1 : j = j0
        · by_cases e2 : k = j0
          · exact absurd (e1.trans e2.symm) hne
          · rw [if_pos e1, if_neg e2]
            have := hβ k y hk (hlA k y hk e2 hlk)
            omega
        · rw [if_neg e1]
          have := hβ j x hj (hlA j x hj e1 hlj)
          by_cases e2 : k = j0
          · rw [if_pos e2]; omega
          · rw [if_neg e2]
            exact I.apart j k x y hj hk (hlA j x hj e1 hlj) (hlA k y hk e2 hlk) hne
      · intro x hx j hj hl
        rw [hset] at hl ⊢
        split at hl
        · cases hl
        · obtain ⟨jx, hjx⟩ := List.mem_iff_getElem?.1 hx
          rw [if_neg (fun e => (num j0 jx x0 x hj0 hjx).2.1 e.symm)]
          exact I.dep x hx j hj hl
    · have hnA : ∀ (j : Nat) (x : BoxD), bs[j]? = some x → i ≠ x.A := fun j x hj e => ciA ⟨j, x, hj, e⟩
      have hlA2 : ∀ (j : Nat) (x : BoxD), bs[j]? = some x → x.is (listed.setIfInBounds i true) = true → x.is listed = true := by
        intro j x hj h
        rwa [isn j x hj (hnA j x hj)] at h
      by_cases ciS : ∃ (j : Nat) (x : BoxD), bs[j]? = some x ∧ i = x.S
      · obtain ⟨j0, x0, hj0, rfl⟩ := ciS
        obtain ⟨-, -, ⟨oS, hoS, hSop, hSd, hSg, hSA, hSX⟩, hX, hC⟩ := hbs x0 (mem hj0)
        obtain ⟨oX0, hoX, hXd⟩ := oX x0 (mem hj0)
        rw [hoS] at ho'; cases ho'
        have hlA : x0.is listed = true := by
          unfold BoxD.is
          cases h : x0.old with
          | none => rw [hdep x0.A (hSA h)]; rfl
          | some g => rfl
        have hlX := hdep x0.X hSX
        obtain ⟨hb0, hb0g, hbp, hb1⟩ := I.made j0 x0 hj0 hlA
        have hbz : w.heap[β j0]? = some (.cells x0.Z x0.T (0, 0)) := by
          rcases hb1 with ⟨_, hbz⟩ | ⟨h1, _⟩
          · exact hbz
          · rw [h1] at hni'; cases hni'
        have hXn : ∀ x ∈ bs, x0.X ≠ x.A := by
          intro x hx
          obtain ⟨jx, hjx⟩ := List.mem_iff_getElem?.1 hx
          exact (num j0 jx x0 x hj0 hjx).2.2
        obtain ⟨u, G, hu, hVu, hGb⟩ := I.done x0.X oX0 x0.sx hoX hXn hXd hlX
        obtain ⟨C, rfl, hC1, hC2, hC3⟩ := hC u G w hVu
        refine hwp _ hSg (wp_store_row x0.T _ _ hSop (β j0) C (eval_of hbp) (eval_of hu) x0.T x0.Z hbz hC1 hC2 hC3 ?_)
        have hsr : ∀ k, k ≠ β j0 → (w.setRow (β j0) C).heap[k]? = w.heap[k]? := fun k hk => setRow_other _ _ _ _ hk
        have hpt : a.put o.dst undef = a := by rw [hSd]; rfl
        rw [hpt]
        refine ⟨β, I.defers, I.size, I.other, ?_, ?_, fun j k x y hj hk hlj hlk hne => I.apart j k x y hj hk (hlA2 j x hj hlj) (hlA2 k y hk hlk) hne, I.below.setRow ?_ _, ?_⟩
        · intro j o' t hj hjA hd hlj
          rw [hset] at hlj
          have hjS : j ≠ x0.S := by
            rintro rfl
            rw [hoS] at hj; cases hj
            rw [hSd] at hd; cases hd
          rw [if_neg hjS] at hlj
          obtain ⟨v, F, h1, h2, h3⟩ := I.done j o' t hj hjA hd hlj
          exact ⟨v, F, h1, hloc _ _ _ _ _ h2 (fun k hk => hsr k (h3 k hk j0 x0 hj0 hlA)), fun k hk j' (x : BoxD) hj' hl => h3 k hk j' x hj' (hlA2 j' x hj' hl)⟩
        · intro j x hj hl
          obtain ⟨m0, m1, m2, m3⟩ := I.made j x hj (hlA2 j x hj hl)
          refine ⟨m0, m1, m2, ?_⟩
          by_cases hjj : j = j0
          · subst hjj
            obtain rfl : x0 = x := by rw [hj0] at hj; exact Option.some.inj hj
            exact .inr ⟨by rw [hset, if_pos rfl], C, setRow_heap _ _ _ _ _ _ hbz, hu⟩
          · have hnb : β j ≠ β j0 := I.apart j j0 x x0 hj hj0 (hlA2 j x hj hl) hlA hjj
            rw [hset, if_neg (by rcases (num j j0 x x0 hj hj0).1 with e | e; exact absurd e hjj; exact e.2), hsr _ hnb]
            exact m3
        · cases h : x0.old with
          | none => exact .inr (hb0 h)
          | some g => rw [hb0g g h]; exact .inl (olds hj0 h)
        · intro x hx j hj hl
          obtain ⟨jx, hjx⟩ := List.mem_iff_getElem?.1 hx
          rw [hset] at hl ⊢
          split at hl
          · cases hl
          · rename_i hjn
            by_cases e : x.S = x0.S
            · exfalso
              have : jx = j0 := by
                rcases (num jx j0 x x0 hjx hj0).1 with h | h
                · exact h
                · exact absurd e h.2
              subst this
              obtain rfl : x0 = x := by rw [hj0] at hjx; exact Option.some.inj hjx
              rcases hj with ⟨hx0, rfl⟩ | rfl
              · rw [hdep x0.A (hSA hx0)] at hl; cases hl
              · rw [hlX] at hl; cases hl
            · rw [if_neg e]
              exact I.dep x hx j hj hl
      · have hq := AllQ.get heads i o ho'
        rw [Nat.zero_add] at hq
        rcases hq with h | ⟨hg, t, hd, hq⟩
        · obtain ⟨x, hx, h2⟩ := List.any_eq_true.1 h
          obtain ⟨jx, hjx⟩ := List.mem_iff_getElem?.1 hx
          simp only [Bool.or_eq_true, beq_iff_eq] at h2
          rcases h2 with h2 | h2
          · exact absurd ⟨jx, x, hjx, h2⟩ ciA
          · exact absurd ⟨jx, x, hjx, h2⟩ ciS
        have hnS : ∀ x ∈ bs, i ≠ x.S := by
          intro x hx e
          obtain ⟨jx, hjx⟩ := List.mem_iff_getElem?.1 hx
          exact ciS ⟨jx, x, hjx, e⟩
        refine hwp _ hg (hq a w (fun k => k < w.heap.size ∧ ∀ (j : Nat) (x : BoxD), bs[j]? = some x → x.is listed = true → k ≠ β j) ?_ I.below I.other ?_ _ ?_)
        · intro k hk hko
          refine ⟨by have := I.below.size; omega, fun j x hj hl => ?_⟩
          obtain ⟨m0, m1, _⟩ := I.made j x hj hl
          cases h : x.old with
          | none => have := m0 h; omega
          | some g => rw [m1 g h]; rintro rfl; exact hko (olds hj h)
        · intro e he hb hne o' s hl' hd'
          have hne' : ∀ x ∈ bs, e.on ≠ x.A := by
            intro x hx
            have := List.all_eq_true.1 hne x hx
            simpa using this
          obtain ⟨v, F, h1, h2, h3⟩ := I.done _ o' s hl' hne' hd' (hdone e he hb)
          exact ⟨v, F, h1, h2, fun k hk => ⟨hlt _ _ _ _ h2 k hk, fun j x hj hl => h3 k hk j x hj hl⟩⟩
        · intro v F w' hV hF hB
          have hsz' : t < a.tmps.size := by rw [I.size]; exact hltS o (List.mem_of_getElem? ho') t hd
          have htda : ∀ {j : Nat} {x : BoxD}, bs[j]? = some x → t ≠ x.da := by
            intro j x hj e
            cases hy : x.old with
            | none =>
              obtain ⟨⟨oA', hoA', _, hAd', _⟩, _⟩ := (hbs x (mem hj)).1 hy
              exact hnA j x hj (dist i x.A o oA' t ho' hoA' hd (by rw [hAd', e]))
            | some g =>
              have := ((hbs x (mem hj)).2.1 g hy).2.2.1
              rw [List.all_eq_true] at this
              have := this o (List.mem_of_getElem? ho')
              rw [hd, e] at this
              simp at this
          rw [hd]
          refine ⟨β, I.defers, by simpa [Act.put] using I.size, ?_, ?_, ?_, fun j k x y hj hk hlj hlk hne => I.apart j k x y hj hk (hlA2 j x hj hlj) (hlA2 k y hk hlk) hne, I.below.trans (Only.of_below hB), ?_⟩
          · intro s hs'
            have : o.dst ≠ some s := hs' o (List.mem_of_getElem? ho')
            rw [hd] at this
            show (a.tmps.setIfInBounds t _)[s]? = _
            rw [Array.getElem?_setIfInBounds_ne (fun e => this (by rw [e]))]
            exact I.other s hs'
          · intro j o' s hj hjA hd' hlj
            show ∃ v' F', (a.tmps.setIfInBounds t v)[s]? = some v' ∧ _
            by_cases hji : j = i
            · subst hji
              rw [ho'] at hj; cases hj
              rw [hd] at hd'; cases hd'
              refine ⟨v, F, Array.getElem?_setIfInBounds_self_of_lt hsz', hV, fun k hk j' (x : BoxD) hj' hl => ?_⟩
              rcases hF k hk with h | h
              · exact h.2 j' x hj' (hlA2 j' x hj' hl)
              · have := hβ j' x hj' (hlA2 j' x hj' hl); omega
            · rw [hset, if_neg hji] at hlj
              obtain ⟨v', F', h1, h2, h3⟩ := I.done j o' s hj hjA hd' hlj
              exact ⟨v', F', by rw [Array.getElem?_setIfInBounds_ne (fun e => hji (dist j i o' o s hj ho' hd' (by rw [hd, e])))]; exact h1, hloc _ _ _ _ _ h2 (fun k hk => hB.block k (hlt _ _ _ _ h2 k hk)), fun k hk j' (x : BoxD) hj' hl => h3 k hk j' x hj' (hlA2 j' x hj' hl)⟩
          · intro j x hj hl
            obtain ⟨m0, m1, m2, m3⟩ := I.made j x hj (hlA2 j x hj hl)
            have hbl : ∀ {ob : Obj}, w.heap[β j]? = some ob → w'.heap[β j]? = some ob := fun h => (hB.block _ (Array.getElem?_eq_some_iff.1 h).1).trans h
            refine ⟨m0, m1, ?_, ?_⟩
            · show (a.tmps.setIfInBounds t _)[x.da]? = _
              rw [Array.getElem?_setIfInBounds_ne (fun e => htda hj e)]
              exact m2
            · rw [hset, if_neg (fun e => hnS x (mem hj) e.symm)]
              rcases m3 with ⟨n1, n2⟩ | ⟨n1, C, n2, n3⟩
              · exact .inl ⟨n1, hbl n2⟩
              · refine .inr ⟨n1, C, hbl n2, ?_⟩
                show (a.tmps.setIfInBounds t _)[x.sx]? = _
                obtain ⟨oX', hoX', hoXd⟩ := oX x (mem hj)
                by_cases hiX : i = x.X
                · subst hiX
                  rw [I.dep x (mem hj) x.X (.inr rfl) hni'] at n1; cases n1
                · rw [Array.getElem?_setIfInBounds_ne (fun e => hiX (dist i x.X o oX' t ho' hoX' hd (by rw [hoXd, e])))]
                  exact n3
          · intro x hx j hj hl
            rw [hset] at hl ⊢
            split at hl
            · cases hl
            · rw [if_neg (fun e => hnS x hx e.symm)]
              exact I.dep x hx j hj hl
  · rintro listed a w hs ⟨β, I⟩ hall
    have hall' : ∀ i, i < l.length → listed.getD i false = true := fun i hi => hall i (by simpa using hi)
    have hgd : ∀ (t : Tmp) (v : Value), a.tmps[t]? = some v → a.tmps.getD t undef = v := fun t v h => by rw [Array.getD_eq_getD_getElem?, h]; rfl
    have hfr : a = ⟨putAll (fun t => a.tmps.getD t undef) a0.tmps l, a0.defers⟩ := by
      have ht : a.tmps = putAll (fun t => a.tmps.getD t undef) a0.tmps l := by
        apply Array.ext_getElem?
        intro t
        by_cases h : ∃ o ∈ l, o.dst = some t
        · obtain ⟨o, ho, hd⟩ := h
          rw [putAll_some _ t _ _ (hltS o ho t hd) ⟨o, ho, hd⟩]
          have hl : t < a.tmps.size := by rw [I.size]; exact hltS o ho t hd
          simp [Array.getD, hl]
        · rw [putAll_other _ t _ _ (fun o ho hd => h ⟨o, ho, hd⟩)]
          exact I.other t (fun o ho hd => h ⟨o, ho, hd⟩)
      have hdf := I.defers
      cases a
      simp only at ht hdf
      rw [← ht, hdf]
    rw [hfr]
    have hAl : ∀ (j : Nat) (x : BoxD), bs[j]? = some x → x.is listed = true := by
      intro j x hj
      unfold BoxD.is
      cases h : x.old with
      | none =>
        obtain ⟨⟨oA, hoA, _⟩, -⟩ := (hbs x (mem hj)).1 h
        rw [hall' _ (List.getElem?_eq_some_iff.1 hoA).1]; rfl
      | some g => rfl
    refine fin (fun t => a.tmps.getD t undef) w β ?_ ?_ ?_ I.below
    · intro j x hj
      obtain ⟨m0, m1, m2, m3⟩ := I.made j x hj (hAl j x hj)
      obtain ⟨-, -, ⟨oS, hoS, _⟩, -, -⟩ := hbs x (mem hj)
      obtain ⟨oX', hoX', hoXd⟩ := oX x (mem hj)
      rcases m3 with ⟨n1, _⟩ | ⟨_, C, n2, n3⟩
      · rw [hall' x.S (List.getElem?_eq_some_iff.1 hoS).1] at n1; cases n1
      obtain ⟨v, G, h1, h2, h3⟩ := I.done x.X oX' x.sx hoX' (fun y hy => by
        obtain ⟨jy, hjy⟩ := List.mem_iff_getElem?.1 hy
        exact (num j jy x y hj hjy).2.2) hoXd (hall' _ (List.getElem?_eq_some_iff.1 hoX').1)
      obtain rfl : Value.agg C = v := by rw [n3] at h1; exact Option.some.inj h1
      exact ⟨fun h => ⟨m0 h, hgd _ _ m2⟩, m1, C, G, hgd _ _ n3, n2, h2, fun k hk j' x' hj' => h3 k hk j' x' hj' (hAl j' x' hj')⟩
    · intro j k hj hk hne
      exact I.apart j k bs[j] bs[k] (List.getElem?_eq_getElem hj) (List.getElem?_eq_getElem hk) (hAl _ _ (List.getElem?_eq_getElem hj)) (hAl _ _ (List.getElem?_eq_getElem hk)) hne
    · intro i o t hi hiA hd
      obtain ⟨v, G, h1, h2, _⟩ := I.done i o t hi (fun x hx => by
        have := List.all_eq_true.1 hiA x hx
        simpa using this) hd (hall' i (List.getElem?_eq_some_iff.1 hi).1)
      refine ⟨G, ?_⟩
      show V t (a.tmps.getD t undef) G w
      rw [hgd t v h1]; exact h2
  · have h0 : ∀ j, (Array.replicate l.toArray.size false).getD j false = false := getD_replicate_false _
    have his : ∀ (x : BoxD), x.is (Array.replicate l.toArray.size false) = true → ∃ g, x.old = some g := by
      intro x h
      unfold BoxD.is at h
      rw [h0, Bool.or_false, Option.isSome_iff_exists] at h
      exact h
    refine ⟨fun j => ((bs[j]?).bind (·.old)).getD 0, rfl, rfl, fun _ _ => rfl, fun i o t _ _ _ hl => (by rw [h0] at hl; cases hl), ?_, ?_, (Only.refl _ _).drew, fun _ _ _ _ _ => h0 _⟩
    · intro j x hj hl
      obtain ⟨g, hg⟩ := his x hl
      obtain ⟨h1, h2, _⟩ := (hbs x (mem hj)).2.1 g hg
      have e : ((bs[j]?).bind (·.old)).getD 0 = g := by rw [hj]; show (x.old).getD 0 = g; rw [hg]; rfl
      refine ⟨fun h => (by rw [hg] at h; cases h), fun g' hg' => ?_, ?_, .inl ⟨h0 _, ?_⟩⟩
      · show ((bs[j]?).bind (·.old)).getD 0 = g'
        rw [e]; rw [hg] at hg'; exact Option.some.inj hg'
      · rw [e]; exact h2
      · show W0.heap[((bs[j]?).bind (·.old)).getD 0]? = _
        rw [e]; exact h1
    · intro j k x y hj hk hlj hlk hne
      obtain ⟨g, hg⟩ := his x hlj
      obtain ⟨g', hg'⟩ := his y hlk
      show ((bs[j]?).bind (·.old)).getD 0 ≠ ((bs[k]?).bind (·.old)).getD 0
      rw [hj, hk]
      show (x.old).getD 0 ≠ (y.old).getD 0
      rw [hg, hg']
      show g ≠ g'
      rintro rfl
      exact hne (hold j k x y g hj hk hg hg')
end
theorem boxes_of {l : List Oper} {bs : List BoxD} {V : Tmp → Value → List Nat → World → Prop} {OK : Nat → Prop} {o : Oper} {a : Act} {w : World}
    (hD : ∀ e ∈ o.after, Region.binds .any e = true → (bs.all fun x => e.on != x.A) = true → ∀ (o' : Oper) (s : Tmp), l[e.on]? = some o' → o'.dst = some s → ∃ v F, a.tmps[s]? = some v ∧ V s v F w ∧ ∀ k ∈ F, OK k)
    (j : Nat) (hj : (o.after.any fun e => e.on == j && Region.binds .any e) = true) (hA : (bs.all fun x => j != x.A) = true) (s : Tmp) (hs : (l[j]?).bind (·.dst) = some s) : ∃ v F, a.eval (.tmp s) = v ∧ V s v F w ∧ ∀ k ∈ F, OK k := by
  obtain ⟨e, he, h2⟩ := Array.any_eq_true'.1 hj
  simp only [Bool.and_eq_true, beq_iff_eq] at h2
  cases hl : l[j]? with
  | none => rw [hl] at hs; cases hs
  | some o' =>
    rw [hl] at hs
    obtain ⟨v, F, h3, h4, h5⟩ := hD e he h2.2 (by rw [h2.1]; exact hA) o' s (by rw [h2.1]; exact hl) hs
    exact ⟨v, F, eval_of h3, h4, h5⟩
end Go.Proofs.YtcepfmjebgklfaaDoor
