/- 'x, y, z := c, c, c' of variables of many cells whose addresses are taken: one region that draws the order of n loads, n new variables and n stores: whatever the order, behind it each variable lies in a block of its own and holds c. Over any program. -/
import Derived.Test.YtnphgaiiiiknpaaDoorLib
namespace Go.Proofs.YtnphgaiiiiknpaaDoor
open Go.RowKit
section
variable {P : Program}
theorem wp_alloc_row {o : Oper} {a : Act} {w : World} {K : Act → World → Prop} {Q : Exit → Act → World → Prop} (ty : TypeId) (ho : o.op = .alloc ty)
    (Z : Array Value) (hz : (P.info? ty).bind (·.zero) = some (.agg Z)) (h : K (a.put o.dst (.pointer (some ⟨w.heap.size, 0, none⟩))) (w.alloc (.cells Z ty))) : o.wp P a w K Q := by
  unfold Oper.wp execOp
  simp only [ho, Sem.run_bind, run_alloc_row w ty Z hz, Result.andThen_ok, Sem.run_pure]
  exact h
theorem wpAny_inv {ops : Array Oper} {Q : Exit → Act → World → Prop} {md : Region.Mode} (I : Array Bool → Act → World → Prop)
    (order : ∀ i o, ops[i]? = some o → ∀ e ∈ o.after, Region.binds md e = true → e.on < i)
    (step : ∀ listed a w, listed.size = ops.size → I listed a w → ∀ i o, ops[i]? = some o → listed.getD i true = false → (o.after.all fun e => !Region.binds md e || listed.getD e.on false) = true → wpOp P ops Q i (I (listed.setIfInBounds i true)) a w)
    (fin : ∀ listed a w, listed.size = ops.size → I listed a w → (∀ i, i < ops.size → listed.getD i false = true) → Q .normal a w) :
    ∀ (fuel : Nat) (listed : Array Bool) (a : Act) (w : World), listed.size = ops.size → listed.toList.countP (· = false) ≤ fuel → I listed a w → wpAny P md ops Q fuel listed a w := by
  have all : ∀ listed : Array Bool, listed.size = ops.size → Region.ready md ops listed = [] → ∀ i, i < ops.size → listed.getD i false = true := by
    intro listed hs hr i
    induction i using Nat.strongRecOn with
    | _ i ih =>
      intro hi
      cases hl : listed.getD i false with
      | true => rfl
      | false =>
        exfalso
        have hmem : i ∈ Region.ready md ops listed := by
          unfold Region.ready
          rw [List.mem_filter]
          refine ⟨List.mem_range.2 hi, ?_⟩
          have h1 : listed.getD i true = false := by
            have hi' : i < listed.size := by omega
            simp [Array.getD, hi'] at hl ⊢; exact hl
          simp only [h1, Bool.not_false, Bool.true_and, Array.getElem?_eq_getElem hi, Option.map_some, Option.getD_some]
          rw [Array.all_eq_true_iff_forall_mem]
          intro e he
          cases hb : Region.binds md e with
          | false => rfl
          | true =>
            have hlt := order i _ (Array.getElem?_eq_getElem hi) e he hb
            simp [ih e.on hlt (by omega)]
        rw [hr] at hmem
        cases hmem
  intro fuel
  induction fuel with
  | zero =>
    intro listed a w hs hc hI
    have h0 : ∀ i, i < ops.size → listed.getD i false = true := by
      intro i hi
      have hi' : i < listed.size := by omega
      have h := List.countP_eq_zero.1 (Nat.le_zero.1 hc) listed[i] (by simp)
      simpa [Array.getD, hi'] using h
    refine ⟨?_, fin listed a w hs hI h0⟩
    unfold Region.ready
    rw [List.filter_eq_nil_iff]
    intro i hi
    have hi := List.mem_range.1 hi
    have hi' : i < listed.size := by omega
    have := h0 i hi
    simp [Array.getD, hi'] at this ⊢
    simp [this]
  | succ fuel ih =>
    intro listed a w hs hc hI
    refine ⟨fun hr => fin listed a w hs hI (all listed hs hr), fun i hi => ?_⟩
    unfold Region.ready at hi
    rw [List.mem_filter] at hi
    obtain ⟨hi1, hi2⟩ := hi
    have hi1 := List.mem_range.1 hi1
    rw [Array.getElem?_eq_getElem hi1] at hi2
    simp only [Option.map_some, Option.getD_some, Bool.and_eq_true, Bool.not_eq_true'] at hi2
    have hi' : i < listed.size := by omega
    refine wpOp_mono (fun a w h => ih _ a w (by simpa using hs) ?_ h) (step listed a w hs hI i _ (Array.getElem?_eq_getElem hi1) hi2.1 hi2.2)
    have h2 : listed[i] = false := by have := hi2.1; simpa [Array.getD, hi'] using this
    have h3 : (listed.setIfInBounds i true).toList = listed.toList.set i true := by simp
    rw [h3]
    have h4 : listed.toList.countP (· = false) = (listed.toList.set i true).countP (· = false) + 1 := by
      have hl : i < listed.toList.length := by simpa using hi'
      have e1 : listed.toList = listed.toList.take i ++ listed.toList[i] :: listed.toList.drop (i + 1) := by rw [← List.drop_eq_getElem_cons hl, List.take_append_drop]
      have e2 : listed.toList.set i true = listed.toList.take i ++ true :: listed.toList.drop (i + 1) := by rw [List.set_eq_take_append_cons_drop, if_pos hl]
      have h2' : listed.toList[i] = false := by simpa using h2
      rw [e2]
      conv => lhs; rw [e1, h2']
      simp [List.countP_append]
      omega
    omega
/-- The operations of such a region: the loads, the variables, the stores; slots s and d. -/
structure Copies (l : List Oper) (n : Nat) (s d : Nat → Nat) (c : Tmp) (T : TypeId) : Prop where
  len : l.length = 3 * n
  loads : ∀ j, j < n → ∃ o, l[j]? = some o ∧ o.op = .load T (.tmp c) ∧ o.dst = some (s j) ∧ o.guard = none
  allocs : ∀ j, j < n → ∃ o, l[n + j]? = some o ∧ o.op = .alloc T ∧ o.dst = some (d j) ∧ o.guard = none
  stores : ∀ j, j < n → ∃ o, l[2 * n + j]? = some o ∧ o.op = .store T (.tmp (d j)) (.tmp (s j)) ∧ o.dst = none ∧ o.guard = none ∧
    (o.after.any (fun e => e.on == j && Region.binds .any e)) = true ∧ (o.after.any (fun e => e.on == n + j && Region.binds .any e)) = true
  order : (l.zipIdx.all fun x => x.1.after.all fun e => !Region.binds .any e || decide (e.on < x.2)) = true
  sinj : ∀ j k, j < n → k < n → s j = s k → j = k
  dinj : ∀ j k, j < n → k < n → d j = d k → j = k
  sd : ∀ j k, j < n → k < n → s j ≠ d k
  sc : ∀ j, j < n → s j ≠ c ∧ d j ≠ c
/-- The frame behind it. -/
def copied (s d : Nat → Nat) (C : Array Value) (b : Nat → Nat) : Nat → Array Value → Array Value
  | 0, tm => tm
  | n + 1, tm => ((copied s d C b n tm).setIfInBounds (s n) (.agg C)).setIfInBounds (d n) (.pointer (some ⟨b n, 0, none⟩))
theorem size_copied (s d : Nat → Nat) (C : Array Value) (b : Nat → Nat) (n : Nat) (tm : Array Value) : (copied s d C b n tm).size = tm.size := by
  induction n with
  | zero => rfl
  | succ n ih => simp [copied, ih]
theorem copied_other (s d : Nat → Nat) (C : Array Value) (b : Nat → Nat) (t : Nat) (tm : Array Value) : ∀ n, (∀ j, j < n → t ≠ s j ∧ t ≠ d j) → (copied s d C b n tm)[t]? = tm[t]?
  | 0, _ => rfl
  | n + 1, h => by
    have := h n (by omega)
    rw [copied, Array.getElem?_setIfInBounds_ne (fun e => this.2 e.symm), Array.getElem?_setIfInBounds_ne (fun e => this.1 e.symm)]
    exact copied_other s d C b t tm n (fun j hj => h j (by omega))
theorem copied_s (s d : Nat → Nat) (C : Array Value) (b : Nat → Nat) (tm : Array Value) : ∀ n, (∀ j k, j < n → k < n → s j = s k → j = k) → (∀ j k, j < n → k < n → s j ≠ d k) → ∀ j, j < n → s j < tm.size → (copied s d C b n tm)[s j]? = some (.agg C)
  | 0, _, _, j, hj, _ => absurd hj (by omega)
  | n + 1, hi, hsd, j, hj, hlt => by
    rw [copied, Array.getElem?_setIfInBounds_ne (fun e => hsd j n hj (by omega) e.symm)]
    by_cases h : j = n
    · subst h
      rw [Array.getElem?_setIfInBounds_self_of_lt (by rw [size_copied]; exact hlt)]
    · rw [Array.getElem?_setIfInBounds_ne (fun e => h (hi j n hj (by omega) e.symm))]
      exact copied_s s d C b tm n (fun j k hj hk => hi j k (by omega) (by omega)) (fun j k hj hk => hsd j k (by omega) (by omega)) j (by omega) hlt
theorem copied_d (s d : Nat → Nat) (C : Array Value) (b : Nat → Nat) (tm : Array Value) : ∀ n, (∀ j k, j < n → k < n → d j = d k → j = k) → (∀ j k, j < n → k < n → s j ≠ d k) → ∀ j, j < n → d j < tm.size → (copied s d C b n tm)[d j]? = some (.pointer (some ⟨b j, 0, none⟩))
  | 0, _, _, j, hj, _ => absurd hj (by omega)
  | n + 1, hi, hsd, j, hj, hlt => by
    by_cases h : j = n
    · subst h
      rw [copied, Array.getElem?_setIfInBounds_self_of_lt (by simp [size_copied]; exact hlt)]
    · rw [copied, Array.getElem?_setIfInBounds_ne (fun e => h (hi j n hj (by omega) e.symm)), Array.getElem?_setIfInBounds_ne (fun e => hsd n j (by omega) hj e)]
      exact copied_d s d C b tm n (fun j k hj hk => hi j k (by omega) (by omega)) (fun j k hj hk => hsd j k (by omega) (by omega)) j (by omega) hlt
/-- What holds once the operations of 'listed' are done. -/
structure CopyInv (n : Nat) (s d : Nat → Nat) (C Z : Array Value) (T : TypeId) (B : Nat) (W0 : World) (a0 : Act) (listed : Array Bool) (b : Nat → Nat) (a : Act) (w : World) : Prop where
  defers : a.defers = a0.defers
  size : a.tmps.size = a0.tmps.size
  other : ∀ t, (∀ j, j < n → t ≠ s j ∧ t ≠ d j) → a.tmps[t]? = a0.tmps[t]?
  loaded : ∀ j, j < n → listed.getD j false = true → a.tmps[s j]? = some (.agg C)
  made : ∀ j, j < n → listed.getD (n + j) false = true → a.tmps[d j]? = some (.pointer (some ⟨b j, 0, none⟩)) ∧ B ≤ b j ∧ w.heap[b j]? = some (.cells (if listed.getD (2 * n + j) false then C else Z) T (0, 0))
  apart : ∀ j k, j < n → k < n → j ≠ k → listed.getD (n + j) false = true → listed.getD (n + k) false = true → b j ≠ b k
  dep : ∀ j, j < n → listed.getD (2 * n + j) false = true → listed.getD (n + j) false = true
  below : Below B W0 w
theorem getD_set (l : Array Bool) (i j : Nat) (hi : i < l.size) : (l.setIfInBounds i true).getD j false = if j = i then true else l.getD j false := by
  simp only [Array.getD_eq_getD_getElem?]
  by_cases h : j = i
  · subst h; rw [Array.getElem?_setIfInBounds_self_of_lt hi]; simp
  · rw [Array.getElem?_setIfInBounds_ne (fun e => h e.symm), if_neg h]
theorem wp_region_copies {id : Nat} {Q : Exit → Act → World → Prop} {a : Act} {w : World} {l : List Oper} (hm : P.follows .mixedOrders = true) (n : Nat) (s d : Nat → Nat) (c : Tmp) (T : TypeId) (hl : Copies l n s d c T)
    (C Z : Array Value) (dd : TypeDesc) (hu : P.underlying T = some dd) (hd : (match dd with | .struct _ | .array _ _ => true | _ => false) = true) (hi : (P.info? T).map (·.size) = some C.size) (hz : (P.info? T).bind (·.zero) = some (.agg Z))
    (hZ : Z.size = C.size) (h1 : C.all (·.oneCell') = true) (g : Nat) (hc : a.tmps[c]? = some (.pointer (some ⟨g, 0, none⟩))) (hg : w.heap[g]? = some (.cells C T (0, 0)))
    (hlt : ∀ j, j < n → s j < a.tmps.size ∧ d j < a.tmps.size)
    (h : ∀ b w', (∀ j, j < n → w.heap.size ≤ b j ∧ w'.heap[b j]? = some (.cells C T (0, 0))) → (∀ j k, j < n → k < n → j ≠ k → b j ≠ b k) → Below w.heap.size w w' → Q .normal ⟨copied s d C b n a.tmps, a.defers⟩ w') :
    (Code.region id l.toArray true).wp P Q a w := by
  have hgs : g < w.heap.size := (Array.getElem?_eq_some_iff.1 hg).1
  refine wp_region_any hm (wpAny_inv (fun listed a' w' => ∃ b, CopyInv n s d C Z T w.heap.size w a listed b a' w') ?_ ?_ ?_ _ _ _ _ (by simp) (Nat.le_trans List.countP_le_length (by simp)) ⟨fun _ => 0, ?_⟩)
  · intro i o ho e he hb
    have hh := hl.order
    rw [List.all_eq_true] at hh
    have hmem : (o, i) ∈ l.zipIdx := List.mem_iff_getElem?.2 ⟨i, by simpa [List.getElem?_zipIdx] using ho⟩
    have h2 := hh _ hmem
    rw [Array.all_eq_true_iff_forall_mem] at h2
    have := h2 e he
    simpa [hb] using this
  · rintro listed a' w' hs ⟨b, I⟩ i o ho hni hready
    have hsz : listed.size = 3 * n := by rw [hs]; simpa using hl.len
    have ho' : l[i]? = some o := by simpa using ho
    have hilt : i < 3 * n := by rw [← hl.len]; exact (List.getElem?_eq_some_iff.1 ho').1
    have hwp : ∀ (K : Act → World → Prop), o.guard = none → o.wp P a' w' K Q → wpOp P l.toArray Q i K a' w' := by
      intro K hgd hK
      have hw : Region.wanted o (yielded l.toArray a'.tmps) = true := by simp [Region.wanted, hgd]
      unfold wpOp
      simp only [ho, hw, if_true]
      exact .inl hK
    have hset : ∀ k, (listed.setIfInBounds i true).getD k false = if k = i then true else listed.getD k false := fun k => getD_set listed i k (by omega)
    by_cases c1 : i < n
    · obtain ⟨o', e1, e2, e3, e4⟩ := hl.loads i c1
      rw [ho'] at e1; cases e1
      refine hwp _ e4 (wp_load_row T (.tmp c) e2 g ?_ T C (0, 0) dd (by rw [I.below.block g hgs]; exact hg) hu hd hi ⟨b, ?_⟩)
      · show a'.tmps.getD c undef = _
        rw [Array.getD_eq_getD_getElem?, I.other c (fun j hj => ⟨fun e => (hl.sc j hj).1 e.symm, fun e => (hl.sc j hj).2 e.symm⟩), hc]; rfl
      · rw [e3]
        have hput : (a'.put (some (s i)) (.agg C)).tmps = a'.tmps.setIfInBounds (s i) (.agg C) := rfl
        have hs2 : ∀ k, n ≤ k → (listed.setIfInBounds i true).getD k false = listed.getD k false := fun k hk => by rw [hset, if_neg (by omega)]
        refine ⟨I.defers, by rw [hput]; simpa using I.size, ?_, ?_, ?_, ?_, ?_, I.below⟩
        · intro t ht
          rw [hput, Array.getElem?_setIfInBounds_ne (fun e => (ht i c1).1 e.symm)]; exact I.other t ht
        · intro j hj hlj
          rw [hput]
          by_cases hji : j = i
          · subst hji; rw [Array.getElem?_setIfInBounds_self_of_lt (by rw [I.size]; exact (hlt j hj).1)]
          · rw [Array.getElem?_setIfInBounds_ne (fun e => hji (hl.sinj j i hj c1 e.symm))]
            rw [hset, if_neg hji] at hlj
            exact I.loaded j hj hlj
        · intro j hj hlj
          rw [hs2 _ (by omega)] at hlj
          rw [hput, Array.getElem?_setIfInBounds_ne (hl.sd i j c1 hj), hs2 _ (by omega)]
          exact I.made j hj hlj
        · intro j k hj hk hne h1 h2
          rw [hs2 _ (by omega)] at h1 h2
          exact I.apart j k hj hk hne h1 h2
        · intro j hj
          rw [hs2 _ (by omega), hs2 _ (by omega)]
          exact I.dep j hj
    · by_cases c2 : i < 2 * n
      · obtain ⟨m, rfl⟩ : ∃ m, i = n + m := ⟨i - n, by omega⟩
        have hm' : m < n := by omega
        obtain ⟨o', e1, e2, e3, e4⟩ := hl.allocs m hm'
        rw [ho'] at e1; cases e1
        refine hwp _ e4 (wp_alloc_row T e2 Z hz ⟨fun k => if k = m then w'.heap.size else b k, ?_⟩)
        rw [e3]
        have hput : (a'.put (some (d m)) (.pointer (some ⟨w'.heap.size, 0, none⟩))).tmps = a'.tmps.setIfInBounds (d m) (.pointer (some ⟨w'.heap.size, 0, none⟩)) := rfl
        have hni' : listed.getD (n + m) false = false := by
          have : n + m < listed.size := by omega
          simp only [Array.getD, this, dif_pos] at hni ⊢; exact hni
        have hs2 : ∀ k, k ≠ n + m → (listed.setIfInBounds (n + m) true).getD k false = listed.getD k false := fun k hk => by rw [hset, if_neg hk]
        have hlow : ∀ j, j < n → j ≠ m → listed.getD (n + j) false = true → b j < w'.heap.size := fun j hj _ hlj => (Array.getElem?_eq_some_iff.1 (I.made j hj hlj).2.2).1
        refine ⟨I.defers, by rw [hput]; simpa using I.size, ?_, ?_, ?_, ?_, ?_, I.below.alloc I.below.size _⟩
        · intro t ht
          rw [hput, Array.getElem?_setIfInBounds_ne (fun e => (ht m hm').2 e.symm)]; exact I.other t ht
        · intro j hj hlj
          rw [hs2 _ (by omega)] at hlj
          rw [hput, Array.getElem?_setIfInBounds_ne (fun e => hl.sd j m hj hm' e.symm)]
          exact I.loaded j hj hlj
        · intro j hj hlj
          rw [hput, hs2 _ (by omega)]
          by_cases hjm : j = m
          · subst hjm
            have hst : listed.getD (2 * n + j) false = false := by
              cases hq : listed.getD (2 * n + j) false with
              | false => rfl
              | true => rw [I.dep j hj hq] at hni'; cases hni'
            rw [Array.getElem?_setIfInBounds_self_of_lt (by rw [I.size]; exact (hlt j hj).2), hst]
            simp only [if_true]
            exact ⟨trivial, I.below.size, by rw [heap_alloc_new]; simp⟩
          · rw [hs2 _ (by omega)] at hlj
            rw [Array.getElem?_setIfInBounds_ne (fun e => hjm (hl.dinj j m hj hm' e.symm))]
            simp only [if_neg hjm]
            obtain ⟨q1, q2, q3⟩ := I.made j hj hlj
            exact ⟨q1, q2, by rw [Go.heap_alloc_old _ _ (hlow j hj hjm hlj)]; exact q3⟩
        · intro j k hj hk hne h1 h2
          by_cases hjm : j = m
          · have hkm : k ≠ m := fun e => hne (hjm.trans e.symm)
            rw [hs2 _ (by omega)] at h2
            simp only [if_pos hjm, if_neg hkm]
            have := hlow k hk hkm h2
            omega
          · rw [hs2 _ (by omega)] at h1
            by_cases hkm : k = m
            · simp only [if_pos hkm, if_neg hjm]
              have := hlow j hj hjm h1
              omega
            · rw [hs2 _ (by omega)] at h2
              simp only [if_neg hkm, if_neg hjm]
              exact I.apart j k hj hk hne h1 h2
        · intro j hj hlj
          rw [hs2 _ (by omega)] at hlj
          by_cases hjm : j = m
          · subst hjm; rw [hset, if_pos rfl]
          · rw [hs2 _ (by omega)]; exact I.dep j hj hlj
      · obtain ⟨m, rfl⟩ : ∃ m, i = 2 * n + m := ⟨i - 2 * n, by omega⟩
        have hm' : m < n := by omega
        obtain ⟨o', e1, e2, e3, e4, e5, e6⟩ := hl.stores m hm'
        rw [ho'] at e1; cases e1
        have hdone : ∀ k, (o.after.any (fun e => e.on == k && Region.binds .any e)) = true → listed.getD k false = true := by
          intro k hk
          obtain ⟨q, hq, hek⟩ := Array.any_eq_true.1 hk
          obtain ⟨e, hee⟩ : ∃ e, e = o.after[q] := ⟨_, rfl⟩
          have he : e ∈ o.after := by rw [hee]; exact Array.getElem_mem _
          rw [← hee] at hek
          rw [Array.all_eq_true_iff_forall_mem] at hready
          have := hready e he
          simp only [Bool.and_eq_true, beq_iff_eq] at hek
          rw [hek.2, hek.1] at this
          simpa using this
        have hL := I.loaded m hm' (hdone _ e5)
        have hMd := I.made m hm' (hdone _ e6)
        have hs2 : ∀ k, k ≠ 2 * n + m → (listed.setIfInBounds (2 * n + m) true).getD k false = listed.getD k false := fun k hk => by rw [hset, if_neg hk]
        have hni' : listed.getD (2 * n + m) false = false := by
          have : 2 * n + m < listed.size := by omega
          simp only [Array.getD, this, dif_pos] at hni ⊢; exact hni
        obtain ⟨q1, q2, q3⟩ := hMd
        rw [hni'] at q3
        refine hwp _ e4 (wp_store_row T (.tmp (d m)) (.tmp (s m)) e2 (b m) C ?_ ?_ T Z (by simpa using q3) hi hZ h1 ⟨b, ?_⟩)
        · show a'.tmps.getD _ undef = _
          rw [Array.getD_eq_getD_getElem?, q1]; rfl
        · show a'.tmps.getD _ undef = _
          rw [Array.getD_eq_getD_getElem?, hL]; rfl
        · rw [e3]
          have hput : (a'.put none undef) = a' := rfl
          rw [hput]
          refine ⟨I.defers, I.size, I.other, ?_, ?_, ?_, ?_, below_setRow I.below q2 _⟩
          · intro j hj hlj
            rw [hs2 _ (by omega)] at hlj
            exact I.loaded j hj hlj
          · intro j hj hlj
            rw [hs2 _ (by omega)] at hlj
            obtain ⟨r1, r2, r3⟩ := I.made j hj hlj
            refine ⟨r1, r2, ?_⟩
            by_cases hjm : j = m
            · subst hjm
              rw [hset, if_pos rfl, setRow_heap w' _ _ _ T _ r3]; simp
            · rw [hs2 _ (by omega), setRow_other w' (b m) (b j) _ (I.apart j m hj hm' hjm hlj (hdone _ e6))]
              exact r3
          · intro j k hj hk hne h1 h2
            rw [hs2 _ (by omega)] at h1 h2
            exact I.apart j k hj hk hne h1 h2
          · intro j hj hlj
            rw [hs2 _ (by omega)]
            by_cases hjm : j = m
            · subst hjm; exact hdone _ e6
            · rw [hs2 _ (by omega)] at hlj; exact I.dep j hj hlj
  · rintro listed a' w' hs ⟨b, I⟩ hall
    have hall' : ∀ k, k < 3 * n → listed.getD k false = true := fun k hk => hall k (by have := hl.len; simp; omega)
    have hA : a' = ⟨copied s d C b n a.tmps, a.defers⟩ := by
      have h1 : a'.tmps = copied s d C b n a.tmps := by
        apply Array.ext_getElem?
        intro t
        by_cases ht : ∀ j, j < n → t ≠ s j ∧ t ≠ d j
        · rw [I.other t ht, copied_other s d C b t _ n ht]
        · have : ∃ j, j < n ∧ (t = s j ∨ t = d j) := by
            apply Classical.byContradiction
            intro hno
            exact ht fun j hj => ⟨fun e => hno ⟨j, hj, .inl e⟩, fun e => hno ⟨j, hj, .inr e⟩⟩
          obtain ⟨j, hj, rfl | rfl⟩ := this
          · rw [I.loaded j hj (hall' _ (by omega)), copied_s s d C b _ n hl.sinj hl.sd j hj (hlt j hj).1]
          · rw [(I.made j hj (hall' _ (by omega))).1, copied_d s d C b _ n hl.dinj hl.sd j hj (hlt j hj).2]
      cases a'
      simp only at h1
      have h2 := I.defers
      simp only at h2
      rw [h1, h2]
    rw [hA]
    refine h b w' (fun j hj => ?_) (fun j k hj hk hne => I.apart j k hj hk hne (hall' _ (by omega)) (hall' _ (by omega))) I.below
    obtain ⟨_, q2, q3⟩ := I.made j hj (hall' _ (by omega))
    rw [hall' _ (by omega)] at q3
    exact ⟨q2, by simpa using q3⟩
  · refine ⟨rfl, rfl, fun _ _ => rfl, ?_, ?_, ?_, ?_, (Below.refl _ _).drew⟩
    · intro j hj hh; simp [Array.getD, Array.getElem_replicate] at hh
    · intro j hj hh; simp [Array.getD, Array.getElem_replicate] at hh
    · intro j k _ _ _ hh; simp [Array.getD, Array.getElem_replicate] at hh
    · intro j hj hh; simp [Array.getD, Array.getElem_replicate] at hh
end
end Go.Proofs.YtnphgaiiiiknpaaDoor
