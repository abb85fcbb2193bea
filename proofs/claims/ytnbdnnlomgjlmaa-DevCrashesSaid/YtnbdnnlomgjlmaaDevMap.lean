/- A map from block numbers to blocks: what it says at each number; looked up, stored into, struck. -/
import Derived.Test.YtnbdnnlomgjlmaaDevMath
import Derived.Test.YtnbdnnlomgjlmaaSeal
import Derived.Test.YtnbdnnlomgjlmaaHeld
import Derived.Maps.OwnSet
import Derived.Maps.Views
import Derived.OpenShut
namespace Go.Proofs.Ytnbdnnlomgjlmaa
open Go.RowKit Go.Maps Go.WideElems Go.WideShapes
set_option linter.unusedSimpArgs false
set_option maxRecDepth 100000
theorem blk_inj {a b : List UInt8} (h : blk a = blk b) : a = b := by
  have h1 : a.map vu8 = b.map vu8 := by simpa [blk] using h
  refine List.map_inj_right (f := vu8) (fun x y e => ?_) |>.1 h1
  simp only [vu8, Value.int.injEq, true_and] at e
  exact UInt8.toNat.inj (by omega)
open Classical in
/-- How a block reads as a map's element. -/
noncomputable def blkElem (v : Value) : Option (DataW Unit × List MemPlace) :=
  if h : ∃ b : List UInt8, b.length = 256 ∧ v = .agg (blk b) then some (.lit (.string h.choose), []) else none
theorem blkElem_mk (b : List UInt8) (hb : b.length = 256) : blkElem (.agg (blk b)) = some (.lit (.string b), []) := by
  have h : ∃ c : List UInt8, c.length = 256 ∧ Value.agg (blk b) = .agg (blk c) := ⟨b, hb, rfl⟩
  unfold blkElem
  rw [dif_pos h]
  have := h.choose_spec.2
  have e : blk b = blk h.choose := by simpa using this
  rw [← blk_inj e]
theorem blkElem_inv {v : Value} {d : DataW Unit} {ps : List MemPlace} (h : blkElem v = some (d, ps)) : ∃ b : List UInt8, b.length = 256 ∧ v = .agg (blk b) ∧ d = .lit (.string b) ∧ ps = [] := by
  unfold blkElem at h
  split at h
  · rename_i h'
    simp only [Option.some.injEq, Prod.mk.injEq] at h
    exact ⟨h'.choose, h'.choose_spec.1, h'.choose_spec.2, h.1.symm, h.2.symm⟩
  · cases h
theorem mapLaw : Keyed Try.prog 25 := int_keyed Try.underlying25
theorem wf_u32 (a : Nat) (ha : a < 4294967296) : (Lit.int .u32 (a : Int)).wf = true := by
  have h1 : IntKind.u32.min = 0 := rfl
  have h2 : IntKind.u32.max = 4294967295 := by decide
  simp only [Lit.wf, h1, h2, Bool.and_eq_true, decide_eq_true_eq]; omega
theorem key_u32 (a : Nat) (ha : a < 4294967296) : keyOf Try.prog 25 (.int .u32 (a : Int)) = some (.int .u32 (a : Int)) := keyOf_int_mk Try.underlying25 (wf_u32 a ha)
theorem nodup_lt : ∀ (N : Nat) (l : List Nat), l.Nodup → (∀ x ∈ l, x < N) → l.length ≤ N := by
  intro N
  induction N with
  | zero =>
    intro l _ h
    cases l with
    | nil => simp
    | cons x l => exact absurd (h x (by simp)) (by omega)
  | succ N ih =>
    intro l hn h
    have h1 := ih (l.filter (· ≠ N)) (hn.filter _) (fun x hx => by
      have := List.mem_filter.1 hx
      have h2 := h x this.1
      have h3 : x ≠ N := by simpa using this.2
      omega)
    have h2 : l.length ≤ (l.filter (· ≠ N)).length + 1 := by
      have h3 := List.length_eq_countP_add_countP (fun x => decide (x ≠ N)) (l := l)
      rw [List.countP_eq_length_filter] at h3
      have h4 : l.countP (fun a => decide ¬ decide (a ≠ N) = true) ≤ 1 := by
        have : l.countP (fun a => decide ¬ decide (a ≠ N) = true) = l.count N := by
          apply List.countP_congr
          intro x _
          simp
        rw [this]
        exact List.nodup_iff_count.1 hn N
      omega
    omega
theorem ownsMap_small {w : World} {R : Value → Option (DataW Unit × List MemPlace)} {b n : Nat} {D : DataW Unit} (h : w.ownsMap Try.prog 25 R b n D) : w.ownsMap Try.prog 25 R b 4294967296 D := by
  obtain ⟨es, clock, hb, F, hs, hD⟩ := h
  refine ⟨es, clock, hb, F, ?_, hD⟩
  have hk := fit_keys F
  have ha := fit_apart mapLaw F
  obtain ⟨l, hl⟩ : ∃ l, l = es.toList.map (rg Try.prog 25 R) := ⟨_, rfl⟩
  rw [← hl] at hk ha
  have hkey : ∀ p ∈ l, ∃ a : Nat, a < 4294967296 ∧ p.1 = .int .u32 (a : Int) := by
    intro p hp
    obtain ⟨v, hv⟩ := hk p hp
    simp only [keyOf, Try.underlying25] at hv
    cases v <;> simp [mapKey, Try.underlying25] at hv
    rename_i z
    obtain ⟨⟨rfl, hw⟩, he⟩ := hv
    have hbd := bounds_u32 hw
    exact ⟨z.toNat, by omega, by rw [← he, Int.toNat_of_nonneg hbd.1]⟩
  have hnd : (l.map fun p => match p.1 with | .int _ z => z.toNat | _ => 0).Nodup := by
    unfold List.Nodup
    rw [List.pairwise_map]
    refine List.Pairwise.imp_of_mem ?_ ha
    intro p q hp hq hne e
    obtain ⟨x, hx, ex⟩ := hkey p hp
    obtain ⟨y, hy, ey⟩ := hkey q hq
    rw [ex, ey] at e hne
    simp at e
    exact hne (by rw [e])
  have := nodup_lt 4294967296 _ hnd (by
    intro x hx
    obtain ⟨p, hp, rfl⟩ := List.mem_map.1 hx
    obtain ⟨y, hy, ey⟩ := hkey p hp
    rw [ey]; simp; exact hy)
  rw [List.length_map, hl, List.length_map] at this
  simpa using this
/-- Block g is a map that says f. -/
def MapAt (w : World) (g : Nat) (f : Nat → List UInt8) : Prop := ∃ D : DataW Unit, w.ownsMap Try.prog 25 blkElem g 4294967296 D ∧ ∀ a : Nat, a < 4294967296 → D.atKey (.int .u32 (a : Int)) (.lit (.string zeroBlk)) = .lit (.string (f a))
theorem MapAt.lt {w : World} {g : Nat} {f : Nat → List UInt8} (h : MapAt w g f) : g < w.heap.size := h.choose_spec.1.lt
theorem MapAt.made (w : World) : MapAt (w.alloc (.map #[] 0)) w.heap.size (fun _ => zeroBlk) :=
  ⟨_, (World.ownsMap_made w _ _ _).mono (Nat.zero_le _), fun _ _ => rfl⟩
theorem MapAt.kept {w w' : World} {g : Nat} {f : Nat → List UInt8} (h : MapAt w g f) (hb : w'.heap[g]? = w.heap[g]?) : MapAt w' g f := by
  obtain ⟨D, ⟨es, clock, h1, h2⟩, h3⟩ := h
  exact ⟨D, ⟨es, clock, hb.trans h1, h2⟩, h3⟩
theorem zeroBlkV (w : World) : (zeroValue 23).run Try.prog w = .ok (.agg (blk zeroBlk)) w := by
  rw [← zero_cells]
  have h := zeroB
  cases hi : Try.prog.info? 23 with
  | none => rw [hi] at h; cases h
  | some i =>
    rw [hi] at h
    simp only [Option.bind_some] at h
    simp [zeroValue, typeInfo, hi, h]
theorem MapAt.look {w : World} {g : Nat} {f : Nat → List UInt8} (h : MapAt w g f) (a : Nat) (ha : a < 4294967296) :
    (Instr.lookup 105 (.map (some g)) (.int .u32 (a : Int)) false).run Try.prog w = .ok (.agg (blk (f a))) w ∧ (f a).length = 256 := by
  obtain ⟨D, hown, hat⟩ := h
  obtain ⟨v, ps, hrun, hv⟩ := hown.lookup mapLaw Try.underlying105 (zeroBlkV w) (blkElem_mk zeroBlk length_zeroBlk) (key_u32 a ha)
  rw [hat a ha] at hv
  obtain ⟨b, hb, rfl, he, _⟩ := blkElem_inv hv
  simp only [DataW.lit.injEq, Lit.string.injEq] at he
  subst he
  exact ⟨hrun, hb⟩
theorem keylit (a : Nat) (ha : a < 4294967296) : WideAt.IsKeyLit (.int .u32 (a : Int)) := mapLaw.key (key_u32 a ha)
theorem key_ne {a x : Nat} (h : x ≠ a) : Lit.int .u32 (x : Int) ≠ Lit.int .u32 (a : Int) := by
  intro e
  simp only [Lit.int.injEq, true_and] at e
  omega
theorem MapAt.store {w : World} {g : Nat} {f : Nat → List UInt8} (h : MapAt w g f) (a : Nat) (ha : a < 4294967296) (b : List UInt8) (hb : b.length = 256) :
    ∃ w', (Instr.mapUpdate 105 (.map (some g)) (.int .u32 (a : Int)) (.agg (blk b))).run Try.prog w = .ok () w' ∧ MapAt w' g (updB f a b) ∧ w.grownBy w' (some g) := by
  obtain ⟨D, hown, hat⟩ := h
  obtain ⟨w', hrun, hown', hg⟩ := hown.update mapLaw Try.underlying105 (by unfold maxLen; omega) (key_u32 a ha) (blkElem_mk b hb)
  refine ⟨w', hrun, ⟨_, ownsMap_small hown', fun x hx => ?_⟩, hg⟩
  by_cases e : x = a
  · subst e
    rw [atKey_put_same hown.isMap (keylit x hx), updB_same]
  · rw [atKey_put_other (key_ne e), hat x hx, updB_other _ _ _ _ e]
theorem MapAt.drop {w : World} {g : Nat} {f : Nat → List UInt8} (h : MapAt w g f) (a : Nat) (ha : a < 4294967296) (ty : TypeId) :
    ∃ w', (Builtin.delete_ #[105, 25] ty #[.map (some g), .int .u32 (a : Int)]).run Try.prog w = .ok (.tuple #[]) w' ∧ MapAt w' g (updB f a zeroBlk) ∧ w.grownBy w' (some g) := by
  obtain ⟨D, hown, hat⟩ := h
  obtain ⟨w', hrun, hown', hg⟩ := hown.drop mapLaw Try.underlying105 (key_u32 a ha) ty
  refine ⟨w', hrun, ⟨_, hown', fun x hx => ?_⟩, hg.grown⟩
  by_cases e : x = a
  · subst e
    rw [atKey_del_same, updB_same]
  · rw [atKey_del_other (key_ne e), hat x hx, updB_other _ _ _ _ e]
end Go.Proofs.Ytnbdnnlomgjlmaa
