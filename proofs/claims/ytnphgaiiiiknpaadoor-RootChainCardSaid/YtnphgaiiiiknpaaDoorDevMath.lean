/- The device layer: what a device is, in plain Lean. A map from block numbers to blocks: what it says at each number; looked up, stored into, struck. The device layer: check asks some questions, one behind the other. The device layer: a device in memory; none, the questions' functions, far. The device layer: Pending, Down, Writes, Size; burn. -/
import Derived.Test.YtnphgaiiiiknpaaDoorGood
import Derived.Test.YtnphgaiiiiknpaaDoorSeal
import Derived.Test.YtnphgaiiiiknpaaDoorHeld
import Derived.Maps.OwnSet
import Derived.Maps.Views
import Derived.OpenShut
import Derived.Test.YtnphgaiiiiknpaaDoorSteps
import Derived.OwnWalk
import Derived.WalkSpells
namespace Go.Proofs.YtnphgaiiiiknpaaDoor
/-- A device: how many blocks there are; what is for good; what is pending; the fuse; is it down; how many writes were done. -/
structure Dv where
  size : Nat
  good : Nat → List UInt8
  pend : List (Nat × List UInt8)
  fuse : Option Nat
  down : Bool
  writes : Nat
def updB (f : Nat → List UInt8) (a : Nat) (b : List UInt8) : Nat → List UInt8 := fun x => if x = a then b else f x
theorem updB_same (f : Nat → List UInt8) (a : Nat) (b : List UInt8) : updB f a b a = b := by simp [updB]
theorem updB_other (f : Nat → List UInt8) (a : Nat) (b : List UInt8) (x : Nat) (h : x ≠ a) : updB f a b x = f x := by simp [updB, h]
/-- The last write to an address, else d. -/
def lastB (l : List (Nat × List UInt8)) (a : Nat) (d : List UInt8) : List UInt8 := l.foldl (fun r x => if x.1 = a then x.2 else r) d
theorem lastB_snoc (l : List (Nat × List UInt8)) (x : Nat × List UInt8) (a : Nat) (d : List UInt8) : lastB (l ++ [x]) a d = if x.1 = a then x.2 else lastB l a d := by simp [lastB, List.foldl_append]
def Dv.read (s : Dv) (a : Nat) : List UInt8 := lastB s.pend a (s.good a)
def Dv.burn (s : Dv) : Dv × Int :=
  match s.fuse with
  | some 0 => ({ s with down := true }, 30)
  | some (k + 1) => ({ s with fuse := some k, writes := (s.writes + 1) % 18446744073709551616 }, 0)
  | none => ({ s with writes := (s.writes + 1) % 18446744073709551616 }, 0)
def Dv.write (s : Dv) (a : Nat) (b : List UInt8) : Dv × Int :=
  if s.size ≤ a then (s, 2) else if s.down then (s, 30) else Dv.burn { s with pend := s.pend ++ [(a, b)] }
/-- Writes are for good. -/
def putAllB (f : Nat → List UInt8) (l : List (Nat × List UInt8)) : Nat → List UInt8 := l.foldl (fun f x => updB f x.1 x.2) f
theorem putAllB_snoc (f : Nat → List UInt8) (l : List (Nat × List UInt8)) (x : Nat × List UInt8) : putAllB f (l ++ [x]) = updB (putAllB f l) x.1 x.2 := by simp [putAllB, List.foldl_append]
def Dv.flush (s : Dv) : Dv × Int :=
  if s.down then (s, 30) else if s.fuse = some 0 then s.burn else ({ s.burn.1 with good := putAllB s.good s.pend, pend := [] }, 0)
/-- The sectors of x, those whose bits stand in m from y. -/
def dtornTo (n : Nat) (x y : List UInt8) (m : Nat) : List UInt8 := (List.range 256).map fun i => if i / 64 < n ∧ m / 2 ^ (i / 64) % 2 = 1 then y.getD i 0 else x.getD i 0
def dtorn (x y : List UInt8) (m : Nat) : List UInt8 := dtornTo 4 x y m
theorem length_dtornTo (n : Nat) (x y : List UInt8) (m : Nat) : (dtornTo n x y m).length = 256 := by simp [dtornTo]
theorem length_dtorn (x y : List UInt8) (m : Nat) : (dtorn x y m).length = 256 := length_dtornTo _ _ _ _
theorem get_dtornTo (n : Nat) (x y : List UInt8) (m i : Nat) (hi : i < 256) : (dtornTo n x y m).getD i 0 = if i / 64 < n ∧ m / 2 ^ (i / 64) % 2 = 1 then y.getD i 0 else x.getD i 0 := by
  simp [dtornTo, List.getD_eq_getElem?_getD, List.getElem?_map, List.getElem?_range hi]
theorem dtornTo_zero (x y : List UInt8) (m : Nat) (hx : x.length = 256) : dtornTo 0 x y m = x := by
  apply List.ext_getElem?
  intro i
  by_cases hi : i < 256
  · simp [dtornTo, List.getElem?_map, List.getElem?_range hi, List.getElem?_eq_getElem (by omega : i < x.length)]
  · simp [dtornTo, List.getElem?_eq_none (by omega : x.length ≤ i), hi]
/-- What a crash keeps. -/
def keepB (pend : List (Nat × List UInt8)) (f : Nat → List UInt8) (k : Nat × Nat) : Nat → List UInt8 :=
  match pend[k.1]? with
  | some x => updB f x.1 (dtorn (f x.1) x.2 k.2)
  | none => f
def keepsB (pend : List (Nat × List UInt8)) (f : Nat → List UInt8) (l : List (Nat × Nat)) : Nat → List UInt8 := l.foldl (keepB pend) f
theorem keepsB_snoc (pend : List (Nat × List UInt8)) (f : Nat → List UInt8) (l : List (Nat × Nat)) (k : Nat × Nat) : keepsB pend f (l ++ [k]) = keepB pend (keepsB pend f l) k := by simp [keepsB, List.foldl_append]
def Dv.crash (s : Dv) (l : List (Nat × Nat)) : Dv := { s with good := keepsB s.pend s.good l, pend := [], fuse := none, down := false }
def Dv.lay (s : Dv) (k : Int) : Dv × Int := if k < 0 then (s, 2) else if s.down then (s, 30) else ({ s with fuse := some k.toNat }, 0)
/-- A device's blocks are blocks. -/
structure Dv.Ok (s : Dv) : Prop where
  size : s.size < 4294967296
  good : ∀ a, (s.good a).length = 256
  pend : ∀ x ∈ s.pend, x.1 < 4294967296 ∧ x.2.length = 256
  fuse : ∀ k, s.fuse = some k → k < 9223372036854775808
  writes : s.writes < 18446744073709551616
theorem updB_length {f : Nat → List UInt8} {a : Nat} {b : List UInt8} (h : ∀ x, (f x).length = 256) (hb : b.length = 256) (x : Nat) : (updB f a b x).length = 256 := by
  unfold updB; split
  · exact hb
  · exact h x
theorem putAllB_length {f : Nat → List UInt8} (h : ∀ x, (f x).length = 256) : ∀ (l : List (Nat × List UInt8)), (∀ y ∈ l, y.2.length = 256) → ∀ x, (putAllB f l x).length = 256 := by
  intro l
  induction l generalizing f with
  | nil => intro _ x; exact h x
  | cons y l ih =>
    intro hl x
    exact ih (f := updB f y.1 y.2) (updB_length h (hl y (by simp))) (fun z hz => hl z (by simp [hz])) x
theorem keepB_length {pend : List (Nat × List UInt8)} {f : Nat → List UInt8} (h : ∀ x, (f x).length = 256) (k : Nat × Nat) (x : Nat) : (keepB pend f k x).length = 256 := by
  unfold keepB
  cases pend[k.1]? with
  | some y => exact updB_length h (length_dtorn _ _ _) x
  | none => exact h x
theorem keepsB_length {pend : List (Nat × List UInt8)} {f : Nat → List UInt8} (h : ∀ x, (f x).length = 256) (l : List (Nat × Nat)) (x : Nat) : (keepsB pend f l x).length = 256 := by
  induction l generalizing f with
  | nil => exact h x
  | cons k l ih => exact ih (f := keepB pend f k) (keepB_length h k)
theorem Dv.Ok.burn {s : Dv} (h : s.Ok) : s.burn.1.Ok := by
  unfold Dv.burn
  split
  · exact ⟨h.size, h.good, h.pend, h.fuse, h.writes⟩
  · rename_i k hk
    exact ⟨h.size, h.good, h.pend, fun j hj => by have := h.fuse _ hk; simp at hj; omega, Nat.mod_lt _ (by decide)⟩
  · exact ⟨h.size, h.good, h.pend, h.fuse, Nat.mod_lt _ (by decide)⟩
theorem Dv.Ok.more {s : Dv} (h : s.Ok) (a : Nat) (b : List UInt8) (ha : a < 4294967296) (hb : b.length = 256) : Dv.Ok { s with pend := s.pend ++ [(a, b)] } :=
  ⟨h.size, h.good, fun x hx => by
    rcases List.mem_append.1 hx with hx | hx
    · exact h.pend x hx
    · simp at hx; subst hx; exact ⟨ha, hb⟩, h.fuse, h.writes⟩
theorem Dv.Ok.write {s : Dv} (h : s.Ok) (a : Nat) (b : List UInt8) (ha : a < 4294967296) (hb : b.length = 256) : (s.write a b).1.Ok := by
  unfold Dv.write
  split
  · exact h
  · split
    · exact h
    · exact (h.more a b ha hb).burn
theorem Dv.Ok.flush {s : Dv} (h : s.Ok) : s.flush.1.Ok := by
  unfold Dv.flush
  split
  · exact h
  · split
    · exact h.burn
    · exact ⟨h.burn.size, putAllB_length h.good _ (fun y hy => (h.pend y hy).2), by simp, h.burn.fuse, h.burn.writes⟩
theorem Dv.Ok.crash {s : Dv} (h : s.Ok) (l : List (Nat × Nat)) : (s.crash l).Ok := ⟨h.size, keepsB_length h.good l, by simp [Dv.crash], by simp [Dv.crash], h.writes⟩
theorem Dv.Ok.lay {s : Dv} (h : s.Ok) (k : Int) (hk : k < 9223372036854775808) : (s.lay k).1.Ok := by
  unfold Dv.lay
  split
  · exact h
  · split
    · exact h
    · exact ⟨h.size, h.good, h.pend, fun j hj => by simp at hj; omega, h.writes⟩
/-- A new device. -/
def newDv (n : Nat) : Dv := ⟨n, fun _ => zeroBlk, [], none, false, 0⟩
theorem newDv_ok (n : Nat) (hn : n < 4294967296) : (newDv n).Ok := ⟨hn, fun _ => length_zeroBlk, by simp [newDv], by simp [newDv], by simp [newDv]⟩
end Go.Proofs.YtnphgaiiiiknpaaDoor
namespace Go.Proofs.YtnphgaiiiiknpaaDoor
open Go.RowKit Go.Maps Go.WideElems Go.WideShapes
set_option linter.unusedSimpArgs false
set_option maxRecDepth 100000
theorem blk_inj {a b : List UInt8} (h : blk a = blk b) : a = b := by
  have h1 : a.map vu8 = b.map vu8 := by simpa [blk] using h
  refine List.map_inj_right (f := vu8) (fun x y e => ?_) |>.1 h1
  simp only [vu8, Value.int.injEq, true_and] at e
  exact UInt8.toNat.inj (by omega)
open Classical in
/-- How a block reads as a map's element. -/
noncomputable def blkElem (v : Value) : Option (DataW Unit × List MemPlace) :=
  if h : ∃ b : List UInt8, b.length = 256 ∧ v = .agg (blk b) then some (.lit (.string h.choose), []) else none
theorem blkElem_mk (b : List UInt8) (hb : b.length = 256) : blkElem (.agg (blk b)) = some (.lit (.string b), []) := by
  have h : ∃ c : List UInt8, c.length = 256 ∧ Value.agg (blk b) = .agg (blk c) := ⟨b, hb, rfl⟩
  unfold blkElem
  rw [dif_pos h]
  have := h.choose_spec.2
  have e : blk b = blk h.choose := by simpa using this
  rw [← blk_inj e]
theorem blkElem_inv {v : Value} {d : DataW Unit} {ps : List MemPlace} (h : blkElem v = some (d, ps)) : ∃ b : List UInt8, b.length = 256 ∧ v = .agg (blk b) ∧ d = .lit (.string b) ∧ ps = [] := by
  unfold blkElem at h
  split at h
  · rename_i h'
    simp only [Option.some.injEq, Prod.mk.injEq] at h
    exact ⟨h'.choose, h'.choose_spec.1, h'.choose_spec.2, h.1.symm, h.2.symm⟩
  · cases h
theorem mapLaw : Keyed Tryd.prog 22 := int_keyed Tryd.underlying22
theorem wf_u32 (a : Nat) (ha : a < 4294967296) : (Lit.int .u32 (a : Int)).wf = true := by
  have h1 : IntKind.u32.min = 0 := rfl
  have h2 : IntKind.u32.max = 4294967295 := by decide
  simp only [Lit.wf, h1, h2, Bool.and_eq_true, decide_eq_true_eq]; omega
theorem key_u32 (a : Nat) (ha : a < 4294967296) : keyOf Tryd.prog 22 (.int .u32 (a : Int)) = some (.int .u32 (a : Int)) := keyOf_int_mk Tryd.underlying22 (wf_u32 a ha)
theorem nodup_lt : ∀ (N : Nat) (l : List Nat), l.Nodup → (∀ x ∈ l, x < N) → l.length ≤ N := by
  intro N
  induction N with
  | zero =>
    intro l _ h
    cases l with
    | nil => simp
    | cons x l => exact absurd (h x (by simp)) (by omega)
  | succ N ih =>
    intro l hn h
    have h1 := ih (l.filter (· ≠ N)) (hn.filter _) (fun x hx => by
      have := List.mem_filter.1 hx
      have h2 := h x this.1
      have h3 : x ≠ N := by simpa using this.2
      omega)
    have h2 : l.length ≤ (l.filter (· ≠ N)).length + 1 := by
      have h3 := List.length_eq_countP_add_countP (fun x => decide (x ≠ N)) (l := l)
      rw [List.countP_eq_length_filter] at h3
      have h4 : l.countP (fun a => decide ¬ decide (a ≠ N) = true) ≤ 1 := by
        have : l.countP (fun a => decide ¬ decide (a ≠ N) = true) = l.count N := by
          apply List.countP_congr
          intro x _
          simp
        rw [this]
        exact List.nodup_iff_count.1 hn N
      omega
    omega
theorem ownsMap_small {w : World} {R : Value → Option (DataW Unit × List MemPlace)} {b n : Nat} {D : DataW Unit} (h : w.ownsMap Tryd.prog 22 R b n D) : w.ownsMap Tryd.prog 22 R b 4294967296 D := by
  obtain ⟨es, clock, hb, F, hs, hD⟩ := h
  refine ⟨es, clock, hb, F, ?_, hD⟩
  have hk := fit_keys F
  have ha := fit_apart mapLaw F
  obtain ⟨l, hl⟩ : ∃ l, l = es.toList.map (rg Tryd.prog 22 R) := ⟨_, rfl⟩
  rw [← hl] at hk ha
  have hkey : ∀ p ∈ l, ∃ a : Nat, a < 4294967296 ∧ p.1 = .int .u32 (a : Int) := by
    intro p hp
    obtain ⟨v, hv⟩ := hk p hp
    simp only [keyOf, Tryd.underlying22] at hv
    cases v <;> simp [mapKey, Tryd.underlying22] at hv
    rename_i z
    obtain ⟨⟨rfl, hw⟩, he⟩ := hv
    have hbd := bounds_u32 hw
    exact ⟨z.toNat, by omega, by rw [← he, Int.toNat_of_nonneg hbd.1]⟩
  have hnd : (l.map fun p => match p.1 with | .int _ z => z.toNat | _ => 0).Nodup := by
    unfold List.Nodup
    rw [List.pairwise_map]
    refine List.Pairwise.imp_of_mem ?_ ha
    intro p q hp hq hne e
    obtain ⟨x, hx, ex⟩ := hkey p hp
    obtain ⟨y, hy, ey⟩ := hkey q hq
    rw [ex, ey] at e hne
    simp at e
    exact hne (by rw [e])
  have := nodup_lt 4294967296 _ hnd (by
    intro x hx
    obtain ⟨p, hp, rfl⟩ := List.mem_map.1 hx
    obtain ⟨y, hy, ey⟩ := hkey p hp
    rw [ey]; simp; exact hy)
  rw [List.length_map, hl, List.length_map] at this
  simpa using this
/-- Block g is a map that says f. -/
def MapAt (w : World) (g : Nat) (f : Nat → List UInt8) : Prop := ∃ D : DataW Unit, w.ownsMap Tryd.prog 22 blkElem g 4294967296 D ∧ ∀ a : Nat, a < 4294967296 → D.atKey (.int .u32 (a : Int)) (.lit (.string zeroBlk)) = .lit (.string (f a))
theorem MapAt.lt {w : World} {g : Nat} {f : Nat → List UInt8} (h : MapAt w g f) : g < w.heap.size := h.choose_spec.1.lt
theorem MapAt.made (w : World) : MapAt (w.alloc (.map #[] 0)) w.heap.size (fun _ => zeroBlk) :=
  ⟨_, (World.ownsMap_made w _ _ _).mono (Nat.zero_le _), fun _ _ => rfl⟩
theorem MapAt.kept {w w' : World} {g : Nat} {f : Nat → List UInt8} (h : MapAt w g f) (hb : w'.heap[g]? = w.heap[g]?) : MapAt w' g f := by
  obtain ⟨D, ⟨es, clock, h1, h2⟩, h3⟩ := h
  exact ⟨D, ⟨es, clock, hb.trans h1, h2⟩, h3⟩
theorem zeroBlkV (w : World) : (zeroValue 45).run Tryd.prog w = .ok (.agg (blk zeroBlk)) w := by
  rw [← zero_cells]
  have h := zeroB
  cases hi : Tryd.prog.info? 45 with
  | none => rw [hi] at h; cases h
  | some i =>
    rw [hi] at h
    simp only [Option.bind_some] at h
    simp [zeroValue, typeInfo, hi, h]
theorem MapAt.look {w : World} {g : Nat} {f : Nat → List UInt8} (h : MapAt w g f) (a : Nat) (ha : a < 4294967296) :
    (Instr.lookup 62 (.map (some g)) (.int .u32 (a : Int)) false).run Tryd.prog w = .ok (.agg (blk (f a))) w ∧ (f a).length = 256 := by
  obtain ⟨D, hown, hat⟩ := h
  obtain ⟨v, ps, hrun, hv⟩ := hown.lookup mapLaw Tryd.underlying62 (zeroBlkV w) (blkElem_mk zeroBlk length_zeroBlk) (key_u32 a ha)
  rw [hat a ha] at hv
  obtain ⟨b, hb, rfl, he, _⟩ := blkElem_inv hv
  simp only [DataW.lit.injEq, Lit.string.injEq] at he
  subst he
  exact ⟨hrun, hb⟩
theorem keylit (a : Nat) (ha : a < 4294967296) : WideAt.IsKeyLit (.int .u32 (a : Int)) := mapLaw.key (key_u32 a ha)
theorem key_ne {a x : Nat} (h : x ≠ a) : Lit.int .u32 (x : Int) ≠ Lit.int .u32 (a : Int) := by
  intro e
  simp only [Lit.int.injEq, true_and] at e
  omega
theorem MapAt.store {w : World} {g : Nat} {f : Nat → List UInt8} (h : MapAt w g f) (a : Nat) (ha : a < 4294967296) (b : List UInt8) (hb : b.length = 256) :
    ∃ w', (Instr.mapUpdate 62 (.map (some g)) (.int .u32 (a : Int)) (.agg (blk b))).run Tryd.prog w = .ok () w' ∧ MapAt w' g (updB f a b) ∧ w.grownBy w' (some g) := by
  obtain ⟨D, hown, hat⟩ := h
  obtain ⟨w', hrun, hown', hg⟩ := hown.update mapLaw Tryd.underlying62 (by unfold maxLen; omega) (key_u32 a ha) (blkElem_mk b hb)
  refine ⟨w', hrun, ⟨_, ownsMap_small hown', fun x hx => ?_⟩, hg⟩
  by_cases e : x = a
  · subst e
    rw [atKey_put_same hown.isMap (keylit x hx), updB_same]
  · rw [atKey_put_other (key_ne e), hat x hx, updB_other _ _ _ _ e]
theorem MapAt.drop {w : World} {g : Nat} {f : Nat → List UInt8} (h : MapAt w g f) (a : Nat) (ha : a < 4294967296) (ty : TypeId) :
    ∃ w', (Builtin.delete_ #[62, 22] ty #[.map (some g), .int .u32 (a : Int)]).run Tryd.prog w = .ok (.tuple #[]) w' ∧ MapAt w' g (updB f a zeroBlk) ∧ w.grownBy w' (some g) := by
  obtain ⟨D, hown, hat⟩ := h
  obtain ⟨w', hrun, hown', hg⟩ := hown.drop mapLaw Tryd.underlying62 (key_u32 a ha) ty
  refine ⟨w', hrun, ⟨_, hown', fun x hx => ?_⟩, hg.grown⟩
  by_cases e : x = a
  · subst e
    rw [atKey_del_same, updB_same]
  · rw [atKey_del_other (key_ne e), hat x hx, updB_other _ _ _ _ e]
end Go.Proofs.YtnphgaiiiiknpaaDoor
namespace Go.Proofs.YtnphgaiiiiknpaaDoor
open Go.RowKit
set_option linter.unusedSimpArgs false
set_option maxRecDepth 100000
/-- A question: the error, the function with what it holds, the answer. -/
structure Ask where
  e : Int
  f : FuncId
  first : Array Value
  cap : Array Value
  r : Bool
/-- The answer is so in every world behind w. -/
structure Ask.Ok (x : Ask) (w : World) : Prop where
  ex : ∃ fn c, Tryd.prog.funcs[x.f]? = some fn ∧ fn.body = some c ∧ (fn.name == "runtime.NumGoroutine") = false
  calls : ∀ w', Below w.heap.size w w' → Calls Tryd.prog x.f (x.first ++ x.cap) w' fun e w'' => e = .returned (.bool x.r) ∧ Below w'.heap.size w' w''
theorem Ask.Ok.below {x : Ask} {w w' : World} (h : x.Ok w) (hb : Below w.heap.size w w') : x.Ok w' := ⟨h.ex, fun w2 h2 => h.calls w2 (hb.trans (h2.mono hb.size))⟩
def askCells (l : List Ask) : List Value := l.flatMap fun x => [.int .i64 x.e, .func (.func x.f) x.first x.cap]
def checkE (l : List Ask) : Int := match l.find? (·.r) with | some x => x.e | none => 0
theorem wpList_ask {P : Program} {ops : Array Oper} {o : Oper} {a : Act} {rest : List Oper} {w : World} {Q : Exit → Act → World → Prop} (hgd : o.guard = none) (x : Operand) (ts : Array TypeId) (ho : o.op = .call { callee := .value x, args := #[], argTypes := ts })
    (F : FuncId) (first cap : Array Value) (hx : a.eval x = .func (.func F) first cap) (hf : ∃ fn c, P.funcs[F]? = some fn ∧ fn.body = some c ∧ (fn.name == "runtime.NumGoroutine") = false) (v : Value)
    (hc : Calls P F (first ++ cap) w fun e w' => e = .returned v ∧ Below w.heap.size w w') (hK : ∀ w', Below w.heap.size w w' → wpList P ops Q rest (a.put o.dst v) w') : wpList P ops Q (o :: rest) a w := by
  obtain ⟨fn, c, hf, hb, hn⟩ := hf
  refine wpList_plain hgd fun K hK' => ?_
  have he : (execOp a.eval o).run P w = .ok (.enter F (first ++ cap)) w := by
    unfold execOp
    simp only [ho, resolve, hx]
    have hn' : ¬ fn.name = "runtime.NumGoroutine" := by simpa using hn
    simp [Deferred.ofValue, invoke, callFunc, hf, hb, hn']
  unfold Oper.wp
  rw [he]
  refine hc.mono ?_
  rintro e w' ⟨rfl, h⟩
  exact hK' _ _ (hK w' h)
theorem ask_at (l : List Ask) (k : Nat) (hk : k < l.length) : (askCells l)[2 * k]? = some (.int .i64 l[k].e) ∧ (askCells l)[2 * k + 1]? = some (.func (.func l[k].f) l[k].first l[k].cap) := by
  induction l generalizing k with
  | nil => simp at hk
  | cons x l ih =>
    cases k with
    | zero => simp [askCells]
    | succ k =>
      obtain ⟨h1, h2⟩ := ih k (by simpa using hk)
      constructor
      · rw [show 2 * (k + 1) = (2 * k) + 1 + 1 by omega]; simpa [askCells] using h1
      · rw [show 2 * (k + 1) + 1 = (2 * k + 1) + 1 + 1 by omega]; simpa [askCells] using h2
theorem checkE_hit (l : List Ask) (k : Nat) (hk : k < l.length) (h0 : ∀ i, (hi : i < k) → l[i].r = false) (h1 : l[k].r = true) : checkE l = l[k].e := by
  unfold checkE
  have : l.find? (·.r) = some l[k] := by
    rw [List.find?_eq_some_iff_getElem]
    exact ⟨h1, k, hk, rfl, fun j hj => by simp [h0 j hj]⟩
  rw [this]
theorem checkE_none (l : List Ask) (h0 : ∀ i, (hi : i < l.length) → l[i].r = false) : checkE l = 0 := by
  unfold checkE
  have : l.find? (·.r) = none := by
    rw [List.find?_eq_none]
    intro x hx
    obtain ⟨i, hi, rfl⟩ := List.mem_iff_getElem.1 hx
    simp [h0 i hi]
  rw [this]
theorem zeroAsk : (Tryd.prog.info? 71).bind (·.zero) = some (.agg #[.int .i64 0, .nilFunc]) := by kernel_rfl
theorem sizeAsk : (Tryd.prog.info? 71).map (·.size) = some 2 := by kernel_rfl
theorem askOne (e : Int) (f : FuncId) (first cap : Array Value) : (#[Value.int .i64 e, .func (.func f) first cap] : Array Value).all (·.oneCell') = true := by
  rw [Array.all_eq_true_iff_forall_mem]
  intro v hv
  simp only [List.mem_toArray, List.mem_cons, List.not_mem_nil, or_false] at hv
  rcases hv with rfl | rfl <;> rfl
set_option maxHeartbeats 1000000 in
theorem check_any (w : World) (b c : Nat) (l : List Ask) (cells : Array Value) (T : TypeId) (hl : l.length < 100) (hb : w.heap[b]? = some (.cells cells T (0, 0))) (hcs : cells.toList.take (2 * l.length) = askCells l) (hok : ∀ x ∈ l, x.Ok w) :
    Calls Tryd.prog 39 #[.slice (some ⟨b, 0, none⟩) l.length c] w fun e w' => e = .returned (.int .i64 (checkE l)) ∧ Below w.heap.size w w' := by
  have hbl : b < w.heap.size := (Array.getElem?_eq_some_iff.1 hb).1
  have HC : Hid (∀ (k : Nat), (hk : k < l.length) → w.cell? ⟨b, 2 * k, none⟩ = some (.int .i64 l[k].e) ∧ w.cell? ⟨b, 2 * k + 1, none⟩ = some (.func (.func l[k].f) l[k].first l[k].cap)) := Lib.hid (by
    intro k hk
    obtain ⟨h1, h2⟩ := ask_at l k hk
    rw [← hcs] at h1 h2
    rw [List.getElem?_take, if_pos (by omega)] at h1 h2
    exact ⟨(cell_of_row w b _ _ _ _ hb).trans (by simpa using h1), (cell_of_row w b _ _ _ _ hb).trans (by simpa using h2)⟩)
  have HOK := Lib.hid hok
  have HBL := Lib.hid hbl
  obtain ⟨n, hn⟩ : ∃ n, n = l.length := ⟨_, rfl⟩
  have HN := Lib.hid hn
  rw [← hn] at hl
  have HLN := Lib.hid hl
  clear hb hcs hok hbl
  rw [← hn]
  clear hn
  go_enter Tryd.func39, Tryd.ntmps39
  go_wp2_with fail
  go_loopw [7] (fun i wr => ∃ (k : Nat), k ≤ n ∧ i = .int .i64 (k : Int) ∧ (∀ j, (hj : j < l.length) → j < k → l[j].r = false) ∧ Below w.heap.size w wr) (fun i _ => n - (intOf i).toNat)
  case atStart => exact ⟨0, by omega, rfl, by omega, Below.refl _ _⟩
  case round =>
    obtain ⟨k, hk, rfl, hf, hB⟩ := hrel
    have HF := Lib.hid hf
    have HB := Lib.hid hB
    clear hf hB
    by_cases hlt : k < n
    · have hkl : k < l.length := by rw [← HN.out]; exact hlt
      have hc1 : wr.cell? ⟨b, k * 2, none⟩ = some (.int .i64 l[k].e) := by rw [Nat.mul_comm]; exact (HB.out.cell HBL.out).trans (HC.out k hkl).1
      have hc2 : wr.cell? ⟨b, k * 2 + 1, none⟩ = some (.func (.func l[k].f) l[k].first l[k].cap) := by rw [Nat.mul_comm]; exact (HB.out.cell HBL.out).trans (HC.out k hkl).2
      obtain ⟨x, hx⟩ : ∃ x, x = l[k] := ⟨_, rfl⟩
      rw [← hx] at hc1 hc2
      have hxo : x.Ok wr := (HOK.out x (by rw [hx]; exact List.getElem_mem hkl)).below HB.out
      have HX := Lib.hid hxo
      have HXK := Lib.hid hx
      clear hxo hx
      obtain ⟨e0, f0, first0, cap0, r0⟩ := x
      simp only at hc1 hc2
      go_wp2_with (first
        | refine wpList_alloc_row rfl 71 rfl _ zeroAsk ?_
        | refine wpList_store_new rfl 71 _ _ rfl _ #[.int .i64 e0, .func (.func f0) first0 cap0] _ rfl rfl sizeAsk rfl (askOne _ _ _ _) ?_
        | (refine wpList_ask rfl _ _ rfl f0 first0 cap0 rfl HX.out.ex (.bool r0) ((HX.out.below (Below.refl _ _ |>.alloc (Nat.le_refl _) _)).calls _ (Below.refl _ _)) ?_; intro w2 hw2; have c0 : w2.cell? ⟨wr.heap.size, 0, none⟩ = some (.int .i64 e0) := (hw2.cell (by simp)).trans (cell_of_row _ _ 0 _ _ _ (heap_alloc_new _ _)); have HW2 := Lib.hid hw2; clear hw2))
      · rename_i hr
        go_ret
        refine ⟨?_, HB.out.trans (((Below.refl _ _).alloc HB.out.size _).trans (HW2.out.mono (by have := HB.out.size; simp; omega)))⟩
        have hx := HXK.out
        subst hr
        have := checkE_hit l k hkl (fun i hi => HF.out i (by omega) hi) (by rw [← hx])
        rw [this, ← hx]; rfl
      · rename_i hr
        have hx := HXK.out
        subst hr
        refine ⟨⟨k + 1, by omega, by simp, fun j hj hjk => ?_, HB.out.trans (((Below.refl _ _).alloc HB.out.size _).trans (HW2.out.mono (by have := HB.out.size; simp; omega)))⟩, by simp [intOf]; omega⟩
        by_cases e : j = k
        · subst e; rw [← hx]
        · exact HF.out j hj (by omega)
    · obtain rfl : k = n := by omega
      have hz : ¬ ((k : Int) < (k : Int)) := by omega
      go_wp2_with fail
      go_ret
      exact ⟨by rw [checkE_none l (fun i hi => HF.out i hi (by rw [HN.out]; exact hi))]; rfl, HB.out⟩
end Go.Proofs.YtnphgaiiiiknpaaDoor
namespace Go.Proofs.YtnphgaiiiiknpaaDoor
open Go.RowKit
set_option linter.unusedSimpArgs false
set_option maxRecDepth 100000
/-- Pending writes as cells. -/
def putCells (l : List (Nat × List UInt8)) : List Value := l.flatMap fun x => .int .u32 (x.1 : Int) :: x.2.map vu8
theorem putCells_snoc (l : List (Nat × List UInt8)) (x : Nat × List UInt8) : putCells (l ++ [x]) = putCells l ++ (.int .u32 (x.1 : Int) :: x.2.map vu8) := by simp [putCells]
/-- The fuse's place. -/
def fuseAt (w : World) (fv : Value) : Option Nat → Prop
  | none => fv = .pointer none
  | some k => ∃ gf, fv = .pointer (some ⟨gf, 0, none⟩) ∧ w.heap[gf]? = some (.cells #[.int .i64 (k : Int)] 3 (0, 0))
def ptrBlock : Value → List Nat
  | .pointer (some a) => [a.block]
  | _ => []
def dvCells (s : Dv) (gm : Nat) (pv fv : Value) : Array Value := #[.int .u32 (s.size : Int), .map (some gm), pv, fv, .bool s.down, .int .u64 (s.writes : Int)]
/-- A device lies in block g, its map in gm; pv the pending writes' slice, fv the fuse. -/
structure DvV (w : World) (g gm : Nat) (pv fv : Value) (s : Dv) : Prop where
  row : w.heap[g]? = some (.cells (dvCells s gm pv fv) 65 (0, 0))
  good : MapAt w gm s.good
  pend : w.ownsRow 0 47 257 pv s.pend.length (putCells s.pend)
  fuse : fuseAt w fv s.fuse
  ok : s.Ok
def dvFoot (g gm : Nat) (pv fv : Value) : List Nat := g :: gm :: (pv.ownBlock.toList ++ ptrBlock fv)
theorem DvV.lt {w : World} {g gm : Nat} {pv fv : Value} {s : Dv} (h : DvV w g gm pv fv s) : ∀ b ∈ dvFoot g gm pv fv, b < w.heap.size := by
  intro b hb
  simp only [dvFoot, List.mem_cons, List.mem_append] at hb
  rcases hb with rfl | rfl | hb | hb
  · exact (Array.getElem?_eq_some_iff.1 h.row).1
  · exact h.good.lt
  · have : pv.ownBlock = some b := by simpa using hb
    exact (World.ownsRow.lt h.pend b this).2
  · have hf := h.fuse
    unfold fuseAt at hf
    split at hf
    · subst hf; simp [ptrBlock] at hb
    · obtain ⟨gf, rfl, hg⟩ := hf
      simp [ptrBlock] at hb
      subst hb
      exact (Array.getElem?_eq_some_iff.1 hg).1
theorem ownsRow_same {w w' : World} {base : Nat} {e : TypeId} {size : Nat} {v : Value} {n : Nat} {xs : List Value} (h : w.ownsRow base e size v n xs) (hb : ∀ b, v.ownBlock = some b → w'.heap[b]? = w.heap[b]?) : w'.ownsRow base e size v n xs := by
  refine ⟨h.1, ?_⟩
  rcases h.2 with h' | ⟨g, cap, cur, rfl, h1, h2, h3⟩
  · exact .inl h'
  · exact .inr ⟨g, cap, cur, rfl, h1, (hb g rfl).trans h2, h3⟩
theorem DvV.same {w w' : World} {g gm : Nat} {pv fv : Value} {s : Dv} (h : DvV w g gm pv fv s) (hb : ∀ b ∈ dvFoot g gm pv fv, w'.heap[b]? = w.heap[b]?) : DvV w' g gm pv fv s := by
  refine ⟨(hb g (by simp [dvFoot])).trans h.row, h.good.kept (hb gm (by simp [dvFoot])), ownsRow_same h.pend (fun b hb' => hb b (by simp [dvFoot, hb'])), ?_, h.ok⟩
  have hf := h.fuse
  unfold fuseAt at hf ⊢
  split at hf
  · exact hf
  · obtain ⟨gf, rfl, hg⟩ := hf
    exact ⟨gf, rfl, (hb gf (by simp [dvFoot, ptrBlock])).trans hg⟩
theorem DvV.below {w w' : World} {g gm : Nat} {pv fv : Value} {s : Dv} (h : DvV w g gm pv fv s) (hb : Below w.heap.size w w') : DvV w' g gm pv fv s := h.same (fun b hb' => hb.block b (h.lt b hb'))
/-- A device. -/
def dvT (g : Nat) (s : Dv) : Thing where
  says F w := ∃ gm pv fv, F = dvFoot g gm pv fv ∧ DvV w g gm pv fv s
  lt := by
    rintro F w ⟨gm, pv, fv, rfl, h⟩
    exact h.lt
  loc := by
    rintro F w w' hb ⟨gm, pv, fv, rfl, h⟩
    exact ⟨gm, pv, fv, rfl, h.same hb⟩
theorem eql_map (w : World) (g : Nat) : (binOp .eql 62 (.map (some g)) (.map none)).run Tryd.prog w = .ok (.bool false) w := by
  simp [binOp, Op.equal, Op.maxDepth, run_equalIn_map_nil w 9999 62 22 45 (some g) Tryd.underlying62]
section
variable {w : World} {g : Nat} {s : Dv}
theorem dv_open (h : (dvT g s).at w) : ∃ gm pv fv, DvV w g gm pv fv s := by
  obtain ⟨F, gm, pv, fv, _, h⟩ := h
  exact ⟨gm, pv, fv, h⟩
theorem none_dev (h : (dvT g s).at w) : Calls Tryd.prog 33 #[.pointer (some ⟨g, 0, none⟩)] w fun e w' => e = .returned (.bool false) ∧ w = w' := by
  obtain ⟨gm, pv, fv, h⟩ := dv_open h
  have h1 : w.cell? ⟨g, 1, none⟩ = some (.map (some gm)) := cell_of_row w g 1 _ _ _ h.row
  have hm := eql_map w gm
  clear h
  go_enter Tryd.func33, Tryd.ntmps33
  go_wp2
  go_ret
  exact ⟨rfl, rfl⟩
/-- The question whether there is no device. -/
def noneQ (g : Nat) : Ask := ⟨1, 33, #[.pointer (some ⟨g, 0, none⟩)], #[], false⟩
theorem noneQ_ok (h : (dvT g s).at w) : (noneQ g).Ok w :=
  ⟨⟨_, _, Tryd.func33, rfl, by kernel_rfl⟩, fun w' hb => by
    refine (none_dev (h.since hb)).mono ?_
    rintro e w2 ⟨rfl, rfl⟩
    exact ⟨rfl, Below.refl _ _⟩⟩
/-- The question whether it is down; the device's pointer lies in block b. -/
def downQ (s : Dv) (b : Nat) : Ask := ⟨30, 51, #[], #[.pointer (some ⟨b, 0, none⟩)], s.down⟩
theorem downQ_ok (h : (dvT g s).at w) (b : Nat) (hb : w.cell? ⟨b, 0, none⟩ = some (.pointer (some ⟨g, 0, none⟩))) (hbl : b < w.heap.size) : (downQ s b).Ok w := by
  refine ⟨⟨_, _, Tryd.func51, rfl, by kernel_rfl⟩, fun w' hbe => ?_⟩
  obtain ⟨gm, pv, fv, h⟩ := dv_open (h.since hbe)
  have c0 : w'.cell? ⟨b, 0, none⟩ = some (.pointer (some ⟨g, 0, none⟩)) := (hbe.cell hbl).trans hb
  have h4 : w'.cell? ⟨g, 4, none⟩ = some (.bool s.down) := cell_of_row w' g 4 _ _ _ h.row
  clear h hbe hb
  show Calls Tryd.prog 51 #[.pointer (some ⟨b, 0, none⟩)] w' _
  go_enter Tryd.func51, Tryd.ntmps51
  go_wp2
  go_ret
  exact ⟨rfl, Below.refl _ _⟩
/-- The question whether an address is too far. -/
def farQ (s : Dv) (a ba bd : Nat) : Ask := ⟨2, 56, #[], #[.pointer (some ⟨ba, 0, none⟩), .pointer (some ⟨bd, 0, none⟩)], decide (s.size ≤ a)⟩
theorem farQ_ok (h : (dvT g s).at w) (a ba bd : Nat) (ha : w.cell? ⟨ba, 0, none⟩ = some (.int .u32 (a : Int))) (hd : w.cell? ⟨bd, 0, none⟩ = some (.pointer (some ⟨g, 0, none⟩))) (hal : ba < w.heap.size) (hdl : bd < w.heap.size) : (farQ s a ba bd).Ok w := by
  refine ⟨⟨_, _, Tryd.func56, rfl, by kernel_rfl⟩, fun w' hbe => ?_⟩
  obtain ⟨gm, pv, fv, h⟩ := dv_open (h.since hbe)
  have c0 : w'.cell? ⟨bd, 0, none⟩ = some (.pointer (some ⟨g, 0, none⟩)) := (hbe.cell hdl).trans hd
  have c1 : w'.cell? ⟨ba, 0, none⟩ = some (.int .u32 (a : Int)) := (hbe.cell hal).trans ha
  have h0 : w'.cell? ⟨g, 0, none⟩ = some (.int .u32 (s.size : Int)) := cell_of_row w' g 0 _ _ _ h.row
  clear h hbe hd ha
  show Calls Tryd.prog 56 #[.pointer (some ⟨ba, 0, none⟩), .pointer (some ⟨bd, 0, none⟩)] w' _
  go_enter Tryd.func56, Tryd.ntmps56
  go_upto_region 1 with (fail)
  refine wk_region_since (by kernel_rfl) (by kernel_rfl) ?_
  refine wk_load1 _ _ _ _ _ rfl (by kernel_rfl) rfl rfl (fun w' hC => hC.cell c1) Tryd.underlying22 ?_
  simp only [Act.put, List.setIfInBounds_toArray, List.set_cons_zero, List.set_cons_succ]
  refine wk_load1 _ _ _ _ _ rfl (by kernel_rfl) rfl rfl (fun w' hC => hC.cell c0) Tryd.underlying39 ?_
  simp only [Act.put, List.setIfInBounds_toArray, List.set_cons_zero, List.set_cons_succ]
  refine wk_nilcheck _ _ (by first | exact wanted_none rfl | exact wanted_yes _ _ rfl rfl) rfl rfl ?_
  simp only [Act.put, List.setIfInBounds_toArray, List.set_cons_zero, List.set_cons_succ]
  refine wk_field 65 _ 22 0 0 _ _ _ (by first | exact wanted_none rfl | exact wanted_yes _ _ rfl rfl) rfl (by kernel_rfl) (by kernel_rfl) (by kernel_rfl) rfl ?_
  simp only [Act.put, List.setIfInBounds_toArray, List.set_cons_zero, List.set_cons_succ, Nat.zero_add]
  refine wk_load1 _ _ _ _ _ rfl (by kernel_rfl) rfl rfl (fun w' hC => hC.cell h0) Tryd.underlying22 ?_
  simp only [Act.put, List.setIfInBounds_toArray, List.set_cons_zero, List.set_cons_succ]
  refine wk_cmp_int .geq (decide (s.size ≤ a)) _ _ _ _ _ _ _ (by kernel_rfl) rfl rfl rfl (by simp [cmpInt]) ?_
  simp only [Act.put, List.setIfInBounds_toArray, List.set_cons_zero, List.set_cons_succ]
  repeat (first
    | (refine wk_move _ (by first | exact wanted_none rfl | exact wanted_yes _ _ rfl rfl) rfl ?_; simp only [Act.put, Act.eval, Array.getD_eq_getD_getElem?, List.getElem?_toArray, List.getElem?_cons_succ, List.getElem?_cons_zero, Option.getD_some, List.setIfInBounds_toArray, List.set_cons_zero, List.set_cons_succ])
    | (refine wk_assign _ (by first | exact wanted_none rfl | exact wanted_yes _ _ rfl rfl) rfl ?_; simp only [Act.put, Act.eval, Array.getD_eq_getD_getElem?, List.getElem?_toArray, List.getElem?_cons_succ, List.getElem?_cons_zero, Option.getD_some, List.setIfInBounds_toArray, List.set_cons_zero, List.set_cons_succ])
    | (refine wk_pickt _ _ _ _ (by first | exact wanted_none rfl | exact wanted_yes _ _ rfl rfl) rfl rfl rfl ?_; simp only [Act.put, Act.eval, Array.getD_eq_getD_getElem?, List.getElem?_toArray, List.getElem?_cons_succ, List.getElem?_cons_zero, Option.getD_some, List.setIfInBounds_toArray, List.set_cons_zero, List.set_cons_succ])
    | (refine wk_pickf _ _ _ _ (by first | exact wanted_none rfl | exact wanted_yes _ _ rfl rfl) rfl rfl rfl ?_; simp only [Act.put, Act.eval, Array.getD_eq_getD_getElem?, List.getElem?_toArray, List.getElem?_cons_succ, List.getElem?_cons_zero, Option.getD_some, List.setIfInBounds_toArray, List.set_cons_zero, List.set_cons_succ])
    | (refine wk_skip (wanted_not _ true false rfl rfl rfl) ?_; simp only [Act.put, List.setIfInBounds_toArray, List.set_cons_zero, List.set_cons_succ])
    | (refine wk_skip (wanted_not _ false true rfl rfl rfl) ?_; simp only [Act.put, List.setIfInBounds_toArray, List.set_cons_zero, List.set_cons_succ])
    | (refine wk_skip (wanted_undef _ _ rfl rfl) ?_; simp only [Act.put, List.setIfInBounds_toArray, List.set_cons_zero, List.set_cons_succ])
    | (refine wk_not true _ _ (by first | exact wanted_none rfl | exact wanted_yes _ _ rfl rfl) rfl rfl ?_; simp only [Act.put, List.setIfInBounds_toArray, List.set_cons_zero, List.set_cons_succ])
    | (refine wk_not false _ _ (by first | exact wanted_none rfl | exact wanted_yes _ _ rfl rfl) rfl rfl ?_; simp only [Act.put, List.setIfInBounds_toArray, List.set_cons_zero, List.set_cons_succ]))
  refine wk_nil ?_
  intro w' hC
  go_wp2
  go_ret
  exact ⟨rfl, hC⟩
end
end Go.Proofs.YtnphgaiiiiknpaaDoor
namespace Go.Proofs.YtnphgaiiiiknpaaDoor
open Go.RowKit
set_option linter.unusedSimpArgs false
set_option linter.unusedVariables false
set_option maxRecDepth 100000
theorem own_len {w : World} {base : Nat} {e : TypeId} {size : Nat} {v : Value} {n : Nat} {xs : List Value} (h : w.ownsRow base e size v n xs) : ∃ a c, v = .slice a n c := by
  rcases h.2 with ⟨rfl, rfl⟩ | ⟨g, cap, cur, rfl, _⟩
  · exact ⟨_, _, rfl⟩
  · exact ⟨_, _, rfl⟩
/-- What lies apart in a device. -/
structure DvApart (g gm : Nat) (pv fv : Value) : Prop where
  map : gm ≠ g
  pend : ∀ b, pv.ownBlock = some b → b ≠ g ∧ b ≠ gm
  fuse : ∀ b ∈ ptrBlock fv, b ≠ g ∧ b ≠ gm ∧ pv.ownBlock ≠ some b
theorem dv_apart {g gm : Nat} {pv fv : Value} (h : (dvFoot g gm pv fv).Nodup) : DvApart g gm pv fv := by
  unfold dvFoot at h
  rw [List.nodup_cons, List.nodup_cons, List.nodup_append] at h
  obtain ⟨h1, h2, h3, h4, h5⟩ := h
  simp only [List.mem_cons, List.mem_append, not_or] at h1 h2
  refine ⟨fun e => h1.1 e.symm, fun b hb => ⟨fun e => h1.2.1 (by subst e; simp [hb]), fun e => h2.1 (by subst e; simp [hb])⟩, fun b hb => ⟨fun e => h1.2.2 (e ▸ hb), fun e => h2.2 (e ▸ hb), fun e => h5 b (by simp [e]) b hb rfl⟩⟩
theorem dv_foot {g gm : Nat} {pv fv : Value} (h : DvApart g gm pv fv) : (dvFoot g gm pv fv).Nodup := by
  unfold dvFoot
  rw [List.nodup_cons, List.nodup_cons, List.nodup_append]
  refine ⟨?_, ?_, ?_, ?_, ?_⟩
  · simp only [List.mem_cons, List.mem_append, not_or]
    exact ⟨fun e => h.map e.symm, fun hb => (h.pend g (by simpa using hb)).1 rfl, fun hb => (h.fuse g hb).1 rfl⟩
  · simp only [List.mem_append, not_or]
    exact ⟨fun hb => (h.pend gm (by simpa using hb)).2 rfl, fun hb => (h.fuse gm hb).2.1 rfl⟩
  · cases pv.ownBlock <;> simp
  · cases fv <;> simp [ptrBlock]
    rename_i a
    cases a <;> simp [ptrBlock]
  · intro a ha b hb e
    subst e
    exact (h.fuse a hb).2.2 (by simpa using ha)
section
variable {w : World} {g : Nat} {s : Dv}
theorem pending_dev (h : (dvT g s).at w) : Calls Tryd.prog 20 #[.pointer (some ⟨g, 0, none⟩)] w fun e w' => e = .returned (.int .i64 (s.pend.length : Int)) ∧ w = w' := by
  have HD := Lib.hid h
  obtain ⟨gm, pv, fv, h⟩ := dv_open h
  obtain ⟨A, c, rfl⟩ := own_len h.pend
  have h2 : w.cell? ⟨g, 2, none⟩ = some (.slice A s.pend.length c) := cell_of_row w g 2 _ _ _ h.row
  clear h
  go_enter Tryd.func20, Tryd.ntmps20
  go_wp2_with (go_at_call 33; refine (none_dev HD.out).mono ?_; rintro e w1 ⟨rfl, rfl⟩)
  go_ret
  exact ⟨rfl, rfl⟩
/-- A store into a cell of the device itself. -/
theorem dv_store {F : List Nat} {gm : Nat} {pv fv : Value} {s' : Dv} (h : DvV w g gm pv fv s) (hF : F = dvFoot g gm pv fv) (hn : F.Nodup) (i : Nat) (v : Value)
    (hc : (dvCells s gm pv fv).setIfInBounds i v = dvCells s' gm pv fv) (hg : s'.good = s.good) (hp : s'.pend = s.pend) (hf : s'.fuse = s.fuse) (hok : s'.Ok) : Turns F w (w.setCell ⟨g, i, none⟩ v) (dvT g s') := by
  subst hF
  have hap := dv_apart hn
  refine ⟨_, ⟨gm, pv, fv, rfl, ?_, ?_, ?_, ?_, hok⟩, (Only.refl _ _).setCell (.inl (by simp [dvFoot])) _, fun b hb => .inl hb, hn⟩
  · rw [← hc]; exact heap_setCell_same _ _ _ _ _ _ h.row
  · rw [hg]; exact h.good.kept (heap_setCell_other _ _ _ _ hap.map)
  · rw [hp]; exact ownsRow_same h.pend (fun b hb => heap_setCell_other _ _ _ _ (hap.pend b hb).1)
  · rw [hf]
    have := h.fuse
    unfold fuseAt at this ⊢
    split at this
    · exact this
    · obtain ⟨gf, rfl, hgf⟩ := this
      exact ⟨gf, rfl, (heap_setCell_other _ _ _ _ (hap.fuse gf (by simp [ptrBlock])).1).trans hgf⟩
theorem dv_turn {F : List Nat} {w' : World} {gm : Nat} {pv fv : Value} {s' : Dv} (hF : F = dvFoot g gm pv fv) (hn : F.Nodup) (hV : DvV w' g gm pv fv s') (ho : Only F w w') : Turns F w w' (dvT g s') :=
  ⟨F, ⟨gm, pv, fv, hF, hV⟩, ho, fun b hb => .inl hb, hn⟩
theorem wrap64_succ (n : Nat) : IntKind.u64.wrap ((n : Int) + 1) = (((n + 1) % 18446744073709551616 : Nat) : Int) := by
  rw [IntKind.wrap_u64]; omega
theorem burn_dev {F : List Nat} (h : (dvT g s).says F w) (hn : F.Nodup) : Calls Tryd.prog 43 #[.pointer (some ⟨g, 0, none⟩)] w fun e w' => e = .returned (.int .i64 s.burn.2) ∧ Turns F w w' (dvT g s.burn.1) := by
  obtain ⟨gm, pv, fv, hF, h⟩ := h
  have H := Lib.hid h
  have HF := Lib.hid hF
  have HN := Lib.hid hn
  have h3 : w.cell? ⟨g, 3, none⟩ = some fv := cell_of_row w g 3 _ _ _ h.row
  have h5 : w.cell? ⟨g, 5, none⟩ = some (.int .u64 (s.writes : Int)) := cell_of_row w g 5 _ _ _ h.row
  have h4 : w.cell? ⟨g, 4, none⟩ = some (.bool s.down) := cell_of_row w g 4 _ _ _ h.row
  have f4 : w.frozen? ⟨g, 4, none⟩ = false := frozen_of_row w g 4 _ _ h.row
  have f5 : w.frozen? ⟨g, 5, none⟩ = false := frozen_of_row w g 5 _ _ h.row
  have hw := wrap64_succ s.writes
  have hfu := h.fuse
  have hok := h.ok
  have HOK := Lib.hid hok
  clear h hF hn hok
  unfold fuseAt at hfu
  cases hs : s.fuse with
  | none =>
    rw [hs] at hfu
    simp only at hfu
    subst hfu
    have HS := Lib.hid hs
    clear hs
    go_enter Tryd.func43, Tryd.ntmps43
    go_wp2
    go_ret
    have e : s.burn = ({ s with writes := (s.writes + 1) % 18446744073709551616 }, 0) := by unfold Dv.burn; rw [HS.out]
    have hok := HOK.out.burn
    rw [e] at hok ⊢
    exact ⟨rfl, dv_store H.out HF.out HN.out 5 _ (by simp [dvCells]) rfl rfl rfl hok⟩
  | some k =>
    rw [hs] at hfu
    simp only at hfu
    obtain ⟨gf, rfl, hgf⟩ := hfu
    have c0 : w.cell? ⟨gf, 0, none⟩ = some (.int .i64 (k : Int)) := cell_of_row w gf 0 _ _ _ hgf
    have f0 : w.frozen? ⟨gf, 0, none⟩ = false := frozen_of_row w gf 0 _ _ hgf
    have HS := Lib.hid hs
    have HGF := Lib.hid hgf
    clear hs hgf
    cases k with
    | zero =>
      go_enter Tryd.func43, Tryd.ntmps43
      go_wp2
      go_ret
      have e : s.burn = ({ s with down := true }, 30) := by unfold Dv.burn; rw [HS.out]
      have hok := HOK.out.burn
      rw [e] at hok ⊢
      exact ⟨rfl, dv_store H.out HF.out HN.out 4 _ (by simp [dvCells]) rfl rfl rfl hok⟩
    | succ k =>
      have hap := dv_apart (HF.out ▸ HN.out)
      have hg1 := (hap.fuse gf (by simp [ptrBlock])).1
      have hkb := HOK.out.fuse _ HS.out
      have e5 : (w.setCell ⟨gf, 0, none⟩ (.int .i64 (k : Int))).cell? ⟨g, 5, none⟩ = some (.int .u64 (s.writes : Int)) := by
        rw [World.cell?_of_block (heap_setCell_other _ _ _ _ hg1.symm)]; exact h5
      have ff5 : (w.setCell ⟨gf, 0, none⟩ (.int .i64 (k : Int))).frozen? ⟨g, 5, none⟩ = false := by
        rw [World.frozen?_of_block (heap_setCell_other _ _ _ _ hg1.symm)]; exact f5
      have HAP := Lib.hid hap
      clear h5 f5 hap hg1
      go_enter Tryd.func43, Tryd.ntmps43
      go_wp2
      · go_ret
        have e : s.burn = ({ s with fuse := some k, writes := (s.writes + 1) % 18446744073709551616 }, 0) := by unfold Dv.burn; rw [HS.out]
        have hok := HOK.out.burn
        rw [e] at hok ⊢
        refine ⟨rfl, dv_turn HF.out HN.out ⟨?_, ?_, ?_, ?_, hok⟩ (((Only.refl _ _).setCell (.inl (by rw [HF.out]; simp [dvFoot, ptrBlock])) _).setCell (.inl (by rw [HF.out]; simp [dvFoot])) _)⟩
        · have hr : (w.setCell ⟨gf, 0, none⟩ (.int .i64 (k : Int))).heap[g]? = some (.cells (dvCells s gm pv (.pointer (some ⟨gf, 0, none⟩))) 65 (0, 0)) := (heap_setCell_other _ _ _ _ (HAP.out.fuse gf (by simp [ptrBlock])).1.symm).trans H.out.row
          have := heap_setCell_same _ g 5 _ _ (.int .u64 (((s.writes : Int) + 1) % 18446744073709551616)) hr
          rw [this]
          simp [dvCells]
        · exact (H.out.good.kept (heap_setCell_other _ _ _ _ (HAP.out.fuse gf (by simp [ptrBlock])).2.1.symm)).kept (heap_setCell_other _ _ _ _ HAP.out.map)
        · exact ownsRow_same (ownsRow_same H.out.pend (fun b hb => heap_setCell_other _ _ _ _ (fun e => (HAP.out.fuse gf (by simp [ptrBlock])).2.2 (hb.trans (congrArg some e))))) (fun b hb => heap_setCell_other _ _ _ _ (HAP.out.pend b hb).1)
        · refine ⟨gf, rfl, (heap_setCell_other _ _ _ _ (HAP.out.fuse gf (by simp [ptrBlock])).1).trans ?_⟩
          exact heap_setCell_same _ gf 0 _ _ _ HGF.out
end
end Go.Proofs.YtnphgaiiiiknpaaDoor
