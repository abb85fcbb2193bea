/- Laws that the walks of all layers use: variables of many cells (arrays), regions that draw their order, strings. Over any program. -/
import Derived.WalkKit
import Derived.BigQuiet
import Derived.Deep.QuietTactic
import Derived.Deep.LoopGhost
import Derived.Lib.Hide
import Derived.LoopN
import Derived.Deep.Cut
import Derived.Deep.CutRange
import Derived.Deep.CutBlock
import Derived.Deep.DeepCutAuto
import Derived.WalkLawsBesides
import Derived.WalkSpells
namespace Go.Proofs.YtcepfmjebgklfaaDoor
open Go.RowKit

/-- n cells that hold v. -/
def zeros (n : Nat) (v : Value) : Array Value := Array.replicate n v
theorem size_zeros (n : Nat) (v : Value) : (zeros n v).size = n := by simp [zeros]
def vu8 (b : UInt8) : Value := .int .u8 (b.toNat : Int)
/-- The cells of some bytes. -/
def blk (b : List UInt8) : Array Value := (b.map vu8).toArray
theorem size_blk (b : List UInt8) : (blk b).size = b.length := by simp [blk]
def u32 (x : BitVec 32) : Value := .int .u32 (x.toNat : Int)

section
variable {P : Program}

/-! ### A variable of an array's or a struct's type is made -/
theorem run_alloc_row (w : World) (ty : TypeId) (Z : Array Value) (hz : (P.info? ty).bind (·.zero) = some (.agg Z)) :
    (Instr.alloc ty true (.tuple #[])).run P w = .ok (.pointer (some ⟨w.heap.size, 0, none⟩)) (w.alloc (.cells Z ty)) := by
  cases hi : P.info? ty with
  | none => simp [hi] at hz
  | some i =>
    have hz' : i.zero = some (.agg Z) := by simpa [hi] using hz
    simp [Instr.alloc, zeroValue, typeInfo, hi, hz', newVar, newRow, Value.cells]
theorem wpList_alloc_row {ops : Array Oper} {rest : List Oper} {o : Oper} {a : Act} {w : World} {Q : Exit → Act → World → Prop} (hgd : o.guard = none) (ty : TypeId) (ho : o.op = .alloc ty)
    (Z : Array Value) (hz : (P.info? ty).bind (·.zero) = some (.agg Z))
    (h : wpList P ops Q rest (a.put o.dst (.pointer (some ⟨w.heap.size, 0, none⟩))) (w.alloc (.cells Z ty))) : wpList P ops Q (o :: rest) a w :=
  wpList_plain hgd fun _ hK => by
    unfold Oper.wp execOp
    simp only [ho, Sem.run_bind, run_alloc_row w ty Z hz, Result.andThen_ok, Sem.run_pure]
    exact hK _ _ h
theorem run_build_none (w : World) (ty : TypeId) (Z : Array Value) (hz : (P.info? ty).bind (·.zero) = some (.agg Z)) {d : TypeDesc} (hu : P.underlying ty = some d)
    (hd : (match d with | .array _ e => (P.info? e).isSome | _ => false) = true) : (Instr.build ty #[]).run P w = .ok (.agg Z) w := by
  cases hi : P.info? ty with
  | none => simp [hi] at hz
  | some i =>
    have hz' : i.zero = some (.agg Z) := by simpa [hi] using hz
    cases d <;> simp at hd
    rename_i n e
    obtain ⟨ie, he⟩ := Option.isSome_iff_exists.1 hd
    simp [Instr.build, run_underlying hu, sizeOf, typeInfo, zeroValue, hi, hz', he, Instr.fill, Value.cells]
theorem wpList_build_none {ops : Array Oper} {rest : List Oper} {o : Oper} {a : Act} {w : World} {Q : Exit → Act → World → Prop} (hgd : o.guard = none) (ty : TypeId) (ho : o.op = .build ty #[])
    (Z : Array Value) (hz : (P.info? ty).bind (·.zero) = some (.agg Z)) {d : TypeDesc} (hu : P.underlying ty = some d) (hd : (match d with | .array _ e => (P.info? e).isSome | _ => false) = true)
    (h : wpList P ops Q rest (a.put o.dst (.agg Z)) w) : wpList P ops Q (o :: rest) a w :=
  wpList_plain hgd fun _ hK => by
    unfold Oper.wp execOp
    simp only [ho, List.map_toArray, List.map_nil, Sem.run_bind, run_build_none w ty Z hz hu hd, Result.andThen_ok, Sem.run_pure]
    exact hK _ _ h
theorem below_setRow {B : Nat} {a w : World} (h : Below B a w) {g : Nat} (hg : B ≤ g) (cs : Array Value) : Below B a (w.setRow g cs) :=
  h.trans ⟨rfl, rfl, rfl, by simp, fun k hk => setRow_other w g k cs (by omega)⟩
theorem alloc_setRow (w : World) (g : Nat) (hg : g = w.heap.size) (c d : Array Value) (t : TypeId) : (w.alloc (.cells c t)).setRow g d = w.alloc (.cells d t) := by
  subst hg
  unfold World.setRow World.alloc
  congr 1
  apply Array.ext_getElem?
  intro k
  simp only [Array.getElem?_modify, Array.getElem?_push]
  by_cases hk : k = w.heap.size
  · subst hk; simp
  · simp [hk, Ne.symm hk]
/-- A store into the variable that was just made. -/
theorem wpList_store_new {ops : Array Oper} {rest : List Oper} {o : Oper} {a : Act} {w : World} {Q : Exit → Act → World → Prop} (hgd : o.guard = none) (ty : TypeId) (x y : Operand) (ho : o.op = .store ty x y)
    (old cells : Array Value) (t : TypeId) (hx : a.eval x = .pointer (some ⟨w.heap.size, 0, none⟩)) (hy : a.eval y = .agg cells)
    (hi : (P.info? ty).map (·.size) = some cells.size) (hold : old.size = cells.size) (h1 : cells.all (·.oneCell') = true)
    (h : wpList P ops Q rest (a.put o.dst undef) (w.alloc (.cells cells t))) : wpList P ops Q (o :: rest) a (w.alloc (.cells old t)) :=
  wpList_store_row hgd ty x y ho w.heap.size cells hx hy t old (heap_alloc_new w _) hi hold h1 (by rw [alloc_setRow _ _ rfl]; exact h)
theorem below_drewN {B : Nat} {a w : World} (h : Below B a w) (n : Nat) : Below B a (w.drewN n) := ⟨h.os, h.tape, h.output, h.size, h.block⟩
theorem ret_eq {v u : Value} (h : v = u) : Ending.returned v = Ending.returned u := by rw [h]
theorem int_eq {k : IntKind} {a b : Int} (h : a = b) : Value.int k a = Value.int k b := by rw [h]
end
end Go.Proofs.YtcepfmjebgklfaaDoor
