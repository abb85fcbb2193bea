/- Laws that the walks of all layers use: variables of many cells (arrays), regions that draw their order, strings. Over any program. Arrays of integers as values: equality. Bytes of an array or a slice as a string. Over any program. -/
import Derived.WalkKit
import Derived.BigQuiet
import Derived.Deep.QuietTactic
import Derived.Deep.LoopGhost
import Derived.Lib.Hide
import Derived.LoopN
import Derived.Deep.Cut
import Derived.Deep.CutRange
import Derived.Deep.CutBlock
import Derived.Deep.DeepCutAuto
import Derived.WalkLawsBesides
import Derived.WalkSpells
import Derived.Laws.StructEq
namespace Go.Proofs.YtnphgaiiiiknpaaDoor
open Go.RowKit

/-- n cells that hold v. -/
def zeros (n : Nat) (v : Value) : Array Value := Array.replicate n v
theorem size_zeros (n : Nat) (v : Value) : (zeros n v).size = n := by simp [zeros]
def vu8 (b : UInt8) : Value := .int .u8 (b.toNat : Int)
/-- The cells of some bytes. -/
def blk (b : List UInt8) : Array Value := (b.map vu8).toArray
theorem size_blk (b : List UInt8) : (blk b).size = b.length := by simp [blk]
def u32 (x : BitVec 32) : Value := .int .u32 (x.toNat : Int)

section
variable {P : Program}

/-! ### A variable of an array's or a struct's type is made -/
theorem run_alloc_row (w : World) (ty : TypeId) (Z : Array Value) (hz : (P.info? ty).bind (·.zero) = some (.agg Z)) :
    (Instr.alloc ty true (.tuple #[])).run P w = .ok (.pointer (some ⟨w.heap.size, 0, none⟩)) (w.alloc (.cells Z ty)) := by
  cases hi : P.info? ty with
  | none => simp [hi] at hz
  | some i =>
    have hz' : i.zero = some (.agg Z) := by simpa [hi] using hz
    simp [Instr.alloc, zeroValue, typeInfo, hi, hz', newVar, newRow, Value.cells]
theorem wpList_alloc_row {ops : Array Oper} {rest : List Oper} {o : Oper} {a : Act} {w : World} {Q : Exit → Act → World → Prop} (hgd : o.guard = none) (ty : TypeId) (ho : o.op = .alloc ty)
    (Z : Array Value) (hz : (P.info? ty).bind (·.zero) = some (.agg Z))
    (h : wpList P ops Q rest (a.put o.dst (.pointer (some ⟨w.heap.size, 0, none⟩))) (w.alloc (.cells Z ty))) : wpList P ops Q (o :: rest) a w :=
  wpList_plain hgd fun _ hK => by
    unfold Oper.wp execOp
    simp only [ho, Sem.run_bind, run_alloc_row w ty Z hz, Result.andThen_ok, Sem.run_pure]
    exact hK _ _ h
theorem run_build_none (w : World) (ty : TypeId) (Z : Array Value) (hz : (P.info? ty).bind (·.zero) = some (.agg Z)) {d : TypeDesc} (hu : P.underlying ty = some d)
    (hd : (match d with | .array _ e => (P.info? e).isSome | _ => false) = true) : (Instr.build ty #[]).run P w = .ok (.agg Z) w := by
  cases hi : P.info? ty with
  | none => simp [hi] at hz
  | some i =>
    have hz' : i.zero = some (.agg Z) := by simpa [hi] using hz
    cases d <;> simp at hd
    rename_i n e
    obtain ⟨ie, he⟩ := Option.isSome_iff_exists.1 hd
    simp [Instr.build, run_underlying hu, sizeOf, typeInfo, zeroValue, hi, hz', he, Instr.fill, Value.cells]
theorem wpList_build_none {ops : Array Oper} {rest : List Oper} {o : Oper} {a : Act} {w : World} {Q : Exit → Act → World → Prop} (hgd : o.guard = none) (ty : TypeId) (ho : o.op = .build ty #[])
    (Z : Array Value) (hz : (P.info? ty).bind (·.zero) = some (.agg Z)) {d : TypeDesc} (hu : P.underlying ty = some d) (hd : (match d with | .array _ e => (P.info? e).isSome | _ => false) = true)
    (h : wpList P ops Q rest (a.put o.dst (.agg Z)) w) : wpList P ops Q (o :: rest) a w :=
  wpList_plain hgd fun _ hK => by
    unfold Oper.wp execOp
    simp only [ho, List.map_toArray, List.map_nil, Sem.run_bind, run_build_none w ty Z hz hu hd, Result.andThen_ok, Sem.run_pure]
    exact hK _ _ h
theorem below_setRow {B : Nat} {a w : World} (h : Below B a w) {g : Nat} (hg : B ≤ g) (cs : Array Value) : Below B a (w.setRow g cs) :=
  h.trans ⟨rfl, rfl, rfl, by simp, fun k hk => setRow_other w g k cs (by omega)⟩
theorem alloc_setRow (w : World) (g : Nat) (hg : g = w.heap.size) (c d : Array Value) (t : TypeId) : (w.alloc (.cells c t)).setRow g d = w.alloc (.cells d t) := by
  subst hg
  unfold World.setRow World.alloc
  congr 1
  apply Array.ext_getElem?
  intro k
  simp only [Array.getElem?_modify, Array.getElem?_push]
  by_cases hk : k = w.heap.size
  · subst hk; simp
  · simp [hk, Ne.symm hk]
/-- A store into the variable that was just made. -/
theorem wpList_store_new {ops : Array Oper} {rest : List Oper} {o : Oper} {a : Act} {w : World} {Q : Exit → Act → World → Prop} (hgd : o.guard = none) (ty : TypeId) (x y : Operand) (ho : o.op = .store ty x y)
    (old cells : Array Value) (t : TypeId) (hx : a.eval x = .pointer (some ⟨w.heap.size, 0, none⟩)) (hy : a.eval y = .agg cells)
    (hi : (P.info? ty).map (·.size) = some cells.size) (hold : old.size = cells.size) (h1 : cells.all (·.oneCell') = true)
    (h : wpList P ops Q rest (a.put o.dst undef) (w.alloc (.cells cells t))) : wpList P ops Q (o :: rest) a (w.alloc (.cells old t)) :=
  wpList_store_row hgd ty x y ho w.heap.size cells hx hy t old (heap_alloc_new w _) hi hold h1 (by rw [alloc_setRow _ _ rfl]; exact h)
theorem below_drewN {B : Nat} {a w : World} (h : Below B a w) (n : Nat) : Below B a (w.drewN n) := ⟨h.os, h.tape, h.output, h.size, h.block⟩
theorem ret_eq {v u : Value} (h : v = u) : Ending.returned v = Ending.returned u := by rw [h]
theorem int_eq {k : IntKind} {a b : Int} (h : a = b) : Value.int k a = Value.int k b := by rw [h]
end
end Go.Proofs.YtnphgaiiiiknpaaDoor
namespace Go.Proofs.YtnphgaiiiiknpaaDoor
open Go.RowKit
/-- The cells of some numbers. -/
def ints (k : IntKind) (l : List Int) : Array Value := (l.map (Value.int k)).toArray
theorem size_ints (k : IntKind) (l : List Int) : (ints k l).size = l.length := by simp [ints]
theorem blk_ints (b : List UInt8) : blk b = ints .u8 (b.map fun x => (x.toNat : Int)) := by simp [blk, ints, vu8]
section
variable {P : Program}
theorem run_part_int (w : World) (e : TypeId) (k : IntKind) (he : P.underlying e = some (.int k)) (cs : Array Value) (off : Nat) (v : Value) (h : cs[off]? = some v) : (part e cs off).run P w = .ok v w := by
  simp [part, isAgg, run_underlying he, h]
theorem run_eq_loop (w : World) (A B : List Int) (f : Nat → Sem (ForInStep (Option Bool × Unit)))
    (hf : ∀ i, i < A.length → (f i).run P w = if A[i]? = B[i]? then .ok (.yield (none, ())) w else .ok (.done (some false, ())) w) (hAB : A.length = B.length) :
    ∀ (m i : Nat), i + m = A.length → (forIn (List.range' i m) (none, ()) (fun i _ => f i)).run P w = .ok (if A.drop i = B.drop i then (none, ()) else (some false, ())) w
  | 0, i, h => by
    have h1 : A.drop i = [] := List.drop_eq_nil_of_le (by omega)
    have h2 : B.drop i = [] := List.drop_eq_nil_of_le (by omega)
    simp [h1, h2]
  | m + 1, i, h => by
    rw [List.range'_succ, List.forIn_cons, Sem.run_bind, hf i (by omega)]
    have hA : A.drop i = A[i]'(by omega) :: A.drop (i + 1) := List.drop_eq_getElem_cons (by omega)
    have hB : B.drop i = B[i]'(by omega) :: B.drop (i + 1) := List.drop_eq_getElem_cons (by omega)
    have e : (A.drop i = B.drop i) ↔ (A[i]'(by omega) = B[i]'(by omega) ∧ A.drop (i + 1) = B.drop (i + 1)) := by rw [hA, hB, List.cons.injEq]
    rw [List.getElem?_eq_getElem (by omega), List.getElem?_eq_getElem (by omega)]
    by_cases hx : A[i]'(by omega) = B[i]'(by omega)
    · simp only [hx, if_true, Result.andThen_ok]
      rw [run_eq_loop w A B f hf hAB m (i + 1) (by omega)]
      by_cases hy : A.drop (i + 1) = B.drop (i + 1)
      · rw [if_pos hy, if_pos (e.2 ⟨hx, hy⟩)]
      · rw [if_neg hy, if_neg (fun h => hy (e.1 h).2)]
    · have hx' : ¬ some (A[i]'(by omega)) = some (B[i]'(by omega)) := by simpa using hx
      rw [if_neg hx', if_neg (fun h => hx (e.1 h).1)]
      simp
theorem run_equalIn_ints (w : World) (d : Nat) (t e : TypeId) (k : IntKind) (n : Nat) (ht : P.underlying t = some (.array n e)) (he : P.underlying e = some (.int k)) (hs : (P.info? e).map (·.size) = some 1)
    (A B : List Int) (hA : A.length = n) (hB : B.length = n) : (Op.equalIn (d + 2) t (.agg (ints k A)) (.agg (ints k B))).run P w = .ok (decide (A = B)) w := by
  obtain ⟨i, hi, hs1⟩ := Option.map_eq_some_iff.1 hs
  have hsz : (sizeOf e).run P w = .ok 1 w := by simp [sizeOf, typeInfo, hi, hs1]
  rw [Op.equalIn]
  simp only [Sem.run_bind, run_underlying ht, Result.andThen_ok, hsz]
  rw [Std.Legacy.Range.forIn_eq_forIn_range']
  have hr := run_eq_loop (P := P) w A B (fun i => do
            let __do_lift ← part e (ints k A) (i * 1)
            let __do_lift_1 ← part e (ints k B) (i * 1)
            let __do_lift ← Op.equalIn (d + 1) e __do_lift __do_lift_1
            if (!__do_lift) = true then pure (ForInStep.done (some false, ())) else pure (ForInStep.yield (none, ()))) (fun i hl => by
    have h1 : A[i]? = some (A[i]'hl) := List.getElem?_eq_getElem hl
    have h2 : B[i]? = some (B[i]'(by omega)) := List.getElem?_eq_getElem (by omega)
    have c1 : (ints k A)[i * 1]? = some (.int k (A[i]'hl)) := by simp [ints, hl]
    have c2 : (ints k B)[i * 1]? = some (.int k (B[i]'(by omega))) := by simp [ints, show i < B.length by omega]
    simp only [Sem.run_bind, run_part_int w e k he _ _ _ c1, run_part_int w e k he _ _ _ c2, Result.andThen_ok, run_equalIn_int w d e k k _ _ he, h1, h2, Option.some.injEq]
    by_cases h : A[i]'hl = B[i]'(by omega) <;> simp [h]) (by omega) n 0 (by omega)
  simp only [Std.Legacy.Range.size, Nat.sub_zero, Nat.add_sub_cancel, Nat.div_one]
  rw [hr]
  by_cases h : A = B <;> simp [h]
theorem run_eql_ints (w : World) (t e : TypeId) (k : IntKind) (n : Nat) (ht : P.underlying t = some (.array n e)) (he : P.underlying e = some (.int k)) (hs : (P.info? e).map (·.size) = some 1)
    (A B : List Int) (hA : A.length = n) (hB : B.length = n) : (binOp .eql t (.agg (ints k A)) (.agg (ints k B))).run P w = .ok (.bool (decide (A = B))) w := by
  rw [run_eql_struct, run_equalIn_ints w 9998 t e k n ht he hs A B hA hB]; rfl
theorem run_neq_ints (w : World) (t e : TypeId) (k : IntKind) (n : Nat) (ht : P.underlying t = some (.array n e)) (he : P.underlying e = some (.int k)) (hs : (P.info? e).map (·.size) = some 1)
    (A B : List Int) (hA : A.length = n) (hB : B.length = n) : (binOp .neq t (.agg (ints k A)) (.agg (ints k B))).run P w = .ok (.bool (!decide (A = B))) w := by
  rw [run_neq_struct, run_equalIn_ints w 9998 t e k n ht he hs A B hA hB]; rfl
theorem bytes_inj {a b : List UInt8} : (a.map fun x => (x.toNat : Int)) = (b.map fun x => (x.toNat : Int)) ↔ a = b := by
  constructor
  · intro h
    have := List.map_inj_right (f := fun x : UInt8 => (x.toNat : Int)) (fun x y hxy => UInt8.toNat_inj.1 (by have h : (x.toNat : Int) = (y.toNat : Int) := hxy; omega)) (l := a) (l' := b)
    exact this.1 h
  · rintro rfl; rfl
theorem run_eql_blk (w : World) (t e : TypeId) (n : Nat) (ht : P.underlying t = some (.array n e)) (he : P.underlying e = some (.int .u8)) (hs : (P.info? e).map (·.size) = some 1)
    (a b : List UInt8) (ha : a.length = n) (hb : b.length = n) : (binOp .eql t (.agg (blk a)) (.agg (blk b))).run P w = .ok (.bool (decide (a = b))) w := by
  rw [blk_ints, blk_ints, run_eql_ints w t e .u8 n ht he hs _ _ (by simpa using ha) (by simpa using hb)]
  simp only [bytes_inj]
theorem run_neq_blk (w : World) (t e : TypeId) (n : Nat) (ht : P.underlying t = some (.array n e)) (he : P.underlying e = some (.int .u8)) (hs : (P.info? e).map (·.size) = some 1)
    (a b : List UInt8) (ha : a.length = n) (hb : b.length = n) : (binOp .neq t (.agg (blk a)) (.agg (blk b))).run P w = .ok (.bool (!decide (a = b))) w := by
  rw [blk_ints, blk_ints, run_neq_ints w t e .u8 n ht he hs _ _ (by simpa using ha) (by simpa using hb)]
  simp only [bytes_inj]

/-! ### Bytes as a string -/
theorem foldl_push (l : List UInt8) : ∀ (r : ByteArray), (l.map fun x => (x.toNat : Int)).foldl (fun (r : ByteArray) n => r.push (UInt8.ofNat n.toNat)) r = ⟨r.data ++ l.toArray⟩ := by
  induction l with
  | nil => intro r; simp
  | cons c l ih =>
    intro r
    simp only [List.map_cons, List.foldl_cons, ih]
    congr 1
    simp [ByteArray.push]
theorem run_bytes_str (w : World) (src dst e : TypeId) (a : Addr) (n c : Nat) (hs : P.underlying src = some (.slice e)) (he : P.underlying e = some (.int .u8)) (hd : P.underlying dst = some .string)
    (l : List UInt8) (hl : l.length = n) (hc : ∀ j v, (l.map vu8)[j]? = some v → w.cell? (a.add j) = some v) :
    (convert src dst (.slice (some a) n c)).run P w = .ok (.string ⟨l.toArray⟩) w := by
  subst hl
  have h : (loadCells a l.length).run P w = .ok ((l.map fun x => (x.toNat : Int)).map (Value.int .u8)).toArray w := by
    have := run_loadCells_list (P := P) w a (l.map vu8) hc
    have e : (l.map fun x => (x.toNat : Int)).map (Value.int .u8) = l.map vu8 := by simp [vu8]
    rw [e]
    simpa using this
  rw [run_convert_bytes_string w src dst e _ _ _ hs he hd, run_bytesToString w a l.length c _ h, foldl_push]
  have : ByteArray.empty.data = #[] := rfl
  rw [this, Array.empty_append]
end
end Go.Proofs.YtnphgaiiiiknpaaDoor
