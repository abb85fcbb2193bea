/- A region that draws its order and whose callees make memory: one walk in the order of the text, the world one of a class C. Over any program. More steps of the quiet walk: the address of an element, a load of one cell. Over any program. The quiet walk's steps over a sealed goal. Over any program. More steps of the sealed quiet walk: a slice of an array, some bytes as a string, an element. Over any program. A region that draws its order: its first operations quiet in a class of worlds, in whatever order; then a tail in one forced order, which may make memory. Over any program. (Beside the library's law for a head that leaves the world alone.) -/
import Derived.Test.YtnphgaiiiiknpaaDoorLib
import Derived.StillTail
namespace Go.Proofs.YtnphgaiiiiknpaaDoor
open Go.RowKit
section
variable {P : Program} {ops : Array Oper} {C : World → Prop} {Q : Act → Prop} {rest : List Oper} {o : Oper} {a : Act}
theorem wq_want (hw : Region.wanted o (yielded ops a.tmps) = true) (h : o.quiet P a C (wpQuiet P ops C Q rest)) : wpQuiet P ops C Q (o :: rest) a := by
  unfold wpQuiet; rw [if_pos hw]; exact h
theorem wq_skip (hw : Region.wanted o (yielded ops a.tmps) = false) (h : wpQuiet P ops C Q rest (a.put o.dst undef)) : wpQuiet P ops C Q (o :: rest) a := by
  unfold wpQuiet; rw [if_neg (by rw [hw]; exact Bool.false_ne_true)]; exact h
theorem wq_val (v : Value) (hw : Region.wanted o (yielded ops a.tmps) = true) (hrun : ∀ w, C w → (execOp a.eval o).run P w = .ok (.value v) w)
    (h : wpQuiet P ops C Q rest (a.put o.dst v)) : wpQuiet P ops C Q (o :: rest) a :=
  wq_want hw ⟨v, fun w hC => by unfold Oper.quietAt; rw [hrun w hC]; exact ⟨rfl, rfl⟩, h⟩
theorem wq_move (x : Operand) (hw : Region.wanted o (yielded ops a.tmps) = true) (ho : o.op = .move x) (h : wpQuiet P ops C Q rest (a.put o.dst (a.eval x))) : wpQuiet P ops C Q (o :: rest) a :=
  wq_val _ hw (fun w _ => by unfold execOp; rw [ho]; rfl) h
theorem wq_assign (x : Operand) (hw : Region.wanted o (yielded ops a.tmps) = true) (ho : o.op = .assign x) (h : wpQuiet P ops C Q rest (a.put o.dst (a.eval x))) : wpQuiet P ops C Q (o :: rest) a :=
  wq_val _ hw (fun w _ => by unfold execOp; rw [ho]; rfl) h
theorem wq_pick (t : Bool) (c x y : Operand) (hw : Region.wanted o (yielded ops a.tmps) = true) (ho : o.op = .pick c x y) (hc : a.eval c = .bool t)
    (h : wpQuiet P ops C Q rest (a.put o.dst (if t then a.eval x else a.eval y))) : wpQuiet P ops C Q (o :: rest) a :=
  wq_val _ hw (fun w _ => by unfold execOp; rw [ho]; simp [hc, asBool]) h
theorem wq_load_row (ty : TypeId) (x : Operand) (g : Nat) (t : TypeId) (cs : Array Value) (fr : Nat × Nat) (d : TypeDesc) (hw : Region.wanted o (yielded ops a.tmps) = true) (ho : o.op = .load ty x)
    (hx : a.eval x = .pointer (some ⟨g, 0, none⟩)) (hg : ∀ w, C w → w.heap[g]? = some (.cells cs t fr))
    (hu : P.underlying ty = some d) (hd : (match d with | .struct _ | .array _ _ => true | _ => false) = true) (hi : (P.info? ty).map (·.size) = some cs.size)
    (h : wpQuiet P ops C Q rest (a.put o.dst (.agg cs))) : wpQuiet P ops C Q (o :: rest) a :=
  wq_val _ hw (fun w hC => by
    unfold execOp
    simp only [ho, hx, Instr.loadAt, Instr.sureAddr, Sem.run_bind, Sem.run_pure, Result.andThen_ok, run_loadVar_row w g t ty cs fr d (hg w hC) hu hd hi]) h
theorem wq_eql (op : BinOp) (r : Bool) (t ty : TypeId) (x y : Operand) (hw : Region.wanted o (yielded ops a.tmps) = true) (ho : o.op = .binOp op t x y ty)
    (cs ds : Array Value) (hx : a.eval x = .agg cs) (hy : a.eval y = .agg ds) (hm : P.eqGuardType P.depth t = false)
    (hrun : ∀ w, (binOp op t (.agg cs) (.agg ds)).run P w = .ok (.bool r) w) (h : wpQuiet P ops C Q rest (a.put o.dst (.bool r))) : wpQuiet P ops C Q (o :: rest) a :=
  wq_val _ hw (fun w _ => by
    unfold execOp
    simp only [ho, hx, hy, Sem.run_bind, run_eqGuard_agg w op t x y cs ds hm, Result.andThen_ok, hrun, Sem.run_pure]) h
theorem wq_bin (v : Value) (op : BinOp) (t ty : TypeId) (x y : Operand) (hw : Region.wanted o (yielded ops a.tmps) = true) (ho : o.op = .binOp op t x y ty)
    (hrun : ∀ w, (do eqGuard op t x y (a.eval x) (a.eval y); binOp op t (a.eval x) (a.eval y) : Sem Value).run P w = .ok v w) (h : wpQuiet P ops C Q rest (a.put o.dst v)) : wpQuiet P ops C Q (o :: rest) a :=
  wq_val _ hw (fun w _ => by
    unfold execOp
    have := hrun w
    simp only [ho, Sem.run_bind, Sem.run_pure] at this ⊢
    rw [this]
    rfl) h
theorem wq_call (f : FuncId) (xs : List Operand) (ts : Array TypeId) (v : Value) (fn : Func) (c : Code) (hw : Region.wanted o (yielded ops a.tmps) = true)
    (ho : o.op = .call { callee := .value (.func f), args := xs.toArray, argTypes := ts }) (hf : P.funcs[f]? = some fn) (hb : fn.body = some c) (hn : (fn.name == "runtime.NumGoroutine") = false)
    (hc : ∀ w, C w → Calls P f (xs.map a.eval).toArray w fun e w'' => e = .returned v ∧ C w'')
    (h : wpQuiet P ops C Q rest (a.put o.dst v)) : wpQuiet P ops C Q (o :: rest) a :=
  wq_want hw ⟨v, fun w hC => by
    unfold Oper.quietAt
    have : (execOp a.eval o).run P w = .ok (.enter f (xs.map a.eval).toArray) w := by
      unfold execOp
      simp only [ho, resolve]
      show ((do let d ← Deferred.ofValue (.func (.func f) #[] #[]) (xs.toArray.map a.eval); invoke d.target d.args) : Sem Next).run P w = _
      have hn' : ¬ fn.name = "runtime.NumGoroutine" := by simpa using hn
      simp [Deferred.ofValue, invoke, callFunc, hf, hb, hn']
    rw [this]
    exact ⟨rfl, hc w hC⟩, h⟩
theorem run_eq_int {P : Program} (w : World) (t : TypeId) (k : IntKind) (m n : Int) : (binOp .eql t (.int k m) (.int k n)).run P w = .ok (.bool (m == n)) w := by
  simp [binOp, Op.intCmp]
theorem wq_eql_int (r : Bool) (t ty : TypeId) (x y : Operand) (k : IntKind) (m n : Int) (hw : Region.wanted o (yielded ops a.tmps) = true) (ho : o.op = .binOp .eql t x y ty)
    (hx : a.eval x = .int k m) (hy : a.eval y = .int k n) (hr : (m == n) = r) (h : wpQuiet P ops C Q rest (a.put o.dst (.bool r))) : wpQuiet P ops C Q (o :: rest) a :=
  wq_bin _ .eql t ty x y hw ho (fun w => by simp [hx, hy, eqGuard, run_eq_int, hr]) h
theorem wq_eql_bool (r : Bool) (t ty : TypeId) (x y : Operand) (m n : Bool) (hw : Region.wanted o (yielded ops a.tmps) = true) (ho : o.op = .binOp .eql t x y ty) (ht : P.underlying t = some .bool)
    (hx : a.eval x = .bool m) (hy : a.eval y = .bool n) (hr : (m == n) = r) (h : wpQuiet P ops C Q rest (a.put o.dst (.bool r))) : wpQuiet P ops C Q (o :: rest) a :=
  wq_bin _ .eql t ty x y hw ho (fun w => by
    have : (binOp .eql t (.bool m) (.bool n)).run P w = .ok (.bool (m == n)) w := by simp [binOp, Op.equal, Op.maxDepth, run_equalIn_bool' w 9999 t m n ht]
    simp [hx, hy, eqGuard, this, hr]) h
theorem wq_not (r : Bool) (t : TypeId) (x : Operand) (hw : Region.wanted o (yielded ops a.tmps) = true) (ho : o.op = .unOp .not t x)
    (hx : a.eval x = .bool r) (h : wpQuiet P ops C Q rest (a.put o.dst (.bool (!r)))) : wpQuiet P ops C Q (o :: rest) a :=
  wq_val _ hw (fun w _ => by unfold execOp; simp only [ho, hx]; rfl) h
theorem wpList_eql {w : World} {Q : Exit → Act → World → Prop} (op : BinOp) (r : Bool) (t ty : TypeId) (x y : Operand) (hgd : o.guard = none) (ho : o.op = .binOp op t x y ty)
    (cs ds : Array Value) (hx : a.eval x = .agg cs) (hy : a.eval y = .agg ds) (hm : P.eqGuardType P.depth t = false)
    (hrun : ∀ w, (binOp op t (.agg cs) (.agg ds)).run P w = .ok (.bool r) w) (h : wpList P ops Q rest (a.put o.dst (.bool r)) w) : wpList P ops Q (o :: rest) a w :=
  wpList_plain hgd fun _ hK => by
    unfold Oper.wp execOp
    simp only [ho, hx, hy, Sem.run_bind, run_eqGuard_agg w op t x y cs ds hm, Result.andThen_ok, hrun, Sem.run_pure]
    exact hK _ _ h
theorem wq_xor (t ty : TypeId) (x y : Operand) (m n : BitVec 32) (hw : Region.wanted o (yielded ops a.tmps) = true) (ho : o.op = .binOp .xor t x y ty)
    (hx : a.eval x = .int .u32 (m.toNat : Int)) (hy : a.eval y = .int .u32 (n.toNat : Int)) (h : wpQuiet P ops C Q rest (a.put o.dst (.int .u32 ((m ^^^ n).toNat : Int)))) : wpQuiet P ops C Q (o :: rest) a :=
  wq_bin _ .xor t ty x y hw ho (fun w => by
    have hb : bits .xor .u32 (m.toNat : Int) (n.toNat : Int) = ((m ^^^ n).toNat : Int) := by rw [u32_xor_nat m.toNat n.toNat m.isLt n.isLt, BitVec.toNat_xor]
    have h1 : (binOp .xor t (.int .u32 (m.toNat : Int)) (.int .u32 (n.toNat : Int))).run P w = .ok (.int .u32 (bits .xor .u32 (m.toNat : Int) (n.toNat : Int))) w := rfl
    rw [hb] at h1
    have h0 : (eqGuard .xor t x y (.int .u32 (m.toNat : Int)) (.int .u32 (n.toNat : Int))).run P w = .ok () w := rfl
    simp only [hx, hy, Sem.run_bind, h0, Result.andThen_ok, h1]) h
theorem wq_slice_str (n : Nat) (s : ByteArray) (k : IntKind) (t : TypeId) (x hi : Operand) (hw : Region.wanted o (yielded ops a.tmps) = true) (ho : o.op = .slice t x none (some hi) none) (ht : P.underlying t = some .string)
    (hx : a.eval x = .string s) (hh : a.eval hi = .int k (n : Int)) (hn : n ≤ s.size) (h : wpQuiet P ops C Q rest (a.put o.dst (.string (s.extract 0 n)))) : wpQuiet P ops C Q (o :: rest) a :=
  wq_val _ hw (fun w _ => by
    unfold execOp
    simp only [ho, hx, Option.map_some, Option.map_none, hh]
    simp [Instr.sliceAt, Instr.slice, run_underlying ht, Instr.sliceBounds, Instr.sliceBound, asIntOf, hn]) h
theorem wq_bytes_str (src dst e : TypeId) (x : Operand) (g n c : Nat) (et : TypeId) (l : List UInt8) (hw : Region.wanted o (yielded ops a.tmps) = true) (ho : o.op = .convert src dst x)
    (hx : a.eval x = .slice (some ⟨g, 0, none⟩) n c) (hs : P.underlying src = some (.slice e)) (he : P.underlying e = some (.int .u8)) (hd : P.underlying dst = some .string)
    (hl : l.length = n) (hg : ∀ w, C w → w.heap[g]? = some (.cells (blk l) et (0, 0))) (h : wpQuiet P ops C Q rest (a.put o.dst (.string ⟨l.toArray⟩))) : wpQuiet P ops C Q (o :: rest) a :=
  wq_val _ hw (fun w hC => by
    unfold execOp
    simp only [ho, hx, Sem.run_bind, run_bytes_str w src dst e ⟨g, 0, none⟩ n c hs he hd l hl (fun j v hj => by
      rw [Addr.add_lit, Nat.zero_add, cell_of_row w g j _ _ _ (hg w hC)]
      simpa [blk] using hj), Result.andThen_ok, Sem.run_pure]) h
theorem run_eql_string (w : World) (t : TypeId) (a b : ByteArray) : (binOp .eql t (.string a) (.string b)).run P w = .ok (.bool (a.toList == b.toList)) w := by
  simp [binOp, Op.stringOp]
theorem run_neq_string (w : World) (t : TypeId) (a b : ByteArray) : (binOp .neq t (.string a) (.string b)).run P w = .ok (.bool (!(a.toList == b.toList))) w := by
  simp [binOp, Op.stringOp]
theorem str_beq (a b : ByteArray) : (a.toList == b.toList) = decide (a = b) := by
  rw [ByteArray.toList_eq, ByteArray.toList_eq]
  by_cases h : a = b
  · subst h; simp
  · have : ¬ a.data.toList = b.data.toList := fun e => h (by
      cases a; cases b; congr 1; exact Array.toList_inj.1 e)
    simp [h]
    intro e
    exact this (by rw [e])
theorem wq_eql_str (r : Bool) (t ty : TypeId) (x y : Operand) (m n : ByteArray) (hw : Region.wanted o (yielded ops a.tmps) = true) (ho : o.op = .binOp .eql t x y ty)
    (hx : a.eval x = .string m) (hy : a.eval y = .string n) (hr : decide (m = n) = r) (h : wpQuiet P ops C Q rest (a.put o.dst (.bool r))) : wpQuiet P ops C Q (o :: rest) a :=
  wq_bin _ .eql t ty x y hw ho (fun w => by
    have h0 : (eqGuard .eql t x y (.string m) (.string n)).run P w = .ok () w := rfl
    simp only [hx, hy, Sem.run_bind, h0, Result.andThen_ok, run_eql_string w t, str_beq, hr]) h
theorem wq_neq_str (r : Bool) (t ty : TypeId) (x y : Operand) (m n : ByteArray) (hw : Region.wanted o (yielded ops a.tmps) = true) (ho : o.op = .binOp .neq t x y ty)
    (hx : a.eval x = .string m) (hy : a.eval y = .string n) (hr : (!decide (m = n)) = r) (h : wpQuiet P ops C Q rest (a.put o.dst (.bool r))) : wpQuiet P ops C Q (o :: rest) a :=
  wq_bin _ .neq t ty x y hw ho (fun w => by
    have h0 : (eqGuard .neq t x y (.string m) (.string n)).run P w = .ok () w := rfl
    simp only [hx, hy, Sem.run_bind, h0, Result.andThen_ok, run_neq_string w t, str_beq, hr]) h
theorem wq_neg (k : IntKind) (n m : Int) (t : TypeId) (x : Operand) (hw : Region.wanted o (yielded ops a.tmps) = true) (ho : o.op = .unOp .neg t x)
    (hx : a.eval x = .int k n) (hm : k.wrap (-n) = m) (h : wpQuiet P ops C Q rest (a.put o.dst (.int k m))) : wpQuiet P ops C Q (o :: rest) a :=
  wq_val _ hw (fun w _ => by
    have h1 : (Op.unary .neg (.int k n)).run P w = .ok (.int k (k.wrap (-n))) w := by simp [Op.unary, Op.intArith]
    unfold execOp; simp only [ho, hx, Sem.run_bind, h1, hm, Result.andThen_ok, Sem.run_pure]) h
/-- What a comparison of integers answers. -/
def cmpInt (op : BinOp) (m n : Int) : Option Bool :=
  match op with
  | .eql => some (m == n) | .neq => some (m != n) | .lss => some (decide (m < n)) | .leq => some (decide (m ≤ n)) | .gtr => some (decide (n < m)) | .geq => some (decide (n ≤ m))
  | _ => none
theorem run_cmp_int (w : World) (op : BinOp) (t : TypeId) (k : IntKind) (m n : Int) (r : Bool) (h : cmpInt op m n = some r) : (binOp op t (.int k m) (.int k n)).run P w = .ok (.bool r) w := by
  cases op <;> simp only [cmpInt, Option.some.injEq] at h <;> first | (subst h; simp [binOp, Op.intCmp]; done) | cases h
theorem wq_cmp_int (op : BinOp) (r : Bool) (t ty : TypeId) (x y : Operand) (k : IntKind) (m n : Int) (hw : Region.wanted o (yielded ops a.tmps) = true) (ho : o.op = .binOp op t x y ty)
    (hx : a.eval x = .int k m) (hy : a.eval y = .int k n) (hr : cmpInt op m n = some r) (h : wpQuiet P ops C Q rest (a.put o.dst (.bool r))) : wpQuiet P ops C Q (o :: rest) a :=
  wq_bin _ op t ty x y hw ho (fun w => by
    have h0 : (eqGuard op t x y (.int k m) (.int k n)).run P w = .ok () w := by cases op <;> rfl
    simp only [hx, hy, Sem.run_bind, h0, Result.andThen_ok, run_cmp_int w op t k m n r hr]) h
/-- The class that most regions want: what was there as the region began is as it was. -/
def Since (W w : World) : Prop := Below W.heap.size W w
theorem Since.call {f : FuncId} {args : Array Value} {W w : World} {v : Value} (hC : Since W w) (h : Calls P f args w fun e w' => e = .returned v ∧ Below w.heap.size w w') :
    Calls P f args w fun e w' => e = .returned v ∧ Since W w' := h.mono fun _ _ ⟨he, hb⟩ => ⟨he, Below.trans hC (hb.mono hC.size)⟩
theorem Since.same {f : FuncId} {args : Array Value} {W w : World} {v : Value} (hC : Since W w) (h : Calls P f args w fun e w' => e = .returned v ∧ w = w') :
    Calls P f args w fun e w' => e = .returned v ∧ Since W w' := h.mono fun _ _ ⟨he, hb⟩ => ⟨he, hb ▸ hC⟩
theorem Since.row {W w : World} {g : Nat} {ob : Obj} (hC : Since W w) (h : W.heap[g]? = some ob) : w.heap[g]? = some ob :=
  (hC.block g (Array.getElem?_eq_some_iff.1 h).1).trans h
theorem wp_region_since {id : Nat} {Q : Exit → Act → World → Prop} {a : Act} {w : World} {l : List Oper} (hm : P.follows .mixedOrders = true) (hB : Region.lexB .any l.toArray = true)
    (h : wpQuiet P l.toArray (Since w) (fun a' => ∀ w', Since w w' → Q .normal a' w') l a) : (Code.region id l.toArray true).wp P Q a w :=
  wp_region_quiet (C := Since w) hm hB ((Below.refl _ _).drew) (by simpa using h)
theorem wpList_of_quiet {Q : Exit → Act → World → Prop} : ∀ (l : List Oper) (a : Act) (w : World), C w → wpQuiet P ops C (fun a' => ∀ w', C w' → Q .normal a' w') l a → wpList P ops Q l a w
  | [], a, w, hC, h => h w hC
  | o :: l, a, w, hC, h => by
    unfold wpQuiet at h
    unfold wpList
    by_cases hw : Region.wanted o (yielded ops a.tmps) = true
    · rw [if_pos hw] at h ⊢
      exact .inl (Oper.wp_of_quiet hC (fun a' w' hC' hh => wpList_of_quiet l a' w' hC' hh) h)
    · rw [if_neg hw] at h ⊢
      exact wpList_of_quiet l _ w hC h
theorem wp_plain_since {id : Nat} {Q : Exit → Act → World → Prop} {a : Act} {w : World} {l : List Oper}
    (h : wpQuiet P l.toArray (Since w) (fun a' => ∀ w', Since w w' → Q .normal a' w') l a) : (Code.region id l.toArray false).wp P Q a w :=
  wp_region_lit (wpList_of_quiet l a w (Below.refl _ _) h)
end
end Go.Proofs.YtnphgaiiiiknpaaDoor
namespace Go.Proofs.YtnphgaiiiiknpaaDoor
open Go.RowKit
section
variable {P : Program} {ops : Array Oper} {C : World → Prop} {Q : Act → Prop} {rest : List Oper} {o : Oper} {a : Act}
theorem wq_index (t e : TypeId) (x ix : Operand) (b off n c k sz : Nat) (kk : IntKind) (hw : Region.wanted o (yielded ops a.tmps) = true) (ho : o.op = .indexAddr t x ix)
    (ht : P.underlying t = some (.slice e)) (hs : (P.info? e).map (·.size) = some sz) (hx : a.eval x = .slice (some ⟨b, off, none⟩) n c) (hi : a.eval ix = .int kk (k : Int)) (hk : k < n)
    (h : wpQuiet P ops C Q rest (a.put o.dst (.pointer (some ⟨b, off + k * sz, none⟩)))) : wpQuiet P ops C Q (o :: rest) a :=
  wq_val _ hw (fun w _ => by
    cases hq : P.info? e with
    | none => simp [hq] at hs
    | some i =>
      have hs' : i.size = sz := by simpa [hq] using hs
      have hk' : (0 : Int) ≤ (k : Int) ∧ (k : Int) < (n : Int) := by omega
      unfold execOp
      simp only [ho, hx, hi]
      simp [Instr.indexAt, asIntOf, run_underlying ht, hk', sizeOf, typeInfo, hq, hs', Addr.add, hk]) h
theorem run_loadAt_one (w : World) (ty : TypeId) (ad : Addr) (v : Value) (d : TypeDesc) (hd : (match d with | .struct _ | .array _ _ => true | _ => false) = false) (hu : P.underlying ty = some d)
    (hg : w.cell? ad = some v) : (Instr.loadAt ty (.pointer (some ad))).run P w = .ok v w := by
  have hagg : (isAgg ty).run P w = .ok false w := by
    unfold isAgg
    rw [Sem.run_bind, run_underlying hu w]
    cases d <;> simp_all
  have hl : (load ad).run P w = .ok v w := by rw [run_load, hg]
  simp only [Instr.loadAt, Instr.sureAddr, Sem.run_bind, Sem.run_pure, Result.andThen_ok, loadVar, hagg, Bool.false_eq_true, if_false, hl]
theorem wq_load1 (ty : TypeId) (x : Operand) (ad : Addr) (v : Value) (d : TypeDesc) (hd : (match d with | .struct _ | .array _ _ => true | _ => false) = false) (hw : Region.wanted o (yielded ops a.tmps) = true) (ho : o.op = .load ty x)
    (hx : a.eval x = .pointer (some ad)) (hg : ∀ w, C w → w.cell? ad = some v) (hu : P.underlying ty = some d)
    (h : wpQuiet P ops C Q rest (a.put o.dst v)) : wpQuiet P ops C Q (o :: rest) a :=
  wq_val _ hw (fun w hC => by
    unfold execOp
    simp only [ho, hx, run_loadAt_one w ty ad v d hd hu (hg w hC), Sem.run_bind, Sem.run_pure, Result.andThen_ok]) h
theorem wq_movev (x : Operand) (v : Value) (hw : Region.wanted o (yielded ops a.tmps) = true) (ho : o.op = .move x) (hv : a.eval x = v) (h : wpQuiet P ops C Q rest (a.put o.dst v)) : wpQuiet P ops C Q (o :: rest) a :=
  wq_move x hw ho (hv ▸ h)
theorem wq_assignv (x : Operand) (v : Value) (hw : Region.wanted o (yielded ops a.tmps) = true) (ho : o.op = .assign x) (hv : a.eval x = v) (h : wpQuiet P ops C Q rest (a.put o.dst v)) : wpQuiet P ops C Q (o :: rest) a :=
  wq_assign x hw ho (hv ▸ h)
theorem wq_pickt (c x y : Operand) (v : Value) (hw : Region.wanted o (yielded ops a.tmps) = true) (ho : o.op = .pick c x y) (hc : a.eval c = .bool true) (hv : a.eval x = v)
    (h : wpQuiet P ops C Q rest (a.put o.dst v)) : wpQuiet P ops C Q (o :: rest) a := wq_pick true c x y hw ho hc (by subst hv; exact h)
theorem wq_pickf (c x y : Operand) (v : Value) (hw : Region.wanted o (yielded ops a.tmps) = true) (ho : o.op = .pick c x y) (hc : a.eval c = .bool false) (hv : a.eval y = v)
    (h : wpQuiet P ops C Q rest (a.put o.dst v)) : wpQuiet P ops C Q (o :: rest) a := wq_pick false c x y hw ho hc (by subst hv; exact h)
theorem Since.cell {W w : World} {ad : Addr} {v : Value} (hC : Since W w) (h : W.cell? ad = some v) : w.cell? ad = some v :=
  (Below.cell hC (World.block_lt_of_cell? W ad h)).trans h
end
end Go.Proofs.YtnphgaiiiiknpaaDoor
namespace Go.Proofs.YtnphgaiiiiknpaaDoor
open Go.RowKit
section
variable {P : Program} {ops : Array Oper} {C : World → Prop} {Q : Act → Prop} {rest : List Oper} {o : Oper} {a : Act}
/-- The quiet walk's goal, sealed: nothing looks into it. -/
structure WQ (P : Program) (ops : Array Oper) (C : World → Prop) (Q : Act → Prop) (l : List Oper) (a : Act) : Prop where
  out : wpQuiet P ops C Q l a
theorem wk_skip (hw : Region.wanted o (yielded ops a.tmps) = false) (h : WQ P ops C Q rest (a.put o.dst undef)) : WQ P ops C Q (o :: rest) a :=
  ⟨wq_skip hw h.out⟩
theorem wk_move (x : Operand) (hw : Region.wanted o (yielded ops a.tmps) = true) (ho : o.op = .move x) (h : WQ P ops C Q rest (a.put o.dst (a.eval x))) : WQ P ops C Q (o :: rest) a :=
  ⟨wq_move x hw ho h.out⟩
theorem wk_assign (x : Operand) (hw : Region.wanted o (yielded ops a.tmps) = true) (ho : o.op = .assign x) (h : WQ P ops C Q rest (a.put o.dst (a.eval x))) : WQ P ops C Q (o :: rest) a :=
  ⟨wq_assign x hw ho h.out⟩
theorem wk_pick (t : Bool) (c x y : Operand) (hw : Region.wanted o (yielded ops a.tmps) = true) (ho : o.op = .pick c x y) (hc : a.eval c = .bool t)
    (h : WQ P ops C Q rest (a.put o.dst (if t then a.eval x else a.eval y))) : WQ P ops C Q (o :: rest) a :=
  ⟨wq_pick t c x y hw ho hc h.out⟩
theorem wk_load_row (ty : TypeId) (x : Operand) (g : Nat) (t : TypeId) (cs : Array Value) (fr : Nat × Nat) (d : TypeDesc) (hw : Region.wanted o (yielded ops a.tmps) = true) (ho : o.op = .load ty x)
    (hx : a.eval x = .pointer (some ⟨g, 0, none⟩)) (hg : ∀ w, C w → w.heap[g]? = some (.cells cs t fr))
    (hu : P.underlying ty = some d) (hd : (match d with | .struct _ | .array _ _ => true | _ => false) = true) (hi : (P.info? ty).map (·.size) = some cs.size)
    (h : WQ P ops C Q rest (a.put o.dst (.agg cs))) : WQ P ops C Q (o :: rest) a :=
  ⟨wq_load_row ty x g t cs fr d hw ho hx hg hu hd hi h.out⟩
theorem wk_eql (op : BinOp) (r : Bool) (t ty : TypeId) (x y : Operand) (hw : Region.wanted o (yielded ops a.tmps) = true) (ho : o.op = .binOp op t x y ty)
    (cs ds : Array Value) (hx : a.eval x = .agg cs) (hy : a.eval y = .agg ds) (hm : P.eqGuardType P.depth t = false)
    (hrun : ∀ w, (binOp op t (.agg cs) (.agg ds)).run P w = .ok (.bool r) w) (h : WQ P ops C Q rest (a.put o.dst (.bool r))) : WQ P ops C Q (o :: rest) a :=
  ⟨wq_eql op r t ty x y hw ho cs ds hx hy hm hrun h.out⟩
theorem wk_call (f : FuncId) (xs : List Operand) (ts : Array TypeId) (v : Value) (fn : Func) (c : Code) (hw : Region.wanted o (yielded ops a.tmps) = true)
    (ho : o.op = .call { callee := .value (.func f), args := xs.toArray, argTypes := ts }) (hf : P.funcs[f]? = some fn) (hb : fn.body = some c) (hn : (fn.name == "runtime.NumGoroutine") = false)
    (hc : ∀ w, C w → Calls P f (xs.map a.eval).toArray w fun e w'' => e = .returned v ∧ C w'')
    (h : WQ P ops C Q rest (a.put o.dst v)) : WQ P ops C Q (o :: rest) a :=
  ⟨wq_call f xs ts v fn c hw ho hf hb hn hc h.out⟩
theorem wk_eql_int (r : Bool) (t ty : TypeId) (x y : Operand) (k : IntKind) (m n : Int) (hw : Region.wanted o (yielded ops a.tmps) = true) (ho : o.op = .binOp .eql t x y ty)
    (hx : a.eval x = .int k m) (hy : a.eval y = .int k n) (hr : (m == n) = r) (h : WQ P ops C Q rest (a.put o.dst (.bool r))) : WQ P ops C Q (o :: rest) a :=
  ⟨wq_eql_int r t ty x y k m n hw ho hx hy hr h.out⟩
theorem wk_eql_bool (r : Bool) (t ty : TypeId) (x y : Operand) (m n : Bool) (hw : Region.wanted o (yielded ops a.tmps) = true) (ho : o.op = .binOp .eql t x y ty) (ht : P.underlying t = some .bool)
    (hx : a.eval x = .bool m) (hy : a.eval y = .bool n) (hr : (m == n) = r) (h : WQ P ops C Q rest (a.put o.dst (.bool r))) : WQ P ops C Q (o :: rest) a :=
  ⟨wq_eql_bool r t ty x y m n hw ho ht hx hy hr h.out⟩
theorem wk_not (r : Bool) (t : TypeId) (x : Operand) (hw : Region.wanted o (yielded ops a.tmps) = true) (ho : o.op = .unOp .not t x)
    (hx : a.eval x = .bool r) (h : WQ P ops C Q rest (a.put o.dst (.bool (!r)))) : WQ P ops C Q (o :: rest) a :=
  ⟨wq_not r t x hw ho hx h.out⟩
theorem wk_xor (t ty : TypeId) (x y : Operand) (m n : BitVec 32) (hw : Region.wanted o (yielded ops a.tmps) = true) (ho : o.op = .binOp .xor t x y ty)
    (hx : a.eval x = .int .u32 (m.toNat : Int)) (hy : a.eval y = .int .u32 (n.toNat : Int)) (h : WQ P ops C Q rest (a.put o.dst (.int .u32 ((m ^^^ n).toNat : Int)))) : WQ P ops C Q (o :: rest) a :=
  ⟨wq_xor t ty x y m n hw ho hx hy h.out⟩
theorem wk_slice_str (n : Nat) (s : ByteArray) (k : IntKind) (t : TypeId) (x hi : Operand) (hw : Region.wanted o (yielded ops a.tmps) = true) (ho : o.op = .slice t x none (some hi) none) (ht : P.underlying t = some .string)
    (hx : a.eval x = .string s) (hh : a.eval hi = .int k (n : Int)) (hn : n ≤ s.size) (h : WQ P ops C Q rest (a.put o.dst (.string (s.extract 0 n)))) : WQ P ops C Q (o :: rest) a :=
  ⟨wq_slice_str n s k t x hi hw ho ht hx hh hn h.out⟩
theorem wk_bytes_str (src dst e : TypeId) (x : Operand) (g n c : Nat) (et : TypeId) (l : List UInt8) (hw : Region.wanted o (yielded ops a.tmps) = true) (ho : o.op = .convert src dst x)
    (hx : a.eval x = .slice (some ⟨g, 0, none⟩) n c) (hs : P.underlying src = some (.slice e)) (he : P.underlying e = some (.int .u8)) (hd : P.underlying dst = some .string)
    (hl : l.length = n) (hg : ∀ w, C w → w.heap[g]? = some (.cells (blk l) et (0, 0))) (h : WQ P ops C Q rest (a.put o.dst (.string ⟨l.toArray⟩))) : WQ P ops C Q (o :: rest) a :=
  ⟨wq_bytes_str src dst e x g n c et l hw ho hx hs he hd hl hg h.out⟩
theorem wk_eql_str (r : Bool) (t ty : TypeId) (x y : Operand) (m n : ByteArray) (hw : Region.wanted o (yielded ops a.tmps) = true) (ho : o.op = .binOp .eql t x y ty)
    (hx : a.eval x = .string m) (hy : a.eval y = .string n) (hr : decide (m = n) = r) (h : WQ P ops C Q rest (a.put o.dst (.bool r))) : WQ P ops C Q (o :: rest) a :=
  ⟨wq_eql_str r t ty x y m n hw ho hx hy hr h.out⟩
theorem wk_neq_str (r : Bool) (t ty : TypeId) (x y : Operand) (m n : ByteArray) (hw : Region.wanted o (yielded ops a.tmps) = true) (ho : o.op = .binOp .neq t x y ty)
    (hx : a.eval x = .string m) (hy : a.eval y = .string n) (hr : (!decide (m = n)) = r) (h : WQ P ops C Q rest (a.put o.dst (.bool r))) : WQ P ops C Q (o :: rest) a :=
  ⟨wq_neq_str r t ty x y m n hw ho hx hy hr h.out⟩
theorem wk_neg (k : IntKind) (n m : Int) (t : TypeId) (x : Operand) (hw : Region.wanted o (yielded ops a.tmps) = true) (ho : o.op = .unOp .neg t x)
    (hx : a.eval x = .int k n) (hm : k.wrap (-n) = m) (h : WQ P ops C Q rest (a.put o.dst (.int k m))) : WQ P ops C Q (o :: rest) a :=
  ⟨wq_neg k n m t x hw ho hx hm h.out⟩
theorem wk_cmp_int (op : BinOp) (r : Bool) (t ty : TypeId) (x y : Operand) (k : IntKind) (m n : Int) (hw : Region.wanted o (yielded ops a.tmps) = true) (ho : o.op = .binOp op t x y ty)
    (hx : a.eval x = .int k m) (hy : a.eval y = .int k n) (hr : cmpInt op m n = some r) (h : WQ P ops C Q rest (a.put o.dst (.bool r))) : WQ P ops C Q (o :: rest) a :=
  ⟨wq_cmp_int op r t ty x y k m n hw ho hx hy hr h.out⟩
theorem wk_index (t e : TypeId) (x ix : Operand) (b off n c k sz : Nat) (kk : IntKind) (hw : Region.wanted o (yielded ops a.tmps) = true) (ho : o.op = .indexAddr t x ix)
    (ht : P.underlying t = some (.slice e)) (hs : (P.info? e).map (·.size) = some sz) (hx : a.eval x = .slice (some ⟨b, off, none⟩) n c) (hi : a.eval ix = .int kk (k : Int)) (hk : k < n)
    (h : WQ P ops C Q rest (a.put o.dst (.pointer (some ⟨b, off + k * sz, none⟩)))) : WQ P ops C Q (o :: rest) a :=
  ⟨wq_index t e x ix b off n c k sz kk hw ho ht hs hx hi hk h.out⟩
theorem wk_load1 (ty : TypeId) (x : Operand) (ad : Addr) (v : Value) (d : TypeDesc) (hd : (match d with | .struct _ | .array _ _ => true | _ => false) = false) (hw : Region.wanted o (yielded ops a.tmps) = true) (ho : o.op = .load ty x)
    (hx : a.eval x = .pointer (some ad)) (hg : ∀ w, C w → w.cell? ad = some v) (hu : P.underlying ty = some d)
    (h : WQ P ops C Q rest (a.put o.dst v)) : WQ P ops C Q (o :: rest) a :=
  ⟨wq_load1 ty x ad v d hd hw ho hx hg hu h.out⟩
theorem wk_val (v : Value) (hw : Region.wanted o (yielded ops a.tmps) = true) (hrun : ∀ w, C w → (execOp a.eval o).run P w = .ok (.value v) w)
    (h : WQ P ops C Q rest (a.put o.dst v)) : WQ P ops C Q (o :: rest) a :=
  ⟨wq_val v hw hrun h.out⟩
theorem wk_bin (v : Value) (op : BinOp) (t ty : TypeId) (x y : Operand) (hw : Region.wanted o (yielded ops a.tmps) = true) (ho : o.op = .binOp op t x y ty)
    (hrun : ∀ w, (do eqGuard op t x y (a.eval x) (a.eval y); binOp op t (a.eval x) (a.eval y) : Sem Value).run P w = .ok v w) (h : WQ P ops C Q rest (a.put o.dst v)) : WQ P ops C Q (o :: rest) a :=
  ⟨wq_bin v op t ty x y hw ho hrun h.out⟩
theorem wk_movev (x : Operand) (v : Value) (hw : Region.wanted o (yielded ops a.tmps) = true) (ho : o.op = .move x) (hv : a.eval x = v) (h : WQ P ops C Q rest (a.put o.dst v)) : WQ P ops C Q (o :: rest) a :=
  ⟨wq_movev x v hw ho hv h.out⟩
theorem wk_assignv (x : Operand) (v : Value) (hw : Region.wanted o (yielded ops a.tmps) = true) (ho : o.op = .assign x) (hv : a.eval x = v) (h : WQ P ops C Q rest (a.put o.dst v)) : WQ P ops C Q (o :: rest) a :=
  ⟨wq_assignv x v hw ho hv h.out⟩
theorem wk_pickt (c x y : Operand) (v : Value) (hw : Region.wanted o (yielded ops a.tmps) = true) (ho : o.op = .pick c x y) (hc : a.eval c = .bool true) (hv : a.eval x = v)
    (h : WQ P ops C Q rest (a.put o.dst v)) : WQ P ops C Q (o :: rest) a :=
  ⟨wq_pickt c x y v hw ho hc hv h.out⟩
theorem wk_pickf (c x y : Operand) (v : Value) (hw : Region.wanted o (yielded ops a.tmps) = true) (ho : o.op = .pick c x y) (hc : a.eval c = .bool false) (hv : a.eval y = v)
    (h : WQ P ops C Q rest (a.put o.dst v)) : WQ P ops C Q (o :: rest) a :=
  ⟨wq_pickf c x y v hw ho hc hv h.out⟩
theorem wk_len_slice (t e : TypeId) (x : Operand) (A : Option Addr) (n c : Nat) (ht : P.underlying t = some (.slice e)) (hw : Region.wanted o (yielded ops a.tmps) = true) (ho : o.op = .call { callee := .builtin .len, args := #[x], argTypes := #[t] })
    (hx : a.eval x = .slice A n c) (h : WQ P ops C Q rest (a.put o.dst (.int .i64 n))) : WQ P ops C Q (o :: rest) a :=
  wk_val _ hw (fun w _ => by
    unfold execOp
    simp [ho, hx, resolve, invoke, builtin, Builtin.len_, run_underlying ht, goInt]) h
theorem wk_nil (h : Q a) : WQ P ops C Q [] a := ⟨wpQuiet_nil h⟩
theorem wk_region_since {id : Nat} {Q : Exit → Act → World → Prop} {a : Act} {w : World} {l : List Oper} (hm : P.follows .mixedOrders = true) (hB : Region.lexB .any l.toArray = true)
    (h : WQ P l.toArray (Since w) (fun a' => ∀ w', Since w w' → Q .normal a' w') l a) : (Code.region id l.toArray true).wp P Q a w := wp_region_since hm hB h.out
theorem wk_plain_since {id : Nat} {Q : Exit → Act → World → Prop} {a : Act} {w : World} {l : List Oper}
    (h : WQ P l.toArray (Since w) (fun a' => ∀ w', Since w w' → Q .normal a' w') l a) : (Code.region id l.toArray false).wp P Q a w := wp_plain_since h.out
end
end Go.Proofs.YtnphgaiiiiknpaaDoor
namespace Go.Proofs.YtnphgaiiiiknpaaDoor
open Go.RowKit
set_option linter.unusedSimpArgs false
section
variable {P : Program} {ops : Array Oper} {C : World → Prop} {Q : Act → Prop} {rest : List Oper} {o : Oper} {a : Act}
theorem wanted_none (h : o.guard = none) : Region.wanted o (yielded ops a.tmps) = true := by simp [Region.wanted, h]
theorem wanted_yes (j : Nat) (b : Bool) (h : o.guard = some (j, b)) (hy : ((ops[j]?).bind (·.dst)).bind (a.tmps[·]?) = some (.bool b)) : Region.wanted o (yielded ops a.tmps) = true := by
  unfold Region.wanted yielded; rw [h]; simp only [hy]; simp
theorem wanted_not (j : Nat) (b c : Bool) (hbc : (c != b) = true) (h : o.guard = some (j, b)) (hy : ((ops[j]?).bind (·.dst)).bind (a.tmps[·]?) = some (.bool c)) : Region.wanted o (yielded ops a.tmps) = false := by
  unfold Region.wanted yielded; rw [h]; simp only [hy]
  cases b <;> cases c <;> simp_all
theorem wanted_undef (j : Nat) (b : Bool) (h : o.guard = some (j, b)) (hy : ((ops[j]?).bind (·.dst)).bind (a.tmps[·]?) = some undef) : Region.wanted o (yielded ops a.tmps) = false := by
  unfold Region.wanted yielded; rw [h]; simp only [hy]; simp [undef]
theorem wk_neq_bool (r : Bool) (t ty : TypeId) (x y : Operand) (m n : Bool) (hw : Region.wanted o (yielded ops a.tmps) = true) (ho : o.op = .binOp .neq t x y ty) (ht : P.underlying t = some .bool)
    (hx : a.eval x = .bool m) (hy : a.eval y = .bool n) (hr : (m != n) = r) (h : WQ P ops C Q rest (a.put o.dst (.bool r))) : WQ P ops C Q (o :: rest) a :=
  wk_bin _ .neq t ty x y hw ho (fun w => by
    have : (binOp .neq t (.bool m) (.bool n)).run P w = .ok (.bool (m != n)) w := by simp [binOp, Op.equal, Op.maxDepth, run_equalIn_bool' w 9999 t m n ht]; cases m <;> cases n <;> rfl
    simp [hx, hy, eqGuard, this, hr]) h
/-- A call of a function value that is a bare function. -/
theorem wk_callv (f : FuncId) (z : Operand) (xs : List Operand) (ts : Array TypeId) (v : Value) (fn : Func) (c : Code) (hw : Region.wanted o (yielded ops a.tmps) = true)
    (ho : o.op = .call { callee := .value z, args := xs.toArray, argTypes := ts }) (hz : a.eval z = .func (.func f) #[] #[]) (hf : P.funcs[f]? = some fn) (hb : fn.body = some c) (hn : (fn.name == "runtime.NumGoroutine") = false)
    (hc : ∀ w, C w → Calls P f (xs.map a.eval).toArray w fun e w'' => e = .returned v ∧ C w'')
    (h : WQ P ops C Q rest (a.put o.dst v)) : WQ P ops C Q (o :: rest) a :=
  ⟨wq_want hw ⟨v, fun w hC => by
    unfold Oper.quietAt
    have : (execOp a.eval o).run P w = .ok (.enter f (xs.map a.eval).toArray) w := by
      unfold execOp
      simp only [ho, resolve, hz]
      show ((do let d ← Deferred.ofValue (.func (.func f) #[] #[]) (xs.toArray.map a.eval); invoke d.target d.args) : Sem Next).run P w = _
      have hn' : ¬ fn.name = "runtime.NumGoroutine" := by simpa using hn
      simp [Deferred.ofValue, invoke, callFunc, hf, hb, hn']
    rw [this]
    exact ⟨rfl, hc w hC⟩, h.out⟩⟩
/-- b[lo:hi] of a slice. -/
theorem wk_slice2 (lo hi n cap : Nat) (k k' : IntKind) (t e : TypeId) (x l h' : Operand) (g off : Nat) (hw : Region.wanted o (yielded ops a.tmps) = true) (ho : o.op = .slice t x (some l) (some h') none) (ht : P.underlying t = some (.slice e))
    (hs : (P.info? e).map (·.size) = some 1) (hx : a.eval x = .slice (some ⟨g, off, none⟩) n cap) (hl : a.eval l = .int k (lo : Int)) (hh : a.eval h' = .int k' (hi : Int)) (h1 : lo ≤ hi) (h2 : hi ≤ cap) (h3 : lo < cap)
    (h : WQ P ops C Q rest (a.put o.dst (.slice (some ⟨g, off + lo, none⟩) (hi - lo) (cap - lo)))) : WQ P ops C Q (o :: rest) a :=
  wk_val _ hw (fun w _ => by
    obtain ⟨f, hf, hf1⟩ : ∃ f, P.info? e = some f ∧ f.size = 1 := by
      cases hq : P.info? e with
      | none => simp [hq] at hs
      | some f => exact ⟨f, rfl, by simpa [hq] using hs⟩
    have h0 : ¬ cap = lo := by omega
    unfold execOp
    simp only [ho, hx, Option.map_some, Option.map_none, hl, hh]
    simp [Instr.sliceAt, Instr.slice, run_underlying ht, Instr.sliceBounds, Instr.sliceBound, asIntOf, h1, h2, sizeOf, typeInfo, hf, hf1, Addr.add_lit, h0]) h
/-- A sum, a difference of int, which is in range. -/
theorem wk_add (t ty : TypeId) (x y : Operand) (m n z : Int) (hw : Region.wanted o (yielded ops a.tmps) = true) (ho : o.op = .binOp .add t x y ty) (hx : a.eval x = .int .i64 m) (hy : a.eval y = .int .i64 n) (hz : IntKind.i64.wrap (m + n) = z)
    (h : WQ P ops C Q rest (a.put o.dst (.int .i64 z))) : WQ P ops C Q (o :: rest) a :=
  wk_bin _ .add t ty x y hw ho (fun w => by
    have h1 : (binOp .add t (.int .i64 m) (.int .i64 n)).run P w = .ok (.int .i64 (IntKind.i64.wrap (m + n))) w := rfl
    have h0 : (eqGuard .add t x y (.int .i64 m) (.int .i64 n)).run P w = .ok () w := rfl
    simp only [hx, hy, Sem.run_bind, h0, Result.andThen_ok, h1, hz]) h
theorem wk_sub (t ty : TypeId) (x y : Operand) (m n z : Int) (hw : Region.wanted o (yielded ops a.tmps) = true) (ho : o.op = .binOp .sub t x y ty) (hx : a.eval x = .int .i64 m) (hy : a.eval y = .int .i64 n) (hz : IntKind.i64.wrap (m - n) = z)
    (h : WQ P ops C Q rest (a.put o.dst (.int .i64 z))) : WQ P ops C Q (o :: rest) a :=
  wk_bin _ .sub t ty x y hw ho (fun w => by
    have h1 : (binOp .sub t (.int .i64 m) (.int .i64 n)).run P w = .ok (.int .i64 (IntKind.i64.wrap (m - n))) w := rfl
    have h0 : (eqGuard .sub t x y (.int .i64 m) (.int .i64 n)).run P w = .ok () w := rfl
    simp only [hx, hy, Sem.run_bind, h0, Result.andThen_ok, h1, hz]) h
/-- A pointer is not nil; a field's address; a part of a tuple. -/
theorem wk_nilcheck (x : Operand) (ad : Addr) (hw : Region.wanted o (yielded ops a.tmps) = true) (ho : o.op = .nilCheck x) (hx : a.eval x = .pointer (some ad)) (h : WQ P ops C Q rest (a.put o.dst (.pointer (some ad)))) : WQ P ops C Q (o :: rest) a :=
  wk_val _ hw (fun w _ => by unfold execOp; simp [ho, hx]) h
theorem wk_field (T : TypeId) (i : Nat) (ft : TypeId) (off sz : Nat) (x : Operand) (g k : Nat) (hw : Region.wanted o (yielded ops a.tmps) = true) (ho : o.op = .fieldAddr T x i) (hT : P.underlying T = some (.struct (P.fieldsOf T)))
    (hF : ((P.fieldsOf T)[i]?).map (fun f => (f.type, f.offset)) = some (ft, off)) (hs : (P.info? ft).map (·.size) = some (sz + 1)) (hx : a.eval x = .pointer (some ⟨g, k, none⟩)) (h : WQ P ops C Q rest (a.put o.dst (.pointer (some ⟨g, k + off, none⟩)))) : WQ P ops C Q (o :: rest) a :=
  wk_val _ hw (fun w _ => by
    obtain ⟨f, hf, hf1⟩ := Option.map_eq_some_iff.1 hF
    simp only [Prod.mk.injEq] at hf1
    obtain ⟨q, hq, hq1⟩ := Option.map_eq_some_iff.1 hs
    unfold execOp
    simp [ho, hx, Instr.fieldAt, run_underlying hT, hf, Instr.sureAddr, fieldPlace, sizeOf, typeInfo, hf1.1, hq, hq1, hf1.2, Addr.add_lit]) h
theorem wk_extract (x : Operand) (vs : Array Value) (i : Nat) (v : Value) (hw : Region.wanted o (yielded ops a.tmps) = true) (ho : o.op = .extract x i) (hx : a.eval x = .tuple vs) (hv : vs[i]? = some v) (h : WQ P ops C Q rest (a.put o.dst v)) : WQ P ops C Q (o :: rest) a :=
  wk_val _ hw (fun w _ => by unfold execOp; simp [ho, hx, Instr.extract, hv]) h
/-- A byte of a string. -/
theorem wk_index_str (t : TypeId) (x y : Operand) (s : ByteArray) (k : IntKind) (i : Nat) (b : UInt8) (hw : Region.wanted o (yielded ops a.tmps) = true) (ho : o.op = .index t x y) (ht : P.underlying t = some .string)
    (hx : a.eval x = .string s) (hy : a.eval y = .int k (i : Int)) (hb : s[i]? = some b) (h : WQ P ops C Q rest (a.put o.dst (.int .u8 (b.toNat : Int)))) : WQ P ops C Q (o :: rest) a :=
  wk_val _ hw (fun w _ => by unfold execOp; simp [ho, hx, hy, Instr.index, asIntOf, run_underlying ht, hb]) h
/-- b[lo:] of a slice. -/
theorem wk_slice_lo (lo n cap : Nat) (k : IntKind) (t e : TypeId) (x l : Operand) (g off : Nat) (hw : Region.wanted o (yielded ops a.tmps) = true) (ho : o.op = .slice t x (some l) none none) (ht : P.underlying t = some (.slice e))
    (hs : (P.info? e).map (·.size) = some 1) (hx : a.eval x = .slice (some ⟨g, off, none⟩) n cap) (hl : a.eval l = .int k (lo : Int)) (h1 : lo ≤ n) (h3 : lo < cap)
    (h : WQ P ops C Q rest (a.put o.dst (.slice (some ⟨g, off + lo, none⟩) (n - lo) (cap - lo)))) : WQ P ops C Q (o :: rest) a :=
  wk_val _ hw (fun w _ => by
    obtain ⟨f, hf, hf1⟩ : ∃ f, P.info? e = some f ∧ f.size = 1 := by
      cases hq : P.info? e with
      | none => simp [hq] at hs
      | some f => exact ⟨f, rfl, by simpa [hq] using hs⟩
    have h0 : ¬ cap = lo := by omega
    unfold execOp
    simp only [ho, hx, Option.map_some, Option.map_none, hl]
    simp [Instr.sliceAt, Instr.slice, run_underlying ht, Instr.sliceBounds, Instr.sliceBound, asIntOf, h1, sizeOf, typeInfo, hf, hf1, Addr.add_lit, h0]) h
/-- b[:n] of an array in a block of its own. -/
theorem wk_slice_arr (n N : Nat) (k : IntKind) (t e : TypeId) (x hi : Operand) (g : Nat) (hw : Region.wanted o (yielded ops a.tmps) = true) (ho : o.op = .slice t x none (some hi) none) (ht : P.underlying t = some (.array N e))
    (hs : (P.info? e).map (·.size) = some 1) (hx : a.eval x = .pointer (some ⟨g, 0, none⟩)) (hh : a.eval hi = .int k (n : Int)) (hn : n ≤ N) (hN : 0 < N) (h : WQ P ops C Q rest (a.put o.dst (.slice (some ⟨g, 0, none⟩) n N))) : WQ P ops C Q (o :: rest) a :=
  wk_val _ hw (fun w _ => by
    obtain ⟨f, hf, hf1⟩ : ∃ f, P.info? e = some f ∧ f.size = 1 := by
      cases hq : P.info? e with
      | none => simp [hq] at hs
      | some f => exact ⟨f, rfl, by simpa [hq] using hs⟩
    have h0 : ¬ N = 0 := by omega
    unfold execOp
    simp only [ho, hx, Option.map_some, Option.map_none, hh]
    simp [Instr.sliceAt, Instr.slice, run_underlying ht, Instr.sliceBounds, Instr.sliceBound, asIntOf, hn, sizeOf, typeInfo, hf, hf1, Addr.add_lit, h0, Instr.sureAddr]) h
/-- The first bytes of a block as a string. -/
theorem wk_bytes_pre (src dst e : TypeId) (x : Operand) (g n c : Nat) (et : TypeId) (l : List UInt8) (hw : Region.wanted o (yielded ops a.tmps) = true) (ho : o.op = .convert src dst x)
    (hx : a.eval x = .slice (some ⟨g, 0, none⟩) n c) (hs : P.underlying src = some (.slice e)) (he : P.underlying e = some (.int .u8)) (hd : P.underlying dst = some .string)
    (hl : n ≤ l.length) (hg : ∀ w, C w → w.heap[g]? = some (.cells (blk l) et (0, 0))) (h : WQ P ops C Q rest (a.put o.dst (.string ⟨(l.take n).toArray⟩))) : WQ P ops C Q (o :: rest) a :=
  wk_val _ hw (fun w hC => by
    unfold execOp
    simp only [ho, hx, Sem.run_bind, run_bytes_str w src dst e ⟨g, 0, none⟩ n c hs he hd (l.take n) (by simp [hl]) (fun j v hj => by
      rw [Addr.add_lit, Nat.zero_add, cell_of_row w g j _ _ _ (hg w hC)]
      rw [List.map_take, List.getElem?_take] at hj
      split at hj
      · simpa [blk] using hj
      · cases hj), Result.andThen_ok, Sem.run_pure]) h
/-- The address of an array's element. -/
theorem wk_index_arr (t e : TypeId) (x ix : Operand) (g k N : Nat) (kk : IntKind) (hw : Region.wanted o (yielded ops a.tmps) = true) (ho : o.op = .indexAddr t x ix)
    (ht : P.underlying t = some (.array N e)) (hs : (P.info? e).map (·.size) = some 1) (hx : a.eval x = .pointer (some ⟨g, 0, none⟩)) (hi : a.eval ix = .int kk (k : Int)) (hk : k < N)
    (h : WQ P ops C Q rest (a.put o.dst (.pointer (some ⟨g, k, none⟩)))) : WQ P ops C Q (o :: rest) a :=
  wk_val _ hw (fun w _ => by
    obtain ⟨f, hf, hf1⟩ : ∃ f, P.info? e = some f ∧ f.size = 1 := by
      cases hq : P.info? e with
      | none => simp [hq] at hs
      | some f => exact ⟨f, rfl, by simpa [hq] using hs⟩
    have hk' : (0 : Int) ≤ (k : Int) ∧ (k : Int) < (N : Int) := by omega
    unfold execOp
    simp only [ho, hx, hi]
    simp [Instr.indexAt, asIntOf, run_underlying ht, hk', sizeOf, typeInfo, hf, hf1, Addr.add_lit, hk, asAddr, Instr.sureAddr]) h
end
end Go.Proofs.YtnphgaiiiiknpaaDoor
namespace Go.Proofs.YtnphgaiiiiknpaaDoor
open Go.RowKit
section
variable {P : Program} {ops : Array Oper} {md : Region.Mode} {C : World → Prop}
/-- f operations of the head come up, in whatever order; then L. -/
def headQ (P : Program) (md : Region.Mode) (ops : Array Oper) (C : World → Prop) (n : Nat) (L : Array Bool → Act → Prop) : Nat → Array Bool → Act → Prop
  | 0, listed, a => L listed a
  | f + 1, listed, a => Region.ready md ops listed ≠ [] ∧ ∀ i ∈ Region.ready md ops listed, i < n ∧ qOp P ops C i (headQ P md ops C n L f (listed.setIfInBounds i true)) a
theorem headQ_any {n g : Nat} {L : Array Bool → Act → Prop} {Q : Exit → Act → World → Prop} (hL : ∀ listed a w, C w → L listed a → wpAny P md ops Q g listed a w) :
    ∀ (f : Nat) (listed : Array Bool) (a : Act) (w : World), C w → headQ P md ops C n L f listed a → wpAny P md ops Q (f + g) listed a w
  | 0, listed, a, w, hC, h => by rw [Nat.zero_add]; exact hL _ _ _ hC h
  | f + 1, listed, a, w, hC, h => by
    rw [show f + 1 + g = (f + g) + 1 by omega]
    exact ⟨fun h0 => absurd h0 h.1, fun i hi => wpOp_of_qOp hC (fun a' w' hC' h' => headQ_any hL f _ a' w' hC' h') (h.2 i hi).2⟩
theorem headQ_first {n i : Nat} {oi : Oper} {v : Value} {L : Array Bool → Act → Prop} (hi : ops[i]? = some oi) (hsel : ∀ (j : Nat) (o : Oper) cs b, ops[j]? = some o → o.op ≠ .select cs b)
    (hs : Region.sinkB md ops n = true) (hc : Region.chainB md ops n = true) (hn : n < ops.size) (hin : i < n) (hdone : ∀ listed a, L listed a → ∀ j ∈ Region.ready md ops listed, n ≤ j) (f : Nat) :
    ∀ (listed : Array Bool) (a : Act), HeadInv md ops n listed →
      (∀ j oj, ops[j]? = some oj → j ≠ i → listed.getD j true = false → (∀ e ∈ oj.after, Region.binds md e = true → e.on ≠ i) → oi.apart ops oj = true) →
      i ∈ Region.ready md ops listed → YieldsIn P ops C oi v a →
      headQ P md ops C n L f (listed.setIfInBounds i true) (a.put oi.dst v) → headQ P md ops C n L (f + 1) listed a := by
  induction f with
  | zero =>
    intro listed a inv _ hr hy H
    refine ⟨fun h => (by rw [h] at hr; cases hr), fun j hj => ⟨?_, ?_⟩⟩
    · exact Nat.lt_of_not_le fun h => tail_waits hs hc hn inv _ i rfl hin (mem_ready.1 hr).1 j h hj
    · by_cases hji : j = i
      · subst hji; exact hy.qOp hi H
      · have h1 := hdone _ _ H j (ready_mono hj hji)
        exact absurd hj (tail_waits hs hc hn inv _ i rfl hin (mem_ready.1 hr).1 j h1)
  | succ f ih =>
    intro listed a inv hfree hr hy H
    refine ⟨fun h => (by rw [h] at hr; cases hr), fun j hj => ?_⟩
    have hjn : j < n := Nat.lt_of_not_le fun h => tail_waits hs hc hn inv _ i rfl hin (mem_ready.1 hr).1 j h hj
    refine ⟨hjn, ?_⟩
    by_cases hji : j = i
    · subst hji; exact hy.qOp hi H
    · obtain ⟨hjun, oj, hoj, hall⟩ := mem_ready.1 hj
      have hnot : ∀ e ∈ oj.after, Region.binds md e = true → e.on ≠ i := fun e he hb heq => by
        have h1 := hall e he hb
        rw [heq, getD_both (mem_ready.1 hr).1] at h1
        cases h1
      have h2 := qOp_put hoj (hfree j oj hoj hji hjun hnot) (fun cs b => hsel i oi cs b hi) (fun cs b => hsel j oj cs b hoj) hy (H.2 j (ready_mono hj hji)).2
      refine qOp_mono (fun a' h3 => ih (listed.setIfInBounds j true) a' (inv.set hj hjn) (fun k ok hk hki hun hno => hfree k ok hk hki ?_ hno) (ready_mono hr (Ne.symm hji)) h3.1 ?_) h2
      · by_cases hjk : j = k
        · subst hjk; exact hjun
        · rwa [getD_set_ne true hjk] at hun
      · rw [Array.setIfInBounds_comm _ _ hji]; exact h3.2
theorem headQ_lex {n g : Nat} {Lq : Act → Prop} (hsel : Region.noSelect ops = true) (hs : Region.sinkB md ops n = true) (hc : Region.chainB md ops n = true) (hn : n < ops.size) :
    ∀ (l : List Oper) (k : Nat) (listed : Array Bool) (a : Act), (∀ j, j < l.length → l[j]? = ops[k + j]?) → k + l.length = n → HeadInv md ops n listed →
    Region.lexHead md ops g l.length k listed = true → wpQuiet P ops C Lq l a →
    headQ P md ops C n (fun listed' a' => Region.seqB md ops g n listed' = true ∧ Lq a') l.length listed a
  | [], k, listed, a, _, hk, _, hB, h => by
    obtain rfl : k = n := by simpa using hk
    exact ⟨by simpa [Region.lexHead] using hB, h⟩
  | o :: l, k, listed, a, hl, hk, inv, hB, h => by
    have h0 : ops[k]? = some o := by simpa using (hl 0 (by simp)).symm
    simp only [List.length_cons] at hk
    have hkn : k < n := by omega
    simp only [List.length_cons, Region.lexHead, Bool.and_eq_true] at hB
    have hr : k ∈ Region.ready md ops listed := by simpa using hB.1.1
    obtain ⟨v, hy, hK⟩ := yieldsIn_of_qOp h0 (show qOp P ops C k (wpQuiet P ops C Lq l) a by unfold qOp; simp only [h0]; exact h)
    refine headQ_first h0 (Region.noSelect_spec hsel) hs hc hn hkn (fun _ _ hL => seqB_ready hL.1) l.length listed a inv (Region.free_spec h0 hB.1.2) hr hy ?_
    exact headQ_lex hsel hs hc hn l (k + 1) _ _ (fun j hj => by have := hl (j + 1) (by simp; omega); simpa [Nat.add_assoc, Nat.add_comm 1 j] using this) (by omega) (inv.set hr hkn) hB.2 hK
theorem wp_region_quiet_tail {id : Nat} {Q : Exit → Act → World → Prop} {a : Act} {w : World} {l : List Oper} (n : Nat) (hm : P.follows .mixedOrders = true) (hB : Region.lexTailB .any l.toArray n = true) (hC : C { w with drawn := w.drawn + 1 })
    (h : wpQuiet P l.toArray C (fun a' => ∀ w', C w' → wpList P l.toArray Q (l.drop n) a' w') (l.take n) a) : (Code.region id l.toArray true).wp P Q a w := by
  simp only [Region.lexTailB, Bool.and_eq_true, decide_eq_true_eq] at hB
  obtain ⟨⟨⟨⟨hsel, hn⟩, hs⟩, hc⟩, hlex⟩ := hB
  have hn' : n < l.length := by simpa using hn
  have htl : (l.take n).length = n := by simp; omega
  have inv0 : HeadInv .any l.toArray n (Array.replicate l.toArray.size false) :=
    ⟨by simp, fun j oj _ hl => (by rw [getD_replicate_false] at hl; cases hl), fun t _ ht => getD_in (by simpa using ht) (getD_replicate_false _ _)⟩
  have H := headQ_lex (C := C) (md := .any) (g := l.toArray.size - n) hsel hs hc hn (l.take n) 0 _ a (fun j hj => by
    rw [htl] at hj
    simp [hj]) (by simpa using htl) inv0 (by rw [htl]; exact hlex) h
  refine wp_region_any hm ?_
  have h2 := headQ_any (Q := Q) (g := l.toArray.size - n) (fun listed a' w' hC' hL => by
    have := wpAny_of_seq (Q' := Q) (md := .any) (ops := l.toArray) (l.drop n) n listed a' w' (fun j => by simp) (by simpa using hL.1) (hL.2 w' hC')
    simpa using this) _ _ _ _ hC H
  rw [htl] at h2
  have e : n + (l.toArray.size - n) = l.toArray.size := by simp; omega
  rwa [e] at h2
/-- As a sealed walk: the class is what leaves the old memory as it was. -/
theorem wk_region_tail {id : Nat} {Q : Exit → Act → World → Prop} {a : Act} {w : World} {l : List Oper} (n : Nat) (hm : P.follows .mixedOrders = true) (hB : Region.lexTailB .any l.toArray n = true)
    (h : WQ P l.toArray (Since w) (fun a' => ∀ w', Since w w' → wpList P l.toArray Q (l.drop n) a' w') (l.take n) a) : (Code.region id l.toArray true).wp P Q a w :=
  wp_region_quiet_tail n hm hB ((Below.refl _ _).drew) h.out
end
end Go.Proofs.YtnphgaiiiiknpaaDoor
