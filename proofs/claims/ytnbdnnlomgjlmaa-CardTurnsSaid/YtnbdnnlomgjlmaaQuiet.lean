/- A region that draws its order and whose callees make memory: one walk in the order of the text, the world one of a class C. Over any program. -/
import Derived.Test.YtnbdnnlomgjlmaaArr
namespace Go.Proofs.Ytnbdnnlomgjlmaa
open Go.RowKit
section
variable {P : Program} {ops : Array Oper} {C : World → Prop} {Q : Act → Prop} {rest : List Oper} {o : Oper} {a : Act}
theorem wq_want (hw : Region.wanted o (yielded ops a.tmps) = true) (h : o.quiet P a C (wpQuiet P ops C Q rest)) : wpQuiet P ops C Q (o :: rest) a := by
  unfold wpQuiet; rw [if_pos hw]; exact h
theorem wq_skip (hw : Region.wanted o (yielded ops a.tmps) = false) (h : wpQuiet P ops C Q rest (a.put o.dst undef)) : wpQuiet P ops C Q (o :: rest) a := by
  unfold wpQuiet; rw [if_neg (by rw [hw]; exact Bool.false_ne_true)]; exact h
theorem wq_val (v : Value) (hw : Region.wanted o (yielded ops a.tmps) = true) (hrun : ∀ w, C w → (execOp a.eval o).run P w = .ok (.value v) w)
    (h : wpQuiet P ops C Q rest (a.put o.dst v)) : wpQuiet P ops C Q (o :: rest) a :=
  wq_want hw ⟨v, fun w hC => by unfold Oper.quietAt; rw [hrun w hC]; exact ⟨rfl, rfl⟩, h⟩
theorem wq_move (x : Operand) (hw : Region.wanted o (yielded ops a.tmps) = true) (ho : o.op = .move x) (h : wpQuiet P ops C Q rest (a.put o.dst (a.eval x))) : wpQuiet P ops C Q (o :: rest) a :=
  wq_val _ hw (fun w _ => by unfold execOp; rw [ho]; rfl) h
theorem wq_assign (x : Operand) (hw : Region.wanted o (yielded ops a.tmps) = true) (ho : o.op = .assign x) (h : wpQuiet P ops C Q rest (a.put o.dst (a.eval x))) : wpQuiet P ops C Q (o :: rest) a :=
  wq_val _ hw (fun w _ => by unfold execOp; rw [ho]; rfl) h
theorem wq_pick (t : Bool) (c x y : Operand) (hw : Region.wanted o (yielded ops a.tmps) = true) (ho : o.op = .pick c x y) (hc : a.eval c = .bool t)
    (h : wpQuiet P ops C Q rest (a.put o.dst (if t then a.eval x else a.eval y))) : wpQuiet P ops C Q (o :: rest) a :=
  wq_val _ hw (fun w _ => by unfold execOp; rw [ho]; simp [hc, asBool]) h
theorem wq_load_row (ty : TypeId) (x : Operand) (g : Nat) (t : TypeId) (cs : Array Value) (fr : Nat × Nat) (d : TypeDesc) (hw : Region.wanted o (yielded ops a.tmps) = true) (ho : o.op = .load ty x)
    (hx : a.eval x = .pointer (some ⟨g, 0, none⟩)) (hg : ∀ w, C w → w.heap[g]? = some (.cells cs t fr))
    (hu : P.underlying ty = some d) (hd : (match d with | .struct _ | .array _ _ => true | _ => false) = true) (hi : (P.info? ty).map (·.size) = some cs.size)
    (h : wpQuiet P ops C Q rest (a.put o.dst (.agg cs))) : wpQuiet P ops C Q (o :: rest) a :=
  wq_val _ hw (fun w hC => by
    unfold execOp
    simp only [ho, hx, Instr.loadAt, Instr.sureAddr, Sem.run_bind, Sem.run_pure, Result.andThen_ok, run_loadVar_row w g t ty cs fr d (hg w hC) hu hd hi]) h
theorem wq_eql (op : BinOp) (r : Bool) (t ty : TypeId) (x y : Operand) (hw : Region.wanted o (yielded ops a.tmps) = true) (ho : o.op = .binOp op t x y ty)
    (cs ds : Array Value) (hx : a.eval x = .agg cs) (hy : a.eval y = .agg ds) (hm : P.eqGuardType P.depth t = false)
    (hrun : ∀ w, (binOp op t (.agg cs) (.agg ds)).run P w = .ok (.bool r) w) (h : wpQuiet P ops C Q rest (a.put o.dst (.bool r))) : wpQuiet P ops C Q (o :: rest) a :=
  wq_val _ hw (fun w _ => by
    unfold execOp
    simp only [ho, hx, hy, Sem.run_bind, run_eqGuard_agg w op t x y cs ds hm, Result.andThen_ok, hrun, Sem.run_pure]) h
theorem wq_bin (v : Value) (op : BinOp) (t ty : TypeId) (x y : Operand) (hw : Region.wanted o (yielded ops a.tmps) = true) (ho : o.op = .binOp op t x y ty)
    (hrun : ∀ w, (do eqGuard op t x y (a.eval x) (a.eval y); binOp op t (a.eval x) (a.eval y) : Sem Value).run P w = .ok v w) (h : wpQuiet P ops C Q rest (a.put o.dst v)) : wpQuiet P ops C Q (o :: rest) a :=
  wq_val _ hw (fun w _ => by
    unfold execOp
    have := hrun w
    simp only [ho, Sem.run_bind, Sem.run_pure] at this ⊢
    rw [this]
    rfl) h
theorem wq_call (f : FuncId) (xs : List Operand) (ts : Array TypeId) (v : Value) (fn : Func) (c : Code) (hw : Region.wanted o (yielded ops a.tmps) = true)
    (ho : o.op = .call { callee := .value (.func f), args := xs.toArray, argTypes := ts }) (hf : P.funcs[f]? = some fn) (hb : fn.body = some c) (hn : (fn.name == "runtime.NumGoroutine") = false)
    (hc : ∀ w, C w → Calls P f (xs.map a.eval).toArray w fun e w'' => e = .returned v ∧ C w'')
    (h : wpQuiet P ops C Q rest (a.put o.dst v)) : wpQuiet P ops C Q (o :: rest) a :=
  wq_want hw ⟨v, fun w hC => by
    unfold Oper.quietAt
    have : (execOp a.eval o).run P w = .ok (.enter f (xs.map a.eval).toArray) w := by
      unfold execOp
      simp only [ho, resolve]
      show ((do let d ← Deferred.ofValue (.func (.func f) #[] #[]) (xs.toArray.map a.eval); invoke d.target d.args) : Sem Next).run P w = _
      have hn' : ¬ fn.name = "runtime.NumGoroutine" := by simpa using hn
      simp [Deferred.ofValue, invoke, callFunc, hf, hb, hn']
    rw [this]
    exact ⟨rfl, hc w hC⟩, h⟩
theorem run_eq_int {P : Program} (w : World) (t : TypeId) (k : IntKind) (m n : Int) : (binOp .eql t (.int k m) (.int k n)).run P w = .ok (.bool (m == n)) w := by
  simp [binOp, Op.intCmp]
theorem wq_eql_int (r : Bool) (t ty : TypeId) (x y : Operand) (k : IntKind) (m n : Int) (hw : Region.wanted o (yielded ops a.tmps) = true) (ho : o.op = .binOp .eql t x y ty)
    (hx : a.eval x = .int k m) (hy : a.eval y = .int k n) (hr : (m == n) = r) (h : wpQuiet P ops C Q rest (a.put o.dst (.bool r))) : wpQuiet P ops C Q (o :: rest) a :=
  wq_bin _ .eql t ty x y hw ho (fun w => by simp [hx, hy, eqGuard, run_eq_int, hr]) h
theorem wq_eql_bool (r : Bool) (t ty : TypeId) (x y : Operand) (m n : Bool) (hw : Region.wanted o (yielded ops a.tmps) = true) (ho : o.op = .binOp .eql t x y ty) (ht : P.underlying t = some .bool)
    (hx : a.eval x = .bool m) (hy : a.eval y = .bool n) (hr : (m == n) = r) (h : wpQuiet P ops C Q rest (a.put o.dst (.bool r))) : wpQuiet P ops C Q (o :: rest) a :=
  wq_bin _ .eql t ty x y hw ho (fun w => by
    have : (binOp .eql t (.bool m) (.bool n)).run P w = .ok (.bool (m == n)) w := by simp [binOp, Op.equal, Op.maxDepth, run_equalIn_bool' w 9999 t m n ht]
    simp [hx, hy, eqGuard, this, hr]) h
theorem wq_not (r : Bool) (t : TypeId) (x : Operand) (hw : Region.wanted o (yielded ops a.tmps) = true) (ho : o.op = .unOp .not t x)
    (hx : a.eval x = .bool r) (h : wpQuiet P ops C Q rest (a.put o.dst (.bool (!r)))) : wpQuiet P ops C Q (o :: rest) a :=
  wq_val _ hw (fun w _ => by unfold execOp; simp only [ho, hx]; rfl) h
theorem wpList_eql {w : World} {Q : Exit → Act → World → Prop} (op : BinOp) (r : Bool) (t ty : TypeId) (x y : Operand) (hgd : o.guard = none) (ho : o.op = .binOp op t x y ty)
    (cs ds : Array Value) (hx : a.eval x = .agg cs) (hy : a.eval y = .agg ds) (hm : P.eqGuardType P.depth t = false)
    (hrun : ∀ w, (binOp op t (.agg cs) (.agg ds)).run P w = .ok (.bool r) w) (h : wpList P ops Q rest (a.put o.dst (.bool r)) w) : wpList P ops Q (o :: rest) a w :=
  wpList_plain hgd fun _ hK => by
    unfold Oper.wp execOp
    simp only [ho, hx, hy, Sem.run_bind, run_eqGuard_agg w op t x y cs ds hm, Result.andThen_ok, hrun, Sem.run_pure]
    exact hK _ _ h
theorem wq_xor (t ty : TypeId) (x y : Operand) (m n : BitVec 32) (hw : Region.wanted o (yielded ops a.tmps) = true) (ho : o.op = .binOp .xor t x y ty)
    (hx : a.eval x = .int .u32 (m.toNat : Int)) (hy : a.eval y = .int .u32 (n.toNat : Int)) (h : wpQuiet P ops C Q rest (a.put o.dst (.int .u32 ((m ^^^ n).toNat : Int)))) : wpQuiet P ops C Q (o :: rest) a :=
  wq_bin _ .xor t ty x y hw ho (fun w => by
    have hb : bits .xor .u32 (m.toNat : Int) (n.toNat : Int) = ((m ^^^ n).toNat : Int) := by rw [u32_xor_nat m.toNat n.toNat m.isLt n.isLt, BitVec.toNat_xor]
    have h1 : (binOp .xor t (.int .u32 (m.toNat : Int)) (.int .u32 (n.toNat : Int))).run P w = .ok (.int .u32 (bits .xor .u32 (m.toNat : Int) (n.toNat : Int))) w := rfl
    rw [hb] at h1
    have h0 : (eqGuard .xor t x y (.int .u32 (m.toNat : Int)) (.int .u32 (n.toNat : Int))).run P w = .ok () w := rfl
    simp only [hx, hy, Sem.run_bind, h0, Result.andThen_ok, h1]) h
theorem wq_slice_str (n : Nat) (s : ByteArray) (k : IntKind) (t : TypeId) (x hi : Operand) (hw : Region.wanted o (yielded ops a.tmps) = true) (ho : o.op = .slice t x none (some hi) none) (ht : P.underlying t = some .string)
    (hx : a.eval x = .string s) (hh : a.eval hi = .int k (n : Int)) (hn : n ≤ s.size) (h : wpQuiet P ops C Q rest (a.put o.dst (.string (s.extract 0 n)))) : wpQuiet P ops C Q (o :: rest) a :=
  wq_val _ hw (fun w _ => by
    unfold execOp
    simp only [ho, hx, Option.map_some, Option.map_none, hh]
    simp [Instr.sliceAt, Instr.slice, run_underlying ht, Instr.sliceBounds, Instr.sliceBound, asIntOf, hn]) h
theorem wq_bytes_str (src dst e : TypeId) (x : Operand) (g n c : Nat) (et : TypeId) (l : List UInt8) (hw : Region.wanted o (yielded ops a.tmps) = true) (ho : o.op = .convert src dst x)
    (hx : a.eval x = .slice (some ⟨g, 0, none⟩) n c) (hs : P.underlying src = some (.slice e)) (he : P.underlying e = some (.int .u8)) (hd : P.underlying dst = some .string)
    (hl : l.length = n) (hg : ∀ w, C w → w.heap[g]? = some (.cells (blk l) et (0, 0))) (h : wpQuiet P ops C Q rest (a.put o.dst (.string ⟨l.toArray⟩))) : wpQuiet P ops C Q (o :: rest) a :=
  wq_val _ hw (fun w hC => by
    unfold execOp
    simp only [ho, hx, Sem.run_bind, run_bytes_str w src dst e ⟨g, 0, none⟩ n c hs he hd l hl (fun j v hj => by
      rw [Addr.add_lit, Nat.zero_add, cell_of_row w g j _ _ _ (hg w hC)]
      simpa [blk] using hj), Result.andThen_ok, Sem.run_pure]) h
theorem run_eql_string (w : World) (t : TypeId) (a b : ByteArray) : (binOp .eql t (.string a) (.string b)).run P w = .ok (.bool (a.toList == b.toList)) w := by
  simp [binOp, Op.stringOp]
theorem run_neq_string (w : World) (t : TypeId) (a b : ByteArray) : (binOp .neq t (.string a) (.string b)).run P w = .ok (.bool (!(a.toList == b.toList))) w := by
  simp [binOp, Op.stringOp]
theorem str_beq (a b : ByteArray) : (a.toList == b.toList) = decide (a = b) := by
  rw [ByteArray.toList_eq, ByteArray.toList_eq]
  by_cases h : a = b
  · subst h; simp
  · have : ¬ a.data.toList = b.data.toList := fun e => h (by
      cases a; cases b; congr 1; exact Array.toList_inj.1 e)
    simp [h]
    intro e
    exact this (by rw [e])
theorem wq_eql_str (r : Bool) (t ty : TypeId) (x y : Operand) (m n : ByteArray) (hw : Region.wanted o (yielded ops a.tmps) = true) (ho : o.op = .binOp .eql t x y ty)
    (hx : a.eval x = .string m) (hy : a.eval y = .string n) (hr : decide (m = n) = r) (h : wpQuiet P ops C Q rest (a.put o.dst (.bool r))) : wpQuiet P ops C Q (o :: rest) a :=
  wq_bin _ .eql t ty x y hw ho (fun w => by
    have h0 : (eqGuard .eql t x y (.string m) (.string n)).run P w = .ok () w := rfl
    simp only [hx, hy, Sem.run_bind, h0, Result.andThen_ok, run_eql_string w t, str_beq, hr]) h
theorem wq_neq_str (r : Bool) (t ty : TypeId) (x y : Operand) (m n : ByteArray) (hw : Region.wanted o (yielded ops a.tmps) = true) (ho : o.op = .binOp .neq t x y ty)
    (hx : a.eval x = .string m) (hy : a.eval y = .string n) (hr : (!decide (m = n)) = r) (h : wpQuiet P ops C Q rest (a.put o.dst (.bool r))) : wpQuiet P ops C Q (o :: rest) a :=
  wq_bin _ .neq t ty x y hw ho (fun w => by
    have h0 : (eqGuard .neq t x y (.string m) (.string n)).run P w = .ok () w := rfl
    simp only [hx, hy, Sem.run_bind, h0, Result.andThen_ok, run_neq_string w t, str_beq, hr]) h
theorem wq_neg (k : IntKind) (n m : Int) (t : TypeId) (x : Operand) (hw : Region.wanted o (yielded ops a.tmps) = true) (ho : o.op = .unOp .neg t x)
    (hx : a.eval x = .int k n) (hm : k.wrap (-n) = m) (h : wpQuiet P ops C Q rest (a.put o.dst (.int k m))) : wpQuiet P ops C Q (o :: rest) a :=
  wq_val _ hw (fun w _ => by
    have h1 : (Op.unary .neg (.int k n)).run P w = .ok (.int k (k.wrap (-n))) w := by simp [Op.unary, Op.intArith]
    unfold execOp; simp only [ho, hx, Sem.run_bind, h1, hm, Result.andThen_ok, Sem.run_pure]) h
/-- What a comparison of integers answers. -/
def cmpInt (op : BinOp) (m n : Int) : Option Bool :=
  match op with
  | .eql => some (m == n) | .neq => some (m != n) | .lss => some (decide (m < n)) | .leq => some (decide (m ≤ n)) | .gtr => some (decide (n < m)) | .geq => some (decide (n ≤ m))
  | _ => none
theorem run_cmp_int (w : World) (op : BinOp) (t : TypeId) (k : IntKind) (m n : Int) (r : Bool) (h : cmpInt op m n = some r) : (binOp op t (.int k m) (.int k n)).run P w = .ok (.bool r) w := by
  cases op <;> simp only [cmpInt, Option.some.injEq] at h <;> first | (subst h; simp [binOp, Op.intCmp]; done) | cases h
theorem wq_cmp_int (op : BinOp) (r : Bool) (t ty : TypeId) (x y : Operand) (k : IntKind) (m n : Int) (hw : Region.wanted o (yielded ops a.tmps) = true) (ho : o.op = .binOp op t x y ty)
    (hx : a.eval x = .int k m) (hy : a.eval y = .int k n) (hr : cmpInt op m n = some r) (h : wpQuiet P ops C Q rest (a.put o.dst (.bool r))) : wpQuiet P ops C Q (o :: rest) a :=
  wq_bin _ op t ty x y hw ho (fun w => by
    have h0 : (eqGuard op t x y (.int k m) (.int k n)).run P w = .ok () w := by cases op <;> rfl
    simp only [hx, hy, Sem.run_bind, h0, Result.andThen_ok, run_cmp_int w op t k m n r hr]) h
/-- The class that most regions want: what was there as the region began is as it was. -/
def Since (W w : World) : Prop := Below W.heap.size W w
theorem Since.call {f : FuncId} {args : Array Value} {W w : World} {v : Value} (hC : Since W w) (h : Calls P f args w fun e w' => e = .returned v ∧ Below w.heap.size w w') :
    Calls P f args w fun e w' => e = .returned v ∧ Since W w' := h.mono fun _ _ ⟨he, hb⟩ => ⟨he, Below.trans hC (hb.mono hC.size)⟩
theorem Since.same {f : FuncId} {args : Array Value} {W w : World} {v : Value} (hC : Since W w) (h : Calls P f args w fun e w' => e = .returned v ∧ w = w') :
    Calls P f args w fun e w' => e = .returned v ∧ Since W w' := h.mono fun _ _ ⟨he, hb⟩ => ⟨he, hb ▸ hC⟩
theorem Since.row {W w : World} {g : Nat} {ob : Obj} (hC : Since W w) (h : W.heap[g]? = some ob) : w.heap[g]? = some ob :=
  (hC.block g (Array.getElem?_eq_some_iff.1 h).1).trans h
theorem wp_region_since {id : Nat} {Q : Exit → Act → World → Prop} {a : Act} {w : World} {l : List Oper} (hm : P.follows .mixedOrders = true) (hB : Region.lexB .any l.toArray = true)
    (h : wpQuiet P l.toArray (Since w) (fun a' => ∀ w', Since w w' → Q .normal a' w') l a) : (Code.region id l.toArray true).wp P Q a w :=
  wp_region_quiet (C := Since w) hm hB ((Below.refl _ _).drew) (by simpa using h)
theorem wpList_of_quiet {Q : Exit → Act → World → Prop} : ∀ (l : List Oper) (a : Act) (w : World), C w → wpQuiet P ops C (fun a' => ∀ w', C w' → Q .normal a' w') l a → wpList P ops Q l a w
  | [], a, w, hC, h => h w hC
  | o :: l, a, w, hC, h => by
    unfold wpQuiet at h
    unfold wpList
    by_cases hw : Region.wanted o (yielded ops a.tmps) = true
    · rw [if_pos hw] at h ⊢
      exact .inl (Oper.wp_of_quiet hC (fun a' w' hC' hh => wpList_of_quiet l a' w' hC' hh) h)
    · rw [if_neg hw] at h ⊢
      exact wpList_of_quiet l _ w hC h
theorem wp_plain_since {id : Nat} {Q : Exit → Act → World → Prop} {a : Act} {w : World} {l : List Oper}
    (h : wpQuiet P l.toArray (Since w) (fun a' => ∀ w', Since w w' → Q .normal a' w') l a) : (Code.region id l.toArray false).wp P Q a w :=
  wp_region_lit (wpList_of_quiet l a w (Below.refl _ _) h)
end
end Go.Proofs.Ytnbdnnlomgjlmaa
