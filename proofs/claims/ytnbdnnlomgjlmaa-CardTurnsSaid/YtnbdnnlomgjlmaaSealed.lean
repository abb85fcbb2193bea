/- The quiet walk's steps over a sealed goal. Over any program. -/
import Derived.Test.YtnbdnnlomgjlmaaQuiet2
namespace Go.Proofs.Ytnbdnnlomgjlmaa
open Go.RowKit
section
variable {P : Program} {ops : Array Oper} {C : World → Prop} {Q : Act → Prop} {rest : List Oper} {o : Oper} {a : Act}
/-- The quiet walk's goal, sealed: nothing looks into it. -/
structure WQ (P : Program) (ops : Array Oper) (C : World → Prop) (Q : Act → Prop) (l : List Oper) (a : Act) : Prop where
  out : wpQuiet P ops C Q l a
theorem wk_skip (hw : Region.wanted o (yielded ops a.tmps) = false) (h : WQ P ops C Q rest (a.put o.dst undef)) : WQ P ops C Q (o :: rest) a :=
  ⟨wq_skip hw h.out⟩
theorem wk_move (x : Operand) (hw : Region.wanted o (yielded ops a.tmps) = true) (ho : o.op = .move x) (h : WQ P ops C Q rest (a.put o.dst (a.eval x))) : WQ P ops C Q (o :: rest) a :=
  ⟨wq_move x hw ho h.out⟩
theorem wk_assign (x : Operand) (hw : Region.wanted o (yielded ops a.tmps) = true) (ho : o.op = .assign x) (h : WQ P ops C Q rest (a.put o.dst (a.eval x))) : WQ P ops C Q (o :: rest) a :=
  ⟨wq_assign x hw ho h.out⟩
theorem wk_pick (t : Bool) (c x y : Operand) (hw : Region.wanted o (yielded ops a.tmps) = true) (ho : o.op = .pick c x y) (hc : a.eval c = .bool t)
    (h : WQ P ops C Q rest (a.put o.dst (if t then a.eval x else a.eval y))) : WQ P ops C Q (o :: rest) a :=
  ⟨wq_pick t c x y hw ho hc h.out⟩
theorem wk_load_row (ty : TypeId) (x : Operand) (g : Nat) (t : TypeId) (cs : Array Value) (fr : Nat × Nat) (d : TypeDesc) (hw : Region.wanted o (yielded ops a.tmps) = true) (ho : o.op = .load ty x)
    (hx : a.eval x = .pointer (some ⟨g, 0, none⟩)) (hg : ∀ w, C w → w.heap[g]? = some (.cells cs t fr))
    (hu : P.underlying ty = some d) (hd : (match d with | .struct _ | .array _ _ => true | _ => false) = true) (hi : (P.info? ty).map (·.size) = some cs.size)
    (h : WQ P ops C Q rest (a.put o.dst (.agg cs))) : WQ P ops C Q (o :: rest) a :=
  ⟨wq_load_row ty x g t cs fr d hw ho hx hg hu hd hi h.out⟩
theorem wk_eql (op : BinOp) (r : Bool) (t ty : TypeId) (x y : Operand) (hw : Region.wanted o (yielded ops a.tmps) = true) (ho : o.op = .binOp op t x y ty)
    (cs ds : Array Value) (hx : a.eval x = .agg cs) (hy : a.eval y = .agg ds) (hm : P.eqGuardType P.depth t = false)
    (hrun : ∀ w, (binOp op t (.agg cs) (.agg ds)).run P w = .ok (.bool r) w) (h : WQ P ops C Q rest (a.put o.dst (.bool r))) : WQ P ops C Q (o :: rest) a :=
  ⟨wq_eql op r t ty x y hw ho cs ds hx hy hm hrun h.out⟩
theorem wk_call (f : FuncId) (xs : List Operand) (ts : Array TypeId) (v : Value) (fn : Func) (c : Code) (hw : Region.wanted o (yielded ops a.tmps) = true)
    (ho : o.op = .call { callee := .value (.func f), args := xs.toArray, argTypes := ts }) (hf : P.funcs[f]? = some fn) (hb : fn.body = some c) (hn : (fn.name == "runtime.NumGoroutine") = false)
    (hc : ∀ w, C w → Calls P f (xs.map a.eval).toArray w fun e w'' => e = .returned v ∧ C w'')
    (h : WQ P ops C Q rest (a.put o.dst v)) : WQ P ops C Q (o :: rest) a :=
  ⟨wq_call f xs ts v fn c hw ho hf hb hn hc h.out⟩
theorem wk_eql_int (r : Bool) (t ty : TypeId) (x y : Operand) (k : IntKind) (m n : Int) (hw : Region.wanted o (yielded ops a.tmps) = true) (ho : o.op = .binOp .eql t x y ty)
    (hx : a.eval x = .int k m) (hy : a.eval y = .int k n) (hr : (m == n) = r) (h : WQ P ops C Q rest (a.put o.dst (.bool r))) : WQ P ops C Q (o :: rest) a :=
  ⟨wq_eql_int r t ty x y k m n hw ho hx hy hr h.out⟩
theorem wk_eql_bool (r : Bool) (t ty : TypeId) (x y : Operand) (m n : Bool) (hw : Region.wanted o (yielded ops a.tmps) = true) (ho : o.op = .binOp .eql t x y ty) (ht : P.underlying t = some .bool)
    (hx : a.eval x = .bool m) (hy : a.eval y = .bool n) (hr : (m == n) = r) (h : WQ P ops C Q rest (a.put o.dst (.bool r))) : WQ P ops C Q (o :: rest) a :=
  ⟨wq_eql_bool r t ty x y m n hw ho ht hx hy hr h.out⟩
theorem wk_not (r : Bool) (t : TypeId) (x : Operand) (hw : Region.wanted o (yielded ops a.tmps) = true) (ho : o.op = .unOp .not t x)
    (hx : a.eval x = .bool r) (h : WQ P ops C Q rest (a.put o.dst (.bool (!r)))) : WQ P ops C Q (o :: rest) a :=
  ⟨wq_not r t x hw ho hx h.out⟩
theorem wk_xor (t ty : TypeId) (x y : Operand) (m n : BitVec 32) (hw : Region.wanted o (yielded ops a.tmps) = true) (ho : o.op = .binOp .xor t x y ty)
    (hx : a.eval x = .int .u32 (m.toNat : Int)) (hy : a.eval y = .int .u32 (n.toNat : Int)) (h : WQ P ops C Q rest (a.put o.dst (.int .u32 ((m ^^^ n).toNat : Int)))) : WQ P ops C Q (o :: rest) a :=
  ⟨wq_xor t ty x y m n hw ho hx hy h.out⟩
theorem wk_slice_str (n : Nat) (s : ByteArray) (k : IntKind) (t : TypeId) (x hi : Operand) (hw : Region.wanted o (yielded ops a.tmps) = true) (ho : o.op = .slice t x none (some hi) none) (ht : P.underlying t = some .string)
    (hx : a.eval x = .string s) (hh : a.eval hi = .int k (n : Int)) (hn : n ≤ s.size) (h : WQ P ops C Q rest (a.put o.dst (.string (s.extract 0 n)))) : WQ P ops C Q (o :: rest) a :=
  ⟨wq_slice_str n s k t x hi hw ho ht hx hh hn h.out⟩
theorem wk_bytes_str (src dst e : TypeId) (x : Operand) (g n c : Nat) (et : TypeId) (l : List UInt8) (hw : Region.wanted o (yielded ops a.tmps) = true) (ho : o.op = .convert src dst x)
    (hx : a.eval x = .slice (some ⟨g, 0, none⟩) n c) (hs : P.underlying src = some (.slice e)) (he : P.underlying e = some (.int .u8)) (hd : P.underlying dst = some .string)
    (hl : l.length = n) (hg : ∀ w, C w → w.heap[g]? = some (.cells (blk l) et (0, 0))) (h : WQ P ops C Q rest (a.put o.dst (.string ⟨l.toArray⟩))) : WQ P ops C Q (o :: rest) a :=
  ⟨wq_bytes_str src dst e x g n c et l hw ho hx hs he hd hl hg h.out⟩
theorem wk_eql_str (r : Bool) (t ty : TypeId) (x y : Operand) (m n : ByteArray) (hw : Region.wanted o (yielded ops a.tmps) = true) (ho : o.op = .binOp .eql t x y ty)
    (hx : a.eval x = .string m) (hy : a.eval y = .string n) (hr : decide (m = n) = r) (h : WQ P ops C Q rest (a.put o.dst (.bool r))) : WQ P ops C Q (o :: rest) a :=
  ⟨wq_eql_str r t ty x y m n hw ho hx hy hr h.out⟩
theorem wk_neq_str (r : Bool) (t ty : TypeId) (x y : Operand) (m n : ByteArray) (hw : Region.wanted o (yielded ops a.tmps) = true) (ho : o.op = .binOp .neq t x y ty)
    (hx : a.eval x = .string m) (hy : a.eval y = .string n) (hr : (!decide (m = n)) = r) (h : WQ P ops C Q rest (a.put o.dst (.bool r))) : WQ P ops C Q (o :: rest) a :=
  ⟨wq_neq_str r t ty x y m n hw ho hx hy hr h.out⟩
theorem wk_neg (k : IntKind) (n m : Int) (t : TypeId) (x : Operand) (hw : Region.wanted o (yielded ops a.tmps) = true) (ho : o.op = .unOp .neg t x)
    (hx : a.eval x = .int k n) (hm : k.wrap (-n) = m) (h : WQ P ops C Q rest (a.put o.dst (.int k m))) : WQ P ops C Q (o :: rest) a :=
  ⟨wq_neg k n m t x hw ho hx hm h.out⟩
theorem wk_cmp_int (op : BinOp) (r : Bool) (t ty : TypeId) (x y : Operand) (k : IntKind) (m n : Int) (hw : Region.wanted o (yielded ops a.tmps) = true) (ho : o.op = .binOp op t x y ty)
    (hx : a.eval x = .int k m) (hy : a.eval y = .int k n) (hr : cmpInt op m n = some r) (h : WQ P ops C Q rest (a.put o.dst (.bool r))) : WQ P ops C Q (o :: rest) a :=
  ⟨wq_cmp_int op r t ty x y k m n hw ho hx hy hr h.out⟩
theorem wk_index (t e : TypeId) (x ix : Operand) (b off n c k sz : Nat) (kk : IntKind) (hw : Region.wanted o (yielded ops a.tmps) = true) (ho : o.op = .indexAddr t x ix)
    (ht : P.underlying t = some (.slice e)) (hs : (P.info? e).map (·.size) = some sz) (hx : a.eval x = .slice (some ⟨b, off, none⟩) n c) (hi : a.eval ix = .int kk (k : Int)) (hk : k < n)
    (h : WQ P ops C Q rest (a.put o.dst (.pointer (some ⟨b, off + k * sz, none⟩)))) : WQ P ops C Q (o :: rest) a :=
  ⟨wq_index t e x ix b off n c k sz kk hw ho ht hs hx hi hk h.out⟩
theorem wk_load1 (ty : TypeId) (x : Operand) (ad : Addr) (v : Value) (d : TypeDesc) (hd : (match d with | .struct _ | .array _ _ => true | _ => false) = false) (hw : Region.wanted o (yielded ops a.tmps) = true) (ho : o.op = .load ty x)
    (hx : a.eval x = .pointer (some ad)) (hg : ∀ w, C w → w.cell? ad = some v) (hu : P.underlying ty = some d)
    (h : WQ P ops C Q rest (a.put o.dst v)) : WQ P ops C Q (o :: rest) a :=
  ⟨wq_load1 ty x ad v d hd hw ho hx hg hu h.out⟩
theorem wk_val (v : Value) (hw : Region.wanted o (yielded ops a.tmps) = true) (hrun : ∀ w, C w → (execOp a.eval o).run P w = .ok (.value v) w)
    (h : WQ P ops C Q rest (a.put o.dst v)) : WQ P ops C Q (o :: rest) a :=
  ⟨wq_val v hw hrun h.out⟩
theorem wk_bin (v : Value) (op : BinOp) (t ty : TypeId) (x y : Operand) (hw : Region.wanted o (yielded ops a.tmps) = true) (ho : o.op = .binOp op t x y ty)
    (hrun : ∀ w, (do eqGuard op t x y (a.eval x) (a.eval y); binOp op t (a.eval x) (a.eval y) : Sem Value).run P w = .ok v w) (h : WQ P ops C Q rest (a.put o.dst v)) : WQ P ops C Q (o :: rest) a :=
  ⟨wq_bin v op t ty x y hw ho hrun h.out⟩
theorem wk_movev (x : Operand) (v : Value) (hw : Region.wanted o (yielded ops a.tmps) = true) (ho : o.op = .move x) (hv : a.eval x = v) (h : WQ P ops C Q rest (a.put o.dst v)) : WQ P ops C Q (o :: rest) a :=
  ⟨wq_movev x v hw ho hv h.out⟩
theorem wk_assignv (x : Operand) (v : Value) (hw : Region.wanted o (yielded ops a.tmps) = true) (ho : o.op = .assign x) (hv : a.eval x = v) (h : WQ P ops C Q rest (a.put o.dst v)) : WQ P ops C Q (o :: rest) a :=
  ⟨wq_assignv x v hw ho hv h.out⟩
theorem wk_pickt (c x y : Operand) (v : Value) (hw : Region.wanted o (yielded ops a.tmps) = true) (ho : o.op = .pick c x y) (hc : a.eval c = .bool true) (hv : a.eval x = v)
    (h : WQ P ops C Q rest (a.put o.dst v)) : WQ P ops C Q (o :: rest) a :=
  ⟨wq_pickt c x y v hw ho hc hv h.out⟩
theorem wk_pickf (c x y : Operand) (v : Value) (hw : Region.wanted o (yielded ops a.tmps) = true) (ho : o.op = .pick c x y) (hc : a.eval c = .bool false) (hv : a.eval y = v)
    (h : WQ P ops C Q rest (a.put o.dst v)) : WQ P ops C Q (o :: rest) a :=
  ⟨wq_pickf c x y v hw ho hc hv h.out⟩
theorem wk_len_slice (t e : TypeId) (x : Operand) (A : Option Addr) (n c : Nat) (ht : P.underlying t = some (.slice e)) (hw : Region.wanted o (yielded ops a.tmps) = true) (ho : o.op = .call { callee := .builtin .len, args := #[x], argTypes := #[t] })
    (hx : a.eval x = .slice A n c) (h : WQ P ops C Q rest (a.put o.dst (.int .i64 n))) : WQ P ops C Q (o :: rest) a :=
  wk_val _ hw (fun w _ => by
    unfold execOp
    simp [ho, hx, resolve, invoke, builtin, Builtin.len_, run_underlying ht, goInt]) h
theorem wk_nil (h : Q a) : WQ P ops C Q [] a := ⟨wpQuiet_nil h⟩
theorem wk_region_since {id : Nat} {Q : Exit → Act → World → Prop} {a : Act} {w : World} {l : List Oper} (hm : P.follows .mixedOrders = true) (hB : Region.lexB .any l.toArray = true)
    (h : WQ P l.toArray (Since w) (fun a' => ∀ w', Since w w' → Q .normal a' w') l a) : (Code.region id l.toArray true).wp P Q a w := wp_region_since hm hB h.out
theorem wk_plain_since {id : Nat} {Q : Exit → Act → World → Prop} {a : Act} {w : World} {l : List Oper}
    (h : WQ P l.toArray (Since w) (fun a' => ∀ w', Since w w' → Q .normal a' w') l a) : (Code.region id l.toArray false).wp P Q a w := wp_plain_since h.out
end
end Go.Proofs.Ytnbdnnlomgjlmaa
