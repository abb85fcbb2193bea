/- The field layer's reader: Text, and take at texts. -/
import Derived.Test.YtcepfmjebgklfaaDoorRead6
import Derived.Test.YtcepfmjebgklfaaDoorSteps
namespace Go.Proofs.YtcepfmjebgklfaaDoor
open Go.RowKit
set_option linter.unusedSimpArgs false
set_option linter.unusedVariables false
set_option maxRecDepth 100000
section
variable {P : Program} {ops : Array Oper} {C : World → Prop} {o : Oper} {a : Act} {rest : List Oper} {Q : Act → Prop}
/-- A call of a closure. -/
theorem wk_callf (f : FuncId) (z : Operand) (xs : List Operand) (cap : Array Value) (ts : Array TypeId) (v : Value) (fn : Func) (c : Code) (hw : Region.wanted o (yielded ops a.tmps) = true)
    (ho : o.op = .call { callee := .value z, args := xs.toArray, argTypes := ts }) (hz : a.eval z = .func (.func f) #[] cap) (hf : P.funcs[f]? = some fn) (hb : fn.body = some c) (hn : (fn.name == "runtime.NumGoroutine") = false)
    (hc : ∀ w, C w → Calls P f ((xs.map a.eval).toArray ++ cap) w fun e w'' => e = .returned v ∧ C w'')
    (h : WQ P ops C Q rest (a.put o.dst v)) : WQ P ops C Q (o :: rest) a :=
  ⟨wq_want hw ⟨v, fun w hC => by
    unfold Oper.quietAt
    have : (execOp a.eval o).run P w = .ok (.enter f ((xs.map a.eval).toArray ++ cap)) w := by
      unfold execOp
      simp only [ho, resolve, hz]
      show ((do let d ← Deferred.ofValue (.func (.func f) #[] cap) (xs.toArray.map a.eval); invoke d.target d.args) : Sem Next).run P w = _
      have hn' : ¬ fn.name = "runtime.NumGoroutine" := by simpa using hn
      simp [Deferred.ofValue, invoke, callFunc, hf, hb, hn']
    rw [this]
    exact ⟨rfl, hc w hC⟩, h.out⟩⟩
/-- Bytes in mid row as a string. -/
theorem wk_bytes_at (src dst e : TypeId) (x : Operand) (g off n c : Nat) (l : List UInt8) (hw : Region.wanted o (yielded ops a.tmps) = true) (ho : o.op = .convert src dst x)
    (hx : a.eval x = .slice (some ⟨g, off, none⟩) n c) (hs : P.underlying src = some (.slice e)) (he : P.underlying e = some (.int .u8)) (hd : P.underlying dst = some .string)
    (hl : l.length = n) (hg : ∀ w, C w → BytesAt w g off l) (h : WQ P ops C Q rest (a.put o.dst (.string ⟨l.toArray⟩))) : WQ P ops C Q (o :: rest) a :=
  wk_val _ hw (fun w hC => by
    unfold execOp
    simp only [ho, hx, Sem.run_bind, run_bytes_str w src dst e ⟨g, off, none⟩ n c hs he hd l hl (fun j v hj => by
      rw [Addr.add_lit]
      have hjl : j < l.length := by
        apply Classical.byContradiction
        intro hh
        rw [List.getElem?_eq_none (by simp; omega)] at hj
        cases hj
      rw [hg w hC j hjl]
      simpa using hj), Result.andThen_ok, Sem.run_pure]) h
end
/-- Is what stands there a text of at most m bytes, and zeros? -/
def textOk (l : List UInt8) (m : Nat) : Bool := decide ((l.getD 0 0).toNat ≤ m) && allZero (l.drop (1 + (l.getD 0 0).toNat))
/-- The text. -/
def textOf (l : List UInt8) : ByteArray := ⟨((l.drop 1).take (l.getD 0 0).toNat).toArray⟩
theorem length_drop1 (l : List UInt8) (m k : Nat) (hl : l.length = 1 + m) (hk : k ≤ m) : (l.drop (1 + k)).length = m - k := by rw [List.length_drop, hl]; omega
end Go.Proofs.YtcepfmjebgklfaaDoor
