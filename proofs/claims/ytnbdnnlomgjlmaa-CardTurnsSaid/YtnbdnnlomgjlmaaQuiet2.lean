/- More steps of the quiet walk: the address of an element, a load of one cell. Over any program. -/
import Derived.Test.YtnbdnnlomgjlmaaQuiet
namespace Go.Proofs.Ytnbdnnlomgjlmaa
open Go.RowKit
section
variable {P : Program} {ops : Array Oper} {C : World → Prop} {Q : Act → Prop} {rest : List Oper} {o : Oper} {a : Act}
theorem wq_index (t e : TypeId) (x ix : Operand) (b off n c k sz : Nat) (kk : IntKind) (hw : Region.wanted o (yielded ops a.tmps) = true) (ho : o.op = .indexAddr t x ix)
    (ht : P.underlying t = some (.slice e)) (hs : (P.info? e).map (·.size) = some sz) (hx : a.eval x = .slice (some ⟨b, off, none⟩) n c) (hi : a.eval ix = .int kk (k : Int)) (hk : k < n)
    (h : wpQuiet P ops C Q rest (a.put o.dst (.pointer (some ⟨b, off + k * sz, none⟩)))) : wpQuiet P ops C Q (o :: rest) a :=
  wq_val _ hw (fun w _ => by
    cases hq : P.info? e with
    | none => simp [hq] at hs
    | some i =>
      have hs' : i.size = sz := by simpa [hq] using hs
      have hk' : (0 : Int) ≤ (k : Int) ∧ (k : Int) < (n : Int) := by omega
      unfold execOp
      simp only [ho, hx, hi]
      simp [Instr.indexAt, asIntOf, run_underlying ht, hk', sizeOf, typeInfo, hq, hs', Addr.add, hk]) h
theorem run_loadAt_one (w : World) (ty : TypeId) (ad : Addr) (v : Value) (d : TypeDesc) (hd : (match d with | .struct _ | .array _ _ => true | _ => false) = false) (hu : P.underlying ty = some d)
    (hg : w.cell? ad = some v) : (Instr.loadAt ty (.pointer (some ad))).run P w = .ok v w := by
  have hagg : (isAgg ty).run P w = .ok false w := by
    unfold isAgg
    rw [Sem.run_bind, run_underlying hu w]
    cases d <;> simp_all
  have hl : (load ad).run P w = .ok v w := by rw [run_load, hg]
  simp only [Instr.loadAt, Instr.sureAddr, Sem.run_bind, Sem.run_pure, Result.andThen_ok, loadVar, hagg, Bool.false_eq_true, if_false, hl]
theorem wq_load1 (ty : TypeId) (x : Operand) (ad : Addr) (v : Value) (d : TypeDesc) (hd : (match d with | .struct _ | .array _ _ => true | _ => false) = false) (hw : Region.wanted o (yielded ops a.tmps) = true) (ho : o.op = .load ty x)
    (hx : a.eval x = .pointer (some ad)) (hg : ∀ w, C w → w.cell? ad = some v) (hu : P.underlying ty = some d)
    (h : wpQuiet P ops C Q rest (a.put o.dst v)) : wpQuiet P ops C Q (o :: rest) a :=
  wq_val _ hw (fun w hC => by
    unfold execOp
    simp only [ho, hx, run_loadAt_one w ty ad v d hd hu (hg w hC), Sem.run_bind, Sem.run_pure, Result.andThen_ok]) h
theorem wq_movev (x : Operand) (v : Value) (hw : Region.wanted o (yielded ops a.tmps) = true) (ho : o.op = .move x) (hv : a.eval x = v) (h : wpQuiet P ops C Q rest (a.put o.dst v)) : wpQuiet P ops C Q (o :: rest) a :=
  wq_move x hw ho (hv ▸ h)
theorem wq_assignv (x : Operand) (v : Value) (hw : Region.wanted o (yielded ops a.tmps) = true) (ho : o.op = .assign x) (hv : a.eval x = v) (h : wpQuiet P ops C Q rest (a.put o.dst v)) : wpQuiet P ops C Q (o :: rest) a :=
  wq_assign x hw ho (hv ▸ h)
theorem wq_pickt (c x y : Operand) (v : Value) (hw : Region.wanted o (yielded ops a.tmps) = true) (ho : o.op = .pick c x y) (hc : a.eval c = .bool true) (hv : a.eval x = v)
    (h : wpQuiet P ops C Q rest (a.put o.dst v)) : wpQuiet P ops C Q (o :: rest) a := wq_pick true c x y hw ho hc (by subst hv; exact h)
theorem wq_pickf (c x y : Operand) (v : Value) (hw : Region.wanted o (yielded ops a.tmps) = true) (ho : o.op = .pick c x y) (hc : a.eval c = .bool false) (hv : a.eval y = v)
    (h : wpQuiet P ops C Q rest (a.put o.dst v)) : wpQuiet P ops C Q (o :: rest) a := wq_pick false c x y hw ho hc (by subst hv; exact h)
theorem Since.cell {W w : World} {ad : Addr} {v : Value} (hC : Since W w) (h : W.cell? ad = some v) : w.cell? ad = some v :=
  (Below.cell hC (World.block_lt_of_cell? W ad h)).trans h
end
end Go.Proofs.Ytnbdnnlomgjlmaa
