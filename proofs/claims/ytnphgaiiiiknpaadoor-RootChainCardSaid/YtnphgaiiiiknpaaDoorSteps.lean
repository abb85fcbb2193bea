/- More steps of the sealed quiet walk: sums and products of any kind, conversions, an element's address behind a pointer into a block. Over any program. -/
import Derived.Test.YtnphgaiiiiknpaaDoorQuiet
import Derived.Laws.Tables
namespace Go.Proofs.YtnphgaiiiiknpaaDoor
open Go.RowKit
set_option linter.unusedSimpArgs false
section
variable {P : Program} {ops : Array Oper} {C : World → Prop} {o : Oper} {a : Act} {rest : List Oper} {Q : Act → Prop}
theorem wk_addk (k : IntKind) (t ty : TypeId) (x y : Operand) (m n z : Int) (hw : Region.wanted o (yielded ops a.tmps) = true) (ho : o.op = .binOp .add t x y ty) (hx : a.eval x = .int k m) (hy : a.eval y = .int k n) (hz : k.wrap (m + n) = z)
    (h : WQ P ops C Q rest (a.put o.dst (.int k z))) : WQ P ops C Q (o :: rest) a :=
  wk_bin _ .add t ty x y hw ho (fun w => by
    have h1 : (binOp .add t (.int k m) (.int k n)).run P w = .ok (.int k (k.wrap (m + n))) w := by cases k <;> rfl
    have h0 : (eqGuard .add t x y (.int k m) (.int k n)).run P w = .ok () w := rfl
    simp only [hx, hy, Sem.run_bind, h0, Result.andThen_ok, h1, hz]) h
theorem wk_mulk (k : IntKind) (t ty : TypeId) (x y : Operand) (m n z : Int) (hw : Region.wanted o (yielded ops a.tmps) = true) (ho : o.op = .binOp .mul t x y ty) (hx : a.eval x = .int k m) (hy : a.eval y = .int k n) (hz : k.wrap (m * n) = z)
    (h : WQ P ops C Q rest (a.put o.dst (.int k z))) : WQ P ops C Q (o :: rest) a :=
  wk_bin _ .mul t ty x y hw ho (fun w => by
    have h1 : (binOp .mul t (.int k m) (.int k n)).run P w = .ok (.int k (k.wrap (m * n))) w := by cases k <;> rfl
    have h0 : (eqGuard .mul t x y (.int k m) (.int k n)).run P w = .ok () w := rfl
    simp only [hx, hy, Sem.run_bind, h0, Result.andThen_ok, h1, hz]) h
theorem wk_convert (s d : TypeId) (x : Operand) (u v : Value) (hw : Region.wanted o (yielded ops a.tmps) = true) (ho : o.op = .convert s d x) (hx : a.eval x = u) (hr : ∀ w : World, (convert s d u).run P w = .ok v w)
    (h : WQ P ops C Q rest (a.put o.dst v)) : WQ P ops C Q (o :: rest) a :=
  wk_val _ hw (fun w _ => by
    unfold execOp
    simp only [ho, hx, Sem.run_bind, hr, Sem.run_pure, Result.andThen_ok]) h
theorem run_conv_int (s d : TypeId) (k k' : IntKind) (hs : P.underlying s = some (.int k)) (hd : P.underlying d = some (.int k')) (n : Int) (hn : k'.wrap n = n) (w : World) : (convert s d (.int k n)).run P w = .ok (.int k' n) w := by
  simp [convert, run_underlying hs, run_underlying hd, Conv.intToInt, hn]
theorem wk_index_at (t e : TypeId) (x ix : Operand) (g off k N : Nat) (kk : IntKind) (hw : Region.wanted o (yielded ops a.tmps) = true) (ho : o.op = .indexAddr t x ix)
    (ht : P.underlying t = some (.array N e)) (hs : (P.info? e).map (·.size) = some 1) (hx : a.eval x = .pointer (some ⟨g, off, none⟩)) (hi : a.eval ix = .int kk (k : Int)) (hk : k < N)
    (h : WQ P ops C Q rest (a.put o.dst (.pointer (some ⟨g, off + k, none⟩)))) : WQ P ops C Q (o :: rest) a :=
  wk_val _ hw (fun w _ => by
    obtain ⟨f, hf, hf1⟩ : ∃ f, P.info? e = some f ∧ f.size = 1 := by
      cases hq : P.info? e with
      | none => simp [hq] at hs
      | some f => exact ⟨f, rfl, by simpa [hq] using hs⟩
    have hk' : (0 : Int) ≤ (k : Int) ∧ (k : Int) < (N : Int) := by omega
    unfold execOp
    simp only [ho, hx, hi]
    simp [Instr.indexAt, asIntOf, run_underlying ht, hk', sizeOf, typeInfo, hf, hf1, Addr.add_lit, hk, Instr.sureAddr]) h
theorem wk_build_none (ty : TypeId) (Z : Array Value) (hw : Region.wanted o (yielded ops a.tmps) = true) (ho : o.op = .build ty #[]) (hz : (P.info? ty).bind (·.zero) = some (.agg Z)) {d : TypeDesc} (hu : P.underlying ty = some d) (hd : (match d with | .array _ e => (P.info? e).isSome | _ => false) = true)
    (h : WQ P ops C Q rest (a.put o.dst (.agg Z))) : WQ P ops C Q (o :: rest) a :=
  wk_val _ hw (fun w _ => by
    unfold execOp
    have := run_build_none w ty Z hz hu hd
    simp only [ho, List.map_toArray, List.map_nil, Sem.run_bind, this, Result.andThen_ok, Sem.run_pure]) h
theorem wk_build (t : TypeId) (parts : Array (Nat × Operand)) (vals : List (Nat × Value)) (cells : Array Value) (hw : Region.wanted o (yielded ops a.tmps) = true) (ho : o.op = .build t parts) (hv : (parts.map fun (i, x) => (i, a.eval x)).toList = vals)
    (hb : P.built t vals = some cells) (h : WQ P ops C Q rest (a.put o.dst (.agg cells))) : WQ P ops C Q (o :: rest) a :=
  wk_val _ hw (fun w _ => by
    unfold execOp
    have := run_build w t (parts.map fun (i, x) => (i, a.eval x)) cells (by rw [hv]; exact hb)
    simp only [ho, Sem.run_bind, this, Result.andThen_ok, Sem.run_pure]) h
end
end Go.Proofs.YtnphgaiiiiknpaaDoor
