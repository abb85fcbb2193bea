/- More steps of the sealed quiet walk: a slice of an array, some bytes as a string, an element. Over any program. -/
import Derived.Test.YtnbdnnlomgjlmaaSealed
namespace Go.Proofs.Ytnbdnnlomgjlmaa
open Go.RowKit
set_option linter.unusedSimpArgs false
section
variable {P : Program} {ops : Array Oper} {C : World → Prop} {Q : Act → Prop} {rest : List Oper} {o : Oper} {a : Act}
theorem wanted_none (h : o.guard = none) : Region.wanted o (yielded ops a.tmps) = true := by simp [Region.wanted, h]
theorem wanted_yes (j : Nat) (b : Bool) (h : o.guard = some (j, b)) (hy : ((ops[j]?).bind (·.dst)).bind (a.tmps[·]?) = some (.bool b)) : Region.wanted o (yielded ops a.tmps) = true := by
  unfold Region.wanted yielded; rw [h]; simp only [hy]; simp
theorem wanted_not (j : Nat) (b c : Bool) (hbc : (c != b) = true) (h : o.guard = some (j, b)) (hy : ((ops[j]?).bind (·.dst)).bind (a.tmps[·]?) = some (.bool c)) : Region.wanted o (yielded ops a.tmps) = false := by
  unfold Region.wanted yielded; rw [h]; simp only [hy]
  cases b <;> cases c <;> simp_all
theorem wanted_undef (j : Nat) (b : Bool) (h : o.guard = some (j, b)) (hy : ((ops[j]?).bind (·.dst)).bind (a.tmps[·]?) = some undef) : Region.wanted o (yielded ops a.tmps) = false := by
  unfold Region.wanted yielded; rw [h]; simp only [hy]; simp [undef]
theorem wk_neq_bool (r : Bool) (t ty : TypeId) (x y : Operand) (m n : Bool) (hw : Region.wanted o (yielded ops a.tmps) = true) (ho : o.op = .binOp .neq t x y ty) (ht : P.underlying t = some .bool)
    (hx : a.eval x = .bool m) (hy : a.eval y = .bool n) (hr : (m != n) = r) (h : WQ P ops C Q rest (a.put o.dst (.bool r))) : WQ P ops C Q (o :: rest) a :=
  wk_bin _ .neq t ty x y hw ho (fun w => by
    have : (binOp .neq t (.bool m) (.bool n)).run P w = .ok (.bool (m != n)) w := by simp [binOp, Op.equal, Op.maxDepth, run_equalIn_bool' w 9999 t m n ht]; cases m <;> cases n <;> rfl
    simp [hx, hy, eqGuard, this, hr]) h
/-- b[:n] of an array in a block of its own. -/
theorem wk_slice_arr (n N : Nat) (k : IntKind) (t e : TypeId) (x hi : Operand) (g : Nat) (hw : Region.wanted o (yielded ops a.tmps) = true) (ho : o.op = .slice t x none (some hi) none) (ht : P.underlying t = some (.array N e))
    (hs : (P.info? e).map (·.size) = some 1) (hx : a.eval x = .pointer (some ⟨g, 0, none⟩)) (hh : a.eval hi = .int k (n : Int)) (hn : n ≤ N) (hN : 0 < N) (h : WQ P ops C Q rest (a.put o.dst (.slice (some ⟨g, 0, none⟩) n N))) : WQ P ops C Q (o :: rest) a :=
  wk_val _ hw (fun w _ => by
    obtain ⟨f, hf, hf1⟩ : ∃ f, P.info? e = some f ∧ f.size = 1 := by
      cases hq : P.info? e with
      | none => simp [hq] at hs
      | some f => exact ⟨f, rfl, by simpa [hq] using hs⟩
    have h0 : ¬ N = 0 := by omega
    unfold execOp
    simp only [ho, hx, Option.map_some, Option.map_none, hh]
    simp [Instr.sliceAt, Instr.slice, run_underlying ht, Instr.sliceBounds, Instr.sliceBound, asIntOf, hn, sizeOf, typeInfo, hf, hf1, Addr.add_lit, h0, Instr.sureAddr]) h
/-- The first bytes of a block as a string. -/
theorem wk_bytes_pre (src dst e : TypeId) (x : Operand) (g n c : Nat) (et : TypeId) (l : List UInt8) (hw : Region.wanted o (yielded ops a.tmps) = true) (ho : o.op = .convert src dst x)
    (hx : a.eval x = .slice (some ⟨g, 0, none⟩) n c) (hs : P.underlying src = some (.slice e)) (he : P.underlying e = some (.int .u8)) (hd : P.underlying dst = some .string)
    (hl : n ≤ l.length) (hg : ∀ w, C w → w.heap[g]? = some (.cells (blk l) et (0, 0))) (h : WQ P ops C Q rest (a.put o.dst (.string ⟨(l.take n).toArray⟩))) : WQ P ops C Q (o :: rest) a :=
  wk_val _ hw (fun w hC => by
    unfold execOp
    simp only [ho, hx, Sem.run_bind, run_bytes_str w src dst e ⟨g, 0, none⟩ n c hs he hd (l.take n) (by simp [hl]) (fun j v hj => by
      rw [Addr.add_lit, Nat.zero_add, cell_of_row w g j _ _ _ (hg w hC)]
      rw [List.map_take, List.getElem?_take] at hj
      split at hj
      · simpa [blk] using hj
      · cases hj), Result.andThen_ok, Sem.run_pure]) h
/-- The address of an array's element. -/
theorem wk_index_arr (t e : TypeId) (x ix : Operand) (g k N : Nat) (kk : IntKind) (hw : Region.wanted o (yielded ops a.tmps) = true) (ho : o.op = .indexAddr t x ix)
    (ht : P.underlying t = some (.array N e)) (hs : (P.info? e).map (·.size) = some 1) (hx : a.eval x = .pointer (some ⟨g, 0, none⟩)) (hi : a.eval ix = .int kk (k : Int)) (hk : k < N)
    (h : WQ P ops C Q rest (a.put o.dst (.pointer (some ⟨g, k, none⟩)))) : WQ P ops C Q (o :: rest) a :=
  wk_val _ hw (fun w _ => by
    obtain ⟨f, hf, hf1⟩ : ∃ f, P.info? e = some f ∧ f.size = 1 := by
      cases hq : P.info? e with
      | none => simp [hq] at hs
      | some f => exact ⟨f, rfl, by simpa [hq] using hs⟩
    have hk' : (0 : Int) ≤ (k : Int) ∧ (k : Int) < (N : Int) := by omega
    unfold execOp
    simp only [ho, hx, hi]
    simp [Instr.indexAt, asIntOf, run_underlying ht, hk', sizeOf, typeInfo, hf, hf1, Addr.add_lit, hk, asAddr, Instr.sureAddr]) h
end
end Go.Proofs.Ytnbdnnlomgjlmaa
