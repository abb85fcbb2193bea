/- The document's texts: Text. -/
import Derived.Test.YtcepfmjebgklfaaDoorRefRow
import Derived.Test.YtcepfmjebgklfaaDoorRef02
import Derived.Test.YtcepfmjebgklfaaDoorFlow
import Derived.Great.BuildSlice
import Derived.Laws.MakeOwn
namespace Go.Proofs.YtcepfmjebgklfaaDoor
open Go.RowKit
set_option linter.unusedSimpArgs false
set_option linter.unusedVariables false
set_option maxRecDepth 100000
section
variable {P : Program} {ops : Array Oper} {C : World → Prop} {o : Oper} {a : Act} {rest : List Oper} {Q : Act → Prop}
theorem wk_len_str (t : TypeId) (x : Operand) (s : ByteArray) (ht : P.underlying t = some .string) (hw : Region.wanted o (yielded ops a.tmps) = true) (ho : o.op = .call { callee := .builtin .len, args := #[x], argTypes := #[t] })
    (hx : a.eval x = .string s) (h : WQ P ops C Q rest (a.put o.dst (.int .i64 (s.size : Int)))) : WQ P ops C Q (o :: rest) a :=
  wk_val _ hw (fun w _ => by
    unfold execOp
    simp [ho, hx, resolve, invoke, builtin, Builtin.len_, run_underlying ht, goInt]) h
end
section
variable {P : Program} {Q : Exit → Act → World → Prop} {K : Act → World → Prop} {o : Oper} {a : Act} {w : World}
theorem wpo_len_str (t : TypeId) (x : Operand) (s : ByteArray) (ht : P.underlying t = some .string) (ho : o.op = .call { callee := .builtin .len, args := #[x], argTypes := #[t] })
    (hx : a.eval x = .string s) (h : K (a.put o.dst (.int .i64 (s.size : Int))) w) : o.wp P a w K Q :=
  wp_value _ (by
    unfold execOp
    simp [ho, hx, resolve, invoke, builtin, Builtin.len_, run_underlying ht, goInt]) h
theorem wpo_add_str (t ty : TypeId) (x y : Operand) (s u : ByteArray) (ho : o.op = .binOp .add t x y ty) (hx : a.eval x = .string s) (hy : a.eval y = .string u) (hl : s.size + u.size ≤ maxLen)
    (h : K (a.put o.dst (.string (s ++ u))) w) : o.wp P a w K Q :=
  wpo_bin _ .add t ty x y ho (by
    have h1 : (binOp .add t (.string s) (.string u)).run P w = .ok (.string (s ++ u)) w := by
      have : ¬ maxLen < s.size + u.size := by omega
      simp [binOp, Op.stringOp, this, maxLen] at hl ⊢
      omega
    have h0 : (eqGuard .add t x y (.string s) (.string u)).run P w = .ok () w := rfl
    simp only [hx, hy, Sem.run_bind, h0, Result.andThen_ok, h1]) h
theorem wpo_sub (t ty : TypeId) (x y : Operand) (m n z : Int) (ho : o.op = .binOp .sub t x y ty) (hx : a.eval x = .int .i64 m) (hy : a.eval y = .int .i64 n) (hz : IntKind.i64.wrap (m - n) = z)
    (h : K (a.put o.dst (.int .i64 z)) w) : o.wp P a w K Q :=
  wpo_bin _ .sub t ty x y ho (by
    have h1 : (binOp .sub t (.int .i64 m) (.int .i64 n)).run P w = .ok (.int .i64 (IntKind.i64.wrap (m - n))) w := rfl
    have h0 : (eqGuard .sub t x y (.int .i64 m) (.int .i64 n)).run P w = .ok () w := rfl
    simp only [hx, hy, Sem.run_bind, h0, Result.andThen_ok, h1, hz]) h
theorem wpo_make (t e : TypeId) (x y : Operand) (i : TypeInfo) (z : Value) (n : Nat) (ht : P.underlying t = some (.slice e)) (hi : P.info? e = some i) (hz : i.zero = some z) (hb : i.bytes = 1) (hs : i.size = 1) (hzc : z.cells = #[z])
    (ho : o.op = .makeSlice t x y) (hx : a.eval x = .int .i64 (n : Int)) (hy : a.eval y = .int .i64 (n : Int)) (hn : n ≤ 100000)
    (h : K (a.put o.dst (.slice (some ⟨w.heap.size, 0, none⟩) n n)) (w.alloc (.cells (List.replicate n z).toArray e))) : o.wp P a w K Q := by
  have hm : madeCells z.cells n = (List.replicate n z).toArray := by
    rw [hzc]
    unfold madeCells
    apply Array.ext
    · simp
    · intro k h1 h2
      simp [Nat.mod_one]
  have := run_makeSlice w t e i z ht hi hz .i64 .i64 (n : Int) (n : Int) (by omega) (by omega) (by simp only [Int.toNat_natCast]; rw [hs]; omega) (by rw [hb]; omega) (by omega)
  simp only [Int.toNat_natCast, hs, Nat.mul_one, hm] at this
  unfold Oper.wp execOp
  simp only [ho, hx, hy, Sem.run_bind, this, Result.andThen_ok]
  exact h
end
/-- What the slots of Text's last region hold. -/
def txV (s : ByteArray) (n m d : Nat) (t : Tmp) (v : Value) (w : World) : Prop :=
  match t with
  | 18 => v = .string s
  | 19 => v = .int .i64 (n : Int)
  | 20 => v = .int .u8 (n : Int)
  | 21 => ∃ g, v = .slice (some ⟨g, 0, none⟩) 1 1 ∧ w.heap[g]? = some (.cells #[.int .u8 (n : Int)] 5 (0, 0))
  | 22 => v = .string ⟨#[UInt8.ofNat n]⟩
  | 23 => v = .string s
  | 24 => v = .string (⟨#[UInt8.ofNat n]⟩ ++ s)
  | 25 => v = .int .i64 (m : Int)
  | 26 => v = .string s
  | 27 => v = .int .i64 (n : Int)
  | 28 => v = .int .i64 (d : Int)
  | 29 => ∃ g, v = .slice (some ⟨g, 0, none⟩) d d ∧ w.heap[g]? = some (.cells (List.replicate d (Value.int .u8 0)).toArray 5 (0, 0))
  | 30 => v = .string ⟨(List.replicate d 0).toArray⟩
  | 31 => v = .string ⟨(textB s.data.toList m).toArray⟩
  | _ => True
theorem txV_stab (s : ByteArray) (n m d : Nat) : ∀ t v w w', txV s n m d t v w → Below w.heap.size w w' → txV s n m d t v w' := by
  intro t v w w' h hb
  unfold txV at h ⊢
  split at h <;> first
    | exact h
    | (obtain ⟨g, h1, h2⟩ := h
       exact ⟨g, h1, (hb.block g (Array.getElem?_eq_some_iff.1 h2).1).trans h2⟩)
    | trivial
end Go.Proofs.YtcepfmjebgklfaaDoor
