/- The document's texts: Text; TakeText. -/
import Derived.Test.YtfbafmgclfnigaaDoorRefRow
import Derived.Test.YtfbafmgclfnigaaDoorRef02
import Derived.Test.YtfbafmgclfnigaaDoorReadT
import Derived.Test.YtfbafmgclfnigaaDoorCardLaw
import Derived.Test.YtfbafmgclfnigaaDoorFlow
import Derived.Great.BuildSlice
import Derived.Laws.MakeOwn
namespace Go.Proofs.YtfbafmgclfnigaaDoor
open Go.RowKit
set_option linter.unusedSimpArgs false
set_option linter.unusedVariables false
set_option maxRecDepth 100000
section
variable {P : Program} {ops : Array Oper} {C : World → Prop} {o : Oper} {a : Act} {rest : List Oper} {Q : Act → Prop}
theorem wk_len_str (t : TypeId) (x : Operand) (s : ByteArray) (ht : P.underlying t = some .string) (hw : Region.wanted o (yielded ops a.tmps) = true) (ho : o.op = .call { callee := .builtin .len, args := #[x], argTypes := #[t] })
    (hx : a.eval x = .string s) (h : WQ P ops C Q rest (a.put o.dst (.int .i64 (s.size : Int)))) : WQ P ops C Q (o :: rest) a :=
  wk_val _ hw (fun w _ => by
    unfold execOp
    simp [ho, hx, resolve, invoke, builtin, Builtin.len_, run_underlying ht, goInt]) h
end
section
variable {P : Program} {Q : Exit → Act → World → Prop} {K : Act → World → Prop} {o : Oper} {a : Act} {w : World}
theorem wpo_len_str (t : TypeId) (x : Operand) (s : ByteArray) (ht : P.underlying t = some .string) (ho : o.op = .call { callee := .builtin .len, args := #[x], argTypes := #[t] })
    (hx : a.eval x = .string s) (h : K (a.put o.dst (.int .i64 (s.size : Int))) w) : o.wp P a w K Q :=
  wp_value _ (by
    unfold execOp
    simp [ho, hx, resolve, invoke, builtin, Builtin.len_, run_underlying ht, goInt]) h
theorem wpo_add_str (t ty : TypeId) (x y : Operand) (s u : ByteArray) (ho : o.op = .binOp .add t x y ty) (hx : a.eval x = .string s) (hy : a.eval y = .string u) (hl : s.size + u.size ≤ maxLen)
    (h : K (a.put o.dst (.string (s ++ u))) w) : o.wp P a w K Q :=
  wpo_bin _ .add t ty x y ho (by
    have h1 : (binOp .add t (.string s) (.string u)).run P w = .ok (.string (s ++ u)) w := by
      have : ¬ maxLen < s.size + u.size := by omega
      simp [binOp, Op.stringOp, this, maxLen] at hl ⊢
      omega
    have h0 : (eqGuard .add t x y (.string s) (.string u)).run P w = .ok () w := rfl
    simp only [hx, hy, Sem.run_bind, h0, Result.andThen_ok, h1]) h
theorem wpo_sub (t ty : TypeId) (x y : Operand) (m n z : Int) (ho : o.op = .binOp .sub t x y ty) (hx : a.eval x = .int .i64 m) (hy : a.eval y = .int .i64 n) (hz : IntKind.i64.wrap (m - n) = z)
    (h : K (a.put o.dst (.int .i64 z)) w) : o.wp P a w K Q :=
  wpo_bin _ .sub t ty x y ho (by
    have h1 : (binOp .sub t (.int .i64 m) (.int .i64 n)).run P w = .ok (.int .i64 (IntKind.i64.wrap (m - n))) w := rfl
    have h0 : (eqGuard .sub t x y (.int .i64 m) (.int .i64 n)).run P w = .ok () w := rfl
    simp only [hx, hy, Sem.run_bind, h0, Result.andThen_ok, h1, hz]) h
theorem wpo_make (t e : TypeId) (x y : Operand) (i : TypeInfo) (z : Value) (n : Nat) (ht : P.underlying t = some (.slice e)) (hi : P.info? e = some i) (hz : i.zero = some z) (hb : i.bytes = 1) (hs : i.size = 1) (hzc : z.cells = #[z])
    (ho : o.op = .makeSlice t x y) (hx : a.eval x = .int .i64 (n : Int)) (hy : a.eval y = .int .i64 (n : Int)) (hn : n ≤ 100000)
    (h : K (a.put o.dst (.slice (some ⟨w.heap.size, 0, none⟩) n n)) (w.alloc (.cells (List.replicate n z).toArray e))) : o.wp P a w K Q := by
  have hm : madeCells z.cells n = (List.replicate n z).toArray := by
    rw [hzc]
    unfold madeCells
    apply Array.ext
    · simp
    · intro k h1 h2
      simp [Nat.mod_one]
  have := run_makeSlice w t e i z ht hi hz .i64 .i64 (n : Int) (n : Int) (by omega) (by omega) (by simp only [Int.toNat_natCast]; rw [hs]; omega) (by rw [hb]; omega) (by omega)
  simp only [Int.toNat_natCast, hs, Nat.mul_one, hm] at this
  unfold Oper.wp execOp
  simp only [ho, hx, hy, Sem.run_bind, this, Result.andThen_ok]
  exact h
end
/-- What the slots of Text's last region hold. -/
def txV (s : ByteArray) (n m d : Nat) (t : Tmp) (v : Value) (w : World) : Prop :=
  match t with
  | 18 => v = .string s
  | 19 => v = .int .i64 (n : Int)
  | 20 => v = .int .u8 (n : Int)
  | 21 => ∃ g, v = .slice (some ⟨g, 0, none⟩) 1 1 ∧ w.heap[g]? = some (.cells #[.int .u8 (n : Int)] 5 (0, 0))
  | 22 => v = .string ⟨#[UInt8.ofNat n]⟩
  | 23 => v = .string s
  | 24 => v = .string (⟨#[UInt8.ofNat n]⟩ ++ s)
  | 25 => v = .int .i64 (m : Int)
  | 26 => v = .string s
  | 27 => v = .int .i64 (n : Int)
  | 28 => v = .int .i64 (d : Int)
  | 29 => ∃ g, v = .slice (some ⟨g, 0, none⟩) d d ∧ w.heap[g]? = some (.cells (List.replicate d (Value.int .u8 0)).toArray 5 (0, 0))
  | 30 => v = .string ⟨(List.replicate d 0).toArray⟩
  | 31 => v = .string ⟨(textB s.data.toList m).toArray⟩
  | _ => True
theorem txV_stab (s : ByteArray) (n m d : Nat) : ∀ t v w w', txV s n m d t v w → Below w.heap.size w w' → txV s n m d t v w' := by
  intro t v w w' h hb
  unfold txV at h ⊢
  split at h <;> first
    | exact h
    | (obtain ⟨g, h1, h2⟩ := h
       exact ⟨g, h1, (hb.block g (Array.getElem?_eq_some_iff.1 h2).1).trans h2⟩)
    | trivial
set_option maxHeartbeats 1000000 in
theorem reftext_any (s : ByteArray) (m : Nat) (hs : s.size ≤ m) (hm : m ≤ 200) (w : World) :
    Calls Tryd.prog 42 #[.string s, .int .i64 (m : Int)] w fun e w' => e = .returned (.tuple #[.string ⟨(textB s.data.toList m).toArray⟩, .bool true]) ∧ Below w.heap.size w w' := by
  obtain ⟨n, hn⟩ : ∃ n, n = s.size := ⟨_, rfl⟩
  obtain ⟨d, hd⟩ : ∃ d, d = m - n := ⟨_, rfl⟩
  have hsz : s.size = n := hn.symm
  have hnm : n ≤ m := by omega
  have hsub : IntKind.i64.wrap ((m : Int) - (n : Int)) = (d : Int) := by rw [IntKind.wrap_i64] <;> omega
  have hu8 : IntKind.u8.wrap (n : Int) = (n : Int) := by rw [IntKind.wrap_u8] <;> omega
  have hcv : ∀ (W : World) (g : Nat), W.cell? ⟨g, 0, none⟩ = some (.int .u8 (n : Int)) → (convert 81 9 (.slice (some ⟨g, 0, none⟩) 1 1)).run Tryd.prog W = .ok (.string ⟨#[UInt8.ofNat n]⟩) W := by
    intro W g hc
    have hn' : (UInt8.ofNat n).toNat = n := by rw [UInt8.toNat_ofNat']; omega
    refine Lib.run_convert_whole W 81 5 9 Tryd.underlying81 Tryd.underlying5 Tryd.underlying9 g 0 ⟨#[UInt8.ofNat n]⟩ ?_ 1
    intro i hi
    obtain rfl : i = 0 := by simpa [ByteArray.size] using hi
    rw [Nat.zero_add, hc]
    show some (Value.int .u8 (n : Int)) = some (.int .u8 (((UInt8.ofNat n).toNat : Nat) : Int))
    rw [hn']
  have HC1 : Hid (cmpInt .lss (m : Int) 0 = some false) := Lib.hid (by show some (decide ((m : Int) < 0)) = _; rw [decide_eq_false (by omega)])
  have HC2 : Hid (cmpInt .gtr (m : Int) 200 = some false) := Lib.hid (by simp only [cmpInt]; congr 1; apply decide_eq_false; omega)
  have HC3 : Hid (cmpInt .gtr (n : Int) (m : Int) = some false) := Lib.hid (by simp only [cmpInt]; congr 1; apply decide_eq_false; omega)
  go_enter Tryd.func42, Tryd.ntmps42
  go_upto_region 1 with (fail)
  refine wk_plain_since ?_
  repeat (first
    | (refine wk_move _ (by first | exact wanted_none rfl | exact wanted_yes _ _ rfl rfl) rfl ?_; simp only [Act.put, Act.eval, Array.getD_eq_getD_getElem?, List.getElem?_toArray, List.getElem?_cons_succ, List.getElem?_cons_zero, Option.getD_some, List.setIfInBounds_toArray, List.set_cons_zero, List.set_cons_succ])
    | (refine wk_assign _ (by first | exact wanted_none rfl | exact wanted_yes _ _ rfl rfl) rfl ?_; simp only [Act.put, Act.eval, Array.getD_eq_getD_getElem?, List.getElem?_toArray, List.getElem?_cons_succ, List.getElem?_cons_zero, Option.getD_some, List.setIfInBounds_toArray, List.set_cons_zero, List.set_cons_succ])
    | (refine wk_pickt _ _ _ _ (by first | exact wanted_none rfl | exact wanted_yes _ _ rfl rfl) rfl rfl rfl ?_; simp only [Act.put, Act.eval, Array.getD_eq_getD_getElem?, List.getElem?_toArray, List.getElem?_cons_succ, List.getElem?_cons_zero, Option.getD_some, List.setIfInBounds_toArray, List.set_cons_zero, List.set_cons_succ])
    | (refine wk_pickf _ _ _ _ (by first | exact wanted_none rfl | exact wanted_yes _ _ rfl rfl) rfl rfl rfl ?_; simp only [Act.put, Act.eval, Array.getD_eq_getD_getElem?, List.getElem?_toArray, List.getElem?_cons_succ, List.getElem?_cons_zero, Option.getD_some, List.setIfInBounds_toArray, List.set_cons_zero, List.set_cons_succ])
    | (refine wk_skip (wanted_not _ true false rfl rfl rfl) ?_; simp only [Act.put, List.setIfInBounds_toArray, List.set_cons_zero, List.set_cons_succ])
    | (refine wk_skip (wanted_not _ false true rfl rfl rfl) ?_; simp only [Act.put, List.setIfInBounds_toArray, List.set_cons_zero, List.set_cons_succ])
    | (refine wk_skip (wanted_undef _ _ rfl rfl) ?_; simp only [Act.put, List.setIfInBounds_toArray, List.set_cons_zero, List.set_cons_succ])
    | (refine wk_not true _ _ (by first | exact wanted_none rfl | exact wanted_yes _ _ rfl rfl) rfl rfl ?_; simp only [Act.put, List.setIfInBounds_toArray, List.set_cons_zero, List.set_cons_succ])
    | (refine wk_not false _ _ (by first | exact wanted_none rfl | exact wanted_yes _ _ rfl rfl) rfl rfl ?_; simp only [Act.put, List.setIfInBounds_toArray, List.set_cons_zero, List.set_cons_succ]))
  refine wk_cmp_int .lss (false) _ _ _ _ _ _ _ (by kernel_rfl) rfl rfl rfl (HC1.out) ?_
  simp only [Act.put, List.setIfInBounds_toArray, List.set_cons_zero, List.set_cons_succ]
  repeat (first
    | (refine wk_move _ (by first | exact wanted_none rfl | exact wanted_yes _ _ rfl rfl) rfl ?_; simp only [Act.put, Act.eval, Array.getD_eq_getD_getElem?, List.getElem?_toArray, List.getElem?_cons_succ, List.getElem?_cons_zero, Option.getD_some, List.setIfInBounds_toArray, List.set_cons_zero, List.set_cons_succ])
    | (refine wk_assign _ (by first | exact wanted_none rfl | exact wanted_yes _ _ rfl rfl) rfl ?_; simp only [Act.put, Act.eval, Array.getD_eq_getD_getElem?, List.getElem?_toArray, List.getElem?_cons_succ, List.getElem?_cons_zero, Option.getD_some, List.setIfInBounds_toArray, List.set_cons_zero, List.set_cons_succ])
    | (refine wk_pickt _ _ _ _ (by first | exact wanted_none rfl | exact wanted_yes _ _ rfl rfl) rfl rfl rfl ?_; simp only [Act.put, Act.eval, Array.getD_eq_getD_getElem?, List.getElem?_toArray, List.getElem?_cons_succ, List.getElem?_cons_zero, Option.getD_some, List.setIfInBounds_toArray, List.set_cons_zero, List.set_cons_succ])
    | (refine wk_pickf _ _ _ _ (by first | exact wanted_none rfl | exact wanted_yes _ _ rfl rfl) rfl rfl rfl ?_; simp only [Act.put, Act.eval, Array.getD_eq_getD_getElem?, List.getElem?_toArray, List.getElem?_cons_succ, List.getElem?_cons_zero, Option.getD_some, List.setIfInBounds_toArray, List.set_cons_zero, List.set_cons_succ])
    | (refine wk_skip (wanted_not _ true false rfl rfl rfl) ?_; simp only [Act.put, List.setIfInBounds_toArray, List.set_cons_zero, List.set_cons_succ])
    | (refine wk_skip (wanted_not _ false true rfl rfl rfl) ?_; simp only [Act.put, List.setIfInBounds_toArray, List.set_cons_zero, List.set_cons_succ])
    | (refine wk_skip (wanted_undef _ _ rfl rfl) ?_; simp only [Act.put, List.setIfInBounds_toArray, List.set_cons_zero, List.set_cons_succ])
    | (refine wk_not true _ _ (by first | exact wanted_none rfl | exact wanted_yes _ _ rfl rfl) rfl rfl ?_; simp only [Act.put, List.setIfInBounds_toArray, List.set_cons_zero, List.set_cons_succ])
    | (refine wk_not false _ _ (by first | exact wanted_none rfl | exact wanted_yes _ _ rfl rfl) rfl rfl ?_; simp only [Act.put, List.setIfInBounds_toArray, List.set_cons_zero, List.set_cons_succ]))
  refine wk_cmp_int .gtr (false) _ _ _ _ _ _ _ (by kernel_rfl) rfl rfl rfl (HC2.out) ?_
  simp only [Act.put, List.setIfInBounds_toArray, List.set_cons_zero, List.set_cons_succ]
  repeat (first
    | (refine wk_move _ (by first | exact wanted_none rfl | exact wanted_yes _ _ rfl rfl) rfl ?_; simp only [Act.put, Act.eval, Array.getD_eq_getD_getElem?, List.getElem?_toArray, List.getElem?_cons_succ, List.getElem?_cons_zero, Option.getD_some, List.setIfInBounds_toArray, List.set_cons_zero, List.set_cons_succ])
    | (refine wk_assign _ (by first | exact wanted_none rfl | exact wanted_yes _ _ rfl rfl) rfl ?_; simp only [Act.put, Act.eval, Array.getD_eq_getD_getElem?, List.getElem?_toArray, List.getElem?_cons_succ, List.getElem?_cons_zero, Option.getD_some, List.setIfInBounds_toArray, List.set_cons_zero, List.set_cons_succ])
    | (refine wk_pickt _ _ _ _ (by first | exact wanted_none rfl | exact wanted_yes _ _ rfl rfl) rfl rfl rfl ?_; simp only [Act.put, Act.eval, Array.getD_eq_getD_getElem?, List.getElem?_toArray, List.getElem?_cons_succ, List.getElem?_cons_zero, Option.getD_some, List.setIfInBounds_toArray, List.set_cons_zero, List.set_cons_succ])
    | (refine wk_pickf _ _ _ _ (by first | exact wanted_none rfl | exact wanted_yes _ _ rfl rfl) rfl rfl rfl ?_; simp only [Act.put, Act.eval, Array.getD_eq_getD_getElem?, List.getElem?_toArray, List.getElem?_cons_succ, List.getElem?_cons_zero, Option.getD_some, List.setIfInBounds_toArray, List.set_cons_zero, List.set_cons_succ])
    | (refine wk_skip (wanted_not _ true false rfl rfl rfl) ?_; simp only [Act.put, List.setIfInBounds_toArray, List.set_cons_zero, List.set_cons_succ])
    | (refine wk_skip (wanted_not _ false true rfl rfl rfl) ?_; simp only [Act.put, List.setIfInBounds_toArray, List.set_cons_zero, List.set_cons_succ])
    | (refine wk_skip (wanted_undef _ _ rfl rfl) ?_; simp only [Act.put, List.setIfInBounds_toArray, List.set_cons_zero, List.set_cons_succ])
    | (refine wk_not true _ _ (by first | exact wanted_none rfl | exact wanted_yes _ _ rfl rfl) rfl rfl ?_; simp only [Act.put, List.setIfInBounds_toArray, List.set_cons_zero, List.set_cons_succ])
    | (refine wk_not false _ _ (by first | exact wanted_none rfl | exact wanted_yes _ _ rfl rfl) rfl rfl ?_; simp only [Act.put, List.setIfInBounds_toArray, List.set_cons_zero, List.set_cons_succ]))
  refine wk_len_str 9 _ s Tryd.underlying9 (wanted_yes _ _ rfl rfl) rfl rfl ?_
  simp only [Act.put, List.setIfInBounds_toArray, List.set_cons_zero, List.set_cons_succ]
  rw [hsz]
  repeat (first
    | (refine wk_move _ (by first | exact wanted_none rfl | exact wanted_yes _ _ rfl rfl) rfl ?_; simp only [Act.put, Act.eval, Array.getD_eq_getD_getElem?, List.getElem?_toArray, List.getElem?_cons_succ, List.getElem?_cons_zero, Option.getD_some, List.setIfInBounds_toArray, List.set_cons_zero, List.set_cons_succ])
    | (refine wk_assign _ (by first | exact wanted_none rfl | exact wanted_yes _ _ rfl rfl) rfl ?_; simp only [Act.put, Act.eval, Array.getD_eq_getD_getElem?, List.getElem?_toArray, List.getElem?_cons_succ, List.getElem?_cons_zero, Option.getD_some, List.setIfInBounds_toArray, List.set_cons_zero, List.set_cons_succ])
    | (refine wk_pickt _ _ _ _ (by first | exact wanted_none rfl | exact wanted_yes _ _ rfl rfl) rfl rfl rfl ?_; simp only [Act.put, Act.eval, Array.getD_eq_getD_getElem?, List.getElem?_toArray, List.getElem?_cons_succ, List.getElem?_cons_zero, Option.getD_some, List.setIfInBounds_toArray, List.set_cons_zero, List.set_cons_succ])
    | (refine wk_pickf _ _ _ _ (by first | exact wanted_none rfl | exact wanted_yes _ _ rfl rfl) rfl rfl rfl ?_; simp only [Act.put, Act.eval, Array.getD_eq_getD_getElem?, List.getElem?_toArray, List.getElem?_cons_succ, List.getElem?_cons_zero, Option.getD_some, List.setIfInBounds_toArray, List.set_cons_zero, List.set_cons_succ])
    | (refine wk_skip (wanted_not _ true false rfl rfl rfl) ?_; simp only [Act.put, List.setIfInBounds_toArray, List.set_cons_zero, List.set_cons_succ])
    | (refine wk_skip (wanted_not _ false true rfl rfl rfl) ?_; simp only [Act.put, List.setIfInBounds_toArray, List.set_cons_zero, List.set_cons_succ])
    | (refine wk_skip (wanted_undef _ _ rfl rfl) ?_; simp only [Act.put, List.setIfInBounds_toArray, List.set_cons_zero, List.set_cons_succ])
    | (refine wk_not true _ _ (by first | exact wanted_none rfl | exact wanted_yes _ _ rfl rfl) rfl rfl ?_; simp only [Act.put, List.setIfInBounds_toArray, List.set_cons_zero, List.set_cons_succ])
    | (refine wk_not false _ _ (by first | exact wanted_none rfl | exact wanted_yes _ _ rfl rfl) rfl rfl ?_; simp only [Act.put, List.setIfInBounds_toArray, List.set_cons_zero, List.set_cons_succ]))
  refine wk_cmp_int .gtr (false) _ _ _ _ _ _ _ (by kernel_rfl) rfl rfl rfl (HC3.out) ?_
  simp only [Act.put, List.setIfInBounds_toArray, List.set_cons_zero, List.set_cons_succ]
  repeat (first
    | (refine wk_move _ (by first | exact wanted_none rfl | exact wanted_yes _ _ rfl rfl) rfl ?_; simp only [Act.put, Act.eval, Array.getD_eq_getD_getElem?, List.getElem?_toArray, List.getElem?_cons_succ, List.getElem?_cons_zero, Option.getD_some, List.setIfInBounds_toArray, List.set_cons_zero, List.set_cons_succ])
    | (refine wk_assign _ (by first | exact wanted_none rfl | exact wanted_yes _ _ rfl rfl) rfl ?_; simp only [Act.put, Act.eval, Array.getD_eq_getD_getElem?, List.getElem?_toArray, List.getElem?_cons_succ, List.getElem?_cons_zero, Option.getD_some, List.setIfInBounds_toArray, List.set_cons_zero, List.set_cons_succ])
    | (refine wk_pickt _ _ _ _ (by first | exact wanted_none rfl | exact wanted_yes _ _ rfl rfl) rfl rfl rfl ?_; simp only [Act.put, Act.eval, Array.getD_eq_getD_getElem?, List.getElem?_toArray, List.getElem?_cons_succ, List.getElem?_cons_zero, Option.getD_some, List.setIfInBounds_toArray, List.set_cons_zero, List.set_cons_succ])
    | (refine wk_pickf _ _ _ _ (by first | exact wanted_none rfl | exact wanted_yes _ _ rfl rfl) rfl rfl rfl ?_; simp only [Act.put, Act.eval, Array.getD_eq_getD_getElem?, List.getElem?_toArray, List.getElem?_cons_succ, List.getElem?_cons_zero, Option.getD_some, List.setIfInBounds_toArray, List.set_cons_zero, List.set_cons_succ])
    | (refine wk_skip (wanted_not _ true false rfl rfl rfl) ?_; simp only [Act.put, List.setIfInBounds_toArray, List.set_cons_zero, List.set_cons_succ])
    | (refine wk_skip (wanted_not _ false true rfl rfl rfl) ?_; simp only [Act.put, List.setIfInBounds_toArray, List.set_cons_zero, List.set_cons_succ])
    | (refine wk_skip (wanted_undef _ _ rfl rfl) ?_; simp only [Act.put, List.setIfInBounds_toArray, List.set_cons_zero, List.set_cons_succ])
    | (refine wk_not true _ _ (by first | exact wanted_none rfl | exact wanted_yes _ _ rfl rfl) rfl rfl ?_; simp only [Act.put, List.setIfInBounds_toArray, List.set_cons_zero, List.set_cons_succ])
    | (refine wk_not false _ _ (by first | exact wanted_none rfl | exact wanted_yes _ _ rfl rfl) rfl rfl ?_; simp only [Act.put, List.setIfInBounds_toArray, List.set_cons_zero, List.set_cons_succ]))
  refine wk_nil ?_
  intro w' hC
  obtain ⟨i0, hi, hz0, hz1, hz2⟩ := info_parts infoU8
  have HI := Lib.hid hi
  have HZ0 := Lib.hid hz0
  have HC : Hid (Since w w') := Lib.hid hC
  have HCV := Lib.hid hcv
  have HU8 := Lib.hid hu8
  have HSUB := Lib.hid hsub
  have HSZ := Lib.hid hsz
  have HD := Lib.hid hd
  clear hC hi hz0 hcv hu8 hsub hsz hd
  go_wp2_with fail
  refine wp_region_flow (by kernel_rfl) 14 (txV s n m d) (txV_stab s n m d) (by kernel_rfl) (by kernel_rfl) (by kernel_rfl) (by kernel_rfl) ?_ ?_
  · refine ⟨.inr ⟨rfl, 18, rfl, fun a v hB hO hD K hK => ?_⟩, .inr ⟨rfl, 19, rfl, fun a v hB hO hD K hK => ?_⟩, .inr ⟨rfl, 20, rfl, fun a v hB hO hD K hK => ?_⟩, .inr ⟨rfl, 21, rfl, fun a v hB hO hD K hK => ?_⟩, .inr ⟨rfl, 22, rfl, fun a v hB hO hD K hK => ?_⟩, .inr ⟨rfl, 23, rfl, fun a v hB hO hD K hK => ?_⟩, .inr ⟨rfl, 24, rfl, fun a v hB hO hD K hK => ?_⟩, .inr ⟨rfl, 25, rfl, fun a v hB hO hD K hK => ?_⟩, .inr ⟨rfl, 26, rfl, fun a v hB hO hD K hK => ?_⟩, .inr ⟨rfl, 27, rfl, fun a v hB hO hD K hK => ?_⟩, .inr ⟨rfl, 28, rfl, fun a v hB hO hD K hK => ?_⟩, .inr ⟨rfl, 29, rfl, fun a v hB hO hD K hK => ?_⟩, .inr ⟨rfl, 30, rfl, fun a v hB hO hD K hK => ?_⟩, .inr ⟨rfl, 31, rfl, fun a v hB hO hD K hK => ?_⟩, .inl (by decide), .inl (by decide), trivial⟩
    · exact wpo_move _ _ rfl (eval_of (t := 0) (by rw [hO 0 (not_dst 0 (by kernel_rfl))]; rfl)) (hK _ _ rfl (Below.refl _ _))
    · obtain ⟨u, hu, hv⟩ := flow_of hD 0 (by kernel_rfl) 18 (by kernel_rfl)
      exact wpo_len_str 9 _ s Tryd.underlying9 rfl (hu.trans hv) (hK _ _ (by rw [HSZ.out]; rfl) (Below.refl _ _))
    · obtain ⟨u, hu, hv⟩ := flow_of hD 1 (by kernel_rfl) 19 (by kernel_rfl)
      exact wp_convert _ _ _ _ _ rfl (hu.trans hv) (run_conv_int _ _ .i64 .u8 Tryd.underlying3 Tryd.underlying5 (n : Int) HU8.out v) (hK _ _ rfl (Below.refl _ _))
    · obtain ⟨u, hu, hv⟩ := flow_of hD 2 (by kernel_rfl) 20 (by kernel_rfl)
      refine wp_buildSlice 81 5 1 _ rfl #[.int .u8 (n : Int)] i0 (.int .u8 0) Tryd.underlying81 HI.out HZ0.out (by rw [hz1]; decide) (by rw [hz1]; decide) ?_ (hK _ _ ⟨_, rfl, heap_alloc_new _ _⟩ ((Below.refl _ _).alloc (Nat.le_refl _) _))
      simp only [List.map_toArray, List.map_cons, List.map_nil, hu.trans hv, hz1]
      have := Great.fill_whole (s := 1) (by decide) [Value.int .u8 (n : Int)] ((Array.range (1 * 1)).map ((Value.int .u8 0).cells[· % (Value.int .u8 0).cells.size]!)) (by intro v hv; simp at hv; subst hv; rfl) (by simp)
      have e1 : ([(0, Value.int .u8 (n : Int))] : List (Nat × Value)) = (([Value.int .u8 (n : Int)].zipIdx 0).map fun x => (x.2, x.1)) := by simp
      have hv' : u = .int .u8 (n : Int) := hv
      rw [e1, this]
      rfl
    · obtain ⟨u, hu, g, rfl, hg⟩ := flow_of hD 3 (by kernel_rfl) 21 (by kernel_rfl)
      exact wp_convert _ _ _ _ _ rfl hu (HCV.out v g (by rw [cell_of_row v g 0 _ _ _ hg]; rfl)) (hK _ _ rfl (Below.refl _ _))
    · exact wpo_move _ _ rfl (eval_of (t := 0) (by rw [hO 0 (not_dst 0 (by kernel_rfl))]; rfl)) (hK _ _ rfl (Below.refl _ _))
    · obtain ⟨u, hu, hv⟩ := flow_of hD 4 (by kernel_rfl) 22 (by kernel_rfl)
      obtain ⟨u', hu', hv'⟩ := flow_of hD 5 (by kernel_rfl) 23 (by kernel_rfl)
      exact wpo_add_str _ _ _ _ _ _ rfl (hu.trans hv) (hu'.trans hv') (by rw [HSZ.out]; show 1 + n ≤ maxLen; unfold maxLen; omega) (hK _ _ rfl (Below.refl _ _))
    · exact wpo_move _ _ rfl (eval_of (t := 1) (by rw [hO 1 (not_dst 1 (by kernel_rfl))]; rfl)) (hK _ _ rfl (Below.refl _ _))
    · exact wpo_move _ _ rfl (eval_of (t := 0) (by rw [hO 0 (not_dst 0 (by kernel_rfl))]; rfl)) (hK _ _ rfl (Below.refl _ _))
    · obtain ⟨u, hu, hv⟩ := flow_of hD 8 (by kernel_rfl) 26 (by kernel_rfl)
      exact wpo_len_str 9 _ s Tryd.underlying9 rfl (hu.trans hv) (hK _ _ (by rw [HSZ.out]; rfl) (Below.refl _ _))
    · obtain ⟨u, hu, hv⟩ := flow_of hD 7 (by kernel_rfl) 25 (by kernel_rfl)
      obtain ⟨u', hu', hv'⟩ := flow_of hD 9 (by kernel_rfl) 27 (by kernel_rfl)
      exact wpo_sub _ _ _ _ _ _ _ rfl (hu.trans hv) (hu'.trans hv') HSUB.out (hK _ _ rfl (Below.refl _ _))
    · obtain ⟨u, hu, hv⟩ := flow_of hD 10 (by kernel_rfl) 28 (by kernel_rfl)
      exact wpo_make 81 5 _ _ i0 (.int .u8 0) d Tryd.underlying81 HI.out HZ0.out hz2 hz1 rfl rfl (hu.trans hv) (hu.trans hv) (by have := HD.out; omega) (hK _ _ ⟨_, rfl, heap_alloc_new _ _⟩ ((Below.refl _ _).alloc (Nat.le_refl _) _))
    · obtain ⟨u, hu, g, rfl, hg⟩ := flow_of hD 11 (by kernel_rfl) 29 (by kernel_rfl)
      refine wp_convert _ _ _ _ _ rfl hu (run_bytes_str v 81 9 5 ⟨g, 0, none⟩ d d Tryd.underlying81 Tryd.underlying5 Tryd.underlying9 (List.replicate d 0) (by simp) (fun j x hj => ?_)) (hK _ _ rfl (Below.refl _ _))
      rw [Addr.add_lit, Nat.zero_add, cell_of_row v g j _ _ _ hg, List.getElem?_toArray]
      simpa [vu8] using hj
    · obtain ⟨u, hu, hv⟩ := flow_of hD 6 (by kernel_rfl) 24 (by kernel_rfl)
      obtain ⟨u', hu', hv'⟩ := flow_of hD 12 (by kernel_rfl) 30 (by kernel_rfl)
      refine wpo_add_str _ _ _ _ _ _ rfl (hu.trans hv) (hu'.trans hv') (by rw [ByteArray.size_append, HSZ.out]; show 1 + n + (List.replicate d (0 : UInt8)).toArray.size ≤ maxLen; rw [List.size_toArray, List.length_replicate]; have := HD.out; unfold maxLen; omega) (hK _ _ ?_ (Below.refl _ _))
      show Value.string _ = Value.string _
      congr 1
      apply ByteArray.ext
      apply Array.toList_inj.1
      have h1 : s.data.toList.length = n := by rw [Array.length_toList]; exact HSZ.out
      simp [textB, h1, HD.out]
  · intro F v hV hB
    have v31 : F 31 = .string ⟨(textB s.data.toList m).toArray⟩ := hV _ (List.mem_of_getElem? (i := 13) rfl) 31 rfl
    simp only [List.take_succ_cons, List.take_zero, List.drop_succ_cons, List.drop_zero, putAll, List.setIfInBounds_toArray, List.set_cons_zero, List.set_cons_succ]
    rw [v31]
    have HB := Lib.hid (HC.out.trans (Below.mono hB HC.out.size))
    clear hV hB v31
    go_wp2_with fail
    go_ret2
    exact ⟨rfl, HB.out⟩
section
variable {P : Program} {ops : Array Oper} {C : World → Prop} {o : Oper} {a : Act} {rest : List Oper} {Q : Act → Prop}
/-- b[lo:hi] of an array in a block of its own. -/
theorem wk_slice_arr2 (lo hi N : Nat) (k k' : IntKind) (t e : TypeId) (x l h' : Operand) (g : Nat) (hw : Region.wanted o (yielded ops a.tmps) = true) (ho : o.op = .slice t x (some l) (some h') none) (ht : P.underlying t = some (.array N e))
    (hs : (P.info? e).map (·.size) = some 1) (hx : a.eval x = .pointer (some ⟨g, 0, none⟩)) (hl : a.eval l = .int k (lo : Int)) (hh : a.eval h' = .int k' (hi : Int)) (h1 : lo ≤ hi) (h2 : hi ≤ N) (h3 : lo < N)
    (h : WQ P ops C Q rest (a.put o.dst (.slice (some ⟨g, lo, none⟩) (hi - lo) (N - lo)))) : WQ P ops C Q (o :: rest) a :=
  wk_val _ hw (fun w _ => by
    obtain ⟨f, hf, hf1⟩ : ∃ f, P.info? e = some f ∧ f.size = 1 := by
      cases hq : P.info? e with
      | none => simp [hq] at hs
      | some f => exact ⟨f, rfl, by simpa [hq] using hs⟩
    have h0 : ¬ N = lo := by omega
    unfold execOp
    simp only [ho, hx, Option.map_some, hl, hh]
    simp [Instr.sliceAt, Instr.slice, run_underlying ht, Instr.sliceBounds, Instr.sliceBound, asIntOf, h1, h2, sizeOf, typeInfo, hf, hf1, Addr.add_lit, h0, Instr.sureAddr]) h
end
theorem text_same (l : List UInt8) (m : Nat) (hl : l.length = 1 + m) (hm : m ≤ 200) (hx : (l.getD 0 0).toNat ≤ m) : textB (textOf l).data.toList m = l ↔ textOk l m = true := by
  constructor
  · intro h
    rw [← h]
    refine textOk_textB _ m ?_ hm
    have := size_textOf l m hl
    rw [Array.length_toList]; exact this
  · exact textB_textOf l m hl hm
theorem size_textOf_eq (l : List UInt8) (m : Nat) (hl : l.length = 1 + m) (hx : (l.getD 0 0).toNat ≤ m) : (textOf l).size = (l.getD 0 0).toNat := by
  show ((l.drop 1).take _).toArray.size = _
  rw [List.size_toArray, List.length_take, List.length_drop, hl]; omega
set_option maxHeartbeats 4000000 in
theorem taketext_ok (b : List UInt8) (hb : b.length = 256) (i m : Nat) (hm : m ≤ 200) (hf : i + (1 + m) ≤ 252) (wi : World) :
    Calls Tryd.prog 57 #[.agg (rowC b i true), .int .i64 (m : Int)] wi fun e w' => e = .returned (.tuple #[.string (textV b i m true), .agg (rowS b (i + (1 + m)) (fineT b i m true))]) ∧ Below wi.heap.size wi w' := by
  obtain ⟨C, hC⟩ : ∃ C, C = rowC b i true := ⟨_, rfl⟩
  obtain ⟨Z, hZ⟩ : ∃ Z, Z = rowC zeroBlk 0 false := ⟨_, rfl⟩
  have HZ : Hid ((Tryd.prog.info? 104).bind (·.zero) = some (.agg Z)) := Lib.hid (by rw [hZ]; exact zeroRowI)
  have HZS : Hid (Z.size = 258) := Lib.hid (by rw [hZ]; exact size_rowC _ length_zeroBlk _ _)
  have HZO : Hid (Z.all (·.oneCell') = true) := Lib.hid (by rw [hZ]; exact rowC_one _ _ _)
  have HZB : Hid (Tryd.prog.built 104 [] = some Z) := Lib.hid (by rw [hZ]; exact builtRowZ)
  have HG : Hid (∀ k, k < 256 → C[k]? = some (.int .u8 ((b.getD k 0).toNat : Int))) := Lib.hid (fun k hk => by rw [hC]; exact rowC_get b hb _ _ k hk)
  have HGA : Hid (C[256]? = some (.int .i64 (i : Int))) := Lib.hid (by rw [hC]; exact rowC_at b hb _ _)
  have HGF : Hid (C[257]? = some (.bool true)) := Lib.hid (by rw [hC]; exact rowC_fine b hb _ _)
  obtain ⟨D, hD⟩ : ∃ D, D = rowC b (i + (1 + m)) true := ⟨_, rfl⟩
  obtain ⟨p1, hp1⟩ : ∃ p1, p1 = i + 1 := ⟨_, rfl⟩
  obtain ⟨p2, hp2⟩ : ∃ p2, p2 = i + 1 + m := ⟨_, rfl⟩
  have HSET : Hid (C.setIfInBounds 256 (.int .i64 ((i : Int) + 1 + (m : Int))) = D) := Lib.hid (by rw [hC, hD, show (i : Int) + 1 + (m : Int) = ((i + (1 + m) : Nat) : Int) by omega]; exact rowC_set b hb _ _ _)
  have HDS : Hid (D.size = 258) := Lib.hid (by rw [hD]; exact size_rowC b hb _ _)
  have HDO : Hid (D.all (·.oneCell') = true) := Lib.hid (by rw [hD]; exact rowC_one _ _ _)
  have HC1 : Hid (cmpInt .lss (m : Int) 0 = some false) := Lib.hid (by show some (decide ((m : Int) < 0)) = _; rw [decide_eq_false (by omega)])
  have HC2 : Hid (cmpInt .gtr (m : Int) 200 = some false) := Lib.hid (by show some (decide ((m : Int) > 200)) = _; rw [decide_eq_false (by omega)])
  have HC3 : Hid (cmpInt .gtr (p2 : Int) 252 = some false) := Lib.hid (by show some (decide ((p2 : Int) > 252)) = _; rw [decide_eq_false (by omega)])
  have HA1 : Hid (IntKind.i64.wrap ((i : Int) + 1) = (p1 : Int)) := Lib.hid (by rw [IntKind.wrap_i64]; omega)
  have HA2 : Hid (IntKind.i64.wrap ((p1 : Int) + (m : Int)) = (p2 : Int)) := Lib.hid (by rw [IntKind.wrap_i64]; omega)
  obtain ⟨l, hl⟩ : ∃ l, l = seg b i (1 + m) := ⟨_, rfl⟩
  have hll : l.length = 1 + m := by rw [hl]; exact length_seg b i _ (by omega)
  have hlg : ∀ j, j < 1 + m → l[j]? = some (b.getD (i + j) 0) := fun j hj => by
    rw [hl, get_seg b i _ j hj, List.getD_eq_getElem?_getD, List.getElem?_eq_getElem (by omega)]; rfl
  obtain ⟨x, hx⟩ : ∃ x, x = (l.getD 0 0).toNat := ⟨_, rfl⟩
  have hx8 : x < 256 := by rw [hx]; exact UInt8.toNat_lt _
  have hxb : (b.getD i 0).toNat = x := by
    have e : l.getD 0 0 = b.getD i 0 := by rw [List.getD_eq_getElem?_getD (l := l), hlg 0 (by omega)]; rfl
    rw [hx, e]
  have HX : Hid (C[i]? = some (.int .u8 (x : Int))) := Lib.hid (by rw [HG.out i (by omega), hxb])
  obtain ⟨k, hk⟩ : ∃ k, k = textOk l m := ⟨_, rfl⟩
  have HF : Hid (fineT b i m true = k) := Lib.hid (by rw [hk, hl]; rfl)
  have HTV : Hid (textV b i m true = if k then textOf l else ⟨#[]⟩) := Lib.hid (by unfold textV; rw [HF.out, hl])
  have HRS : Hid (rowS b (i + (1 + m)) k = if k then D else Z) := Lib.hid (by rw [hD, hZ]; rfl)
  have HNO : Hid (¬ x ≤ m → k = false) := Lib.hid (fun h => by rw [hk]; unfold textOk; rw [← hx]; simp [h])
  have HSZT : Hid (x ≤ m → (textOf l).size = x) := Lib.hid (fun h => by rw [hx]; exact size_textOf_eq l m hll (by rw [← hx]; exact h))
  have HTO : Hid (textOf l = ⟨((l.drop 1).take x).toArray⟩) := Lib.hid (by rw [hx]; rfl)
  have HSAME : Hid (x ≤ m → (decide (textB (textOf l).data.toList m = l)) = k) := Lib.hid (fun h => by
    rw [hk, Bool.eq_iff_iff, decide_eq_true_eq]
    exact text_same l m hll hm (by rw [← hx]; exact h))
  obtain ⟨S, hS⟩ : ∃ S, S = textOf l := ⟨_, rfl⟩
  rw [← hS] at HTV HSZT HTO HSAME
  have HLG := Lib.hid hlg
  have HLL := Lib.hid hll
  have HP1 := Lib.hid hp1
  have HP2 := Lib.hid hp2
  have hp252 : p2 ≤ 252 := by omega
  have hp12 : p1 ≤ 252 := by omega
  have hi252 : i < 252 := by omega
  have q1 := ((Rows.start wi).alloc C 104).alloc Z 104
  obtain ⟨g1, hg1⟩ : ∃ g, g = wi.heap.size := ⟨_, rfl⟩
  obtain ⟨g2, hg2⟩ : ∃ g, g = (wi.alloc (.cells C 104)).heap.size := ⟨_, rfl⟩
  rw [← hg1, ← hg2] at q1
  have G1 := Lib.hid hg1
  have G2 := Lib.hid hg2
  have Q1 := Lib.hid q1
  rw [← hC, HTV.out, HF.out, HRS.out]
  clear hg1 hg2 q1 hb hC hZ hD hx hxb hk hl hll hlg hp1 hp2 hf hS HF HTV HRS
  go_enter Tryd.func57, Tryd.ntmps57
  go_upto_region 1 with (refine wpList_alloc_row rfl 104 rfl _ HZ.out ?_)
  have q1 := Q1.out
  obtain ⟨W1, hW⟩ : ∃ W, W = (wi.alloc (.cells C 104)).alloc (.cells Z 104) := ⟨_, rfl⟩
  rw [← hW] at q1 ⊢
  simp only [Act.put, List.setIfInBounds_toArray, List.set_cons_zero, List.set_cons_succ]
  rw [← G2.out, ← G1.out]
  have R1 := Lib.hid q1
  clear hW q1 Q1 G1 G2
  refine wk_plain_since ?_
  refine wk_field 104 _ 4 257 0 _ _ _ (by first | exact wanted_none rfl | exact wanted_yes _ _ rfl rfl) rfl (by kernel_rfl) (by kernel_rfl) (by kernel_rfl) rfl ?_
  simp only [Act.put, List.setIfInBounds_toArray, List.set_cons_zero, List.set_cons_succ, Nat.zero_add]
  refine wk_load1 _ _ _ _ _ rfl (by kernel_rfl) rfl rfl (fun w' hC => hC.cell (R1.out.cell 1 257 rfl HGF.out)) Tryd.underlying4 ?_
  simp only [Act.put, List.setIfInBounds_toArray, List.set_cons_zero, List.set_cons_succ]
  repeat (first
    | (refine wk_move _ (by first | exact wanted_none rfl | exact wanted_yes _ _ rfl rfl) rfl ?_; simp only [Act.put, Act.eval, Array.getD_eq_getD_getElem?, List.getElem?_toArray, List.getElem?_cons_succ, List.getElem?_cons_zero, Option.getD_some, List.setIfInBounds_toArray, List.set_cons_zero, List.set_cons_succ])
    | (refine wk_assign _ (by first | exact wanted_none rfl | exact wanted_yes _ _ rfl rfl) rfl ?_; simp only [Act.put, Act.eval, Array.getD_eq_getD_getElem?, List.getElem?_toArray, List.getElem?_cons_succ, List.getElem?_cons_zero, Option.getD_some, List.setIfInBounds_toArray, List.set_cons_zero, List.set_cons_succ])
    | (refine wk_pickt _ _ _ _ (by first | exact wanted_none rfl | exact wanted_yes _ _ rfl rfl) rfl rfl rfl ?_; simp only [Act.put, Act.eval, Array.getD_eq_getD_getElem?, List.getElem?_toArray, List.getElem?_cons_succ, List.getElem?_cons_zero, Option.getD_some, List.setIfInBounds_toArray, List.set_cons_zero, List.set_cons_succ])
    | (refine wk_pickf _ _ _ _ (by first | exact wanted_none rfl | exact wanted_yes _ _ rfl rfl) rfl rfl rfl ?_; simp only [Act.put, Act.eval, Array.getD_eq_getD_getElem?, List.getElem?_toArray, List.getElem?_cons_succ, List.getElem?_cons_zero, Option.getD_some, List.setIfInBounds_toArray, List.set_cons_zero, List.set_cons_succ])
    | (refine wk_skip (wanted_not _ true false rfl rfl rfl) ?_; simp only [Act.put, List.setIfInBounds_toArray, List.set_cons_zero, List.set_cons_succ])
    | (refine wk_skip (wanted_not _ false true rfl rfl rfl) ?_; simp only [Act.put, List.setIfInBounds_toArray, List.set_cons_zero, List.set_cons_succ])
    | (refine wk_skip (wanted_undef _ _ rfl rfl) ?_; simp only [Act.put, List.setIfInBounds_toArray, List.set_cons_zero, List.set_cons_succ])
    | (refine wk_not true _ _ (by first | exact wanted_none rfl | exact wanted_yes _ _ rfl rfl) rfl rfl ?_; simp only [Act.put, List.setIfInBounds_toArray, List.set_cons_zero, List.set_cons_succ])
    | (refine wk_not false _ _ (by first | exact wanted_none rfl | exact wanted_yes _ _ rfl rfl) rfl rfl ?_; simp only [Act.put, List.setIfInBounds_toArray, List.set_cons_zero, List.set_cons_succ]))
  refine wk_cmp_int .lss (false) _ _ _ _ _ _ _ (by kernel_rfl) rfl rfl rfl (HC1.out) ?_
  simp only [Act.put, List.setIfInBounds_toArray, List.set_cons_zero, List.set_cons_succ]
  repeat (first
    | (refine wk_move _ (by first | exact wanted_none rfl | exact wanted_yes _ _ rfl rfl) rfl ?_; simp only [Act.put, Act.eval, Array.getD_eq_getD_getElem?, List.getElem?_toArray, List.getElem?_cons_succ, List.getElem?_cons_zero, Option.getD_some, List.setIfInBounds_toArray, List.set_cons_zero, List.set_cons_succ])
    | (refine wk_assign _ (by first | exact wanted_none rfl | exact wanted_yes _ _ rfl rfl) rfl ?_; simp only [Act.put, Act.eval, Array.getD_eq_getD_getElem?, List.getElem?_toArray, List.getElem?_cons_succ, List.getElem?_cons_zero, Option.getD_some, List.setIfInBounds_toArray, List.set_cons_zero, List.set_cons_succ])
    | (refine wk_pickt _ _ _ _ (by first | exact wanted_none rfl | exact wanted_yes _ _ rfl rfl) rfl rfl rfl ?_; simp only [Act.put, Act.eval, Array.getD_eq_getD_getElem?, List.getElem?_toArray, List.getElem?_cons_succ, List.getElem?_cons_zero, Option.getD_some, List.setIfInBounds_toArray, List.set_cons_zero, List.set_cons_succ])
    | (refine wk_pickf _ _ _ _ (by first | exact wanted_none rfl | exact wanted_yes _ _ rfl rfl) rfl rfl rfl ?_; simp only [Act.put, Act.eval, Array.getD_eq_getD_getElem?, List.getElem?_toArray, List.getElem?_cons_succ, List.getElem?_cons_zero, Option.getD_some, List.setIfInBounds_toArray, List.set_cons_zero, List.set_cons_succ])
    | (refine wk_skip (wanted_not _ true false rfl rfl rfl) ?_; simp only [Act.put, List.setIfInBounds_toArray, List.set_cons_zero, List.set_cons_succ])
    | (refine wk_skip (wanted_not _ false true rfl rfl rfl) ?_; simp only [Act.put, List.setIfInBounds_toArray, List.set_cons_zero, List.set_cons_succ])
    | (refine wk_skip (wanted_undef _ _ rfl rfl) ?_; simp only [Act.put, List.setIfInBounds_toArray, List.set_cons_zero, List.set_cons_succ])
    | (refine wk_not true _ _ (by first | exact wanted_none rfl | exact wanted_yes _ _ rfl rfl) rfl rfl ?_; simp only [Act.put, List.setIfInBounds_toArray, List.set_cons_zero, List.set_cons_succ])
    | (refine wk_not false _ _ (by first | exact wanted_none rfl | exact wanted_yes _ _ rfl rfl) rfl rfl ?_; simp only [Act.put, List.setIfInBounds_toArray, List.set_cons_zero, List.set_cons_succ]))
  refine wk_cmp_int .gtr (false) _ _ _ _ _ _ _ (by kernel_rfl) rfl rfl rfl (HC2.out) ?_
  simp only [Act.put, List.setIfInBounds_toArray, List.set_cons_zero, List.set_cons_succ]
  repeat (first
    | (refine wk_move _ (by first | exact wanted_none rfl | exact wanted_yes _ _ rfl rfl) rfl ?_; simp only [Act.put, Act.eval, Array.getD_eq_getD_getElem?, List.getElem?_toArray, List.getElem?_cons_succ, List.getElem?_cons_zero, Option.getD_some, List.setIfInBounds_toArray, List.set_cons_zero, List.set_cons_succ])
    | (refine wk_assign _ (by first | exact wanted_none rfl | exact wanted_yes _ _ rfl rfl) rfl ?_; simp only [Act.put, Act.eval, Array.getD_eq_getD_getElem?, List.getElem?_toArray, List.getElem?_cons_succ, List.getElem?_cons_zero, Option.getD_some, List.setIfInBounds_toArray, List.set_cons_zero, List.set_cons_succ])
    | (refine wk_pickt _ _ _ _ (by first | exact wanted_none rfl | exact wanted_yes _ _ rfl rfl) rfl rfl rfl ?_; simp only [Act.put, Act.eval, Array.getD_eq_getD_getElem?, List.getElem?_toArray, List.getElem?_cons_succ, List.getElem?_cons_zero, Option.getD_some, List.setIfInBounds_toArray, List.set_cons_zero, List.set_cons_succ])
    | (refine wk_pickf _ _ _ _ (by first | exact wanted_none rfl | exact wanted_yes _ _ rfl rfl) rfl rfl rfl ?_; simp only [Act.put, Act.eval, Array.getD_eq_getD_getElem?, List.getElem?_toArray, List.getElem?_cons_succ, List.getElem?_cons_zero, Option.getD_some, List.setIfInBounds_toArray, List.set_cons_zero, List.set_cons_succ])
    | (refine wk_skip (wanted_not _ true false rfl rfl rfl) ?_; simp only [Act.put, List.setIfInBounds_toArray, List.set_cons_zero, List.set_cons_succ])
    | (refine wk_skip (wanted_not _ false true rfl rfl rfl) ?_; simp only [Act.put, List.setIfInBounds_toArray, List.set_cons_zero, List.set_cons_succ])
    | (refine wk_skip (wanted_undef _ _ rfl rfl) ?_; simp only [Act.put, List.setIfInBounds_toArray, List.set_cons_zero, List.set_cons_succ])
    | (refine wk_not true _ _ (by first | exact wanted_none rfl | exact wanted_yes _ _ rfl rfl) rfl rfl ?_; simp only [Act.put, List.setIfInBounds_toArray, List.set_cons_zero, List.set_cons_succ])
    | (refine wk_not false _ _ (by first | exact wanted_none rfl | exact wanted_yes _ _ rfl rfl) rfl rfl ?_; simp only [Act.put, List.setIfInBounds_toArray, List.set_cons_zero, List.set_cons_succ]))
  refine wk_field 104 _ 3 256 0 _ _ _ (by first | exact wanted_none rfl | exact wanted_yes _ _ rfl rfl) rfl (by kernel_rfl) (by kernel_rfl) (by kernel_rfl) rfl ?_
  simp only [Act.put, List.setIfInBounds_toArray, List.set_cons_zero, List.set_cons_succ, Nat.zero_add]
  refine wk_load1 _ _ _ _ _ rfl (by kernel_rfl) rfl rfl (fun w' hC => hC.cell (R1.out.cell 1 256 rfl HGA.out)) Tryd.underlying3 ?_
  simp only [Act.put, List.setIfInBounds_toArray, List.set_cons_zero, List.set_cons_succ]
  refine wk_addk .i64 _ _ _ _ _ _ _ (by first | exact wanted_none rfl | exact wanted_yes _ _ rfl rfl) rfl rfl rfl (HA1.out) ?_
  simp only [Act.put, List.setIfInBounds_toArray, List.set_cons_zero, List.set_cons_succ]
  repeat (first
    | (refine wk_move _ (by first | exact wanted_none rfl | exact wanted_yes _ _ rfl rfl) rfl ?_; simp only [Act.put, Act.eval, Array.getD_eq_getD_getElem?, List.getElem?_toArray, List.getElem?_cons_succ, List.getElem?_cons_zero, Option.getD_some, List.setIfInBounds_toArray, List.set_cons_zero, List.set_cons_succ])
    | (refine wk_assign _ (by first | exact wanted_none rfl | exact wanted_yes _ _ rfl rfl) rfl ?_; simp only [Act.put, Act.eval, Array.getD_eq_getD_getElem?, List.getElem?_toArray, List.getElem?_cons_succ, List.getElem?_cons_zero, Option.getD_some, List.setIfInBounds_toArray, List.set_cons_zero, List.set_cons_succ])
    | (refine wk_pickt _ _ _ _ (by first | exact wanted_none rfl | exact wanted_yes _ _ rfl rfl) rfl rfl rfl ?_; simp only [Act.put, Act.eval, Array.getD_eq_getD_getElem?, List.getElem?_toArray, List.getElem?_cons_succ, List.getElem?_cons_zero, Option.getD_some, List.setIfInBounds_toArray, List.set_cons_zero, List.set_cons_succ])
    | (refine wk_pickf _ _ _ _ (by first | exact wanted_none rfl | exact wanted_yes _ _ rfl rfl) rfl rfl rfl ?_; simp only [Act.put, Act.eval, Array.getD_eq_getD_getElem?, List.getElem?_toArray, List.getElem?_cons_succ, List.getElem?_cons_zero, Option.getD_some, List.setIfInBounds_toArray, List.set_cons_zero, List.set_cons_succ])
    | (refine wk_skip (wanted_not _ true false rfl rfl rfl) ?_; simp only [Act.put, List.setIfInBounds_toArray, List.set_cons_zero, List.set_cons_succ])
    | (refine wk_skip (wanted_not _ false true rfl rfl rfl) ?_; simp only [Act.put, List.setIfInBounds_toArray, List.set_cons_zero, List.set_cons_succ])
    | (refine wk_skip (wanted_undef _ _ rfl rfl) ?_; simp only [Act.put, List.setIfInBounds_toArray, List.set_cons_zero, List.set_cons_succ])
    | (refine wk_not true _ _ (by first | exact wanted_none rfl | exact wanted_yes _ _ rfl rfl) rfl rfl ?_; simp only [Act.put, List.setIfInBounds_toArray, List.set_cons_zero, List.set_cons_succ])
    | (refine wk_not false _ _ (by first | exact wanted_none rfl | exact wanted_yes _ _ rfl rfl) rfl rfl ?_; simp only [Act.put, List.setIfInBounds_toArray, List.set_cons_zero, List.set_cons_succ]))
  refine wk_addk .i64 _ _ _ _ _ _ _ (by first | exact wanted_none rfl | exact wanted_yes _ _ rfl rfl) rfl rfl rfl (HA2.out) ?_
  simp only [Act.put, List.setIfInBounds_toArray, List.set_cons_zero, List.set_cons_succ]
  refine wk_cmp_int .gtr (false) _ _ _ _ _ _ _ (by kernel_rfl) rfl rfl rfl (HC3.out) ?_
  simp only [Act.put, List.setIfInBounds_toArray, List.set_cons_zero, List.set_cons_succ]
  repeat (first
    | (refine wk_move _ (by first | exact wanted_none rfl | exact wanted_yes _ _ rfl rfl) rfl ?_; simp only [Act.put, Act.eval, Array.getD_eq_getD_getElem?, List.getElem?_toArray, List.getElem?_cons_succ, List.getElem?_cons_zero, Option.getD_some, List.setIfInBounds_toArray, List.set_cons_zero, List.set_cons_succ])
    | (refine wk_assign _ (by first | exact wanted_none rfl | exact wanted_yes _ _ rfl rfl) rfl ?_; simp only [Act.put, Act.eval, Array.getD_eq_getD_getElem?, List.getElem?_toArray, List.getElem?_cons_succ, List.getElem?_cons_zero, Option.getD_some, List.setIfInBounds_toArray, List.set_cons_zero, List.set_cons_succ])
    | (refine wk_pickt _ _ _ _ (by first | exact wanted_none rfl | exact wanted_yes _ _ rfl rfl) rfl rfl rfl ?_; simp only [Act.put, Act.eval, Array.getD_eq_getD_getElem?, List.getElem?_toArray, List.getElem?_cons_succ, List.getElem?_cons_zero, Option.getD_some, List.setIfInBounds_toArray, List.set_cons_zero, List.set_cons_succ])
    | (refine wk_pickf _ _ _ _ (by first | exact wanted_none rfl | exact wanted_yes _ _ rfl rfl) rfl rfl rfl ?_; simp only [Act.put, Act.eval, Array.getD_eq_getD_getElem?, List.getElem?_toArray, List.getElem?_cons_succ, List.getElem?_cons_zero, Option.getD_some, List.setIfInBounds_toArray, List.set_cons_zero, List.set_cons_succ])
    | (refine wk_skip (wanted_not _ true false rfl rfl rfl) ?_; simp only [Act.put, List.setIfInBounds_toArray, List.set_cons_zero, List.set_cons_succ])
    | (refine wk_skip (wanted_not _ false true rfl rfl rfl) ?_; simp only [Act.put, List.setIfInBounds_toArray, List.set_cons_zero, List.set_cons_succ])
    | (refine wk_skip (wanted_undef _ _ rfl rfl) ?_; simp only [Act.put, List.setIfInBounds_toArray, List.set_cons_zero, List.set_cons_succ])
    | (refine wk_not true _ _ (by first | exact wanted_none rfl | exact wanted_yes _ _ rfl rfl) rfl rfl ?_; simp only [Act.put, List.setIfInBounds_toArray, List.set_cons_zero, List.set_cons_succ])
    | (refine wk_not false _ _ (by first | exact wanted_none rfl | exact wanted_yes _ _ rfl rfl) rfl rfl ?_; simp only [Act.put, List.setIfInBounds_toArray, List.set_cons_zero, List.set_cons_succ]))
  refine wk_nil ?_
  intro w' hC
  have R2 := Lib.hid (R1.out.since hC)
  clear hC R1
  have c256 : w'.cell? ⟨g1, 256, none⟩ = some (.int .i64 (i : Int)) := R2.out.cell 1 256 rfl HGA.out
  have ci : w'.cell? ⟨g1, i, none⟩ = some (.int .u8 (x : Int)) := R2.out.cell 1 i rfl HX.out
  by_cases hxm : x ≤ m
  · have HG4 : Hid (cmpInt .gtr (x : Int) (m : Int) = some false) := Lib.hid (by show some (decide ((x : Int) > (m : Int))) = _; rw [decide_eq_false (by omega)])
    have hpx : p1 + x ≤ 252 := by have := HP1.out; have := HP2.out; omega
    obtain ⟨L1, hL1⟩ : ∃ L1, L1 = (l.drop 1).take x := ⟨_, rfl⟩
    have HS : Hid ((⟨L1.toArray⟩ : ByteArray) = S) := Lib.hid (by rw [HTO.out, hL1])
    have HSS : Hid (S.size = x) := Lib.hid (HSZT.out hxm)
    have hL1l : L1.length = p1 + x - p1 := by rw [hL1, List.length_take, List.length_drop, HLL.out]; omega
    have HL1 := Lib.hid hL1l
    have HA3 : Hid (IntKind.i64.wrap ((p1 : Int) + (x : Int)) = ((p1 + x : Nat) : Int)) := Lib.hid (by rw [IntKind.wrap_i64]; omega)
    have HBT : Hid (∀ w3, Rows wi w3 [(g2, Z, 104), (g1, C, 104)] → BytesAt w3 g1 p1 L1) := Lib.hid (fun w3 R j hj => by
      have hjx : j < x := by have := HP1.out; omega
      rw [R.cell 1 (p1 + j) rfl (HG.out (p1 + j) (by omega)), hL1, List.getElem?_take, if_pos hjx, List.getElem?_drop, HLG.out (1 + j) (by omega), show i + (1 + j) = p1 + j by rw [HP1.out]; omega]
      rfl)
    have HBL : Hid (∀ w3, Rows wi w3 [(g2, Z, 104), (g1, C, 104)] → BytesAt w3 g1 i l) := Lib.hid (fun w3 R j hj => by
      have hjx : j < 1 + m := by rw [← HLL.out]; exact hj
      rw [R.cell 1 (i + j) rfl (HG.out (i + j) (by have := HP2.out; omega)), HLG.out j hjx]
      rfl)
    have HL2 : Hid (l.length = p2 - i) := Lib.hid (by rw [HLL.out, HP2.out]; omega)
    obtain ⟨T, hT⟩ : ∃ T : ByteArray, T = ⟨(textB S.data.toList m).toArray⟩ := ⟨_, rfl⟩
    have HTXT : Hid (∀ w, Calls Tryd.prog 42 #[.string S, .int .i64 (m : Int)] w fun e w' => e = .returned (.tuple #[.string T, .bool true]) ∧ Below w.heap.size w w') := Lib.hid (fun w => by rw [hT]; exact reftext_any S m (by rw [HSS.out]; exact hxm) hm w)
    have HNE : Hid ((!decide (T = (⟨l.toArray⟩ : ByteArray))) = !k) := Lib.hid (by
      rw [← HSAME.out hxm, hT]
      congr 1
      rw [decide_eq_decide]
      constructor
      · intro h; have := congrArg (fun z : ByteArray => z.data.toList) h; simpa using this
      · intro h; rw [h])
    clear hL1 hL1l hT HTO HSZT HSAME HNO
    go_upto_region 4 with (fail)
    refine wk_plain_since ?_
    repeat (first
      | (refine wk_move _ (by first | exact wanted_none rfl | exact wanted_yes _ _ rfl rfl) rfl ?_; simp only [Act.put, Act.eval, Array.getD_eq_getD_getElem?, List.getElem?_toArray, List.getElem?_cons_succ, List.getElem?_cons_zero, Option.getD_some, List.setIfInBounds_toArray, List.set_cons_zero, List.set_cons_succ])
      | (refine wk_assign _ (by first | exact wanted_none rfl | exact wanted_yes _ _ rfl rfl) rfl ?_; simp only [Act.put, Act.eval, Array.getD_eq_getD_getElem?, List.getElem?_toArray, List.getElem?_cons_succ, List.getElem?_cons_zero, Option.getD_some, List.setIfInBounds_toArray, List.set_cons_zero, List.set_cons_succ])
      | (refine wk_pickt _ _ _ _ (by first | exact wanted_none rfl | exact wanted_yes _ _ rfl rfl) rfl rfl rfl ?_; simp only [Act.put, Act.eval, Array.getD_eq_getD_getElem?, List.getElem?_toArray, List.getElem?_cons_succ, List.getElem?_cons_zero, Option.getD_some, List.setIfInBounds_toArray, List.set_cons_zero, List.set_cons_succ])
      | (refine wk_pickf _ _ _ _ (by first | exact wanted_none rfl | exact wanted_yes _ _ rfl rfl) rfl rfl rfl ?_; simp only [Act.put, Act.eval, Array.getD_eq_getD_getElem?, List.getElem?_toArray, List.getElem?_cons_succ, List.getElem?_cons_zero, Option.getD_some, List.setIfInBounds_toArray, List.set_cons_zero, List.set_cons_succ])
      | (refine wk_skip (wanted_not _ true false rfl rfl rfl) ?_; simp only [Act.put, List.setIfInBounds_toArray, List.set_cons_zero, List.set_cons_succ])
      | (refine wk_skip (wanted_not _ false true rfl rfl rfl) ?_; simp only [Act.put, List.setIfInBounds_toArray, List.set_cons_zero, List.set_cons_succ])
      | (refine wk_skip (wanted_undef _ _ rfl rfl) ?_; simp only [Act.put, List.setIfInBounds_toArray, List.set_cons_zero, List.set_cons_succ])
      | (refine wk_not true _ _ (by first | exact wanted_none rfl | exact wanted_yes _ _ rfl rfl) rfl rfl ?_; simp only [Act.put, List.setIfInBounds_toArray, List.set_cons_zero, List.set_cons_succ])
      | (refine wk_not false _ _ (by first | exact wanted_none rfl | exact wanted_yes _ _ rfl rfl) rfl rfl ?_; simp only [Act.put, List.setIfInBounds_toArray, List.set_cons_zero, List.set_cons_succ]))
    refine wk_cmp_int .gtr (false) _ _ _ _ _ _ _ (by kernel_rfl) rfl rfl rfl (HG4.out) ?_
    simp only [Act.put, List.setIfInBounds_toArray, List.set_cons_zero, List.set_cons_succ]
    refine wk_nil ?_
    intro w' hC
    have R3 := Lib.hid (R2.out.since hC)
    clear hC R2 c256 ci
    go_upto_region 6 with (fail)
    refine wk_plain_since ?_
    refine wk_field 104 _ 29 0 255 _ _ _ (by first | exact wanted_none rfl | exact wanted_yes _ _ rfl rfl) rfl (by kernel_rfl) (by kernel_rfl) (by kernel_rfl) rfl ?_
    simp only [Act.put, List.setIfInBounds_toArray, List.set_cons_zero, List.set_cons_succ, Nat.zero_add]
    refine wk_field 104 _ 3 256 0 _ _ _ (by first | exact wanted_none rfl | exact wanted_yes _ _ rfl rfl) rfl (by kernel_rfl) (by kernel_rfl) (by kernel_rfl) rfl ?_
    simp only [Act.put, List.setIfInBounds_toArray, List.set_cons_zero, List.set_cons_succ, Nat.zero_add]
    refine wk_load1 _ _ _ _ _ rfl (by kernel_rfl) rfl rfl (fun w' hC => hC.cell (R3.out.cell 1 256 rfl HGA.out)) Tryd.underlying3 ?_
    simp only [Act.put, List.setIfInBounds_toArray, List.set_cons_zero, List.set_cons_succ]
    refine wk_addk .i64 _ _ _ _ _ _ _ (by first | exact wanted_none rfl | exact wanted_yes _ _ rfl rfl) rfl rfl rfl (HA1.out) ?_
    simp only [Act.put, List.setIfInBounds_toArray, List.set_cons_zero, List.set_cons_succ]
    refine wk_field 104 _ 3 256 0 _ _ _ (by first | exact wanted_none rfl | exact wanted_yes _ _ rfl rfl) rfl (by kernel_rfl) (by kernel_rfl) (by kernel_rfl) rfl ?_
    simp only [Act.put, List.setIfInBounds_toArray, List.set_cons_zero, List.set_cons_succ, Nat.zero_add]
    refine wk_load1 _ _ _ _ _ rfl (by kernel_rfl) rfl rfl (fun w' hC => hC.cell (R3.out.cell 1 256 rfl HGA.out)) Tryd.underlying3 ?_
    simp only [Act.put, List.setIfInBounds_toArray, List.set_cons_zero, List.set_cons_succ]
    refine wk_addk .i64 _ _ _ _ _ _ _ (by first | exact wanted_none rfl | exact wanted_yes _ _ rfl rfl) rfl rfl rfl (HA1.out) ?_
    simp only [Act.put, List.setIfInBounds_toArray, List.set_cons_zero, List.set_cons_succ]
    repeat (first
      | (refine wk_move _ (by first | exact wanted_none rfl | exact wanted_yes _ _ rfl rfl) rfl ?_; simp only [Act.put, Act.eval, Array.getD_eq_getD_getElem?, List.getElem?_toArray, List.getElem?_cons_succ, List.getElem?_cons_zero, Option.getD_some, List.setIfInBounds_toArray, List.set_cons_zero, List.set_cons_succ])
      | (refine wk_assign _ (by first | exact wanted_none rfl | exact wanted_yes _ _ rfl rfl) rfl ?_; simp only [Act.put, Act.eval, Array.getD_eq_getD_getElem?, List.getElem?_toArray, List.getElem?_cons_succ, List.getElem?_cons_zero, Option.getD_some, List.setIfInBounds_toArray, List.set_cons_zero, List.set_cons_succ])
      | (refine wk_pickt _ _ _ _ (by first | exact wanted_none rfl | exact wanted_yes _ _ rfl rfl) rfl rfl rfl ?_; simp only [Act.put, Act.eval, Array.getD_eq_getD_getElem?, List.getElem?_toArray, List.getElem?_cons_succ, List.getElem?_cons_zero, Option.getD_some, List.setIfInBounds_toArray, List.set_cons_zero, List.set_cons_succ])
      | (refine wk_pickf _ _ _ _ (by first | exact wanted_none rfl | exact wanted_yes _ _ rfl rfl) rfl rfl rfl ?_; simp only [Act.put, Act.eval, Array.getD_eq_getD_getElem?, List.getElem?_toArray, List.getElem?_cons_succ, List.getElem?_cons_zero, Option.getD_some, List.setIfInBounds_toArray, List.set_cons_zero, List.set_cons_succ])
      | (refine wk_skip (wanted_not _ true false rfl rfl rfl) ?_; simp only [Act.put, List.setIfInBounds_toArray, List.set_cons_zero, List.set_cons_succ])
      | (refine wk_skip (wanted_not _ false true rfl rfl rfl) ?_; simp only [Act.put, List.setIfInBounds_toArray, List.set_cons_zero, List.set_cons_succ])
      | (refine wk_skip (wanted_undef _ _ rfl rfl) ?_; simp only [Act.put, List.setIfInBounds_toArray, List.set_cons_zero, List.set_cons_succ])
      | (refine wk_not true _ _ (by first | exact wanted_none rfl | exact wanted_yes _ _ rfl rfl) rfl rfl ?_; simp only [Act.put, List.setIfInBounds_toArray, List.set_cons_zero, List.set_cons_succ])
      | (refine wk_not false _ _ (by first | exact wanted_none rfl | exact wanted_yes _ _ rfl rfl) rfl rfl ?_; simp only [Act.put, List.setIfInBounds_toArray, List.set_cons_zero, List.set_cons_succ]))
    refine wk_addk .i64 _ _ _ _ _ _ _ (by first | exact wanted_none rfl | exact wanted_yes _ _ rfl rfl) rfl rfl rfl (HA3.out) ?_
    simp only [Act.put, List.setIfInBounds_toArray, List.set_cons_zero, List.set_cons_succ]
    refine wk_slice_arr2 p1 (p1 + x) 256 .i64 .i64 _ _ _ _ _ g1 (by kernel_rfl) rfl Tryd.underlying29 sizeU8 rfl rfl rfl (by omega) (by omega) (by omega) ?_
    simp only [Act.put, List.setIfInBounds_toArray, List.set_cons_zero, List.set_cons_succ]
    refine wk_bytes_at _ _ _ _ g1 p1 (p1 + x - p1) (256 - p1) L1 (by kernel_rfl) rfl rfl Tryd.underlying81 Tryd.underlying5 Tryd.underlying9 HL1.out (fun w' hC => HBT.out w' (R3.out.since hC)) ?_
    simp only [Act.put, List.setIfInBounds_toArray, List.set_cons_zero, List.set_cons_succ]
    rw [HS.out]
    repeat (first
      | (refine wk_move _ (by first | exact wanted_none rfl | exact wanted_yes _ _ rfl rfl) rfl ?_; simp only [Act.put, Act.eval, Array.getD_eq_getD_getElem?, List.getElem?_toArray, List.getElem?_cons_succ, List.getElem?_cons_zero, Option.getD_some, List.setIfInBounds_toArray, List.set_cons_zero, List.set_cons_succ])
      | (refine wk_assign _ (by first | exact wanted_none rfl | exact wanted_yes _ _ rfl rfl) rfl ?_; simp only [Act.put, Act.eval, Array.getD_eq_getD_getElem?, List.getElem?_toArray, List.getElem?_cons_succ, List.getElem?_cons_zero, Option.getD_some, List.setIfInBounds_toArray, List.set_cons_zero, List.set_cons_succ])
      | (refine wk_pickt _ _ _ _ (by first | exact wanted_none rfl | exact wanted_yes _ _ rfl rfl) rfl rfl rfl ?_; simp only [Act.put, Act.eval, Array.getD_eq_getD_getElem?, List.getElem?_toArray, List.getElem?_cons_succ, List.getElem?_cons_zero, Option.getD_some, List.setIfInBounds_toArray, List.set_cons_zero, List.set_cons_succ])
      | (refine wk_pickf _ _ _ _ (by first | exact wanted_none rfl | exact wanted_yes _ _ rfl rfl) rfl rfl rfl ?_; simp only [Act.put, Act.eval, Array.getD_eq_getD_getElem?, List.getElem?_toArray, List.getElem?_cons_succ, List.getElem?_cons_zero, Option.getD_some, List.setIfInBounds_toArray, List.set_cons_zero, List.set_cons_succ])
      | (refine wk_skip (wanted_not _ true false rfl rfl rfl) ?_; simp only [Act.put, List.setIfInBounds_toArray, List.set_cons_zero, List.set_cons_succ])
      | (refine wk_skip (wanted_not _ false true rfl rfl rfl) ?_; simp only [Act.put, List.setIfInBounds_toArray, List.set_cons_zero, List.set_cons_succ])
      | (refine wk_skip (wanted_undef _ _ rfl rfl) ?_; simp only [Act.put, List.setIfInBounds_toArray, List.set_cons_zero, List.set_cons_succ])
      | (refine wk_not true _ _ (by first | exact wanted_none rfl | exact wanted_yes _ _ rfl rfl) rfl rfl ?_; simp only [Act.put, List.setIfInBounds_toArray, List.set_cons_zero, List.set_cons_succ])
      | (refine wk_not false _ _ (by first | exact wanted_none rfl | exact wanted_yes _ _ rfl rfl) rfl rfl ?_; simp only [Act.put, List.setIfInBounds_toArray, List.set_cons_zero, List.set_cons_succ]))
    refine wk_nil ?_
    intro w' hC
    have R4 := Lib.hid (R3.out.since hC)
    clear hC R3
    go_wp2_with fail
    refine (HTXT.out _).mono ?_
    rintro e w5 ⟨rfl, hb⟩
    have R5 := Lib.hid (R4.out.call hb)
    clear hb R4
    go_upto_region 8 with (fail)
    refine wk_plain_since ?_
    repeat (first
      | (refine wk_move _ (by first | exact wanted_none rfl | exact wanted_yes _ _ rfl rfl) rfl ?_; simp only [Act.put, Act.eval, Array.getD_eq_getD_getElem?, List.getElem?_toArray, List.getElem?_cons_succ, List.getElem?_cons_zero, Option.getD_some, List.setIfInBounds_toArray, List.set_cons_zero, List.set_cons_succ])
      | (refine wk_assign _ (by first | exact wanted_none rfl | exact wanted_yes _ _ rfl rfl) rfl ?_; simp only [Act.put, Act.eval, Array.getD_eq_getD_getElem?, List.getElem?_toArray, List.getElem?_cons_succ, List.getElem?_cons_zero, Option.getD_some, List.setIfInBounds_toArray, List.set_cons_zero, List.set_cons_succ])
      | (refine wk_pickt _ _ _ _ (by first | exact wanted_none rfl | exact wanted_yes _ _ rfl rfl) rfl rfl rfl ?_; simp only [Act.put, Act.eval, Array.getD_eq_getD_getElem?, List.getElem?_toArray, List.getElem?_cons_succ, List.getElem?_cons_zero, Option.getD_some, List.setIfInBounds_toArray, List.set_cons_zero, List.set_cons_succ])
      | (refine wk_pickf _ _ _ _ (by first | exact wanted_none rfl | exact wanted_yes _ _ rfl rfl) rfl rfl rfl ?_; simp only [Act.put, Act.eval, Array.getD_eq_getD_getElem?, List.getElem?_toArray, List.getElem?_cons_succ, List.getElem?_cons_zero, Option.getD_some, List.setIfInBounds_toArray, List.set_cons_zero, List.set_cons_succ])
      | (refine wk_skip (wanted_not _ true false rfl rfl rfl) ?_; simp only [Act.put, List.setIfInBounds_toArray, List.set_cons_zero, List.set_cons_succ])
      | (refine wk_skip (wanted_not _ false true rfl rfl rfl) ?_; simp only [Act.put, List.setIfInBounds_toArray, List.set_cons_zero, List.set_cons_succ])
      | (refine wk_skip (wanted_undef _ _ rfl rfl) ?_; simp only [Act.put, List.setIfInBounds_toArray, List.set_cons_zero, List.set_cons_succ])
      | (refine wk_not true _ _ (by first | exact wanted_none rfl | exact wanted_yes _ _ rfl rfl) rfl rfl ?_; simp only [Act.put, List.setIfInBounds_toArray, List.set_cons_zero, List.set_cons_succ])
      | (refine wk_not false _ _ (by first | exact wanted_none rfl | exact wanted_yes _ _ rfl rfl) rfl rfl ?_; simp only [Act.put, List.setIfInBounds_toArray, List.set_cons_zero, List.set_cons_succ]))
    refine wk_field 104 _ 29 0 255 _ _ _ (by first | exact wanted_none rfl | exact wanted_yes _ _ rfl rfl) rfl (by kernel_rfl) (by kernel_rfl) (by kernel_rfl) rfl ?_
    simp only [Act.put, List.setIfInBounds_toArray, List.set_cons_zero, List.set_cons_succ, Nat.zero_add]
    refine wk_field 104 _ 3 256 0 _ _ _ (by first | exact wanted_none rfl | exact wanted_yes _ _ rfl rfl) rfl (by kernel_rfl) (by kernel_rfl) (by kernel_rfl) rfl ?_
    simp only [Act.put, List.setIfInBounds_toArray, List.set_cons_zero, List.set_cons_succ, Nat.zero_add]
    refine wk_load1 _ _ _ _ _ rfl (by kernel_rfl) rfl rfl (fun w' hC => hC.cell (R5.out.cell 1 256 rfl HGA.out)) Tryd.underlying3 ?_
    simp only [Act.put, List.setIfInBounds_toArray, List.set_cons_zero, List.set_cons_succ]
    refine wk_field 104 _ 3 256 0 _ _ _ (by first | exact wanted_none rfl | exact wanted_yes _ _ rfl rfl) rfl (by kernel_rfl) (by kernel_rfl) (by kernel_rfl) rfl ?_
    simp only [Act.put, List.setIfInBounds_toArray, List.set_cons_zero, List.set_cons_succ, Nat.zero_add]
    refine wk_load1 _ _ _ _ _ rfl (by kernel_rfl) rfl rfl (fun w' hC => hC.cell (R5.out.cell 1 256 rfl HGA.out)) Tryd.underlying3 ?_
    simp only [Act.put, List.setIfInBounds_toArray, List.set_cons_zero, List.set_cons_succ]
    refine wk_addk .i64 _ _ _ _ _ _ _ (by first | exact wanted_none rfl | exact wanted_yes _ _ rfl rfl) rfl rfl rfl (HA1.out) ?_
    simp only [Act.put, List.setIfInBounds_toArray, List.set_cons_zero, List.set_cons_succ]
    repeat (first
      | (refine wk_move _ (by first | exact wanted_none rfl | exact wanted_yes _ _ rfl rfl) rfl ?_; simp only [Act.put, Act.eval, Array.getD_eq_getD_getElem?, List.getElem?_toArray, List.getElem?_cons_succ, List.getElem?_cons_zero, Option.getD_some, List.setIfInBounds_toArray, List.set_cons_zero, List.set_cons_succ])
      | (refine wk_assign _ (by first | exact wanted_none rfl | exact wanted_yes _ _ rfl rfl) rfl ?_; simp only [Act.put, Act.eval, Array.getD_eq_getD_getElem?, List.getElem?_toArray, List.getElem?_cons_succ, List.getElem?_cons_zero, Option.getD_some, List.setIfInBounds_toArray, List.set_cons_zero, List.set_cons_succ])
      | (refine wk_pickt _ _ _ _ (by first | exact wanted_none rfl | exact wanted_yes _ _ rfl rfl) rfl rfl rfl ?_; simp only [Act.put, Act.eval, Array.getD_eq_getD_getElem?, List.getElem?_toArray, List.getElem?_cons_succ, List.getElem?_cons_zero, Option.getD_some, List.setIfInBounds_toArray, List.set_cons_zero, List.set_cons_succ])
      | (refine wk_pickf _ _ _ _ (by first | exact wanted_none rfl | exact wanted_yes _ _ rfl rfl) rfl rfl rfl ?_; simp only [Act.put, Act.eval, Array.getD_eq_getD_getElem?, List.getElem?_toArray, List.getElem?_cons_succ, List.getElem?_cons_zero, Option.getD_some, List.setIfInBounds_toArray, List.set_cons_zero, List.set_cons_succ])
      | (refine wk_skip (wanted_not _ true false rfl rfl rfl) ?_; simp only [Act.put, List.setIfInBounds_toArray, List.set_cons_zero, List.set_cons_succ])
      | (refine wk_skip (wanted_not _ false true rfl rfl rfl) ?_; simp only [Act.put, List.setIfInBounds_toArray, List.set_cons_zero, List.set_cons_succ])
      | (refine wk_skip (wanted_undef _ _ rfl rfl) ?_; simp only [Act.put, List.setIfInBounds_toArray, List.set_cons_zero, List.set_cons_succ])
      | (refine wk_not true _ _ (by first | exact wanted_none rfl | exact wanted_yes _ _ rfl rfl) rfl rfl ?_; simp only [Act.put, List.setIfInBounds_toArray, List.set_cons_zero, List.set_cons_succ])
      | (refine wk_not false _ _ (by first | exact wanted_none rfl | exact wanted_yes _ _ rfl rfl) rfl rfl ?_; simp only [Act.put, List.setIfInBounds_toArray, List.set_cons_zero, List.set_cons_succ]))
    refine wk_addk .i64 _ _ _ _ _ _ _ (by first | exact wanted_none rfl | exact wanted_yes _ _ rfl rfl) rfl rfl rfl (HA2.out) ?_
    simp only [Act.put, List.setIfInBounds_toArray, List.set_cons_zero, List.set_cons_succ]
    refine wk_slice_arr2 i p2 256 .i64 .i64 _ _ _ _ _ g1 (by kernel_rfl) rfl Tryd.underlying29 sizeU8 rfl rfl rfl (by have := HP2.out; omega) (by omega) (by omega) ?_
    simp only [Act.put, List.setIfInBounds_toArray, List.set_cons_zero, List.set_cons_succ]
    refine wk_bytes_at _ _ _ _ g1 i (p2 - i) (256 - i) l (by kernel_rfl) rfl rfl Tryd.underlying81 Tryd.underlying5 Tryd.underlying9 HL2.out (fun w' hC => HBL.out w' (R5.out.since hC)) ?_
    simp only [Act.put, List.setIfInBounds_toArray, List.set_cons_zero, List.set_cons_succ]
    refine wk_neq_str (!k) _ _ _ _ _ _ (by kernel_rfl) rfl rfl rfl HNE.out ?_
    simp only [Act.put, List.setIfInBounds_toArray, List.set_cons_zero, List.set_cons_succ]
    refine wk_nil ?_
    intro w' hC
    have R3 := Lib.hid (R5.out.since hC)
    have R2 := R3
    clear hC R5 HNE
    cases k with
    | false =>
      go_upto_region 9 with (fail)
      refine wk_plain_tail 2 ?_
      simp only [List.take_succ_cons, List.take_zero, List.drop_succ_cons, List.drop_zero]
      refine wk_build 104 _ [] Z (by first | exact wanted_none rfl | exact wanted_yes _ _ rfl rfl) rfl (by simp) HZB.out ?_
      simp only [Act.put, List.setIfInBounds_toArray, List.set_cons_zero, List.set_cons_succ]
      repeat (first
        | (refine wk_move _ (by first | exact wanted_none rfl | exact wanted_yes _ _ rfl rfl) rfl ?_; simp only [Act.put, Act.eval, Array.getD_eq_getD_getElem?, List.getElem?_toArray, List.getElem?_cons_succ, List.getElem?_cons_zero, Option.getD_some, List.setIfInBounds_toArray, List.set_cons_zero, List.set_cons_succ])
        | (refine wk_assign _ (by first | exact wanted_none rfl | exact wanted_yes _ _ rfl rfl) rfl ?_; simp only [Act.put, Act.eval, Array.getD_eq_getD_getElem?, List.getElem?_toArray, List.getElem?_cons_succ, List.getElem?_cons_zero, Option.getD_some, List.setIfInBounds_toArray, List.set_cons_zero, List.set_cons_succ])
        | (refine wk_pickt _ _ _ _ (by first | exact wanted_none rfl | exact wanted_yes _ _ rfl rfl) rfl rfl rfl ?_; simp only [Act.put, Act.eval, Array.getD_eq_getD_getElem?, List.getElem?_toArray, List.getElem?_cons_succ, List.getElem?_cons_zero, Option.getD_some, List.setIfInBounds_toArray, List.set_cons_zero, List.set_cons_succ])
        | (refine wk_pickf _ _ _ _ (by first | exact wanted_none rfl | exact wanted_yes _ _ rfl rfl) rfl rfl rfl ?_; simp only [Act.put, Act.eval, Array.getD_eq_getD_getElem?, List.getElem?_toArray, List.getElem?_cons_succ, List.getElem?_cons_zero, Option.getD_some, List.setIfInBounds_toArray, List.set_cons_zero, List.set_cons_succ])
        | (refine wk_skip (wanted_not _ true false rfl rfl rfl) ?_; simp only [Act.put, List.setIfInBounds_toArray, List.set_cons_zero, List.set_cons_succ])
        | (refine wk_skip (wanted_not _ false true rfl rfl rfl) ?_; simp only [Act.put, List.setIfInBounds_toArray, List.set_cons_zero, List.set_cons_succ])
        | (refine wk_skip (wanted_undef _ _ rfl rfl) ?_; simp only [Act.put, List.setIfInBounds_toArray, List.set_cons_zero, List.set_cons_succ])
        | (refine wk_not true _ _ (by first | exact wanted_none rfl | exact wanted_yes _ _ rfl rfl) rfl rfl ?_; simp only [Act.put, List.setIfInBounds_toArray, List.set_cons_zero, List.set_cons_succ])
        | (refine wk_not false _ _ (by first | exact wanted_none rfl | exact wanted_yes _ _ rfl rfl) rfl rfl ?_; simp only [Act.put, List.setIfInBounds_toArray, List.set_cons_zero, List.set_cons_succ]))
      refine wk_nil ?_
      intro w' hC
      have R4 := Lib.hid (R3.out.since hC)
      clear hC
      go_wp2_with (refine wpList_store_row rfl 104 _ _ rfl g2 Z rfl rfl 104 _ (R4.out.get 0 rfl) (by rw [HZS.out]; exact sizeRow) rfl HZO.out ?_)
      have R5 := Lib.hid (R4.out.setRow 0 Z rfl)
      refine bodyPost_ret (v := .tuple #[.string ⟨#[]⟩, .agg Z]) (results_slot_cell rfl _ _ g2 104 _ (0, 0) _ _ rfl rfl (R5.out.get 0 rfl) Tryd.underlying104 rfl (by rw [HZS.out]; exact sizeRow)) rfl ⟨rfl, R5.out.below⟩
    | true =>
      clear R3
      go_upto_region 10 with (fail)
      have hc := R2.out.cell 1 256 rfl (HGA.out)
      have hf := R2.out.free 1 256 rfl
      have q0 := Lib.hid (R2.out.setCell 1 256 (.int .i64 ((i : Int) + 1 + (m : Int))) rfl)
      go_upto_region 11 with (fail)
      have q1 := q0.out
      clear q0 hc hf
      obtain ⟨W3, hW⟩ : ∃ W, W = w'.setCell ⟨g1, 256, none⟩ (.int .i64 ((i : Int) + 1 + (m : Int))) := ⟨_, rfl⟩
      rw [← hW] at q1 ⊢
      clear hW
      simp only [List.set_cons_zero, List.set_cons_succ] at q1
      have R3 := Lib.hid q1
      clear q1
      rw [HSET.out] at R3
      refine wk_region_tail 3 (by kernel_rfl) (by kernel_rfl) ?_
      simp only [List.take_succ_cons, List.take_zero, List.drop_succ_cons, List.drop_zero]
      repeat (first
        | (refine wk_move _ (by first | exact wanted_none rfl | exact wanted_yes _ _ rfl rfl) rfl ?_; simp only [Act.put, Act.eval, Array.getD_eq_getD_getElem?, List.getElem?_toArray, List.getElem?_cons_succ, List.getElem?_cons_zero, Option.getD_some, List.setIfInBounds_toArray, List.set_cons_zero, List.set_cons_succ])
        | (refine wk_assign _ (by first | exact wanted_none rfl | exact wanted_yes _ _ rfl rfl) rfl ?_; simp only [Act.put, Act.eval, Array.getD_eq_getD_getElem?, List.getElem?_toArray, List.getElem?_cons_succ, List.getElem?_cons_zero, Option.getD_some, List.setIfInBounds_toArray, List.set_cons_zero, List.set_cons_succ])
        | (refine wk_pickt _ _ _ _ (by first | exact wanted_none rfl | exact wanted_yes _ _ rfl rfl) rfl rfl rfl ?_; simp only [Act.put, Act.eval, Array.getD_eq_getD_getElem?, List.getElem?_toArray, List.getElem?_cons_succ, List.getElem?_cons_zero, Option.getD_some, List.setIfInBounds_toArray, List.set_cons_zero, List.set_cons_succ])
        | (refine wk_pickf _ _ _ _ (by first | exact wanted_none rfl | exact wanted_yes _ _ rfl rfl) rfl rfl rfl ?_; simp only [Act.put, Act.eval, Array.getD_eq_getD_getElem?, List.getElem?_toArray, List.getElem?_cons_succ, List.getElem?_cons_zero, Option.getD_some, List.setIfInBounds_toArray, List.set_cons_zero, List.set_cons_succ])
        | (refine wk_skip (wanted_not _ true false rfl rfl rfl) ?_; simp only [Act.put, List.setIfInBounds_toArray, List.set_cons_zero, List.set_cons_succ])
        | (refine wk_skip (wanted_not _ false true rfl rfl rfl) ?_; simp only [Act.put, List.setIfInBounds_toArray, List.set_cons_zero, List.set_cons_succ])
        | (refine wk_skip (wanted_undef _ _ rfl rfl) ?_; simp only [Act.put, List.setIfInBounds_toArray, List.set_cons_zero, List.set_cons_succ])
        | (refine wk_not true _ _ (by first | exact wanted_none rfl | exact wanted_yes _ _ rfl rfl) rfl rfl ?_; simp only [Act.put, List.setIfInBounds_toArray, List.set_cons_zero, List.set_cons_succ])
        | (refine wk_not false _ _ (by first | exact wanted_none rfl | exact wanted_yes _ _ rfl rfl) rfl rfl ?_; simp only [Act.put, List.setIfInBounds_toArray, List.set_cons_zero, List.set_cons_succ]))
      refine wk_load_row 104 _ g1 104 D (0, 0) _ (by kernel_rfl) rfl rfl (fun w' hC => hC.row (R3.out.get 1 rfl)) Tryd.underlying104 rfl (by rw [HDS.out]; exact sizeRow) ?_
      simp only [Act.put, List.setIfInBounds_toArray, List.set_cons_zero, List.set_cons_succ]
      repeat (first
        | (refine wk_move _ (by first | exact wanted_none rfl | exact wanted_yes _ _ rfl rfl) rfl ?_; simp only [Act.put, Act.eval, Array.getD_eq_getD_getElem?, List.getElem?_toArray, List.getElem?_cons_succ, List.getElem?_cons_zero, Option.getD_some, List.setIfInBounds_toArray, List.set_cons_zero, List.set_cons_succ])
        | (refine wk_assign _ (by first | exact wanted_none rfl | exact wanted_yes _ _ rfl rfl) rfl ?_; simp only [Act.put, Act.eval, Array.getD_eq_getD_getElem?, List.getElem?_toArray, List.getElem?_cons_succ, List.getElem?_cons_zero, Option.getD_some, List.setIfInBounds_toArray, List.set_cons_zero, List.set_cons_succ])
        | (refine wk_pickt _ _ _ _ (by first | exact wanted_none rfl | exact wanted_yes _ _ rfl rfl) rfl rfl rfl ?_; simp only [Act.put, Act.eval, Array.getD_eq_getD_getElem?, List.getElem?_toArray, List.getElem?_cons_succ, List.getElem?_cons_zero, Option.getD_some, List.setIfInBounds_toArray, List.set_cons_zero, List.set_cons_succ])
        | (refine wk_pickf _ _ _ _ (by first | exact wanted_none rfl | exact wanted_yes _ _ rfl rfl) rfl rfl rfl ?_; simp only [Act.put, Act.eval, Array.getD_eq_getD_getElem?, List.getElem?_toArray, List.getElem?_cons_succ, List.getElem?_cons_zero, Option.getD_some, List.setIfInBounds_toArray, List.set_cons_zero, List.set_cons_succ])
        | (refine wk_skip (wanted_not _ true false rfl rfl rfl) ?_; simp only [Act.put, List.setIfInBounds_toArray, List.set_cons_zero, List.set_cons_succ])
        | (refine wk_skip (wanted_not _ false true rfl rfl rfl) ?_; simp only [Act.put, List.setIfInBounds_toArray, List.set_cons_zero, List.set_cons_succ])
        | (refine wk_skip (wanted_undef _ _ rfl rfl) ?_; simp only [Act.put, List.setIfInBounds_toArray, List.set_cons_zero, List.set_cons_succ])
        | (refine wk_not true _ _ (by first | exact wanted_none rfl | exact wanted_yes _ _ rfl rfl) rfl rfl ?_; simp only [Act.put, List.setIfInBounds_toArray, List.set_cons_zero, List.set_cons_succ])
        | (refine wk_not false _ _ (by first | exact wanted_none rfl | exact wanted_yes _ _ rfl rfl) rfl rfl ?_; simp only [Act.put, List.setIfInBounds_toArray, List.set_cons_zero, List.set_cons_succ]))
      refine wk_nil ?_
      intro w' hC
      have R4 := Lib.hid (R3.out.since hC)
      clear hC
      go_wp2_with (refine wpList_store_row rfl 104 _ _ rfl g2 D rfl rfl 104 _ (R4.out.get 0 rfl) (by rw [HDS.out]; exact sizeRow) (by rw [HDS.out, HZS.out]) HDO.out ?_)
      have R5 := Lib.hid (R4.out.setRow 0 D rfl)
      refine bodyPost_ret (v := .tuple #[.string S, .agg D]) (results_slot_cell rfl _ _ g2 104 _ (0, 0) _ _ rfl rfl (R5.out.get 0 rfl) Tryd.underlying104 rfl (by rw [HDS.out]; exact sizeRow)) rfl ⟨rfl, R5.out.below⟩
  · have hk : k = false := HNO.out hxm
    have HG4 : Hid (cmpInt .gtr (x : Int) (m : Int) = some true) := Lib.hid (by show some (decide ((x : Int) > (m : Int))) = _; rw [decide_eq_true (by omega)])
    subst hk
    clear HSZT HSAME
    go_upto_region 4 with (fail)
    refine wk_plain_since ?_
    repeat (first
      | (refine wk_move _ (by first | exact wanted_none rfl | exact wanted_yes _ _ rfl rfl) rfl ?_; simp only [Act.put, Act.eval, Array.getD_eq_getD_getElem?, List.getElem?_toArray, List.getElem?_cons_succ, List.getElem?_cons_zero, Option.getD_some, List.setIfInBounds_toArray, List.set_cons_zero, List.set_cons_succ])
      | (refine wk_assign _ (by first | exact wanted_none rfl | exact wanted_yes _ _ rfl rfl) rfl ?_; simp only [Act.put, Act.eval, Array.getD_eq_getD_getElem?, List.getElem?_toArray, List.getElem?_cons_succ, List.getElem?_cons_zero, Option.getD_some, List.setIfInBounds_toArray, List.set_cons_zero, List.set_cons_succ])
      | (refine wk_pickt _ _ _ _ (by first | exact wanted_none rfl | exact wanted_yes _ _ rfl rfl) rfl rfl rfl ?_; simp only [Act.put, Act.eval, Array.getD_eq_getD_getElem?, List.getElem?_toArray, List.getElem?_cons_succ, List.getElem?_cons_zero, Option.getD_some, List.setIfInBounds_toArray, List.set_cons_zero, List.set_cons_succ])
      | (refine wk_pickf _ _ _ _ (by first | exact wanted_none rfl | exact wanted_yes _ _ rfl rfl) rfl rfl rfl ?_; simp only [Act.put, Act.eval, Array.getD_eq_getD_getElem?, List.getElem?_toArray, List.getElem?_cons_succ, List.getElem?_cons_zero, Option.getD_some, List.setIfInBounds_toArray, List.set_cons_zero, List.set_cons_succ])
      | (refine wk_skip (wanted_not _ true false rfl rfl rfl) ?_; simp only [Act.put, List.setIfInBounds_toArray, List.set_cons_zero, List.set_cons_succ])
      | (refine wk_skip (wanted_not _ false true rfl rfl rfl) ?_; simp only [Act.put, List.setIfInBounds_toArray, List.set_cons_zero, List.set_cons_succ])
      | (refine wk_skip (wanted_undef _ _ rfl rfl) ?_; simp only [Act.put, List.setIfInBounds_toArray, List.set_cons_zero, List.set_cons_succ])
      | (refine wk_not true _ _ (by first | exact wanted_none rfl | exact wanted_yes _ _ rfl rfl) rfl rfl ?_; simp only [Act.put, List.setIfInBounds_toArray, List.set_cons_zero, List.set_cons_succ])
      | (refine wk_not false _ _ (by first | exact wanted_none rfl | exact wanted_yes _ _ rfl rfl) rfl rfl ?_; simp only [Act.put, List.setIfInBounds_toArray, List.set_cons_zero, List.set_cons_succ]))
    refine wk_cmp_int .gtr (true) _ _ _ _ _ _ _ (by kernel_rfl) rfl rfl rfl (HG4.out) ?_
    simp only [Act.put, List.setIfInBounds_toArray, List.set_cons_zero, List.set_cons_succ]
    refine wk_nil ?_
    intro w' hC
    have R3 := Lib.hid (R2.out.since hC)
    clear hC R2 c256 ci
    go_upto_region 5 with (fail)
    refine wk_plain_tail 2 ?_
    simp only [List.take_succ_cons, List.take_zero, List.drop_succ_cons, List.drop_zero]
    refine wk_build 104 _ [] Z (by first | exact wanted_none rfl | exact wanted_yes _ _ rfl rfl) rfl (by simp) HZB.out ?_
    simp only [Act.put, List.setIfInBounds_toArray, List.set_cons_zero, List.set_cons_succ]
    repeat (first
      | (refine wk_move _ (by first | exact wanted_none rfl | exact wanted_yes _ _ rfl rfl) rfl ?_; simp only [Act.put, Act.eval, Array.getD_eq_getD_getElem?, List.getElem?_toArray, List.getElem?_cons_succ, List.getElem?_cons_zero, Option.getD_some, List.setIfInBounds_toArray, List.set_cons_zero, List.set_cons_succ])
      | (refine wk_assign _ (by first | exact wanted_none rfl | exact wanted_yes _ _ rfl rfl) rfl ?_; simp only [Act.put, Act.eval, Array.getD_eq_getD_getElem?, List.getElem?_toArray, List.getElem?_cons_succ, List.getElem?_cons_zero, Option.getD_some, List.setIfInBounds_toArray, List.set_cons_zero, List.set_cons_succ])
      | (refine wk_pickt _ _ _ _ (by first | exact wanted_none rfl | exact wanted_yes _ _ rfl rfl) rfl rfl rfl ?_; simp only [Act.put, Act.eval, Array.getD_eq_getD_getElem?, List.getElem?_toArray, List.getElem?_cons_succ, List.getElem?_cons_zero, Option.getD_some, List.setIfInBounds_toArray, List.set_cons_zero, List.set_cons_succ])
      | (refine wk_pickf _ _ _ _ (by first | exact wanted_none rfl | exact wanted_yes _ _ rfl rfl) rfl rfl rfl ?_; simp only [Act.put, Act.eval, Array.getD_eq_getD_getElem?, List.getElem?_toArray, List.getElem?_cons_succ, List.getElem?_cons_zero, Option.getD_some, List.setIfInBounds_toArray, List.set_cons_zero, List.set_cons_succ])
      | (refine wk_skip (wanted_not _ true false rfl rfl rfl) ?_; simp only [Act.put, List.setIfInBounds_toArray, List.set_cons_zero, List.set_cons_succ])
      | (refine wk_skip (wanted_not _ false true rfl rfl rfl) ?_; simp only [Act.put, List.setIfInBounds_toArray, List.set_cons_zero, List.set_cons_succ])
      | (refine wk_skip (wanted_undef _ _ rfl rfl) ?_; simp only [Act.put, List.setIfInBounds_toArray, List.set_cons_zero, List.set_cons_succ])
      | (refine wk_not true _ _ (by first | exact wanted_none rfl | exact wanted_yes _ _ rfl rfl) rfl rfl ?_; simp only [Act.put, List.setIfInBounds_toArray, List.set_cons_zero, List.set_cons_succ])
      | (refine wk_not false _ _ (by first | exact wanted_none rfl | exact wanted_yes _ _ rfl rfl) rfl rfl ?_; simp only [Act.put, List.setIfInBounds_toArray, List.set_cons_zero, List.set_cons_succ]))
    refine wk_nil ?_
    intro w' hC
    have R4 := Lib.hid (R3.out.since hC)
    clear hC
    go_wp2_with (refine wpList_store_row rfl 104 _ _ rfl g2 Z rfl rfl 104 _ (R4.out.get 0 rfl) (by rw [HZS.out]; exact sizeRow) rfl HZO.out ?_)
    have R5 := Lib.hid (R4.out.setRow 0 Z rfl)
    refine bodyPost_ret (v := .tuple #[.string ⟨#[]⟩, .agg Z]) (results_slot_cell rfl _ _ g2 104 _ (0, 0) _ _ rfl rfl (R5.out.get 0 rfl) Tryd.underlying104 rfl (by rw [HZS.out]; exact sizeRow)) rfl ⟨rfl, R5.out.below⟩
theorem taketext_no (b : List UInt8) (hb : b.length = 256) (i m : Nat) (wi : World) :
    Calls Tryd.prog 57 #[.agg (rowC b i false), .int .i64 (m : Int)] wi fun e w' => e = .returned (.tuple #[.string ⟨#[]⟩, .agg (rowC zeroBlk 0 false)]) ∧ Below wi.heap.size wi w' := by
  obtain ⟨C, hC⟩ : ∃ C, C = rowC b i false := ⟨_, rfl⟩
  obtain ⟨Z, hZ⟩ : ∃ Z, Z = rowC zeroBlk 0 false := ⟨_, rfl⟩
  have HZ : Hid ((Tryd.prog.info? 104).bind (·.zero) = some (.agg Z)) := Lib.hid (by rw [hZ]; exact zeroRowI)
  have HZS : Hid (Z.size = 258) := Lib.hid (by rw [hZ]; exact size_rowC _ length_zeroBlk _ _)
  have HZO : Hid (Z.all (·.oneCell') = true) := Lib.hid (by rw [hZ]; exact rowC_one _ _ _)
  have HZB : Hid (Tryd.prog.built 104 [] = some Z) := Lib.hid (by rw [hZ]; exact builtRowZ)
  have HGF : Hid (C[257]? = some (.bool false)) := Lib.hid (by rw [hC]; exact rowC_fine b hb _ _)
  have q1 := ((Rows.start wi).alloc C 104).alloc Z 104
  obtain ⟨g1, hg1⟩ : ∃ g, g = wi.heap.size := ⟨_, rfl⟩
  obtain ⟨g2, hg2⟩ : ∃ g, g = (wi.alloc (.cells C 104)).heap.size := ⟨_, rfl⟩
  rw [← hg1, ← hg2] at q1
  have G1 := Lib.hid hg1
  have G2 := Lib.hid hg2
  have Q1 := Lib.hid q1
  rw [← hC, ← hZ]
  clear hg1 hg2 q1 hb hC hZ
  go_enter Tryd.func57, Tryd.ntmps57
  go_upto_region 1 with (refine wpList_alloc_row rfl 104 rfl _ HZ.out ?_)
  have q1 := Q1.out
  obtain ⟨W1, hW⟩ : ∃ W, W = (wi.alloc (.cells C 104)).alloc (.cells Z 104) := ⟨_, rfl⟩
  rw [← hW] at q1 ⊢
  simp only [Act.put, List.setIfInBounds_toArray, List.set_cons_zero, List.set_cons_succ]
  rw [← G2.out, ← G1.out]
  have R1 := Lib.hid q1
  clear hW q1 Q1 G1 G2
  refine wk_plain_since ?_
  refine wk_field 104 _ 4 257 0 _ _ _ (by first | exact wanted_none rfl | exact wanted_yes _ _ rfl rfl) rfl (by kernel_rfl) (by kernel_rfl) (by kernel_rfl) rfl ?_
  simp only [Act.put, List.setIfInBounds_toArray, List.set_cons_zero, List.set_cons_succ, Nat.zero_add]
  refine wk_load1 _ _ _ _ _ rfl (by kernel_rfl) rfl rfl (fun w' hC => hC.cell (R1.out.cell 1 257 rfl HGF.out)) Tryd.underlying4 ?_
  simp only [Act.put, List.setIfInBounds_toArray, List.set_cons_zero, List.set_cons_succ]
  repeat (first
    | (refine wk_move _ (by first | exact wanted_none rfl | exact wanted_yes _ _ rfl rfl) rfl ?_; simp only [Act.put, Act.eval, Array.getD_eq_getD_getElem?, List.getElem?_toArray, List.getElem?_cons_succ, List.getElem?_cons_zero, Option.getD_some, List.setIfInBounds_toArray, List.set_cons_zero, List.set_cons_succ])
    | (refine wk_assign _ (by first | exact wanted_none rfl | exact wanted_yes _ _ rfl rfl) rfl ?_; simp only [Act.put, Act.eval, Array.getD_eq_getD_getElem?, List.getElem?_toArray, List.getElem?_cons_succ, List.getElem?_cons_zero, Option.getD_some, List.setIfInBounds_toArray, List.set_cons_zero, List.set_cons_succ])
    | (refine wk_pickt _ _ _ _ (by first | exact wanted_none rfl | exact wanted_yes _ _ rfl rfl) rfl rfl rfl ?_; simp only [Act.put, Act.eval, Array.getD_eq_getD_getElem?, List.getElem?_toArray, List.getElem?_cons_succ, List.getElem?_cons_zero, Option.getD_some, List.setIfInBounds_toArray, List.set_cons_zero, List.set_cons_succ])
    | (refine wk_pickf _ _ _ _ (by first | exact wanted_none rfl | exact wanted_yes _ _ rfl rfl) rfl rfl rfl ?_; simp only [Act.put, Act.eval, Array.getD_eq_getD_getElem?, List.getElem?_toArray, List.getElem?_cons_succ, List.getElem?_cons_zero, Option.getD_some, List.setIfInBounds_toArray, List.set_cons_zero, List.set_cons_succ])
    | (refine wk_skip (wanted_not _ true false rfl rfl rfl) ?_; simp only [Act.put, List.setIfInBounds_toArray, List.set_cons_zero, List.set_cons_succ])
    | (refine wk_skip (wanted_not _ false true rfl rfl rfl) ?_; simp only [Act.put, List.setIfInBounds_toArray, List.set_cons_zero, List.set_cons_succ])
    | (refine wk_skip (wanted_undef _ _ rfl rfl) ?_; simp only [Act.put, List.setIfInBounds_toArray, List.set_cons_zero, List.set_cons_succ])
    | (refine wk_not true _ _ (by first | exact wanted_none rfl | exact wanted_yes _ _ rfl rfl) rfl rfl ?_; simp only [Act.put, List.setIfInBounds_toArray, List.set_cons_zero, List.set_cons_succ])
    | (refine wk_not false _ _ (by first | exact wanted_none rfl | exact wanted_yes _ _ rfl rfl) rfl rfl ?_; simp only [Act.put, List.setIfInBounds_toArray, List.set_cons_zero, List.set_cons_succ]))
  refine wk_nil ?_
  intro w' hC
  have R3 := Lib.hid (R1.out.since hC)
  clear hC R1
  go_upto_region 2 with (fail)
  refine wk_plain_tail 2 ?_
  simp only [List.take_succ_cons, List.take_zero, List.drop_succ_cons, List.drop_zero]
  refine wk_build 104 _ [] Z (by first | exact wanted_none rfl | exact wanted_yes _ _ rfl rfl) rfl (by simp) HZB.out ?_
  simp only [Act.put, List.setIfInBounds_toArray, List.set_cons_zero, List.set_cons_succ]
  repeat (first
    | (refine wk_move _ (by first | exact wanted_none rfl | exact wanted_yes _ _ rfl rfl) rfl ?_; simp only [Act.put, Act.eval, Array.getD_eq_getD_getElem?, List.getElem?_toArray, List.getElem?_cons_succ, List.getElem?_cons_zero, Option.getD_some, List.setIfInBounds_toArray, List.set_cons_zero, List.set_cons_succ])
    | (refine wk_assign _ (by first | exact wanted_none rfl | exact wanted_yes _ _ rfl rfl) rfl ?_; simp only [Act.put, Act.eval, Array.getD_eq_getD_getElem?, List.getElem?_toArray, List.getElem?_cons_succ, List.getElem?_cons_zero, Option.getD_some, List.setIfInBounds_toArray, List.set_cons_zero, List.set_cons_succ])
    | (refine wk_pickt _ _ _ _ (by first | exact wanted_none rfl | exact wanted_yes _ _ rfl rfl) rfl rfl rfl ?_; simp only [Act.put, Act.eval, Array.getD_eq_getD_getElem?, List.getElem?_toArray, List.getElem?_cons_succ, List.getElem?_cons_zero, Option.getD_some, List.setIfInBounds_toArray, List.set_cons_zero, List.set_cons_succ])
    | (refine wk_pickf _ _ _ _ (by first | exact wanted_none rfl | exact wanted_yes _ _ rfl rfl) rfl rfl rfl ?_; simp only [Act.put, Act.eval, Array.getD_eq_getD_getElem?, List.getElem?_toArray, List.getElem?_cons_succ, List.getElem?_cons_zero, Option.getD_some, List.setIfInBounds_toArray, List.set_cons_zero, List.set_cons_succ])
    | (refine wk_skip (wanted_not _ true false rfl rfl rfl) ?_; simp only [Act.put, List.setIfInBounds_toArray, List.set_cons_zero, List.set_cons_succ])
    | (refine wk_skip (wanted_not _ false true rfl rfl rfl) ?_; simp only [Act.put, List.setIfInBounds_toArray, List.set_cons_zero, List.set_cons_succ])
    | (refine wk_skip (wanted_undef _ _ rfl rfl) ?_; simp only [Act.put, List.setIfInBounds_toArray, List.set_cons_zero, List.set_cons_succ])
    | (refine wk_not true _ _ (by first | exact wanted_none rfl | exact wanted_yes _ _ rfl rfl) rfl rfl ?_; simp only [Act.put, List.setIfInBounds_toArray, List.set_cons_zero, List.set_cons_succ])
    | (refine wk_not false _ _ (by first | exact wanted_none rfl | exact wanted_yes _ _ rfl rfl) rfl rfl ?_; simp only [Act.put, List.setIfInBounds_toArray, List.set_cons_zero, List.set_cons_succ]))
  refine wk_nil ?_
  intro w' hC
  have R4 := Lib.hid (R3.out.since hC)
  clear hC
  go_wp2_with (refine wpList_store_row rfl 104 _ _ rfl g2 Z rfl rfl 104 _ (R4.out.get 0 rfl) (by rw [HZS.out]; exact sizeRow) rfl HZO.out ?_)
  have R5 := Lib.hid (R4.out.setRow 0 Z rfl)
  refine bodyPost_ret (v := .tuple #[.string ⟨#[]⟩, .agg Z]) (results_slot_cell rfl _ _ g2 104 _ (0, 0) _ _ rfl rfl (R5.out.get 0 rfl) Tryd.underlying104 rfl (by rw [HZS.out]; exact sizeRow)) rfl ⟨rfl, R5.out.below⟩
/-- What is taken of a row as a text. -/
theorem taketext_all (b : List UInt8) (hb : b.length = 256) (i m : Nat) (f : Bool) (hm : m ≤ 200) (hf : i + (1 + m) ≤ 252) (w : World) :
    Calls Tryd.prog 57 #[.agg (rowS b i f), .int .i64 (m : Int)] w fun e w' => e = .returned (.tuple #[.string (textV b i m f), .agg (rowS b (i + (1 + m)) (fineT b i m f))]) ∧ Below w.heap.size w w' := by
  cases f with
  | true => exact taketext_ok b hb i m hm hf w
  | false =>
    obtain ⟨h1, _⟩ := textV_no (b := b) (i := i) (m := m) (fine := false) rfl
    rw [h1]
    exact taketext_no zeroBlk length_zeroBlk 0 m w
end Go.Proofs.YtfbafmgclfnigaaDoor
