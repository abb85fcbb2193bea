/- The document's texts: Text. -/
import Derived.Test.YtnfmdcohacflmaaDoorRefRow
import Derived.Test.YtnfmdcohacflmaaDoorRef02
import Derived.Test.YtnfmdcohacflmaaDoorFlow
import Derived.Great.BuildSlice
import Derived.Laws.MakeOwn
namespace Go.Proofs.YtnfmdcohacflmaaDoor
open Go.RowKit
set_option linter.unusedSimpArgs false
set_option linter.unusedVariables false
set_option maxRecDepth 100000
section
variable {P : Program} {ops : Array Oper} {C : World → Prop} {o : Oper} {a : Act} {rest : List Oper} {Q : Act → Prop}
theorem wk_len_str (t : TypeId) (x : Operand) (s : ByteArray) (ht : P.underlying t = some .string) (hw : Region.wanted o (yielded ops a.tmps) = true) (ho : o.op = .call { callee := .builtin .len, args := #[x], argTypes := #[t] })
    (hx : a.eval x = .string s) (h : WQ P ops C Q rest (a.put o.dst (.int .i64 (s.size : Int)))) : WQ P ops C Q (o :: rest) a :=
  wk_val _ hw (fun w _ => by
    unfold execOp
    simp [ho, hx, resolve, invoke, builtin, Builtin.len_, run_underlying ht, goInt]) h
end
section
variable {P : Program} {Q : Exit → Act → World → Prop} {K : Act → World → Prop} {o : Oper} {a : Act} {w : World}
theorem wpo_len_str (t : TypeId) (x : Operand) (s : ByteArray) (ht : P.underlying t = some .string) (ho : o.op = .call { callee := .builtin .len, args := #[x], argTypes := #[t] })
    (hx : a.eval x = .string s) (h : K (a.put o.dst (.int .i64 (s.size : Int))) w) : o.wp P a w K Q :=
  wp_value _ (by
    unfold execOp
    simp [ho, hx, resolve, invoke, builtin, Builtin.len_, run_underlying ht, goInt]) h
theorem wpo_add_str (t ty : TypeId) (x y : Operand) (s u : ByteArray) (ho : o.op = .binOp .add t x y ty) (hx : a.eval x = .string s) (hy : a.eval y = .string u) (hl : s.size + u.size ≤ maxLen)
    (h : K (a.put o.dst (.string (s ++ u))) w) : o.wp P a w K Q :=
  wpo_bin _ .add t ty x y ho (by
    have h1 : (binOp .add t (.string s) (.string u)).run P w = .ok (.string (s ++ u)) w := by
      have : ¬ maxLen < s.size + u.size := by omega
      simp [binOp, Op.stringOp, this, maxLen] at hl ⊢
      omega
    have h0 : (eqGuard .add t x y (.string s) (.string u)).run P w = .ok () w := rfl
    simp only [hx, hy, Sem.run_bind, h0, Result.andThen_ok, h1]) h
theorem wpo_sub (t ty : TypeId) (x y : Operand) (m n z : Int) (ho : o.op = .binOp .sub t x y ty) (hx : a.eval x = .int .i64 m) (hy : a.eval y = .int .i64 n) (hz : IntKind.i64.wrap (m - n) = z)
    (h : K (a.put o.dst (.int .i64 z)) w) : o.wp P a w K Q :=
  wpo_bin _ .sub t ty x y ho (by
    have h1 : (binOp .sub t (.int .i64 m) (.int .i64 n)).run P w = .ok (.int .i64 (IntKind.i64.wrap (m - n))) w := rfl
    have h0 : (eqGuard .sub t x y (.int .i64 m) (.int .i64 n)).run P w = .ok () w := rfl
    simp only [hx, hy, Sem.run_bind, h0, Result.andThen_ok, h1, hz]) h
theorem wpo_make (t e : TypeId) (x y : Operand) (i : TypeInfo) (z : Value) (n : Nat) (ht : P.underlying t = some (.slice e)) (hi : P.info? e = some i) (hz : i.zero = some z) (hb : i.bytes = 1) (hs : i.size = 1) (hzc : z.cells = #[z])
    (ho : o.op = .makeSlice t x y) (hx : a.eval x = .int .i64 (n : Int)) (hy : a.eval y = .int .i64 (n : Int)) (hn : n ≤ 100000)
    (h : K (a.put o.dst (.slice (some ⟨w.heap.size, 0, none⟩) n n)) (w.alloc (.cells (List.replicate n z).toArray e))) : o.wp P a w K Q := by
  have hm : madeCells z.cells n = (List.replicate n z).toArray := by
    rw [hzc]
    unfold madeCells
    apply Array.ext
    · simp
    · intro k h1 h2
      simp [Nat.mod_one]
  have := run_makeSlice w t e i z ht hi hz .i64 .i64 (n : Int) (n : Int) (by omega) (by omega) (by simp only [Int.toNat_natCast]; rw [hs]; omega) (by rw [hb]; omega) (by omega)
  simp only [Int.toNat_natCast, hs, Nat.mul_one, hm] at this
  unfold Oper.wp execOp
  simp only [ho, hx, hy, Sem.run_bind, this, Result.andThen_ok]
  exact h
end
/-- What the slots of Text's last region hold. -/
def txV (s : ByteArray) (n m d : Nat) (t : Tmp) (v : Value) (w : World) : Prop :=
  match t with
  | 18 => v = .string s
  | 19 => v = .int .i64 (n : Int)
  | 20 => v = .int .u8 (n : Int)
  | 21 => ∃ g, v = .slice (some ⟨g, 0, none⟩) 1 1 ∧ w.heap[g]? = some (.cells #[.int .u8 (n : Int)] 5 (0, 0))
  | 22 => v = .string ⟨#[UInt8.ofNat n]⟩
  | 23 => v = .string s
  | 24 => v = .string (⟨#[UInt8.ofNat n]⟩ ++ s)
  | 25 => v = .int .i64 (m : Int)
  | 26 => v = .string s
  | 27 => v = .int .i64 (n : Int)
  | 28 => v = .int .i64 (d : Int)
  | 29 => ∃ g, v = .slice (some ⟨g, 0, none⟩) d d ∧ w.heap[g]? = some (.cells (List.replicate d (Value.int .u8 0)).toArray 5 (0, 0))
  | 30 => v = .string ⟨(List.replicate d 0).toArray⟩
  | 31 => v = .string ⟨(textB s.data.toList m).toArray⟩
  | _ => True
theorem txV_stab (s : ByteArray) (n m d : Nat) : ∀ t v w w', txV s n m d t v w → Below w.heap.size w w' → txV s n m d t v w' := by
  intro t v w w' h hb
  unfold txV at h ⊢
  split at h <;> first
    | exact h
    | (obtain ⟨g, h1, h2⟩ := h
       exact ⟨g, h1, (hb.block g (Array.getElem?_eq_some_iff.1 h2).1).trans h2⟩)
    | trivial
set_option maxHeartbeats 1000000 in
theorem reftext_any (s : ByteArray) (m : Nat) (hs : s.size ≤ m) (hm : m ≤ 200) (w : World) :
    Calls Tryd.prog 17 #[.string s, .int .i64 (m : Int)] w fun e w' => e = .returned (.tuple #[.string ⟨(textB s.data.toList m).toArray⟩, .bool true]) ∧ Below w.heap.size w w' := by
  obtain ⟨n, hn⟩ : ∃ n, n = s.size := ⟨_, rfl⟩
  obtain ⟨d, hd⟩ : ∃ d, d = m - n := ⟨_, rfl⟩
  have hsz : s.size = n := hn.symm
  have hnm : n ≤ m := by omega
  have hsub : IntKind.i64.wrap ((m : Int) - (n : Int)) = (d : Int) := by rw [IntKind.wrap_i64] <;> omega
  have hu8 : IntKind.u8.wrap (n : Int) = (n : Int) := by rw [IntKind.wrap_u8] <;> omega
  have hcv : ∀ (W : World) (g : Nat), W.cell? ⟨g, 0, none⟩ = some (.int .u8 (n : Int)) → (convert 37 9 (.slice (some ⟨g, 0, none⟩) 1 1)).run Tryd.prog W = .ok (.string ⟨#[UInt8.ofNat n]⟩) W := by
    intro W g hc
    have hn' : (UInt8.ofNat n).toNat = n := by rw [UInt8.toNat_ofNat']; omega
    refine Lib.run_convert_whole W 37 5 9 Tryd.underlying37 Tryd.underlying5 Tryd.underlying9 g 0 ⟨#[UInt8.ofNat n]⟩ ?_ 1
    intro i hi
    obtain rfl : i = 0 := by simpa [ByteArray.size] using hi
    rw [Nat.zero_add, hc]
    show some (Value.int .u8 (n : Int)) = some (.int .u8 (((UInt8.ofNat n).toNat : Nat) : Int))
    rw [hn']
  have HC1 : Hid (cmpInt .lss (m : Int) 0 = some false) := Lib.hid (by show some (decide ((m : Int) < 0)) = _; rw [decide_eq_false (by omega)])
  have HC2 : Hid (cmpInt .gtr (m : Int) 200 = some false) := Lib.hid (by simp only [cmpInt]; congr 1; apply decide_eq_false; omega)
  have HC3 : Hid (cmpInt .gtr (n : Int) (m : Int) = some false) := Lib.hid (by simp only [cmpInt]; congr 1; apply decide_eq_false; omega)
  go_enter Tryd.func17, Tryd.ntmps17
  go_upto_region 1 with (fail)
  refine wk_plain_since ?_
  repeat (first
    | (refine wk_move _ (by first | exact wanted_none rfl | exact wanted_yes _ _ rfl rfl) rfl ?_; simp only [Act.put, Act.eval, Array.getD_eq_getD_getElem?, List.getElem?_toArray, List.getElem?_cons_succ, List.getElem?_cons_zero, Option.getD_some, List.setIfInBounds_toArray, List.set_cons_zero, List.set_cons_succ])
    | (refine wk_assign _ (by first | exact wanted_none rfl | exact wanted_yes _ _ rfl rfl) rfl ?_; simp only [Act.put, Act.eval, Array.getD_eq_getD_getElem?, List.getElem?_toArray, List.getElem?_cons_succ, List.getElem?_cons_zero, Option.getD_some, List.setIfInBounds_toArray, List.set_cons_zero, List.set_cons_succ])
    | (refine wk_pickt _ _ _ _ (by first | exact wanted_none rfl | exact wanted_yes _ _ rfl rfl) rfl rfl rfl ?_; simp only [Act.put, Act.eval, Array.getD_eq_getD_getElem?, List.getElem?_toArray, List.getElem?_cons_succ, List.getElem?_cons_zero, Option.getD_some, List.setIfInBounds_toArray, List.set_cons_zero, List.set_cons_succ])
    | (refine wk_pickf _ _ _ _ (by first | exact wanted_none rfl | exact wanted_yes _ _ rfl rfl) rfl rfl rfl ?_; simp only [Act.put, Act.eval, Array.getD_eq_getD_getElem?, List.getElem?_toArray, List.getElem?_cons_succ, List.getElem?_cons_zero, Option.getD_some, List.setIfInBounds_toArray, List.set_cons_zero, List.set_cons_succ])
    | (refine wk_skip (wanted_not _ true false rfl rfl rfl) ?_; simp only [Act.put, List.setIfInBounds_toArray, List.set_cons_zero, List.set_cons_succ])
    | (refine wk_skip (wanted_not _ false true rfl rfl rfl) ?_; simp only [Act.put, List.setIfInBounds_toArray, List.set_cons_zero, List.set_cons_succ])
    | (refine wk_skip (wanted_undef _ _ rfl rfl) ?_; simp only [Act.put, List.setIfInBounds_toArray, List.set_cons_zero, List.set_cons_succ])
    | (refine wk_not true _ _ (by first | exact wanted_none rfl | exact wanted_yes _ _ rfl rfl) rfl rfl ?_; simp only [Act.put, List.setIfInBounds_toArray, List.set_cons_zero, List.set_cons_succ])
    | (refine wk_not false _ _ (by first | exact wanted_none rfl | exact wanted_yes _ _ rfl rfl) rfl rfl ?_; simp only [Act.put, List.setIfInBounds_toArray, List.set_cons_zero, List.set_cons_succ]))
  refine wk_cmp_int .lss (false) _ _ _ _ _ _ _ (by kernel_rfl) rfl rfl rfl (HC1.out) ?_
  simp only [Act.put, List.setIfInBounds_toArray, List.set_cons_zero, List.set_cons_succ]
  repeat (first
    | (refine wk_move _ (by first | exact wanted_none rfl | exact wanted_yes _ _ rfl rfl) rfl ?_; simp only [Act.put, Act.eval, Array.getD_eq_getD_getElem?, List.getElem?_toArray, List.getElem?_cons_succ, List.getElem?_cons_zero, Option.getD_some, List.setIfInBounds_toArray, List.set_cons_zero, List.set_cons_succ])
    | (refine wk_assign _ (by first | exact wanted_none rfl | exact wanted_yes _ _ rfl rfl) rfl ?_; simp only [Act.put, Act.eval, Array.getD_eq_getD_getElem?, List.getElem?_toArray, List.getElem?_cons_succ, List.getElem?_cons_zero, Option.getD_some, List.setIfInBounds_toArray, List.set_cons_zero, List.set_cons_succ])
    | (refine wk_pickt _ _ _ _ (by first | exact wanted_none rfl | exact wanted_yes _ _ rfl rfl) rfl rfl rfl ?_; simp only [Act.put, Act.eval, Array.getD_eq_getD_getElem?, List.getElem?_toArray, List.getElem?_cons_succ, List.getElem?_cons_zero, Option.getD_some, List.setIfInBounds_toArray, List.set_cons_zero, List.set_cons_succ])
    | (refine wk_pickf _ _ _ _ (by first | exact wanted_none rfl | exact wanted_yes _ _ rfl rfl) rfl rfl rfl ?_; simp only [Act.put, Act.eval, Array.getD_eq_getD_getElem?, List.getElem?_toArray, List.getElem?_cons_succ, List.getElem?_cons_zero, Option.getD_some, List.setIfInBounds_toArray, List.set_cons_zero, List.set_cons_succ])
    | (refine wk_skip (wanted_not _ true false rfl rfl rfl) ?_; simp only [Act.put, List.setIfInBounds_toArray, List.set_cons_zero, List.set_cons_succ])
    | (refine wk_skip (wanted_not _ false true rfl rfl rfl) ?_; simp only [Act.put, List.setIfInBounds_toArray, List.set_cons_zero, List.set_cons_succ])
    | (refine wk_skip (wanted_undef _ _ rfl rfl) ?_; simp only [Act.put, List.setIfInBounds_toArray, List.set_cons_zero, List.set_cons_succ])
    | (refine wk_not true _ _ (by first | exact wanted_none rfl | exact wanted_yes _ _ rfl rfl) rfl rfl ?_; simp only [Act.put, List.setIfInBounds_toArray, List.set_cons_zero, List.set_cons_succ])
    | (refine wk_not false _ _ (by first | exact wanted_none rfl | exact wanted_yes _ _ rfl rfl) rfl rfl ?_; simp only [Act.put, List.setIfInBounds_toArray, List.set_cons_zero, List.set_cons_succ]))
  refine wk_cmp_int .gtr (false) _ _ _ _ _ _ _ (by kernel_rfl) rfl rfl rfl (HC2.out) ?_
  simp only [Act.put, List.setIfInBounds_toArray, List.set_cons_zero, List.set_cons_succ]
  repeat (first
    | (refine wk_move _ (by first | exact wanted_none rfl | exact wanted_yes _ _ rfl rfl) rfl ?_; simp only [Act.put, Act.eval, Array.getD_eq_getD_getElem?, List.getElem?_toArray, List.getElem?_cons_succ, List.getElem?_cons_zero, Option.getD_some, List.setIfInBounds_toArray, List.set_cons_zero, List.set_cons_succ])
    | (refine wk_assign _ (by first | exact wanted_none rfl | exact wanted_yes _ _ rfl rfl) rfl ?_; simp only [Act.put, Act.eval, Array.getD_eq_getD_getElem?, List.getElem?_toArray, List.getElem?_cons_succ, List.getElem?_cons_zero, Option.getD_some, List.setIfInBounds_toArray, List.set_cons_zero, List.set_cons_succ])
    | (refine wk_pickt _ _ _ _ (by first | exact wanted_none rfl | exact wanted_yes _ _ rfl rfl) rfl rfl rfl ?_; simp only [Act.put, Act.eval, Array.getD_eq_getD_getElem?, List.getElem?_toArray, List.getElem?_cons_succ, List.getElem?_cons_zero, Option.getD_some, List.setIfInBounds_toArray, List.set_cons_zero, List.set_cons_succ])
    | (refine wk_pickf _ _ _ _ (by first | exact wanted_none rfl | exact wanted_yes _ _ rfl rfl) rfl rfl rfl ?_; simp only [Act.put, Act.eval, Array.getD_eq_getD_getElem?, List.getElem?_toArray, List.getElem?_cons_succ, List.getElem?_cons_zero, Option.getD_some, List.setIfInBounds_toArray, List.set_cons_zero, List.set_cons_succ])
    | (refine wk_skip (wanted_not _ true false rfl rfl rfl) ?_; simp only [Act.put, List.setIfInBounds_toArray, List.set_cons_zero, List.set_cons_succ])
    | (refine wk_skip (wanted_not _ false true rfl rfl rfl) ?_; simp only [Act.put, List.setIfInBounds_toArray, List.set_cons_zero, List.set_cons_succ])
    | (refine wk_skip (wanted_undef _ _ rfl rfl) ?_; simp only [Act.put, List.setIfInBounds_toArray, List.set_cons_zero, List.set_cons_succ])
    | (refine wk_not true _ _ (by first | exact wanted_none rfl | exact wanted_yes _ _ rfl rfl) rfl rfl ?_; simp only [Act.put, List.setIfInBounds_toArray, List.set_cons_zero, List.set_cons_succ])
    | (refine wk_not false _ _ (by first | exact wanted_none rfl | exact wanted_yes _ _ rfl rfl) rfl rfl ?_; simp only [Act.put, List.setIfInBounds_toArray, List.set_cons_zero, List.set_cons_succ]))
  refine wk_len_str 9 _ s Tryd.underlying9 (wanted_yes _ _ rfl rfl) rfl rfl ?_
  simp only [Act.put, List.setIfInBounds_toArray, List.set_cons_zero, List.set_cons_succ]
  rw [hsz]
  repeat (first
    | (refine wk_move _ (by first | exact wanted_none rfl | exact wanted_yes _ _ rfl rfl) rfl ?_; simp only [Act.put, Act.eval, Array.getD_eq_getD_getElem?, List.getElem?_toArray, List.getElem?_cons_succ, List.getElem?_cons_zero, Option.getD_some, List.setIfInBounds_toArray, List.set_cons_zero, List.set_cons_succ])
    | (refine wk_assign _ (by first | exact wanted_none rfl | exact wanted_yes _ _ rfl rfl) rfl ?_; simp only [Act.put, Act.eval, Array.getD_eq_getD_getElem?, List.getElem?_toArray, List.getElem?_cons_succ, List.getElem?_cons_zero, Option.getD_some, List.setIfInBounds_toArray, List.set_cons_zero, List.set_cons_succ])
    | (refine wk_pickt _ _ _ _ (by first | exact wanted_none rfl | exact wanted_yes _ _ rfl rfl) rfl rfl rfl ?_; simp only [Act.put, Act.eval, Array.getD_eq_getD_getElem?, List.getElem?_toArray, List.getElem?_cons_succ, List.getElem?_cons_zero, Option.getD_some, List.setIfInBounds_toArray, List.set_cons_zero, List.set_cons_succ])
    | (refine wk_pickf _ _ _ _ (by first | exact wanted_none rfl | exact wanted_yes _ _ rfl rfl) rfl rfl rfl ?_; simp only [Act.put, Act.eval, Array.getD_eq_getD_getElem?, List.getElem?_toArray, List.getElem?_cons_succ, List.getElem?_cons_zero, Option.getD_some, List.setIfInBounds_toArray, List.set_cons_zero, List.set_cons_succ])
    | (refine wk_skip (wanted_not _ true false rfl rfl rfl) ?_; simp only [Act.put, List.setIfInBounds_toArray, List.set_cons_zero, List.set_cons_succ])
    | (refine wk_skip (wanted_not _ false true rfl rfl rfl) ?_; simp only [Act.put, List.setIfInBounds_toArray, List.set_cons_zero, List.set_cons_succ])
    | (refine wk_skip (wanted_undef _ _ rfl rfl) ?_; simp only [Act.put, List.setIfInBounds_toArray, List.set_cons_zero, List.set_cons_succ])
    | (refine wk_not true _ _ (by first | exact wanted_none rfl | exact wanted_yes _ _ rfl rfl) rfl rfl ?_; simp only [Act.put, List.setIfInBounds_toArray, List.set_cons_zero, List.set_cons_succ])
    | (refine wk_not false _ _ (by first | exact wanted_none rfl | exact wanted_yes _ _ rfl rfl) rfl rfl ?_; simp only [Act.put, List.setIfInBounds_toArray, List.set_cons_zero, List.set_cons_succ]))
  refine wk_cmp_int .gtr (false) _ _ _ _ _ _ _ (by kernel_rfl) rfl rfl rfl (HC3.out) ?_
  simp only [Act.put, List.setIfInBounds_toArray, List.set_cons_zero, List.set_cons_succ]
  repeat (first
    | (refine wk_move _ (by first | exact wanted_none rfl | exact wanted_yes _ _ rfl rfl) rfl ?_; simp only [Act.put, Act.eval, Array.getD_eq_getD_getElem?, List.getElem?_toArray, List.getElem?_cons_succ, List.getElem?_cons_zero, Option.getD_some, List.setIfInBounds_toArray, List.set_cons_zero, List.set_cons_succ])
    | (refine wk_assign _ (by first | exact wanted_none rfl | exact wanted_yes _ _ rfl rfl) rfl ?_; simp only [Act.put, Act.eval, Array.getD_eq_getD_getElem?, List.getElem?_toArray, List.getElem?_cons_succ, List.getElem?_cons_zero, Option.getD_some, List.setIfInBounds_toArray, List.set_cons_zero, List.set_cons_succ])
    | (refine wk_pickt _ _ _ _ (by first | exact wanted_none rfl | exact wanted_yes _ _ rfl rfl) rfl rfl rfl ?_; simp only [Act.put, Act.eval, Array.getD_eq_getD_getElem?, List.getElem?_toArray, List.getElem?_cons_succ, List.getElem?_cons_zero, Option.getD_some, List.setIfInBounds_toArray, List.set_cons_zero, List.set_cons_succ])
    | (refine wk_pickf _ _ _ _ (by first | exact wanted_none rfl | exact wanted_yes _ _ rfl rfl) rfl rfl rfl ?_; simp only [Act.put, Act.eval, Array.getD_eq_getD_getElem?, List.getElem?_toArray, List.getElem?_cons_succ, List.getElem?_cons_zero, Option.getD_some, List.setIfInBounds_toArray, List.set_cons_zero, List.set_cons_succ])
    | (refine wk_skip (wanted_not _ true false rfl rfl rfl) ?_; simp only [Act.put, List.setIfInBounds_toArray, List.set_cons_zero, List.set_cons_succ])
    | (refine wk_skip (wanted_not _ false true rfl rfl rfl) ?_; simp only [Act.put, List.setIfInBounds_toArray, List.set_cons_zero, List.set_cons_succ])
    | (refine wk_skip (wanted_undef _ _ rfl rfl) ?_; simp only [Act.put, List.setIfInBounds_toArray, List.set_cons_zero, List.set_cons_succ])
    | (refine wk_not true _ _ (by first | exact wanted_none rfl | exact wanted_yes _ _ rfl rfl) rfl rfl ?_; simp only [Act.put, List.setIfInBounds_toArray, List.set_cons_zero, List.set_cons_succ])
    | (refine wk_not false _ _ (by first | exact wanted_none rfl | exact wanted_yes _ _ rfl rfl) rfl rfl ?_; simp only [Act.put, List.setIfInBounds_toArray, List.set_cons_zero, List.set_cons_succ]))
  refine wk_nil ?_
  intro w' hC
  obtain ⟨i0, hi, hz0, hz1, hz2⟩ := info_parts infoU8
  have HI := Lib.hid hi
  have HZ0 := Lib.hid hz0
  have HC : Hid (Since w w') := Lib.hid hC
  have HCV := Lib.hid hcv
  have HU8 := Lib.hid hu8
  have HSUB := Lib.hid hsub
  have HSZ := Lib.hid hsz
  have HD := Lib.hid hd
  clear hC hi hz0 hcv hu8 hsub hsz hd
  go_wp2_with fail
  refine wp_region_flow (by kernel_rfl) 14 (txV s n m d) (txV_stab s n m d) (by kernel_rfl) (by kernel_rfl) (by kernel_rfl) (by kernel_rfl) ?_ ?_
  · refine ⟨.inr ⟨rfl, 18, rfl, fun a v hB hO hD K hK => ?_⟩, .inr ⟨rfl, 19, rfl, fun a v hB hO hD K hK => ?_⟩, .inr ⟨rfl, 20, rfl, fun a v hB hO hD K hK => ?_⟩, .inr ⟨rfl, 21, rfl, fun a v hB hO hD K hK => ?_⟩, .inr ⟨rfl, 22, rfl, fun a v hB hO hD K hK => ?_⟩, .inr ⟨rfl, 23, rfl, fun a v hB hO hD K hK => ?_⟩, .inr ⟨rfl, 24, rfl, fun a v hB hO hD K hK => ?_⟩, .inr ⟨rfl, 25, rfl, fun a v hB hO hD K hK => ?_⟩, .inr ⟨rfl, 26, rfl, fun a v hB hO hD K hK => ?_⟩, .inr ⟨rfl, 27, rfl, fun a v hB hO hD K hK => ?_⟩, .inr ⟨rfl, 28, rfl, fun a v hB hO hD K hK => ?_⟩, .inr ⟨rfl, 29, rfl, fun a v hB hO hD K hK => ?_⟩, .inr ⟨rfl, 30, rfl, fun a v hB hO hD K hK => ?_⟩, .inr ⟨rfl, 31, rfl, fun a v hB hO hD K hK => ?_⟩, .inl (by decide), .inl (by decide), trivial⟩
    · exact wpo_move _ _ rfl (eval_of (t := 0) (by rw [hO 0 (not_dst 0 (by kernel_rfl))]; rfl)) (hK _ _ rfl (Below.refl _ _))
    · obtain ⟨u, hu, hv⟩ := flow_of hD 0 (by kernel_rfl) 18 (by kernel_rfl)
      exact wpo_len_str 9 _ s Tryd.underlying9 rfl (hu.trans hv) (hK _ _ (by rw [HSZ.out]; rfl) (Below.refl _ _))
    · obtain ⟨u, hu, hv⟩ := flow_of hD 1 (by kernel_rfl) 19 (by kernel_rfl)
      exact wp_convert _ _ _ _ _ rfl (hu.trans hv) (run_conv_int _ _ .i64 .u8 Tryd.underlying3 Tryd.underlying5 (n : Int) HU8.out v) (hK _ _ rfl (Below.refl _ _))
    · obtain ⟨u, hu, hv⟩ := flow_of hD 2 (by kernel_rfl) 20 (by kernel_rfl)
      refine wp_buildSlice 37 5 1 _ rfl #[.int .u8 (n : Int)] i0 (.int .u8 0) Tryd.underlying37 HI.out HZ0.out (by rw [hz1]; decide) (by rw [hz1]; decide) ?_ (hK _ _ ⟨_, rfl, heap_alloc_new _ _⟩ ((Below.refl _ _).alloc (Nat.le_refl _) _))
      simp only [List.map_toArray, List.map_cons, List.map_nil, hu.trans hv, hz1]
      have := Great.fill_whole (s := 1) (by decide) [Value.int .u8 (n : Int)] ((Array.range (1 * 1)).map ((Value.int .u8 0).cells[· % (Value.int .u8 0).cells.size]!)) (by intro v hv; simp at hv; subst hv; rfl) (by simp)
      have e1 : ([(0, Value.int .u8 (n : Int))] : List (Nat × Value)) = (([Value.int .u8 (n : Int)].zipIdx 0).map fun x => (x.2, x.1)) := by simp
      have hv' : u = .int .u8 (n : Int) := hv
      rw [e1, this]
      rfl
    · obtain ⟨u, hu, g, rfl, hg⟩ := flow_of hD 3 (by kernel_rfl) 21 (by kernel_rfl)
      exact wp_convert _ _ _ _ _ rfl hu (HCV.out v g (by rw [cell_of_row v g 0 _ _ _ hg]; rfl)) (hK _ _ rfl (Below.refl _ _))
    · exact wpo_move _ _ rfl (eval_of (t := 0) (by rw [hO 0 (not_dst 0 (by kernel_rfl))]; rfl)) (hK _ _ rfl (Below.refl _ _))
    · obtain ⟨u, hu, hv⟩ := flow_of hD 4 (by kernel_rfl) 22 (by kernel_rfl)
      obtain ⟨u', hu', hv'⟩ := flow_of hD 5 (by kernel_rfl) 23 (by kernel_rfl)
      exact wpo_add_str _ _ _ _ _ _ rfl (hu.trans hv) (hu'.trans hv') (by rw [HSZ.out]; show 1 + n ≤ maxLen; unfold maxLen; omega) (hK _ _ rfl (Below.refl _ _))
    · exact wpo_move _ _ rfl (eval_of (t := 1) (by rw [hO 1 (not_dst 1 (by kernel_rfl))]; rfl)) (hK _ _ rfl (Below.refl _ _))
    · exact wpo_move _ _ rfl (eval_of (t := 0) (by rw [hO 0 (not_dst 0 (by kernel_rfl))]; rfl)) (hK _ _ rfl (Below.refl _ _))
    · obtain ⟨u, hu, hv⟩ := flow_of hD 8 (by kernel_rfl) 26 (by kernel_rfl)
      exact wpo_len_str 9 _ s Tryd.underlying9 rfl (hu.trans hv) (hK _ _ (by rw [HSZ.out]; rfl) (Below.refl _ _))
    · obtain ⟨u, hu, hv⟩ := flow_of hD 7 (by kernel_rfl) 25 (by kernel_rfl)
      obtain ⟨u', hu', hv'⟩ := flow_of hD 9 (by kernel_rfl) 27 (by kernel_rfl)
      exact wpo_sub _ _ _ _ _ _ _ rfl (hu.trans hv) (hu'.trans hv') HSUB.out (hK _ _ rfl (Below.refl _ _))
    · obtain ⟨u, hu, hv⟩ := flow_of hD 10 (by kernel_rfl) 28 (by kernel_rfl)
      exact wpo_make 37 5 _ _ i0 (.int .u8 0) d Tryd.underlying37 HI.out HZ0.out hz2 hz1 rfl rfl (hu.trans hv) (hu.trans hv) (by have := HD.out; omega) (hK _ _ ⟨_, rfl, heap_alloc_new _ _⟩ ((Below.refl _ _).alloc (Nat.le_refl _) _))
    · obtain ⟨u, hu, g, rfl, hg⟩ := flow_of hD 11 (by kernel_rfl) 29 (by kernel_rfl)
      refine wp_convert _ _ _ _ _ rfl hu (run_bytes_str v 37 9 5 ⟨g, 0, none⟩ d d Tryd.underlying37 Tryd.underlying5 Tryd.underlying9 (List.replicate d 0) (by simp) (fun j x hj => ?_)) (hK _ _ rfl (Below.refl _ _))
      rw [Addr.add_lit, Nat.zero_add, cell_of_row v g j _ _ _ hg, List.getElem?_toArray]
      simpa [vu8] using hj
    · obtain ⟨u, hu, hv⟩ := flow_of hD 6 (by kernel_rfl) 24 (by kernel_rfl)
      obtain ⟨u', hu', hv'⟩ := flow_of hD 12 (by kernel_rfl) 30 (by kernel_rfl)
      refine wpo_add_str _ _ _ _ _ _ rfl (hu.trans hv) (hu'.trans hv') (by rw [ByteArray.size_append, HSZ.out]; show 1 + n + (List.replicate d (0 : UInt8)).toArray.size ≤ maxLen; rw [List.size_toArray, List.length_replicate]; have := HD.out; unfold maxLen; omega) (hK _ _ ?_ (Below.refl _ _))
      show Value.string _ = Value.string _
      congr 1
      apply ByteArray.ext
      apply Array.toList_inj.1
      have h1 : s.data.toList.length = n := by rw [Array.length_toList]; exact HSZ.out
      simp [textB, h1, HD.out]
  · intro F v hV hB
    have v31 : F 31 = .string ⟨(textB s.data.toList m).toArray⟩ := hV _ (List.mem_of_getElem? (i := 13) rfl) 31 rfl
    simp only [List.take_succ_cons, List.take_zero, List.drop_succ_cons, List.drop_zero, putAll, List.setIfInBounds_toArray, List.set_cons_zero, List.set_cons_succ]
    rw [v31]
    have HB := Lib.hid (HC.out.trans (Below.mono hB HC.out.size))
    clear hV hB v31
    go_wp2_with fail
    go_ret2
    exact ⟨rfl, HB.out⟩
end Go.Proofs.YtnfmdcohacflmaaDoor
