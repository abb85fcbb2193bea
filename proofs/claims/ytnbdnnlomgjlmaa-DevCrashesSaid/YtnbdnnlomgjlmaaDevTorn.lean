/- The device layer: torn. -/
import Derived.Test.YtnbdnnlomgjlmaaDevMath
import Derived.Test.YtnbdnnlomgjlmaaPair
import Derived.Test.YtnbdnnlomgjlmaaKeep
import Derived.Test.YtnbdnnlomgjlmaaSeal
import Derived.Laws.CopyOwn
import Derived.Laws.BitsAllLaws
import Derived.Test.YtnbdnnlomgjlmaaSteps
namespace Go.Proofs.Ytnbdnnlomgjlmaa
open Go.RowKit
set_option linter.unusedSimpArgs false
set_option linter.unusedVariables false
set_option maxRecDepth 100000
def dbit (m j : Nat) : Bool := decide (m / 2 ^ j % 2 = 1)
/-- The bytes of sector j. -/
def dsector (b : List UInt8) (j : Nat) : List UInt8 := (b.drop (64 * j)).take 64
theorem dtorn_sector (a b : List UInt8) (hb : b.length = 256) (s j : Nat) (hj : j < 4) (h : dbit s j = true) :
    splice ((dtornTo j a b s).map vu8) (64 * j) ((dsector b j).map vu8) = (dtornTo (j + 1) a b s).map vu8 := by
  have h : s / 2 ^ j % 2 = 1 := by simpa [dbit] using h
  have hl : (dsector b j).length = 64 := by simp [dsector]; omega
  have e : splice (dtornTo j a b s) (64 * j) (dsector b j) = dtornTo (j + 1) a b s := by
    apply List.ext_getElem?
    intro i
    have ht := length_dtornTo j a b s
    have hlt : (List.take (64 * j) (dtornTo j a b s)).length = 64 * j := by simp [ht]; omega
    unfold splice
    rw [hl]
    by_cases h1 : i < 64 * j
    · rw [List.getElem?_append_left (by omega), List.getElem?_take_of_lt h1]
      have hi : i < 256 := by omega
      simp only [dtornTo, List.getElem?_map, List.getElem?_range hi, Option.map_some]
      have q1 : i / 64 < j ↔ True := by simp; omega
      have q2 : i / 64 < j + 1 ↔ True := by simp; omega
      simp only [q1, q2]
    · rw [List.getElem?_append_right (by omega), hlt]
      by_cases h2 : i < 64 * j + 64
      · rw [List.getElem?_append_left (by omega)]
        have hi : i < 256 := by omega
        have hd : i / 64 = j := by omega
        simp only [dtornTo, List.getElem?_map, List.getElem?_range hi, Option.map_some, hd, h, and_true]
        rw [if_pos (by omega), dsector, List.getElem?_take_of_lt (by omega), List.getElem?_drop]
        have : 64 * j + (i - 64 * j) = i := by omega
        rw [this]
        simp [show i < b.length by omega]
      · rw [List.getElem?_append_right (by omega), List.getElem?_drop, hl]
        have q : 64 * j + 64 + (i - 64 * j - 64) = i := by omega
        rw [q]
        by_cases hi : i < 256
        · simp only [dtornTo, List.getElem?_map, List.getElem?_range hi, Option.map_some]
          have q1 : ¬ i / 64 < j := by omega
          have q2 : ¬ i / 64 < j + 1 := by omega
          simp only [q1, q2]
        · rw [List.getElem?_eq_none (by omega), List.getElem?_eq_none (by rw [length_dtornTo]; omega)]
  rw [← e]
  simp [splice, List.map_append, List.map_take, List.map_drop]
theorem dtorn_keep (a b : List UInt8) (s j : Nat) (h : dbit s j = false) : dtornTo j a b s = dtornTo (j + 1) a b s := by
  have h : ¬ s / 2 ^ j % 2 = 1 := by simpa [dbit] using h
  unfold dtornTo
  apply List.map_congr_left
  intro i _
  by_cases e : i / 64 = j
  · rw [e]; simp [h]
  · have : i / 64 < j ↔ i / 64 < j + 1 := by omega
    simp only [this]
section
variable {P : Program} {ops : Array Oper} {C : World → Prop} {o : Oper} {a : Act} {rest : List Oper}
/-- b[lo:hi] of an array in a block of its own. -/
theorem wk_slice_arrD {Q : Act → Prop} (lo hi N : Nat) (k k' : IntKind) (t e : TypeId) (x l h' : Operand) (g : Nat) (hw : Region.wanted o (yielded ops a.tmps) = true) (ho : o.op = .slice t x (some l) (some h') none) (ht : P.underlying t = some (.array N e))
    (hs : (P.info? e).map (·.size) = some 1) (hx : a.eval x = .pointer (some ⟨g, 0, none⟩)) (hl : a.eval l = .int k (lo : Int)) (hh : a.eval h' = .int k' (hi : Int)) (h1 : lo ≤ hi) (h2 : hi ≤ N) (h3 : lo < N)
    (h : WQ P ops C Q rest (a.put o.dst (.slice (some ⟨g, lo, none⟩) (hi - lo) (N - lo)))) : WQ P ops C Q (o :: rest) a :=
  wk_val _ hw (fun w _ => by
    obtain ⟨f, hf, hf1⟩ : ∃ f, P.info? e = some f ∧ f.size = 1 := by
      cases hq : P.info? e with
      | none => simp [hq] at hs
      | some f => exact ⟨f, rfl, by simpa [hq] using hs⟩
    have h0 : ¬ N = lo := by omega
    unfold execOp
    simp only [ho, hx, Option.map_some, hl, hh]
    simp [Instr.sliceAt, Instr.slice, run_underlying ht, Instr.sliceBounds, Instr.sliceBound, asIntOf, h1, h2, sizeOf, typeInfo, hf, hf1, Addr.add_lit, h0, Instr.sureAddr]) h
/-- b[lo:] of an array in a block of its own. -/
theorem wk_slice_arrL {Q : Act → Prop} (lo N : Nat) (k : IntKind) (t e : TypeId) (x l : Operand) (g : Nat) (hw : Region.wanted o (yielded ops a.tmps) = true) (ho : o.op = .slice t x (some l) none none) (ht : P.underlying t = some (.array N e))
    (hs : (P.info? e).map (·.size) = some 1) (hx : a.eval x = .pointer (some ⟨g, 0, none⟩)) (hl : a.eval l = .int k (lo : Int)) (h3 : lo < N)
    (h : WQ P ops C Q rest (a.put o.dst (.slice (some ⟨g, lo, none⟩) (N - lo) (N - lo)))) : WQ P ops C Q (o :: rest) a :=
  wk_val _ hw (fun w _ => by
    obtain ⟨f, hf, hf1⟩ : ∃ f, P.info? e = some f ∧ f.size = 1 := by
      cases hq : P.info? e with
      | none => simp [hq] at hs
      | some f => exact ⟨f, rfl, by simpa [hq] using hs⟩
    have h0 : ¬ N = lo := by omega
    have h1 : lo ≤ N := by omega
    unfold execOp
    simp only [ho, hx, Option.map_some, Option.map_none, hl]
    simp [Instr.sliceAt, Instr.slice, run_underlying ht, Instr.sliceBounds, Instr.sliceBound, asIntOf, h1, sizeOf, typeInfo, hf, hf1, Addr.add_lit, h0, Instr.sureAddr]) h
theorem wpList_copyD {w : World} {Q : Exit → Act → World → Prop} (hgd : o.guard = none) (d s : Operand) (dT sT : TypeId)
    (ho : o.op = .call { callee := .builtin .copy, args := #[d, s], argTypes := #[dT, sT] }) (elem : TypeId) (hu : P.underlying dT = some (.slice elem)) (hsz : (P.info? elem).map (·.size) = some 1)
    (g off dLen dCap sLen sCap : Nat) (ad : Addr) (hd : a.eval d = .slice (some ⟨g, off, none⟩) dLen dCap) (hs : a.eval s = .slice (some ad) sLen sCap)
    (cur : List Value) (t : TypeId) (hg : w.heap[g]? = some (.cells cur.toArray t (0, 0))) (cs : List Value) (hn : cs.length = Nat.min sLen dLen)
    (hsrc : ∀ j v, cs[j]? = some v → w.cell? (ad.add j) = some v)
    (hfit : off + cs.length ≤ cur.length) (h1 : ∀ v ∈ cs, v.oneCell' = true)
    (h : wpList P ops Q rest (a.put o.dst (goInt cs.length)) (w.setRow g (splice cur off cs).toArray)) : wpList P ops Q (o :: rest) a w :=
  wpList_plain hgd fun _ hK => by
    have hrun := run_copy_row (P := P) w dT sT o.type elem g off dLen dCap ad sLen sCap cur.toArray t cs hu hsz hg hn hsrc (by simpa using hfit) h1
    unfold Oper.wp
    have h' := h
    simp [splice] at h'
    simp [execOp, ho, resolve, invoke, builtin, hd, hs, hrun, Result.andThen]
    exact hK _ _ h'
end
theorem shr_u8 (w : World) (s j : Nat) (hs : s < 256) (hj : j < 4) : (binOp .shr 5 (.int .u8 (s : Int)) (.int .i64 (j : Int))).run Try.prog w = .ok (.int .u8 ((s / 2 ^ j : Nat) : Int)) w := by
  rcases (by omega : j = 0 ∨ j = 1 ∨ j = 2 ∨ j = 3) with rfl | rfl | rfl | rfl <;> simp [binOp, Op.shift]
section
variable {ops : Array Oper} {C : World → Prop} {o : Oper} {a : Act} {rest : List Oper}
theorem wk_shr {Q : Act → Prop} (s j : Nat) (hs : s < 256) (hj : j < 4) (ty : TypeId) (x y : Operand) (hw : Region.wanted o (yielded ops a.tmps) = true) (ho : o.op = .binOp .shr 5 x y ty) (hx : a.eval x = .int .u8 (s : Int)) (hy : a.eval y = .int .i64 (j : Int))
    (h : WQ Try.prog ops C Q rest (a.put o.dst (.int .u8 ((s / 2 ^ j : Nat) : Int)))) : WQ Try.prog ops C Q (o :: rest) a :=
  wk_bin _ .shr _ ty x y hw ho (fun w => by
    have h1 := shr_u8 w s j hs hj
    have h0 : (eqGuard .shr 5 x y (.int .u8 (s : Int)) (.int .i64 (j : Int))).run Try.prog w = .ok () w := rfl
    simp only [hx, hy, Sem.run_bind, h0, Result.andThen_ok, h1]) h
theorem wk_and1 {Q : Act → Prop} (n : Nat) (hn : n < 256) (ty : TypeId) (x y : Operand) (hw : Region.wanted o (yielded ops a.tmps) = true) (ho : o.op = .binOp .and 5 x y ty) (hx : a.eval x = .int .u8 (n : Int)) (hy : a.eval y = .int .u8 1)
    (h : WQ Try.prog ops C Q rest (a.put o.dst (.int .u8 ((n % 2 : Nat) : Int)))) : WQ Try.prog ops C Q (o :: rest) a :=
  wk_bin _ .and _ ty x y hw ho (fun w => by
    have hb : bits .and .u8 (n : Int) ((1 : Nat) : Int) = ((n &&& 1 : Nat) : Int) := u8_and_nat n 1 hn (by decide)
    rw [Nat.and_one_is_mod] at hb
    have h1 : (binOp .and 5 (.int .u8 (n : Int)) (.int .u8 1)).run Try.prog w = .ok (.int .u8 (bits .and .u8 (n : Int) 1)) w := rfl
    have h0 : (eqGuard .and 5 x y (.int .u8 (n : Int)) (.int .u8 1)).run Try.prog w = .ok () w := rfl
    simp only [hx, hy, Sem.run_bind, h0, Result.andThen_ok, h1]
    rw [show (1 : Int) = ((1 : Nat) : Int) from rfl, hb]) h
end
set_option maxHeartbeats 2000000 in
theorem torn_dev (a b : List UInt8) (ha : a.length = 256) (hb : b.length = 256) (s : Nat) (hs : s < 256) (w : World) :
    Calls Try.prog 75 #[.agg (blk a), .agg (blk b), .int .u8 (s : Int)] w fun e w' => e = .returned (.agg (blk (dtorn a b s))) ∧ Below w.heap.size w w' := by
  have q := (((Rows.start w).alloc (blk a) 23).alloc (blk b) 23).alloc (zeros 256 (.int .u8 0)) 23
  rw [show ((w.alloc (.cells (blk a) 23)).alloc (.cells (blk b) 23)).heap.size = w.heap.size + 1 + 1 by simp, show (w.alloc (.cells (blk a) 23)).heap.size = w.heap.size + 1 by simp] at q
  have HQ := Lib.hid q
  have HLA := Lib.hid ha
  have HLB := Lib.hid hb
  clear q ha hb
  go_enter Try.func75, Try.ntmps75
  go_upto_region 1 with (refine wpList_alloc_row rfl 23 rfl _ zeroB ?_)
  obtain ⟨W, hW⟩ : ∃ W, W = ((w.alloc (.cells (blk a) 23)).alloc (.cells (blk b) 23)).alloc (.cells (zeros 256 (.int .u8 0)) 23) := ⟨_, rfl⟩
  rw [← hW]
  rw [show ((w.alloc (.cells (blk a) 23)).alloc (.cells (blk b) 23)).heap.size = w.heap.size + 1 + 1 by simp]
  have R := HQ.out
  rw [← hW] at R
  obtain ⟨g0, hg0⟩ : ∃ g, g = w.heap.size := ⟨_, rfl⟩
  rw [← hg0] at R ⊢
  rw [← dtornTo_zero a b s HLA.out] at R
  have HR := Lib.hid R
  clear R HQ hW hg0
  go_wp2_with fail
  go_loopw [9] (fun i wr => ∃ (k : Nat) (z : Int), z = (k : Int) ∧ k ≤ 4 ∧ i = .int .i64 z ∧ Rows w wr [(g0 + 1 + 1, zeros 256 (.int .u8 0), 23), (g0 + 1, blk b, 23), (g0, blk (dtornTo k a b s), 23)]) (fun i _ => 4 - (intOf i).toNat)
  case atStart => exact ⟨0, 0, rfl, by omega, rfl, HR.out⟩
  case round =>
    obtain ⟨k, z, hz, hk, rfl, hR⟩ := hrel
    have HRR := Lib.hid hR
    clear hR HR
    rcases (show (k = 0 ∧ z = 0) ∨ (k = 1 ∧ z = 1) ∨ (k = 2 ∧ z = 2) ∨ (k = 3 ∧ z = 3) ∨ (k = 4 ∧ z = 4) by omega) with ⟨rfl, rfl⟩ | ⟨rfl, rfl⟩ | ⟨rfl, rfl⟩ | ⟨rfl, rfl⟩ | ⟨rfl, rfl⟩
    · clear hz hk
      go_upto_region 4 with (fail)
      refine wk_plain_since ?_
      repeat (first
        | (refine wk_move _ (by first | exact wanted_none rfl | exact wanted_yes _ _ rfl rfl) rfl ?_; simp only [Act.put, Act.eval, Array.getD_eq_getD_getElem?, List.getElem?_toArray, List.getElem?_cons_succ, List.getElem?_cons_zero, Option.getD_some, List.setIfInBounds_toArray, List.set_cons_zero, List.set_cons_succ])
        | (refine wk_assign _ (by first | exact wanted_none rfl | exact wanted_yes _ _ rfl rfl) rfl ?_; simp only [Act.put, Act.eval, Array.getD_eq_getD_getElem?, List.getElem?_toArray, List.getElem?_cons_succ, List.getElem?_cons_zero, Option.getD_some, List.setIfInBounds_toArray, List.set_cons_zero, List.set_cons_succ])
        | (refine wk_pickt _ _ _ _ (by first | exact wanted_none rfl | exact wanted_yes _ _ rfl rfl) rfl rfl rfl ?_; simp only [Act.put, Act.eval, Array.getD_eq_getD_getElem?, List.getElem?_toArray, List.getElem?_cons_succ, List.getElem?_cons_zero, Option.getD_some, List.setIfInBounds_toArray, List.set_cons_zero, List.set_cons_succ])
        | (refine wk_pickf _ _ _ _ (by first | exact wanted_none rfl | exact wanted_yes _ _ rfl rfl) rfl rfl rfl ?_; simp only [Act.put, Act.eval, Array.getD_eq_getD_getElem?, List.getElem?_toArray, List.getElem?_cons_succ, List.getElem?_cons_zero, Option.getD_some, List.setIfInBounds_toArray, List.set_cons_zero, List.set_cons_succ])
        | (refine wk_skip (wanted_not _ true false rfl rfl rfl) ?_; simp only [Act.put, List.setIfInBounds_toArray, List.set_cons_zero, List.set_cons_succ])
        | (refine wk_skip (wanted_not _ false true rfl rfl rfl) ?_; simp only [Act.put, List.setIfInBounds_toArray, List.set_cons_zero, List.set_cons_succ])
        | (refine wk_skip (wanted_undef _ _ rfl rfl) ?_; simp only [Act.put, List.setIfInBounds_toArray, List.set_cons_zero, List.set_cons_succ])
        | (refine wk_not true _ _ (by first | exact wanted_none rfl | exact wanted_yes _ _ rfl rfl) rfl rfl ?_; simp only [Act.put, List.setIfInBounds_toArray, List.set_cons_zero, List.set_cons_succ])
        | (refine wk_not false _ _ (by first | exact wanted_none rfl | exact wanted_yes _ _ rfl rfl) rfl rfl ?_; simp only [Act.put, List.setIfInBounds_toArray, List.set_cons_zero, List.set_cons_succ]))
      refine wk_shr s 0 hs (by omega) _ _ _ (by exact wanted_none rfl) rfl rfl rfl ?_
      simp only [Act.put, List.setIfInBounds_toArray, List.set_cons_zero, List.set_cons_succ]
      refine wk_and1 (s / 2 ^ 0) (Nat.lt_of_le_of_lt (Nat.div_le_self _ _) hs) _ _ _ (by exact wanted_none rfl) rfl rfl rfl ?_
      simp only [Act.put, List.setIfInBounds_toArray, List.set_cons_zero, List.set_cons_succ]
      cases hn : dbit s 0 with
      | true =>
        have hc : s / 2 ^ 0 % 2 = 1 := by simpa [dbit] using hn
        refine wk_cmp_int .gtr (true) _ _ _ _ _ _ _ (by kernel_rfl) rfl rfl rfl (by rw [hc]; rfl) ?_
        simp only [Act.put, List.setIfInBounds_toArray, List.set_cons_zero, List.set_cons_succ]
        refine wk_nil ?_
        intro w' hC
        have HR4 := Lib.hid (HRR.out.since hC)
        clear hC HRR
        have HT := Lib.hid (dtorn_sector a b HLB.out s 0 (by omega) hn)
        have HLS : Hid (((dsector b 0).map vu8).length = Nat.min (256 - 0) 64) := Lib.hid (by have := HLB.out; simp [dsector]; omega)
        have HLT : Hid ((0 : Nat) + ((dsector b 0).map vu8).length ≤ ((dtornTo 0 a b s).map vu8).length) := Lib.hid (by rw [HLS.out, List.length_map, length_dtornTo]; decide)
        have HON : Hid (∀ v ∈ (dsector b 0).map vu8, v.oneCell' = true) := Lib.hid (by intro u hu; simp only [List.mem_map] at hu; obtain ⟨i, _, rfl⟩ := hu; rfl)
        have ew : IntKind.i64.wrap 64 = 64 := by rw [IntKind.wrap_i64]; rfl
        clear hn hc
        go_upto_region 6 with (fail)
        refine wk_region_tail 6 (by kernel_rfl) (by kernel_rfl) ?_
        simp only [List.take_succ_cons, List.take_zero, List.drop_succ_cons, List.drop_zero]
        repeat (first
          | (refine wk_move _ (by first | exact wanted_none rfl | exact wanted_yes _ _ rfl rfl) rfl ?_; simp only [Act.put, Act.eval, Array.getD_eq_getD_getElem?, List.getElem?_toArray, List.getElem?_cons_succ, List.getElem?_cons_zero, Option.getD_some, List.setIfInBounds_toArray, List.set_cons_zero, List.set_cons_succ])
          | (refine wk_assign _ (by first | exact wanted_none rfl | exact wanted_yes _ _ rfl rfl) rfl ?_; simp only [Act.put, Act.eval, Array.getD_eq_getD_getElem?, List.getElem?_toArray, List.getElem?_cons_succ, List.getElem?_cons_zero, Option.getD_some, List.setIfInBounds_toArray, List.set_cons_zero, List.set_cons_succ])
          | (refine wk_pickt _ _ _ _ (by first | exact wanted_none rfl | exact wanted_yes _ _ rfl rfl) rfl rfl rfl ?_; simp only [Act.put, Act.eval, Array.getD_eq_getD_getElem?, List.getElem?_toArray, List.getElem?_cons_succ, List.getElem?_cons_zero, Option.getD_some, List.setIfInBounds_toArray, List.set_cons_zero, List.set_cons_succ])
          | (refine wk_pickf _ _ _ _ (by first | exact wanted_none rfl | exact wanted_yes _ _ rfl rfl) rfl rfl rfl ?_; simp only [Act.put, Act.eval, Array.getD_eq_getD_getElem?, List.getElem?_toArray, List.getElem?_cons_succ, List.getElem?_cons_zero, Option.getD_some, List.setIfInBounds_toArray, List.set_cons_zero, List.set_cons_succ])
          | (refine wk_skip (wanted_not _ true false rfl rfl rfl) ?_; simp only [Act.put, List.setIfInBounds_toArray, List.set_cons_zero, List.set_cons_succ])
          | (refine wk_skip (wanted_not _ false true rfl rfl rfl) ?_; simp only [Act.put, List.setIfInBounds_toArray, List.set_cons_zero, List.set_cons_succ])
          | (refine wk_skip (wanted_undef _ _ rfl rfl) ?_; simp only [Act.put, List.setIfInBounds_toArray, List.set_cons_zero, List.set_cons_succ])
          | (refine wk_not true _ _ (by first | exact wanted_none rfl | exact wanted_yes _ _ rfl rfl) rfl rfl ?_; simp only [Act.put, List.setIfInBounds_toArray, List.set_cons_zero, List.set_cons_succ])
          | (refine wk_not false _ _ (by first | exact wanted_none rfl | exact wanted_yes _ _ rfl rfl) rfl rfl ?_; simp only [Act.put, List.setIfInBounds_toArray, List.set_cons_zero, List.set_cons_succ]))
        refine wk_add _ _ _ _ _ _ _ (by kernel_rfl) rfl rfl rfl ew ?_
        simp only [Act.put, List.setIfInBounds_toArray, List.set_cons_zero, List.set_cons_succ]
        refine wk_slice_arrD 0 64 256 .i64 .i64 _ _ _ _ _ _ (by kernel_rfl) rfl Try.underlying23 sizeU8 rfl rfl rfl (by omega) (by omega) (by omega) ?_
        simp only [Act.put, List.setIfInBounds_toArray, List.set_cons_zero, List.set_cons_succ]
        repeat (first
          | (refine wk_move _ (by first | exact wanted_none rfl | exact wanted_yes _ _ rfl rfl) rfl ?_; simp only [Act.put, Act.eval, Array.getD_eq_getD_getElem?, List.getElem?_toArray, List.getElem?_cons_succ, List.getElem?_cons_zero, Option.getD_some, List.setIfInBounds_toArray, List.set_cons_zero, List.set_cons_succ])
          | (refine wk_assign _ (by first | exact wanted_none rfl | exact wanted_yes _ _ rfl rfl) rfl ?_; simp only [Act.put, Act.eval, Array.getD_eq_getD_getElem?, List.getElem?_toArray, List.getElem?_cons_succ, List.getElem?_cons_zero, Option.getD_some, List.setIfInBounds_toArray, List.set_cons_zero, List.set_cons_succ])
          | (refine wk_pickt _ _ _ _ (by first | exact wanted_none rfl | exact wanted_yes _ _ rfl rfl) rfl rfl rfl ?_; simp only [Act.put, Act.eval, Array.getD_eq_getD_getElem?, List.getElem?_toArray, List.getElem?_cons_succ, List.getElem?_cons_zero, Option.getD_some, List.setIfInBounds_toArray, List.set_cons_zero, List.set_cons_succ])
          | (refine wk_pickf _ _ _ _ (by first | exact wanted_none rfl | exact wanted_yes _ _ rfl rfl) rfl rfl rfl ?_; simp only [Act.put, Act.eval, Array.getD_eq_getD_getElem?, List.getElem?_toArray, List.getElem?_cons_succ, List.getElem?_cons_zero, Option.getD_some, List.setIfInBounds_toArray, List.set_cons_zero, List.set_cons_succ])
          | (refine wk_skip (wanted_not _ true false rfl rfl rfl) ?_; simp only [Act.put, List.setIfInBounds_toArray, List.set_cons_zero, List.set_cons_succ])
          | (refine wk_skip (wanted_not _ false true rfl rfl rfl) ?_; simp only [Act.put, List.setIfInBounds_toArray, List.set_cons_zero, List.set_cons_succ])
          | (refine wk_skip (wanted_undef _ _ rfl rfl) ?_; simp only [Act.put, List.setIfInBounds_toArray, List.set_cons_zero, List.set_cons_succ])
          | (refine wk_not true _ _ (by first | exact wanted_none rfl | exact wanted_yes _ _ rfl rfl) rfl rfl ?_; simp only [Act.put, List.setIfInBounds_toArray, List.set_cons_zero, List.set_cons_succ])
          | (refine wk_not false _ _ (by first | exact wanted_none rfl | exact wanted_yes _ _ rfl rfl) rfl rfl ?_; simp only [Act.put, List.setIfInBounds_toArray, List.set_cons_zero, List.set_cons_succ]))
        refine wk_slice_arrL 0 256 .i64 _ _ _ _ _ (by kernel_rfl) rfl Try.underlying23 sizeU8 rfl rfl (by omega) ?_
        simp only [Act.put, List.setIfInBounds_toArray, List.set_cons_zero, List.set_cons_succ]
        refine wk_nil ?_
        intro w' hC
        have HR6 := Lib.hid (HR4.out.since hC)
        clear hC ew HR4
        have HSR : Hid (∀ j v, ((dsector b 0).map vu8)[j]? = some v → w'.cell? ((⟨g0 + 1, 0, none⟩ : Addr).add j) = some v) := Lib.hid (by
          intro j v hv
          rw [Addr.add_lit, cell_of_row w' _ _ _ _ _ (HR6.out.get 1 rfl), ← hv]
          have hj : j < 64 := by
            have := (List.getElem?_eq_some_iff.1 hv).1
            rw [HLS.out] at this
            exact this
          have := HLB.out
          simp only [blk, dsector, List.getElem?_map, List.getElem?_toArray]
          rw [List.getElem?_take_of_lt hj, List.getElem?_drop])
        refine wpList_copyD rfl _ _ _ _ rfl 5 Try.underlying35 sizeU8 g0 0 _ _ _ _ ⟨g0 + 1, 0, none⟩ rfl rfl ((dtornTo 0 a b s).map vu8) 23 (HR6.out.get 2 rfl) ((dsector b 0).map vu8) HLS.out HSR.out HLT.out HON.out ?_
        rw [HT.out]
        have R7 := Lib.hid (HR6.out.setRow 2 (blk (dtornTo (0 + 1) a b s)) rfl)
        clear HR6 HSR HLS HLT HON HT
        go_wp2_with fail
        exact ⟨⟨0 + 1, _, by rfl, by omega, rfl, R7.out⟩, by simp [intOf]⟩
      | false =>
        have hc : s / 2 ^ 0 % 2 = 0 := by
          have : ¬ s / 2 ^ 0 % 2 = 1 := by simpa [dbit] using hn
          omega
        refine wk_cmp_int .gtr (false) _ _ _ _ _ _ _ (by kernel_rfl) rfl rfl rfl (by rw [hc]; rfl) ?_
        simp only [Act.put, List.setIfInBounds_toArray, List.set_cons_zero, List.set_cons_succ]
        refine wk_nil ?_
        intro w' hC
        have HR4 := Lib.hid (HRR.out.since hC)
        clear hC HRR
        have HT := Lib.hid (dtorn_keep a b s 0 hn)
        clear hn hc
        go_wp2_with fail
        exact ⟨⟨0 + 1, _, by rfl, by omega, rfl, by rw [← HT.out]; exact HR4.out⟩, by simp [intOf]⟩
    · clear hz hk
      go_upto_region 4 with (fail)
      refine wk_plain_since ?_
      repeat (first
        | (refine wk_move _ (by first | exact wanted_none rfl | exact wanted_yes _ _ rfl rfl) rfl ?_; simp only [Act.put, Act.eval, Array.getD_eq_getD_getElem?, List.getElem?_toArray, List.getElem?_cons_succ, List.getElem?_cons_zero, Option.getD_some, List.setIfInBounds_toArray, List.set_cons_zero, List.set_cons_succ])
        | (refine wk_assign _ (by first | exact wanted_none rfl | exact wanted_yes _ _ rfl rfl) rfl ?_; simp only [Act.put, Act.eval, Array.getD_eq_getD_getElem?, List.getElem?_toArray, List.getElem?_cons_succ, List.getElem?_cons_zero, Option.getD_some, List.setIfInBounds_toArray, List.set_cons_zero, List.set_cons_succ])
        | (refine wk_pickt _ _ _ _ (by first | exact wanted_none rfl | exact wanted_yes _ _ rfl rfl) rfl rfl rfl ?_; simp only [Act.put, Act.eval, Array.getD_eq_getD_getElem?, List.getElem?_toArray, List.getElem?_cons_succ, List.getElem?_cons_zero, Option.getD_some, List.setIfInBounds_toArray, List.set_cons_zero, List.set_cons_succ])
        | (refine wk_pickf _ _ _ _ (by first | exact wanted_none rfl | exact wanted_yes _ _ rfl rfl) rfl rfl rfl ?_; simp only [Act.put, Act.eval, Array.getD_eq_getD_getElem?, List.getElem?_toArray, List.getElem?_cons_succ, List.getElem?_cons_zero, Option.getD_some, List.setIfInBounds_toArray, List.set_cons_zero, List.set_cons_succ])
        | (refine wk_skip (wanted_not _ true false rfl rfl rfl) ?_; simp only [Act.put, List.setIfInBounds_toArray, List.set_cons_zero, List.set_cons_succ])
        | (refine wk_skip (wanted_not _ false true rfl rfl rfl) ?_; simp only [Act.put, List.setIfInBounds_toArray, List.set_cons_zero, List.set_cons_succ])
        | (refine wk_skip (wanted_undef _ _ rfl rfl) ?_; simp only [Act.put, List.setIfInBounds_toArray, List.set_cons_zero, List.set_cons_succ])
        | (refine wk_not true _ _ (by first | exact wanted_none rfl | exact wanted_yes _ _ rfl rfl) rfl rfl ?_; simp only [Act.put, List.setIfInBounds_toArray, List.set_cons_zero, List.set_cons_succ])
        | (refine wk_not false _ _ (by first | exact wanted_none rfl | exact wanted_yes _ _ rfl rfl) rfl rfl ?_; simp only [Act.put, List.setIfInBounds_toArray, List.set_cons_zero, List.set_cons_succ]))
      refine wk_shr s 1 hs (by omega) _ _ _ (by exact wanted_none rfl) rfl rfl rfl ?_
      simp only [Act.put, List.setIfInBounds_toArray, List.set_cons_zero, List.set_cons_succ]
      refine wk_and1 (s / 2 ^ 1) (Nat.lt_of_le_of_lt (Nat.div_le_self _ _) hs) _ _ _ (by exact wanted_none rfl) rfl rfl rfl ?_
      simp only [Act.put, List.setIfInBounds_toArray, List.set_cons_zero, List.set_cons_succ]
      cases hn : dbit s 1 with
      | true =>
        have hc : s / 2 ^ 1 % 2 = 1 := by simpa [dbit] using hn
        refine wk_cmp_int .gtr (true) _ _ _ _ _ _ _ (by kernel_rfl) rfl rfl rfl (by rw [hc]; rfl) ?_
        simp only [Act.put, List.setIfInBounds_toArray, List.set_cons_zero, List.set_cons_succ]
        refine wk_nil ?_
        intro w' hC
        have HR4 := Lib.hid (HRR.out.since hC)
        clear hC HRR
        have HT := Lib.hid (dtorn_sector a b HLB.out s 1 (by omega) hn)
        have HLS : Hid (((dsector b 1).map vu8).length = Nat.min (256 - 64) 64) := Lib.hid (by have := HLB.out; simp [dsector]; omega)
        have HLT : Hid ((64 : Nat) + ((dsector b 1).map vu8).length ≤ ((dtornTo 1 a b s).map vu8).length) := Lib.hid (by rw [HLS.out, List.length_map, length_dtornTo]; decide)
        have HON : Hid (∀ v ∈ (dsector b 1).map vu8, v.oneCell' = true) := Lib.hid (by intro u hu; simp only [List.mem_map] at hu; obtain ⟨i, _, rfl⟩ := hu; rfl)
        have ew : IntKind.i64.wrap 128 = 128 := by rw [IntKind.wrap_i64]; rfl
        clear hn hc
        go_upto_region 6 with (fail)
        refine wk_region_tail 6 (by kernel_rfl) (by kernel_rfl) ?_
        simp only [List.take_succ_cons, List.take_zero, List.drop_succ_cons, List.drop_zero]
        repeat (first
          | (refine wk_move _ (by first | exact wanted_none rfl | exact wanted_yes _ _ rfl rfl) rfl ?_; simp only [Act.put, Act.eval, Array.getD_eq_getD_getElem?, List.getElem?_toArray, List.getElem?_cons_succ, List.getElem?_cons_zero, Option.getD_some, List.setIfInBounds_toArray, List.set_cons_zero, List.set_cons_succ])
          | (refine wk_assign _ (by first | exact wanted_none rfl | exact wanted_yes _ _ rfl rfl) rfl ?_; simp only [Act.put, Act.eval, Array.getD_eq_getD_getElem?, List.getElem?_toArray, List.getElem?_cons_succ, List.getElem?_cons_zero, Option.getD_some, List.setIfInBounds_toArray, List.set_cons_zero, List.set_cons_succ])
          | (refine wk_pickt _ _ _ _ (by first | exact wanted_none rfl | exact wanted_yes _ _ rfl rfl) rfl rfl rfl ?_; simp only [Act.put, Act.eval, Array.getD_eq_getD_getElem?, List.getElem?_toArray, List.getElem?_cons_succ, List.getElem?_cons_zero, Option.getD_some, List.setIfInBounds_toArray, List.set_cons_zero, List.set_cons_succ])
          | (refine wk_pickf _ _ _ _ (by first | exact wanted_none rfl | exact wanted_yes _ _ rfl rfl) rfl rfl rfl ?_; simp only [Act.put, Act.eval, Array.getD_eq_getD_getElem?, List.getElem?_toArray, List.getElem?_cons_succ, List.getElem?_cons_zero, Option.getD_some, List.setIfInBounds_toArray, List.set_cons_zero, List.set_cons_succ])
          | (refine wk_skip (wanted_not _ true false rfl rfl rfl) ?_; simp only [Act.put, List.setIfInBounds_toArray, List.set_cons_zero, List.set_cons_succ])
          | (refine wk_skip (wanted_not _ false true rfl rfl rfl) ?_; simp only [Act.put, List.setIfInBounds_toArray, List.set_cons_zero, List.set_cons_succ])
          | (refine wk_skip (wanted_undef _ _ rfl rfl) ?_; simp only [Act.put, List.setIfInBounds_toArray, List.set_cons_zero, List.set_cons_succ])
          | (refine wk_not true _ _ (by first | exact wanted_none rfl | exact wanted_yes _ _ rfl rfl) rfl rfl ?_; simp only [Act.put, List.setIfInBounds_toArray, List.set_cons_zero, List.set_cons_succ])
          | (refine wk_not false _ _ (by first | exact wanted_none rfl | exact wanted_yes _ _ rfl rfl) rfl rfl ?_; simp only [Act.put, List.setIfInBounds_toArray, List.set_cons_zero, List.set_cons_succ]))
        refine wk_add _ _ _ _ _ _ _ (by kernel_rfl) rfl rfl rfl ew ?_
        simp only [Act.put, List.setIfInBounds_toArray, List.set_cons_zero, List.set_cons_succ]
        refine wk_slice_arrD 64 128 256 .i64 .i64 _ _ _ _ _ _ (by kernel_rfl) rfl Try.underlying23 sizeU8 rfl rfl rfl (by omega) (by omega) (by omega) ?_
        simp only [Act.put, List.setIfInBounds_toArray, List.set_cons_zero, List.set_cons_succ]
        repeat (first
          | (refine wk_move _ (by first | exact wanted_none rfl | exact wanted_yes _ _ rfl rfl) rfl ?_; simp only [Act.put, Act.eval, Array.getD_eq_getD_getElem?, List.getElem?_toArray, List.getElem?_cons_succ, List.getElem?_cons_zero, Option.getD_some, List.setIfInBounds_toArray, List.set_cons_zero, List.set_cons_succ])
          | (refine wk_assign _ (by first | exact wanted_none rfl | exact wanted_yes _ _ rfl rfl) rfl ?_; simp only [Act.put, Act.eval, Array.getD_eq_getD_getElem?, List.getElem?_toArray, List.getElem?_cons_succ, List.getElem?_cons_zero, Option.getD_some, List.setIfInBounds_toArray, List.set_cons_zero, List.set_cons_succ])
          | (refine wk_pickt _ _ _ _ (by first | exact wanted_none rfl | exact wanted_yes _ _ rfl rfl) rfl rfl rfl ?_; simp only [Act.put, Act.eval, Array.getD_eq_getD_getElem?, List.getElem?_toArray, List.getElem?_cons_succ, List.getElem?_cons_zero, Option.getD_some, List.setIfInBounds_toArray, List.set_cons_zero, List.set_cons_succ])
          | (refine wk_pickf _ _ _ _ (by first | exact wanted_none rfl | exact wanted_yes _ _ rfl rfl) rfl rfl rfl ?_; simp only [Act.put, Act.eval, Array.getD_eq_getD_getElem?, List.getElem?_toArray, List.getElem?_cons_succ, List.getElem?_cons_zero, Option.getD_some, List.setIfInBounds_toArray, List.set_cons_zero, List.set_cons_succ])
          | (refine wk_skip (wanted_not _ true false rfl rfl rfl) ?_; simp only [Act.put, List.setIfInBounds_toArray, List.set_cons_zero, List.set_cons_succ])
          | (refine wk_skip (wanted_not _ false true rfl rfl rfl) ?_; simp only [Act.put, List.setIfInBounds_toArray, List.set_cons_zero, List.set_cons_succ])
          | (refine wk_skip (wanted_undef _ _ rfl rfl) ?_; simp only [Act.put, List.setIfInBounds_toArray, List.set_cons_zero, List.set_cons_succ])
          | (refine wk_not true _ _ (by first | exact wanted_none rfl | exact wanted_yes _ _ rfl rfl) rfl rfl ?_; simp only [Act.put, List.setIfInBounds_toArray, List.set_cons_zero, List.set_cons_succ])
          | (refine wk_not false _ _ (by first | exact wanted_none rfl | exact wanted_yes _ _ rfl rfl) rfl rfl ?_; simp only [Act.put, List.setIfInBounds_toArray, List.set_cons_zero, List.set_cons_succ]))
        refine wk_slice_arrL 64 256 .i64 _ _ _ _ _ (by kernel_rfl) rfl Try.underlying23 sizeU8 rfl rfl (by omega) ?_
        simp only [Act.put, List.setIfInBounds_toArray, List.set_cons_zero, List.set_cons_succ]
        refine wk_nil ?_
        intro w' hC
        have HR6 := Lib.hid (HR4.out.since hC)
        clear hC ew HR4
        have HSR : Hid (∀ j v, ((dsector b 1).map vu8)[j]? = some v → w'.cell? ((⟨g0 + 1, 64, none⟩ : Addr).add j) = some v) := Lib.hid (by
          intro j v hv
          rw [Addr.add_lit, cell_of_row w' _ _ _ _ _ (HR6.out.get 1 rfl), ← hv]
          have hj : j < 64 := by
            have := (List.getElem?_eq_some_iff.1 hv).1
            rw [HLS.out] at this
            exact this
          have := HLB.out
          simp only [blk, dsector, List.getElem?_map, List.getElem?_toArray]
          rw [List.getElem?_take_of_lt hj, List.getElem?_drop])
        refine wpList_copyD rfl _ _ _ _ rfl 5 Try.underlying35 sizeU8 g0 64 _ _ _ _ ⟨g0 + 1, 64, none⟩ rfl rfl ((dtornTo 1 a b s).map vu8) 23 (HR6.out.get 2 rfl) ((dsector b 1).map vu8) HLS.out HSR.out HLT.out HON.out ?_
        rw [HT.out]
        have R7 := Lib.hid (HR6.out.setRow 2 (blk (dtornTo (1 + 1) a b s)) rfl)
        clear HR6 HSR HLS HLT HON HT
        go_wp2_with fail
        exact ⟨⟨1 + 1, _, by rfl, by omega, rfl, R7.out⟩, by simp [intOf]⟩
      | false =>
        have hc : s / 2 ^ 1 % 2 = 0 := by
          have : ¬ s / 2 ^ 1 % 2 = 1 := by simpa [dbit] using hn
          omega
        refine wk_cmp_int .gtr (false) _ _ _ _ _ _ _ (by kernel_rfl) rfl rfl rfl (by rw [hc]; rfl) ?_
        simp only [Act.put, List.setIfInBounds_toArray, List.set_cons_zero, List.set_cons_succ]
        refine wk_nil ?_
        intro w' hC
        have HR4 := Lib.hid (HRR.out.since hC)
        clear hC HRR
        have HT := Lib.hid (dtorn_keep a b s 1 hn)
        clear hn hc
        go_wp2_with fail
        exact ⟨⟨1 + 1, _, by rfl, by omega, rfl, by rw [← HT.out]; exact HR4.out⟩, by simp [intOf]⟩
    · clear hz hk
      go_upto_region 4 with (fail)
      refine wk_plain_since ?_
      repeat (first
        | (refine wk_move _ (by first | exact wanted_none rfl | exact wanted_yes _ _ rfl rfl) rfl ?_; simp only [Act.put, Act.eval, Array.getD_eq_getD_getElem?, List.getElem?_toArray, List.getElem?_cons_succ, List.getElem?_cons_zero, Option.getD_some, List.setIfInBounds_toArray, List.set_cons_zero, List.set_cons_succ])
        | (refine wk_assign _ (by first | exact wanted_none rfl | exact wanted_yes _ _ rfl rfl) rfl ?_; simp only [Act.put, Act.eval, Array.getD_eq_getD_getElem?, List.getElem?_toArray, List.getElem?_cons_succ, List.getElem?_cons_zero, Option.getD_some, List.setIfInBounds_toArray, List.set_cons_zero, List.set_cons_succ])
        | (refine wk_pickt _ _ _ _ (by first | exact wanted_none rfl | exact wanted_yes _ _ rfl rfl) rfl rfl rfl ?_; simp only [Act.put, Act.eval, Array.getD_eq_getD_getElem?, List.getElem?_toArray, List.getElem?_cons_succ, List.getElem?_cons_zero, Option.getD_some, List.setIfInBounds_toArray, List.set_cons_zero, List.set_cons_succ])
        | (refine wk_pickf _ _ _ _ (by first | exact wanted_none rfl | exact wanted_yes _ _ rfl rfl) rfl rfl rfl ?_; simp only [Act.put, Act.eval, Array.getD_eq_getD_getElem?, List.getElem?_toArray, List.getElem?_cons_succ, List.getElem?_cons_zero, Option.getD_some, List.setIfInBounds_toArray, List.set_cons_zero, List.set_cons_succ])
        | (refine wk_skip (wanted_not _ true false rfl rfl rfl) ?_; simp only [Act.put, List.setIfInBounds_toArray, List.set_cons_zero, List.set_cons_succ])
        | (refine wk_skip (wanted_not _ false true rfl rfl rfl) ?_; simp only [Act.put, List.setIfInBounds_toArray, List.set_cons_zero, List.set_cons_succ])
        | (refine wk_skip (wanted_undef _ _ rfl rfl) ?_; simp only [Act.put, List.setIfInBounds_toArray, List.set_cons_zero, List.set_cons_succ])
        | (refine wk_not true _ _ (by first | exact wanted_none rfl | exact wanted_yes _ _ rfl rfl) rfl rfl ?_; simp only [Act.put, List.setIfInBounds_toArray, List.set_cons_zero, List.set_cons_succ])
        | (refine wk_not false _ _ (by first | exact wanted_none rfl | exact wanted_yes _ _ rfl rfl) rfl rfl ?_; simp only [Act.put, List.setIfInBounds_toArray, List.set_cons_zero, List.set_cons_succ]))
      refine wk_shr s 2 hs (by omega) _ _ _ (by exact wanted_none rfl) rfl rfl rfl ?_
      simp only [Act.put, List.setIfInBounds_toArray, List.set_cons_zero, List.set_cons_succ]
      refine wk_and1 (s / 2 ^ 2) (Nat.lt_of_le_of_lt (Nat.div_le_self _ _) hs) _ _ _ (by exact wanted_none rfl) rfl rfl rfl ?_
      simp only [Act.put, List.setIfInBounds_toArray, List.set_cons_zero, List.set_cons_succ]
      cases hn : dbit s 2 with
      | true =>
        have hc : s / 2 ^ 2 % 2 = 1 := by simpa [dbit] using hn
        refine wk_cmp_int .gtr (true) _ _ _ _ _ _ _ (by kernel_rfl) rfl rfl rfl (by rw [hc]; rfl) ?_
        simp only [Act.put, List.setIfInBounds_toArray, List.set_cons_zero, List.set_cons_succ]
        refine wk_nil ?_
        intro w' hC
        have HR4 := Lib.hid (HRR.out.since hC)
        clear hC HRR
        have HT := Lib.hid (dtorn_sector a b HLB.out s 2 (by omega) hn)
        have HLS : Hid (((dsector b 2).map vu8).length = Nat.min (256 - 128) 64) := Lib.hid (by have := HLB.out; simp [dsector]; omega)
        have HLT : Hid ((128 : Nat) + ((dsector b 2).map vu8).length ≤ ((dtornTo 2 a b s).map vu8).length) := Lib.hid (by rw [HLS.out, List.length_map, length_dtornTo]; decide)
        have HON : Hid (∀ v ∈ (dsector b 2).map vu8, v.oneCell' = true) := Lib.hid (by intro u hu; simp only [List.mem_map] at hu; obtain ⟨i, _, rfl⟩ := hu; rfl)
        have ew : IntKind.i64.wrap 192 = 192 := by rw [IntKind.wrap_i64]; rfl
        clear hn hc
        go_upto_region 6 with (fail)
        refine wk_region_tail 6 (by kernel_rfl) (by kernel_rfl) ?_
        simp only [List.take_succ_cons, List.take_zero, List.drop_succ_cons, List.drop_zero]
        repeat (first
          | (refine wk_move _ (by first | exact wanted_none rfl | exact wanted_yes _ _ rfl rfl) rfl ?_; simp only [Act.put, Act.eval, Array.getD_eq_getD_getElem?, List.getElem?_toArray, List.getElem?_cons_succ, List.getElem?_cons_zero, Option.getD_some, List.setIfInBounds_toArray, List.set_cons_zero, List.set_cons_succ])
          | (refine wk_assign _ (by first | exact wanted_none rfl | exact wanted_yes _ _ rfl rfl) rfl ?_; simp only [Act.put, Act.eval, Array.getD_eq_getD_getElem?, List.getElem?_toArray, List.getElem?_cons_succ, List.getElem?_cons_zero, Option.getD_some, List.setIfInBounds_toArray, List.set_cons_zero, List.set_cons_succ])
          | (refine wk_pickt _ _ _ _ (by first | exact wanted_none rfl | exact wanted_yes _ _ rfl rfl) rfl rfl rfl ?_; simp only [Act.put, Act.eval, Array.getD_eq_getD_getElem?, List.getElem?_toArray, List.getElem?_cons_succ, List.getElem?_cons_zero, Option.getD_some, List.setIfInBounds_toArray, List.set_cons_zero, List.set_cons_succ])
          | (refine wk_pickf _ _ _ _ (by first | exact wanted_none rfl | exact wanted_yes _ _ rfl rfl) rfl rfl rfl ?_; simp only [Act.put, Act.eval, Array.getD_eq_getD_getElem?, List.getElem?_toArray, List.getElem?_cons_succ, List.getElem?_cons_zero, Option.getD_some, List.setIfInBounds_toArray, List.set_cons_zero, List.set_cons_succ])
          | (refine wk_skip (wanted_not _ true false rfl rfl rfl) ?_; simp only [Act.put, List.setIfInBounds_toArray, List.set_cons_zero, List.set_cons_succ])
          | (refine wk_skip (wanted_not _ false true rfl rfl rfl) ?_; simp only [Act.put, List.setIfInBounds_toArray, List.set_cons_zero, List.set_cons_succ])
          | (refine wk_skip (wanted_undef _ _ rfl rfl) ?_; simp only [Act.put, List.setIfInBounds_toArray, List.set_cons_zero, List.set_cons_succ])
          | (refine wk_not true _ _ (by first | exact wanted_none rfl | exact wanted_yes _ _ rfl rfl) rfl rfl ?_; simp only [Act.put, List.setIfInBounds_toArray, List.set_cons_zero, List.set_cons_succ])
          | (refine wk_not false _ _ (by first | exact wanted_none rfl | exact wanted_yes _ _ rfl rfl) rfl rfl ?_; simp only [Act.put, List.setIfInBounds_toArray, List.set_cons_zero, List.set_cons_succ]))
        refine wk_add _ _ _ _ _ _ _ (by kernel_rfl) rfl rfl rfl ew ?_
        simp only [Act.put, List.setIfInBounds_toArray, List.set_cons_zero, List.set_cons_succ]
        refine wk_slice_arrD 128 192 256 .i64 .i64 _ _ _ _ _ _ (by kernel_rfl) rfl Try.underlying23 sizeU8 rfl rfl rfl (by omega) (by omega) (by omega) ?_
        simp only [Act.put, List.setIfInBounds_toArray, List.set_cons_zero, List.set_cons_succ]
        repeat (first
          | (refine wk_move _ (by first | exact wanted_none rfl | exact wanted_yes _ _ rfl rfl) rfl ?_; simp only [Act.put, Act.eval, Array.getD_eq_getD_getElem?, List.getElem?_toArray, List.getElem?_cons_succ, List.getElem?_cons_zero, Option.getD_some, List.setIfInBounds_toArray, List.set_cons_zero, List.set_cons_succ])
          | (refine wk_assign _ (by first | exact wanted_none rfl | exact wanted_yes _ _ rfl rfl) rfl ?_; simp only [Act.put, Act.eval, Array.getD_eq_getD_getElem?, List.getElem?_toArray, List.getElem?_cons_succ, List.getElem?_cons_zero, Option.getD_some, List.setIfInBounds_toArray, List.set_cons_zero, List.set_cons_succ])
          | (refine wk_pickt _ _ _ _ (by first | exact wanted_none rfl | exact wanted_yes _ _ rfl rfl) rfl rfl rfl ?_; simp only [Act.put, Act.eval, Array.getD_eq_getD_getElem?, List.getElem?_toArray, List.getElem?_cons_succ, List.getElem?_cons_zero, Option.getD_some, List.setIfInBounds_toArray, List.set_cons_zero, List.set_cons_succ])
          | (refine wk_pickf _ _ _ _ (by first | exact wanted_none rfl | exact wanted_yes _ _ rfl rfl) rfl rfl rfl ?_; simp only [Act.put, Act.eval, Array.getD_eq_getD_getElem?, List.getElem?_toArray, List.getElem?_cons_succ, List.getElem?_cons_zero, Option.getD_some, List.setIfInBounds_toArray, List.set_cons_zero, List.set_cons_succ])
          | (refine wk_skip (wanted_not _ true false rfl rfl rfl) ?_; simp only [Act.put, List.setIfInBounds_toArray, List.set_cons_zero, List.set_cons_succ])
          | (refine wk_skip (wanted_not _ false true rfl rfl rfl) ?_; simp only [Act.put, List.setIfInBounds_toArray, List.set_cons_zero, List.set_cons_succ])
          | (refine wk_skip (wanted_undef _ _ rfl rfl) ?_; simp only [Act.put, List.setIfInBounds_toArray, List.set_cons_zero, List.set_cons_succ])
          | (refine wk_not true _ _ (by first | exact wanted_none rfl | exact wanted_yes _ _ rfl rfl) rfl rfl ?_; simp only [Act.put, List.setIfInBounds_toArray, List.set_cons_zero, List.set_cons_succ])
          | (refine wk_not false _ _ (by first | exact wanted_none rfl | exact wanted_yes _ _ rfl rfl) rfl rfl ?_; simp only [Act.put, List.setIfInBounds_toArray, List.set_cons_zero, List.set_cons_succ]))
        refine wk_slice_arrL 128 256 .i64 _ _ _ _ _ (by kernel_rfl) rfl Try.underlying23 sizeU8 rfl rfl (by omega) ?_
        simp only [Act.put, List.setIfInBounds_toArray, List.set_cons_zero, List.set_cons_succ]
        refine wk_nil ?_
        intro w' hC
        have HR6 := Lib.hid (HR4.out.since hC)
        clear hC ew HR4
        have HSR : Hid (∀ j v, ((dsector b 2).map vu8)[j]? = some v → w'.cell? ((⟨g0 + 1, 128, none⟩ : Addr).add j) = some v) := Lib.hid (by
          intro j v hv
          rw [Addr.add_lit, cell_of_row w' _ _ _ _ _ (HR6.out.get 1 rfl), ← hv]
          have hj : j < 64 := by
            have := (List.getElem?_eq_some_iff.1 hv).1
            rw [HLS.out] at this
            exact this
          have := HLB.out
          simp only [blk, dsector, List.getElem?_map, List.getElem?_toArray]
          rw [List.getElem?_take_of_lt hj, List.getElem?_drop])
        refine wpList_copyD rfl _ _ _ _ rfl 5 Try.underlying35 sizeU8 g0 128 _ _ _ _ ⟨g0 + 1, 128, none⟩ rfl rfl ((dtornTo 2 a b s).map vu8) 23 (HR6.out.get 2 rfl) ((dsector b 2).map vu8) HLS.out HSR.out HLT.out HON.out ?_
        rw [HT.out]
        have R7 := Lib.hid (HR6.out.setRow 2 (blk (dtornTo (2 + 1) a b s)) rfl)
        clear HR6 HSR HLS HLT HON HT
        go_wp2_with fail
        exact ⟨⟨2 + 1, _, by rfl, by omega, rfl, R7.out⟩, by simp [intOf]⟩
      | false =>
        have hc : s / 2 ^ 2 % 2 = 0 := by
          have : ¬ s / 2 ^ 2 % 2 = 1 := by simpa [dbit] using hn
          omega
        refine wk_cmp_int .gtr (false) _ _ _ _ _ _ _ (by kernel_rfl) rfl rfl rfl (by rw [hc]; rfl) ?_
        simp only [Act.put, List.setIfInBounds_toArray, List.set_cons_zero, List.set_cons_succ]
        refine wk_nil ?_
        intro w' hC
        have HR4 := Lib.hid (HRR.out.since hC)
        clear hC HRR
        have HT := Lib.hid (dtorn_keep a b s 2 hn)
        clear hn hc
        go_wp2_with fail
        exact ⟨⟨2 + 1, _, by rfl, by omega, rfl, by rw [← HT.out]; exact HR4.out⟩, by simp [intOf]⟩
    · clear hz hk
      go_upto_region 4 with (fail)
      refine wk_plain_since ?_
      repeat (first
        | (refine wk_move _ (by first | exact wanted_none rfl | exact wanted_yes _ _ rfl rfl) rfl ?_; simp only [Act.put, Act.eval, Array.getD_eq_getD_getElem?, List.getElem?_toArray, List.getElem?_cons_succ, List.getElem?_cons_zero, Option.getD_some, List.setIfInBounds_toArray, List.set_cons_zero, List.set_cons_succ])
        | (refine wk_assign _ (by first | exact wanted_none rfl | exact wanted_yes _ _ rfl rfl) rfl ?_; simp only [Act.put, Act.eval, Array.getD_eq_getD_getElem?, List.getElem?_toArray, List.getElem?_cons_succ, List.getElem?_cons_zero, Option.getD_some, List.setIfInBounds_toArray, List.set_cons_zero, List.set_cons_succ])
        | (refine wk_pickt _ _ _ _ (by first | exact wanted_none rfl | exact wanted_yes _ _ rfl rfl) rfl rfl rfl ?_; simp only [Act.put, Act.eval, Array.getD_eq_getD_getElem?, List.getElem?_toArray, List.getElem?_cons_succ, List.getElem?_cons_zero, Option.getD_some, List.setIfInBounds_toArray, List.set_cons_zero, List.set_cons_succ])
        | (refine wk_pickf _ _ _ _ (by first | exact wanted_none rfl | exact wanted_yes _ _ rfl rfl) rfl rfl rfl ?_; simp only [Act.put, Act.eval, Array.getD_eq_getD_getElem?, List.getElem?_toArray, List.getElem?_cons_succ, List.getElem?_cons_zero, Option.getD_some, List.setIfInBounds_toArray, List.set_cons_zero, List.set_cons_succ])
        | (refine wk_skip (wanted_not _ true false rfl rfl rfl) ?_; simp only [Act.put, List.setIfInBounds_toArray, List.set_cons_zero, List.set_cons_succ])
        | (refine wk_skip (wanted_not _ false true rfl rfl rfl) ?_; simp only [Act.put, List.setIfInBounds_toArray, List.set_cons_zero, List.set_cons_succ])
        | (refine wk_skip (wanted_undef _ _ rfl rfl) ?_; simp only [Act.put, List.setIfInBounds_toArray, List.set_cons_zero, List.set_cons_succ])
        | (refine wk_not true _ _ (by first | exact wanted_none rfl | exact wanted_yes _ _ rfl rfl) rfl rfl ?_; simp only [Act.put, List.setIfInBounds_toArray, List.set_cons_zero, List.set_cons_succ])
        | (refine wk_not false _ _ (by first | exact wanted_none rfl | exact wanted_yes _ _ rfl rfl) rfl rfl ?_; simp only [Act.put, List.setIfInBounds_toArray, List.set_cons_zero, List.set_cons_succ]))
      refine wk_shr s 3 hs (by omega) _ _ _ (by exact wanted_none rfl) rfl rfl rfl ?_
      simp only [Act.put, List.setIfInBounds_toArray, List.set_cons_zero, List.set_cons_succ]
      refine wk_and1 (s / 2 ^ 3) (Nat.lt_of_le_of_lt (Nat.div_le_self _ _) hs) _ _ _ (by exact wanted_none rfl) rfl rfl rfl ?_
      simp only [Act.put, List.setIfInBounds_toArray, List.set_cons_zero, List.set_cons_succ]
      cases hn : dbit s 3 with
      | true =>
        have hc : s / 2 ^ 3 % 2 = 1 := by simpa [dbit] using hn
        refine wk_cmp_int .gtr (true) _ _ _ _ _ _ _ (by kernel_rfl) rfl rfl rfl (by rw [hc]; rfl) ?_
        simp only [Act.put, List.setIfInBounds_toArray, List.set_cons_zero, List.set_cons_succ]
        refine wk_nil ?_
        intro w' hC
        have HR4 := Lib.hid (HRR.out.since hC)
        clear hC HRR
        have HT := Lib.hid (dtorn_sector a b HLB.out s 3 (by omega) hn)
        have HLS : Hid (((dsector b 3).map vu8).length = Nat.min (256 - 192) 64) := Lib.hid (by have := HLB.out; simp [dsector]; omega)
        have HLT : Hid ((192 : Nat) + ((dsector b 3).map vu8).length ≤ ((dtornTo 3 a b s).map vu8).length) := Lib.hid (by rw [HLS.out, List.length_map, length_dtornTo]; decide)
        have HON : Hid (∀ v ∈ (dsector b 3).map vu8, v.oneCell' = true) := Lib.hid (by intro u hu; simp only [List.mem_map] at hu; obtain ⟨i, _, rfl⟩ := hu; rfl)
        have ew : IntKind.i64.wrap 256 = 256 := by rw [IntKind.wrap_i64]; rfl
        clear hn hc
        go_upto_region 6 with (fail)
        refine wk_region_tail 6 (by kernel_rfl) (by kernel_rfl) ?_
        simp only [List.take_succ_cons, List.take_zero, List.drop_succ_cons, List.drop_zero]
        repeat (first
          | (refine wk_move _ (by first | exact wanted_none rfl | exact wanted_yes _ _ rfl rfl) rfl ?_; simp only [Act.put, Act.eval, Array.getD_eq_getD_getElem?, List.getElem?_toArray, List.getElem?_cons_succ, List.getElem?_cons_zero, Option.getD_some, List.setIfInBounds_toArray, List.set_cons_zero, List.set_cons_succ])
          | (refine wk_assign _ (by first | exact wanted_none rfl | exact wanted_yes _ _ rfl rfl) rfl ?_; simp only [Act.put, Act.eval, Array.getD_eq_getD_getElem?, List.getElem?_toArray, List.getElem?_cons_succ, List.getElem?_cons_zero, Option.getD_some, List.setIfInBounds_toArray, List.set_cons_zero, List.set_cons_succ])
          | (refine wk_pickt _ _ _ _ (by first | exact wanted_none rfl | exact wanted_yes _ _ rfl rfl) rfl rfl rfl ?_; simp only [Act.put, Act.eval, Array.getD_eq_getD_getElem?, List.getElem?_toArray, List.getElem?_cons_succ, List.getElem?_cons_zero, Option.getD_some, List.setIfInBounds_toArray, List.set_cons_zero, List.set_cons_succ])
          | (refine wk_pickf _ _ _ _ (by first | exact wanted_none rfl | exact wanted_yes _ _ rfl rfl) rfl rfl rfl ?_; simp only [Act.put, Act.eval, Array.getD_eq_getD_getElem?, List.getElem?_toArray, List.getElem?_cons_succ, List.getElem?_cons_zero, Option.getD_some, List.setIfInBounds_toArray, List.set_cons_zero, List.set_cons_succ])
          | (refine wk_skip (wanted_not _ true false rfl rfl rfl) ?_; simp only [Act.put, List.setIfInBounds_toArray, List.set_cons_zero, List.set_cons_succ])
          | (refine wk_skip (wanted_not _ false true rfl rfl rfl) ?_; simp only [Act.put, List.setIfInBounds_toArray, List.set_cons_zero, List.set_cons_succ])
          | (refine wk_skip (wanted_undef _ _ rfl rfl) ?_; simp only [Act.put, List.setIfInBounds_toArray, List.set_cons_zero, List.set_cons_succ])
          | (refine wk_not true _ _ (by first | exact wanted_none rfl | exact wanted_yes _ _ rfl rfl) rfl rfl ?_; simp only [Act.put, List.setIfInBounds_toArray, List.set_cons_zero, List.set_cons_succ])
          | (refine wk_not false _ _ (by first | exact wanted_none rfl | exact wanted_yes _ _ rfl rfl) rfl rfl ?_; simp only [Act.put, List.setIfInBounds_toArray, List.set_cons_zero, List.set_cons_succ]))
        refine wk_add _ _ _ _ _ _ _ (by kernel_rfl) rfl rfl rfl ew ?_
        simp only [Act.put, List.setIfInBounds_toArray, List.set_cons_zero, List.set_cons_succ]
        refine wk_slice_arrD 192 256 256 .i64 .i64 _ _ _ _ _ _ (by kernel_rfl) rfl Try.underlying23 sizeU8 rfl rfl rfl (by omega) (by omega) (by omega) ?_
        simp only [Act.put, List.setIfInBounds_toArray, List.set_cons_zero, List.set_cons_succ]
        repeat (first
          | (refine wk_move _ (by first | exact wanted_none rfl | exact wanted_yes _ _ rfl rfl) rfl ?_; simp only [Act.put, Act.eval, Array.getD_eq_getD_getElem?, List.getElem?_toArray, List.getElem?_cons_succ, List.getElem?_cons_zero, Option.getD_some, List.setIfInBounds_toArray, List.set_cons_zero, List.set_cons_succ])
          | (refine wk_assign _ (by first | exact wanted_none rfl | exact wanted_yes _ _ rfl rfl) rfl ?_; simp only [Act.put, Act.eval, Array.getD_eq_getD_getElem?, List.getElem?_toArray, List.getElem?_cons_succ, List.getElem?_cons_zero, Option.getD_some, List.setIfInBounds_toArray, List.set_cons_zero, List.set_cons_succ])
          | (refine wk_pickt _ _ _ _ (by first | exact wanted_none rfl | exact wanted_yes _ _ rfl rfl) rfl rfl rfl ?_; simp only [Act.put, Act.eval, Array.getD_eq_getD_getElem?, List.getElem?_toArray, List.getElem?_cons_succ, List.getElem?_cons_zero, Option.getD_some, List.setIfInBounds_toArray, List.set_cons_zero, List.set_cons_succ])
          | (refine wk_pickf _ _ _ _ (by first | exact wanted_none rfl | exact wanted_yes _ _ rfl rfl) rfl rfl rfl ?_; simp only [Act.put, Act.eval, Array.getD_eq_getD_getElem?, List.getElem?_toArray, List.getElem?_cons_succ, List.getElem?_cons_zero, Option.getD_some, List.setIfInBounds_toArray, List.set_cons_zero, List.set_cons_succ])
          | (refine wk_skip (wanted_not _ true false rfl rfl rfl) ?_; simp only [Act.put, List.setIfInBounds_toArray, List.set_cons_zero, List.set_cons_succ])
          | (refine wk_skip (wanted_not _ false true rfl rfl rfl) ?_; simp only [Act.put, List.setIfInBounds_toArray, List.set_cons_zero, List.set_cons_succ])
          | (refine wk_skip (wanted_undef _ _ rfl rfl) ?_; simp only [Act.put, List.setIfInBounds_toArray, List.set_cons_zero, List.set_cons_succ])
          | (refine wk_not true _ _ (by first | exact wanted_none rfl | exact wanted_yes _ _ rfl rfl) rfl rfl ?_; simp only [Act.put, List.setIfInBounds_toArray, List.set_cons_zero, List.set_cons_succ])
          | (refine wk_not false _ _ (by first | exact wanted_none rfl | exact wanted_yes _ _ rfl rfl) rfl rfl ?_; simp only [Act.put, List.setIfInBounds_toArray, List.set_cons_zero, List.set_cons_succ]))
        refine wk_slice_arrL 192 256 .i64 _ _ _ _ _ (by kernel_rfl) rfl Try.underlying23 sizeU8 rfl rfl (by omega) ?_
        simp only [Act.put, List.setIfInBounds_toArray, List.set_cons_zero, List.set_cons_succ]
        refine wk_nil ?_
        intro w' hC
        have HR6 := Lib.hid (HR4.out.since hC)
        clear hC ew HR4
        have HSR : Hid (∀ j v, ((dsector b 3).map vu8)[j]? = some v → w'.cell? ((⟨g0 + 1, 192, none⟩ : Addr).add j) = some v) := Lib.hid (by
          intro j v hv
          rw [Addr.add_lit, cell_of_row w' _ _ _ _ _ (HR6.out.get 1 rfl), ← hv]
          have hj : j < 64 := by
            have := (List.getElem?_eq_some_iff.1 hv).1
            rw [HLS.out] at this
            exact this
          have := HLB.out
          simp only [blk, dsector, List.getElem?_map, List.getElem?_toArray]
          rw [List.getElem?_take_of_lt hj, List.getElem?_drop])
        refine wpList_copyD rfl _ _ _ _ rfl 5 Try.underlying35 sizeU8 g0 192 _ _ _ _ ⟨g0 + 1, 192, none⟩ rfl rfl ((dtornTo 3 a b s).map vu8) 23 (HR6.out.get 2 rfl) ((dsector b 3).map vu8) HLS.out HSR.out HLT.out HON.out ?_
        rw [HT.out]
        have R7 := Lib.hid (HR6.out.setRow 2 (blk (dtornTo (3 + 1) a b s)) rfl)
        clear HR6 HSR HLS HLT HON HT
        go_wp2_with fail
        exact ⟨⟨3 + 1, _, by rfl, by omega, rfl, R7.out⟩, by simp [intOf]⟩
      | false =>
        have hc : s / 2 ^ 3 % 2 = 0 := by
          have : ¬ s / 2 ^ 3 % 2 = 1 := by simpa [dbit] using hn
          omega
        refine wk_cmp_int .gtr (false) _ _ _ _ _ _ _ (by kernel_rfl) rfl rfl rfl (by rw [hc]; rfl) ?_
        simp only [Act.put, List.setIfInBounds_toArray, List.set_cons_zero, List.set_cons_succ]
        refine wk_nil ?_
        intro w' hC
        have HR4 := Lib.hid (HRR.out.since hC)
        clear hC HRR
        have HT := Lib.hid (dtorn_keep a b s 3 hn)
        clear hn hc
        go_wp2_with fail
        exact ⟨⟨3 + 1, _, by rfl, by omega, rfl, by rw [← HT.out]; exact HR4.out⟩, by simp [intOf]⟩
    · clear hz hk
      have HS : Hid ((blk (dtornTo 4 a b s)).size = 256) := Lib.hid (by rw [size_blk, length_dtornTo])
      obtain ⟨T, hT⟩ : ∃ T, T = dtornTo 4 a b s := ⟨_, rfl⟩
      rw [← hT] at HRR HS
      have HT := Lib.hid hT
      clear hT
      go_wp2_with (first
       | refine wpList_load_row rfl 23 _ rfl g0 rfl 23 (blk T) (0, 0) _ (HRR.out.get 2 rfl) Try.underlying23 rfl (by rw [HS.out]; exact sizeB) ?_
       | refine wpList_store_row rfl 23 _ _ rfl (g0 + 1 + 1) (blk T) rfl rfl 23 _ (HRR.out.get 0 rfl) (by rw [HS.out]; exact sizeB) (by rw [HS.out, size_zeros]) (blk_one _) ?_)
      have R9 := HRR.out.setRow 0 (blk T) rfl
      refine bodyPost_ret (v := .agg (blk T)) (results_cell_row rfl _ _ (g0 + 1 + 1) 23 _ (0, 0) _ rfl (R9.get 0 rfl) Try.underlying23 rfl (by rw [HS.out]; exact sizeB)) rfl ⟨by rw [HT.out]; rfl, R9.below⟩
end Go.Proofs.Ytnbdnnlomgjlmaa
