/- The field layer: a writer, and a reader, that is none: the methods. -/
import Derived.Test.YtnfmdcohacflmaaDoorWr
import Derived.Test.YtnfmdcohacflmaaDoorKeep
import Derived.Test.YtnfmdcohacflmaaDoorReadS
namespace Go.Proofs.YtnfmdcohacflmaaDoor
open Go.RowKit
set_option linter.unusedSimpArgs false
set_option linter.unusedVariables false
set_option maxRecDepth 100000
def wrZero : Array Value := #[.slice none 0 0, .bool false, .bool false]
def rdZero : Array Value := #[.slice none 0 0, .int .i64 0, .bool false]
/-- No writer: nil, or one that was not made. -/
def NoWr (p : Option Addr) (w : World) : Prop := p = none ∨ ∃ g, p = some ⟨g, 0, none⟩ ∧ w.heap[g]? = some (.cells wrZero 41 (0, 0))
section
variable {p : Option Addr} {w w0 : World} {l : List (Nat × Array Value × TypeId)}
theorem NoWr.since {w' : World} (h : NoWr p w) (hb : Below w.heap.size w w') : NoWr p w' := by
  rcases h with rfl | ⟨g, rfl, h⟩
  · exact .inl rfl
  · exact .inr ⟨g, rfl, (hb.block g (Array.getElem?_eq_some_iff.1 h).1).trans h⟩
theorem wnone_no (h : NoWr p w) : Calls Tryd.prog 20 #[.pointer p] w fun e w' => e = .returned (.bool true) ∧ w = w' := by
  rcases h with rfl | ⟨g, rfl, h⟩
  · go_enter Tryd.func20, Tryd.ntmps20
    go_wp2
    go_ret
    exact ⟨rfl, rfl⟩
  · have h1 : w.cell? ⟨g, 1, none⟩ = some (.bool false) := cell_of_row w g 1 _ _ _ h
    clear h
    go_enter Tryd.func20, Tryd.ntmps20
    go_wp2
    go_ret
    exact ⟨rfl, rfl⟩
theorem wnum_no (h : NoWr p w) (x n : Int) : Calls Tryd.prog 10 #[.pointer p, .int .u64 x, .int .i64 n] w fun e w' => e = .returned (.tuple #[]) ∧ w = w' := by
  have HW := Lib.hid h
  clear h
  go_enter Tryd.func10, Tryd.ntmps10
  go_wp2
  refine wp_scope_jumps 0 (fun _ _ => False) (fun _ _ => 0) rfl ?_ ?_
  · go_wp2_with (go_at_call 20; refine (wnone_no HW.out).mono ?_; rintro e w1 ⟨rfl, rfl⟩)
    simp only [Exit.jump]
    exact bodyPost_ret (v := .tuple #[]) (results_none rfl _ _ _) rfl ⟨rfl, rfl⟩
  · rintro a' w2 hh
    exact absurd hh id
theorem wtext_no (h : NoWr p w) (s : ByteArray) (n : Int) : Calls Tryd.prog 11 #[.pointer p, .string s, .int .i64 n] w fun e w' => e = .returned (.tuple #[]) ∧ w = w' := by
  have HW := Lib.hid h
  clear h
  go_enter Tryd.func11, Tryd.ntmps11
  go_wp2_with (go_at_call 20; refine (wnone_no HW.out).mono ?_; rintro e w1 ⟨rfl, rfl⟩)
  exact bodyPost_ret (v := .tuple #[]) (results_none rfl _ _ _) rfl ⟨rfl, rfl⟩
theorem wdone_no (h : NoWr p w) (m : UInt8) :
    Calls Tryd.prog 9 #[.pointer p, .int .u8 (m.toNat : Int)] w fun e w' => e = .returned (.tuple #[.agg (zeros 256 (.int .u8 0)), .int .i64 3]) ∧ Below w.heap.size w w' := by
  obtain ⟨W, hW⟩ : ∃ W, W = (w.alloc (.cells (zeros 256 (.int .u8 0)) 33)).alloc (.cells (zeros 256 (.int .u8 0)) 33) := ⟨_, rfl⟩
  have hWB : Below w.heap.size w W := by rw [hW]; exact ((Below.refl _ _).alloc (Nat.le_refl _) _).alloc (by simp) _
  have HC := Lib.hid (h.since hWB)
  have HW := Lib.hid hW
  have hgW : W.heap[w.heap.size + 1]? = some (.cells (zeros 256 (.int .u8 0)) 33 (0, 0)) := by rw [hW]; exact heap_alloc2_new w _ _
  have hg0 : W.heap[w.heap.size]? = some (.cells (zeros 256 (.int .u8 0)) 33 (0, 0)) := by rw [hW]; exact heap_alloc2_old w _ _
  have HGW := Lib.hid hgW
  have HG0 := Lib.hid hg0
  clear hW h hgW hg0
  go_enter Tryd.func9, Tryd.ntmps9
  go_wp2_with (first
   | refine wpList_alloc_row rfl 33 rfl _ zeroB ?_
   | (rw [← HW.out]; go_at_call 20; refine (wnone_no HC.out).mono ?_; rintro e w1 ⟨rfl, rfl⟩)
   | refine wpList_load_row rfl 33 _ rfl (w.heap.size + 1) rfl 33 (zeros 256 (.int .u8 0)) (0, 0) _ HGW.out Tryd.underlying33 rfl (by rw [size_zeros]; exact sizeB) ?_
   | refine wpList_store_row rfl 33 _ _ rfl w.heap.size (zeros 256 (.int .u8 0)) rfl rfl 33 _ HG0.out (by rw [size_zeros]; exact sizeB) (by rw [size_zeros]) zeros_one ?_)
  refine bodyPost_ret (v := .tuple #[.agg (zeros 256 (.int .u8 0)), .int .i64 3]) (results_cell_slot rfl _ _ w.heap.size 33 _ (0, 0) _ _ rfl rfl (setRow_heap _ _ _ _ _ _ HG0.out) Tryd.underlying33 rfl (by rw [size_zeros]; exact sizeB)) rfl ⟨rfl, ?_⟩
  exact below_setRow hWB (Nat.le_refl _) _
/-- No reader. -/
def NoRd (p : Option Addr) (l : List (Nat × Array Value × TypeId)) : Prop := p = none ∨ ∃ g, p = some ⟨g, 0, none⟩ ∧ (g, rdZero, 44) ∈ l
theorem NoRd.cons {x : Nat × Array Value × TypeId} (h : NoRd p l) : NoRd p (x :: l) := by
  rcases h with rfl | ⟨g, rfl, h⟩
  · exact .inl rfl
  · exact .inr ⟨g, rfl, List.mem_cons_of_mem _ h⟩
/-- A store that turns nothing. -/
theorem Rows.setSame (R : Rows w0 w l) {g i : Nat} {cs : Array Value} {T : TypeId} {v : Value} (e : (g, cs, T) ∈ l) (hv : cs.setIfInBounds i v = cs) : Rows w0 (w.setCell ⟨g, i, none⟩ v) l := by
  obtain ⟨k, hk⟩ := List.mem_iff_getElem?.1 e
  have h := R.setCell k i v hk
  rw [hv] at h
  have : l.set k (g, cs, T) = l := by
    apply List.ext_getElem?
    intro j
    rw [List.getElem?_set]
    split
    · rename_i hj
      subst hj
      rw [if_pos (List.getElem?_eq_some_iff.1 hk).1, hk]
    · rfl
  rwa [this] at h
theorem rfine_no (R : Rows w0 w l) (h : NoRd p l) : Calls Tryd.prog 14 #[.pointer p] w fun e w' => e = .returned (.bool false) ∧ w = w' := by
  rcases h with rfl | ⟨g, rfl, h⟩
  · go_enter Tryd.func14, Tryd.ntmps14
    go_wp2
    go_ret
    exact ⟨rfl, rfl⟩
  · have h2 : w.cell? ⟨g, 2, none⟩ = some (.bool false) := cell_of_row w g 2 _ _ _ (R.row _ h).2
    clear h R
    go_enter Tryd.func14, Tryd.ntmps14
    go_wp2
    go_ret
    exact ⟨rfl, rfl⟩
theorem settleN (R : Rows w0 w l) (h : NoRd p l) (r o : Nat) (ok : Bool) (h1 : w.cell? ⟨r, 0, none⟩ = some (.pointer p)) (h2 : w.cell? ⟨o, 0, none⟩ = some (.bool ok)) (u : FrameMode) :
    CallsD Tryd.prog 30 #[.pointer (some ⟨r, 0, none⟩), .pointer (some ⟨o, 0, none⟩)] u w fun e u' w' => u' = u ∧ (e = .returned (.tuple #[]) ∧ Rows w0 w' l) := by
  rcases h with rfl | ⟨g, rfl, h⟩
  · have HR := Lib.hid R
    clear R
    go_enter_d Tryd.func30, Tryd.ntmps30
    go_wp2
    go_end0
    exact ⟨rfl, HR.out⟩
  · have hf : w.cell? ⟨g, 2, none⟩ = some (.bool false) := cell_of_row w g 2 _ _ _ (R.row _ h).2
    have ff : w.frozen? ⟨g, 2, none⟩ = false := frozen_of_row w g 2 _ _ (R.row _ h).2
    have HF : Hid (Rows w0 (w.drew.setCell ⟨g, 2, none⟩ (.bool false)) l) := Lib.hid (R.drew.setSame h rfl)
    clear h R
    go_enter_d Tryd.func30, Tryd.ntmps30
    go_wp2
    go_still_tail 10, (by kernel_rfl)
    change wpList _ _ _ _ _ w.drew
    generalize hW : w.drew = W at *
    have hf2 := (show W.cell? ⟨g, 2, none⟩ = w.cell? ⟨g, 2, none⟩ by rw [← hW]; rfl).trans hf
    have ff2 : W.frozen? ⟨g, 2, none⟩ = false := by rw [← hW]; exact ff
    clear hW
    go_wp2
    go_end0
    exact ⟨rfl, HF.out⟩
theorem settleNS (R : Rows w0 w l) (h : NoRd p l) (r o : Nat) (ok : Bool) (h1 : w.cell? ⟨r, 0, none⟩ = some (.pointer p)) (h2 : w.cell? ⟨o, 0, none⟩ = some (.bool ok)) (u : FrameMode) :
    CallsD Tryd.prog 31 #[.pointer (some ⟨r, 0, none⟩), .pointer (some ⟨o, 0, none⟩)] u w fun e u' w' => u' = u ∧ (e = .returned (.tuple #[]) ∧ Rows w0 w' l) := by
  rcases h with rfl | ⟨g, rfl, h⟩
  · have HR := Lib.hid R
    clear R
    go_enter_d Tryd.func31, Tryd.ntmps31
    go_wp2
    go_end0
    exact ⟨rfl, HR.out⟩
  · have hf : w.cell? ⟨g, 2, none⟩ = some (.bool false) := cell_of_row w g 2 _ _ _ (R.row _ h).2
    have ff : w.frozen? ⟨g, 2, none⟩ = false := frozen_of_row w g 2 _ _ (R.row _ h).2
    have HF : Hid (Rows w0 (w.drew.setCell ⟨g, 2, none⟩ (.bool false)) l) := Lib.hid (R.drew.setSame h rfl)
    clear h R
    go_enter_d Tryd.func31, Tryd.ntmps31
    go_wp2
    go_still_tail 10, (by kernel_rfl)
    change wpList _ _ _ _ _ w.drew
    generalize hW : w.drew = W at *
    have hf2 := (show W.cell? ⟨g, 2, none⟩ = w.cell? ⟨g, 2, none⟩ by rw [← hW]; rfl).trans hf
    have ff2 : W.frozen? ⟨g, 2, none⟩ = false := by rw [← hW]; exact ff
    clear hW
    go_wp2
    go_end0
    exact ⟨rfl, HF.out⟩
theorem takeN (R : Rows w0 w l) (h : NoRd p l) (may : Bool) (n : Int) (C : Value) :
    Calls Tryd.prog 23 #[.pointer p, .bool may, .int .i64 n, C] w fun e w' => e = .returned (.int .u64 0) ∧ Rows w0 w' l := by
  have hmf : ∀ (fn : Fn) (first cap : Array Value) (w : World), (Instr.makeFunc fn first cap).run Tryd.prog w = .ok (.func fn first cap) w := fun _ _ _ _ => rfl
  obtain ⟨W, hW⟩ : ∃ W, W = (w.alloc (.cells #[.pointer p] 39)).alloc (.cells #[.bool false] 4) := ⟨_, rfl⟩
  have hB := (R.alloc #[.pointer p] 39).alloc #[.bool false] 4
  rw [← hW, show (w.alloc (.cells #[.pointer p] 39)).heap.size = w.heap.size + 1 by simp] at hB
  have HB := Lib.hid hB
  have HN := Lib.hid ((h.cons (x := (w.heap.size, #[.pointer p], 39))).cons (x := (w.heap.size + 1, #[.bool false], 4)))
  have HW := Lib.hid hW
  clear hW hB h R
  go_enter_defers Tryd.func23, Tryd.ntmps23
  go_wp2_with fail
  rw [← HW.out]
  refine wk_region_since (by kernel_rfl) (by kernel_rfl) ?_
  refine wk_load1 _ _ _ _ _ rfl (by kernel_rfl) rfl rfl (fun w' hC => hC.cell (HB.out.cell 1 0 rfl rfl)) Tryd.underlying39 ?_
  simp only [Act.put, List.setIfInBounds_toArray, List.set_cons_zero, List.set_cons_succ]
  refine wk_call 14 _ _ _ _ _ (by kernel_rfl) rfl Tryd.func14 rfl (by kernel_rfl) (fun w' hC => hC.same (rfine_no (HB.out.since hC) HN.out)) ?_
  simp only [Act.put, List.setIfInBounds_toArray, List.set_cons_zero, List.set_cons_succ]
  repeat (first
    | (refine wk_move _ (by first | exact wanted_none rfl | exact wanted_yes _ _ rfl rfl) rfl ?_; simp only [Act.put, Act.eval, Array.getD_eq_getD_getElem?, List.getElem?_toArray, List.getElem?_cons_succ, List.getElem?_cons_zero, Option.getD_some, List.setIfInBounds_toArray, List.set_cons_zero, List.set_cons_succ])
    | (refine wk_assign _ (by first | exact wanted_none rfl | exact wanted_yes _ _ rfl rfl) rfl ?_; simp only [Act.put, Act.eval, Array.getD_eq_getD_getElem?, List.getElem?_toArray, List.getElem?_cons_succ, List.getElem?_cons_zero, Option.getD_some, List.setIfInBounds_toArray, List.set_cons_zero, List.set_cons_succ])
    | (refine wk_pickt _ _ _ _ (by first | exact wanted_none rfl | exact wanted_yes _ _ rfl rfl) rfl rfl rfl ?_; simp only [Act.put, Act.eval, Array.getD_eq_getD_getElem?, List.getElem?_toArray, List.getElem?_cons_succ, List.getElem?_cons_zero, Option.getD_some, List.setIfInBounds_toArray, List.set_cons_zero, List.set_cons_succ])
    | (refine wk_pickf _ _ _ _ (by first | exact wanted_none rfl | exact wanted_yes _ _ rfl rfl) rfl rfl rfl ?_; simp only [Act.put, Act.eval, Array.getD_eq_getD_getElem?, List.getElem?_toArray, List.getElem?_cons_succ, List.getElem?_cons_zero, Option.getD_some, List.setIfInBounds_toArray, List.set_cons_zero, List.set_cons_succ])
    | (refine wk_skip (wanted_not _ true false rfl rfl rfl) ?_; simp only [Act.put, List.setIfInBounds_toArray, List.set_cons_zero, List.set_cons_succ])
    | (refine wk_skip (wanted_not _ false true rfl rfl rfl) ?_; simp only [Act.put, List.setIfInBounds_toArray, List.set_cons_zero, List.set_cons_succ])
    | (refine wk_skip (wanted_undef _ _ rfl rfl) ?_; simp only [Act.put, List.setIfInBounds_toArray, List.set_cons_zero, List.set_cons_succ])
    | (refine wk_not true _ _ (by first | exact wanted_none rfl | exact wanted_yes _ _ rfl rfl) rfl rfl ?_; simp only [Act.put, List.setIfInBounds_toArray, List.set_cons_zero, List.set_cons_succ])
    | (refine wk_not false _ _ (by first | exact wanted_none rfl | exact wanted_yes _ _ rfl rfl) rfl rfl ?_; simp only [Act.put, List.setIfInBounds_toArray, List.set_cons_zero, List.set_cons_succ]))
  refine wk_nil ?_
  intro w' hC
  have R2 := Lib.hid (HB.out.since hC)
  clear hC
  go_wp2_with fail
  refine leaves_cons (f := 30) (args := #[.pointer (some ⟨w.heap.size, 0, none⟩), .pointer (some ⟨w.heap.size + 1, 0, none⟩)]) (by simp) (by simp [go_sem]) ?_
  refine (settleN R2.out HN.out w.heap.size (w.heap.size + 1) false (R2.out.cell 1 0 rfl rfl) (R2.out.cell 0 0 rfl rfl) .returning).mono ?_
  rintro e u' w2 ⟨rfl, rfl, hr2⟩
  exact ⟨_, results_tmp rfl _ _ _, rfl, hr2.drop 2⟩
theorem takeNS (R : Rows w0 w l) (h : NoRd p l) (may : Bool) (n : Int) (C : Value) :
    Calls Tryd.prog 25 #[.pointer p, .bool may, .int .i64 n, C] w fun e w' => e = .returned (.string ⟨#[]⟩) ∧ Rows w0 w' l := by
  have hmf : ∀ (fn : Fn) (first cap : Array Value) (w : World), (Instr.makeFunc fn first cap).run Tryd.prog w = .ok (.func fn first cap) w := fun _ _ _ _ => rfl
  obtain ⟨W, hW⟩ : ∃ W, W = (w.alloc (.cells #[.pointer p] 39)).alloc (.cells #[.bool false] 4) := ⟨_, rfl⟩
  have hB := (R.alloc #[.pointer p] 39).alloc #[.bool false] 4
  rw [← hW, show (w.alloc (.cells #[.pointer p] 39)).heap.size = w.heap.size + 1 by simp] at hB
  have HB := Lib.hid hB
  have HN := Lib.hid ((h.cons (x := (w.heap.size, #[.pointer p], 39))).cons (x := (w.heap.size + 1, #[.bool false], 4)))
  have HW := Lib.hid hW
  clear hW hB h R
  go_enter_defers Tryd.func25, Tryd.ntmps25
  go_wp2_with fail
  rw [← HW.out]
  refine wk_region_since (by kernel_rfl) (by kernel_rfl) ?_
  refine wk_load1 _ _ _ _ _ rfl (by kernel_rfl) rfl rfl (fun w' hC => hC.cell (HB.out.cell 1 0 rfl rfl)) Tryd.underlying39 ?_
  simp only [Act.put, List.setIfInBounds_toArray, List.set_cons_zero, List.set_cons_succ]
  refine wk_call 14 _ _ _ _ _ (by kernel_rfl) rfl Tryd.func14 rfl (by kernel_rfl) (fun w' hC => hC.same (rfine_no (HB.out.since hC) HN.out)) ?_
  simp only [Act.put, List.setIfInBounds_toArray, List.set_cons_zero, List.set_cons_succ]
  repeat (first
    | (refine wk_move _ (by first | exact wanted_none rfl | exact wanted_yes _ _ rfl rfl) rfl ?_; simp only [Act.put, Act.eval, Array.getD_eq_getD_getElem?, List.getElem?_toArray, List.getElem?_cons_succ, List.getElem?_cons_zero, Option.getD_some, List.setIfInBounds_toArray, List.set_cons_zero, List.set_cons_succ])
    | (refine wk_assign _ (by first | exact wanted_none rfl | exact wanted_yes _ _ rfl rfl) rfl ?_; simp only [Act.put, Act.eval, Array.getD_eq_getD_getElem?, List.getElem?_toArray, List.getElem?_cons_succ, List.getElem?_cons_zero, Option.getD_some, List.setIfInBounds_toArray, List.set_cons_zero, List.set_cons_succ])
    | (refine wk_pickt _ _ _ _ (by first | exact wanted_none rfl | exact wanted_yes _ _ rfl rfl) rfl rfl rfl ?_; simp only [Act.put, Act.eval, Array.getD_eq_getD_getElem?, List.getElem?_toArray, List.getElem?_cons_succ, List.getElem?_cons_zero, Option.getD_some, List.setIfInBounds_toArray, List.set_cons_zero, List.set_cons_succ])
    | (refine wk_pickf _ _ _ _ (by first | exact wanted_none rfl | exact wanted_yes _ _ rfl rfl) rfl rfl rfl ?_; simp only [Act.put, Act.eval, Array.getD_eq_getD_getElem?, List.getElem?_toArray, List.getElem?_cons_succ, List.getElem?_cons_zero, Option.getD_some, List.setIfInBounds_toArray, List.set_cons_zero, List.set_cons_succ])
    | (refine wk_skip (wanted_not _ true false rfl rfl rfl) ?_; simp only [Act.put, List.setIfInBounds_toArray, List.set_cons_zero, List.set_cons_succ])
    | (refine wk_skip (wanted_not _ false true rfl rfl rfl) ?_; simp only [Act.put, List.setIfInBounds_toArray, List.set_cons_zero, List.set_cons_succ])
    | (refine wk_skip (wanted_undef _ _ rfl rfl) ?_; simp only [Act.put, List.setIfInBounds_toArray, List.set_cons_zero, List.set_cons_succ])
    | (refine wk_not true _ _ (by first | exact wanted_none rfl | exact wanted_yes _ _ rfl rfl) rfl rfl ?_; simp only [Act.put, List.setIfInBounds_toArray, List.set_cons_zero, List.set_cons_succ])
    | (refine wk_not false _ _ (by first | exact wanted_none rfl | exact wanted_yes _ _ rfl rfl) rfl rfl ?_; simp only [Act.put, List.setIfInBounds_toArray, List.set_cons_zero, List.set_cons_succ]))
  refine wk_nil ?_
  intro w' hC
  have R2 := Lib.hid (HB.out.since hC)
  clear hC
  go_wp2_with fail
  refine leaves_cons (f := 31) (args := #[.pointer (some ⟨w.heap.size, 0, none⟩), .pointer (some ⟨w.heap.size + 1, 0, none⟩)]) (by simp) (by simp [go_sem]) ?_
  refine (settleNS R2.out HN.out w.heap.size (w.heap.size + 1) false (R2.out.cell 1 0 rfl rfl) (R2.out.cell 0 0 rfl rfl) .returning).mono ?_
  rintro e u' w2 ⟨rfl, rfl, hr2⟩
  exact ⟨_, results_tmp rfl _ _ _, rfl, hr2.drop 2⟩
theorem rnum_none (R : Rows w0 w l) (h : NoRd p l) (n : Int) : Calls Tryd.prog 12 #[.pointer p, .int .i64 n] w fun e w' => e = .returned (.int .u64 0) ∧ Rows w0 w' l := by
  have HR := Lib.hid R
  have HN := Lib.hid h
  clear R h
  go_enter Tryd.func12, Tryd.ntmps12
  go_wp2_with (go_at_call 22; refine (width_all n _).mono ?_; rintro e w1 ⟨rfl, rfl⟩)
  refine (takeN HR.out HN.out _ _ _).mono ?_
  rintro e w1 ⟨rfl, hr1⟩
  have HR1 := Lib.hid hr1
  clear hr1
  go_wp2_with fail
  go_ret
  exact ⟨rfl, HR1.out⟩
theorem rtext_none (R : Rows w0 w l) (h : NoRd p l) (n : Int) : Calls Tryd.prog 13 #[.pointer p, .int .i64 n] w fun e w' => e = .returned (.string ⟨#[]⟩) ∧ Rows w0 w' l := by
  have hmf : ∀ (fn : Fn) (first cap : Array Value) (w : World), (Instr.makeFunc fn first cap).run Tryd.prog w = .ok (.func fn first cap) w := fun _ _ _ _ => rfl
  obtain ⟨W, hW⟩ : ∃ W, W = w.alloc (.cells #[.int .i64 n] 3) := ⟨_, rfl⟩
  obtain ⟨gm, hgm⟩ : ∃ gm, gm = w.heap.size := ⟨_, rfl⟩
  have hB := R.alloc #[.int .i64 n] 3
  rw [← hW, ← hgm] at hB
  have HB := Lib.hid hB
  have HN := Lib.hid (h.cons (x := (gm, #[.int .i64 n], 3)))
  have HW := Lib.hid hW
  have HG := Lib.hid hgm
  have c0 := hB.cell 0 0 rfl rfl
  clear hW hgm hB h R
  go_enter Tryd.func13, Tryd.ntmps13
  go_upto_region 1 with (fail)
  rw [← HW.out, ← HG.out]
  go_wp2_with fail
  all_goals
    refine (takeNS HB.out HN.out _ _ _).mono ?_
    rintro e w1 ⟨rfl, hr1⟩
    have HR1 := Lib.hid hr1
    clear hr1
    go_wp2_with fail
    go_ret
    exact ⟨rfl, HR1.out.drop 1⟩
theorem rend_none (R : Rows w0 w l) (h : NoRd p l) : Calls Tryd.prog 15 #[.pointer p] w fun e w' => e = .returned (.int .i64 250) ∧ Below w.heap.size w w' := by
  have HR := Lib.hid R
  have HN := Lib.hid h
  clear R h
  go_enter Tryd.func15, Tryd.ntmps15
  go_wp2_with fail
  refine wk_region_since (by kernel_rfl) (by kernel_rfl) ?_
  repeat (first
    | (refine wk_move _ (by first | exact wanted_none rfl | exact wanted_yes _ _ rfl rfl) rfl ?_; simp only [Act.put, Act.eval, Array.getD_eq_getD_getElem?, List.getElem?_toArray, List.getElem?_cons_succ, List.getElem?_cons_zero, Option.getD_some, List.setIfInBounds_toArray, List.set_cons_zero, List.set_cons_succ])
    | (refine wk_assign _ (by first | exact wanted_none rfl | exact wanted_yes _ _ rfl rfl) rfl ?_; simp only [Act.put, Act.eval, Array.getD_eq_getD_getElem?, List.getElem?_toArray, List.getElem?_cons_succ, List.getElem?_cons_zero, Option.getD_some, List.setIfInBounds_toArray, List.set_cons_zero, List.set_cons_succ])
    | (refine wk_pickt _ _ _ _ (by first | exact wanted_none rfl | exact wanted_yes _ _ rfl rfl) rfl rfl rfl ?_; simp only [Act.put, Act.eval, Array.getD_eq_getD_getElem?, List.getElem?_toArray, List.getElem?_cons_succ, List.getElem?_cons_zero, Option.getD_some, List.setIfInBounds_toArray, List.set_cons_zero, List.set_cons_succ])
    | (refine wk_pickf _ _ _ _ (by first | exact wanted_none rfl | exact wanted_yes _ _ rfl rfl) rfl rfl rfl ?_; simp only [Act.put, Act.eval, Array.getD_eq_getD_getElem?, List.getElem?_toArray, List.getElem?_cons_succ, List.getElem?_cons_zero, Option.getD_some, List.setIfInBounds_toArray, List.set_cons_zero, List.set_cons_succ])
    | (refine wk_skip (wanted_not _ true false rfl rfl rfl) ?_; simp only [Act.put, List.setIfInBounds_toArray, List.set_cons_zero, List.set_cons_succ])
    | (refine wk_skip (wanted_not _ false true rfl rfl rfl) ?_; simp only [Act.put, List.setIfInBounds_toArray, List.set_cons_zero, List.set_cons_succ])
    | (refine wk_skip (wanted_undef _ _ rfl rfl) ?_; simp only [Act.put, List.setIfInBounds_toArray, List.set_cons_zero, List.set_cons_succ])
    | (refine wk_not true _ _ (by first | exact wanted_none rfl | exact wanted_yes _ _ rfl rfl) rfl rfl ?_; simp only [Act.put, List.setIfInBounds_toArray, List.set_cons_zero, List.set_cons_succ])
    | (refine wk_not false _ _ (by first | exact wanted_none rfl | exact wanted_yes _ _ rfl rfl) rfl rfl ?_; simp only [Act.put, List.setIfInBounds_toArray, List.set_cons_zero, List.set_cons_succ]))
  refine wk_call 14 _ _ _ _ _ (by kernel_rfl) rfl Tryd.func14 rfl (by kernel_rfl) (fun w' hC => hC.same (rfine_no (HR.out.since hC) HN.out)) ?_
  simp only [Act.put, List.setIfInBounds_toArray, List.set_cons_zero, List.set_cons_succ]
  repeat (first
    | (refine wk_move _ (by first | exact wanted_none rfl | exact wanted_yes _ _ rfl rfl) rfl ?_; simp only [Act.put, Act.eval, Array.getD_eq_getD_getElem?, List.getElem?_toArray, List.getElem?_cons_succ, List.getElem?_cons_zero, Option.getD_some, List.setIfInBounds_toArray, List.set_cons_zero, List.set_cons_succ])
    | (refine wk_assign _ (by first | exact wanted_none rfl | exact wanted_yes _ _ rfl rfl) rfl ?_; simp only [Act.put, Act.eval, Array.getD_eq_getD_getElem?, List.getElem?_toArray, List.getElem?_cons_succ, List.getElem?_cons_zero, Option.getD_some, List.setIfInBounds_toArray, List.set_cons_zero, List.set_cons_succ])
    | (refine wk_pickt _ _ _ _ (by first | exact wanted_none rfl | exact wanted_yes _ _ rfl rfl) rfl rfl rfl ?_; simp only [Act.put, Act.eval, Array.getD_eq_getD_getElem?, List.getElem?_toArray, List.getElem?_cons_succ, List.getElem?_cons_zero, Option.getD_some, List.setIfInBounds_toArray, List.set_cons_zero, List.set_cons_succ])
    | (refine wk_pickf _ _ _ _ (by first | exact wanted_none rfl | exact wanted_yes _ _ rfl rfl) rfl rfl rfl ?_; simp only [Act.put, Act.eval, Array.getD_eq_getD_getElem?, List.getElem?_toArray, List.getElem?_cons_succ, List.getElem?_cons_zero, Option.getD_some, List.setIfInBounds_toArray, List.set_cons_zero, List.set_cons_succ])
    | (refine wk_skip (wanted_not _ true false rfl rfl rfl) ?_; simp only [Act.put, List.setIfInBounds_toArray, List.set_cons_zero, List.set_cons_succ])
    | (refine wk_skip (wanted_not _ false true rfl rfl rfl) ?_; simp only [Act.put, List.setIfInBounds_toArray, List.set_cons_zero, List.set_cons_succ])
    | (refine wk_skip (wanted_undef _ _ rfl rfl) ?_; simp only [Act.put, List.setIfInBounds_toArray, List.set_cons_zero, List.set_cons_succ])
    | (refine wk_not true _ _ (by first | exact wanted_none rfl | exact wanted_yes _ _ rfl rfl) rfl rfl ?_; simp only [Act.put, List.setIfInBounds_toArray, List.set_cons_zero, List.set_cons_succ])
    | (refine wk_not false _ _ (by first | exact wanted_none rfl | exact wanted_yes _ _ rfl rfl) rfl rfl ?_; simp only [Act.put, List.setIfInBounds_toArray, List.set_cons_zero, List.set_cons_succ]))
  refine wk_nil ?_
  intro w' hC
  have HC := Lib.hid hC
  clear hC
  go_wp2_with fail
  go_ret
  exact ⟨rfl, HC.out⟩
end
end Go.Proofs.YtnfmdcohacflmaaDoor
