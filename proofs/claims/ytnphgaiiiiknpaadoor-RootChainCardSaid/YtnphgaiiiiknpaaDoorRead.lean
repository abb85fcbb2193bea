/- The field layer's reader: what a reader is; the closure that reads a number. The field layer's reader: Fine; the deferred closure of take. The field layer's reader: take, at numbers. -/
import Derived.Test.YtnphgaiiiiknpaaDoorFieldMath
import Derived.Test.YtnphgaiiiiknpaaDoorGood
import Derived.Test.YtnphgaiiiiknpaaDoorQuiet
import Derived.OwnWalk
import Derived.Laws.BitsAllLaws
import Derived.Defers
import Derived.StillTailTactics
namespace Go.Proofs.YtnphgaiiiiknpaaDoor
open Go.RowKit
set_option linter.unusedSimpArgs false
set_option maxRecDepth 100000
theorem num_take_succ (l : List UInt8) (k : Nat) (h : k < l.length) : num (l.take (k + 1)) = num (l.take k) + 256 ^ k * l[k].toNat := by
  rw [List.take_succ_eq_append_getElem h, num_snoc, List.length_take, Nat.min_eq_left (by omega)]
theorem num_take_lt (l : List UInt8) (k : Nat) (h : k ≤ l.length) : num (l.take k) < 256 ^ k := by
  have := num_lt (l.take k)
  rwa [List.length_take, Nat.min_eq_left h] at this
theorem or_step (x y k : Nat) (hx : x < 256 ^ k) (hy : y < 256) (hk : k < 8) : bits BinOp.or IntKind.u64 (x : Int) (IntKind.u64.wrap ((y : Int) * 2 ^ (8 * k))) = ((x + 256 ^ k * y : Nat) : Int) := by
  have e : (256 : Nat) ^ k = 2 ^ (8 * k) := by rw [show 256 = 2 ^ 8 from rfl, ← Nat.pow_mul]
  have hle : 2 ^ (8 * k) * 256 ≤ 18446744073709551616 := by
    have : 2 ^ (8 * k) * 256 = 2 ^ (8 * k + 8) := by rw [Nat.pow_add]
    rw [this]
    exact Nat.le_trans (Nat.pow_le_pow_right (by omega) (by omega : 8 * k + 8 ≤ 64)) (by decide)
  rw [e] at hx ⊢
  have hlt : y * 2 ^ (8 * k) < 18446744073709551616 := by
    have : y * 2 ^ (8 * k) ≤ 255 * 2 ^ (8 * k) := Nat.mul_le_mul_right _ (by omega)
    have h0 : 0 < 2 ^ (8 * k) := Nat.two_pow_pos _
    omega
  have hw : IntKind.u64.wrap ((y : Int) * 2 ^ (8 * k)) = ((y * 2 ^ (8 * k) : Nat) : Int) := by
    have : ((y : Int) * 2 ^ (8 * k)) = ((y * 2 ^ (8 * k) : Nat) : Int) := by simp
    rw [this, IntKind.wrap_u64]
    omega
  have hxl : x < 18446744073709551616 := by omega
  rw [hw, u64_or_nat _ _ hxl hlt, Nat.or_comm, Nat.mul_comm y, ← Nat.two_pow_add_eq_or_of_lt hx, Nat.add_comm]
theorem readnum_any (w : World) (gb off n c : Nat) (l : List UInt8) (hl : l.length = n) (hn : n ≤ 8) (hc : ∀ i, i < n → w.cell? ⟨gb, off + i, none⟩ = l[i]?.map vu8) :
    Calls Tryd.prog 74 #[.slice (some ⟨gb, off, none⟩) n c] w fun e w' => e = .returned (.tuple #[.int .u64 (num l : Int), .bool true]) ∧ w = w' := by
  have HC := Lib.hid hc
  have HL := Lib.hid hl
  clear hc hl
  go_enter Tryd.func74, Tryd.ntmps74
  go_wp2_with fail
  go_loop [7, 2] (fun i x => ∃ k : Nat, k ≤ n ∧ i = .int .i64 k ∧ x = .int .u64 (num (l.take k) : Int)) (fun i _ => n - (intOf i).toNat)
  case atStart => exact ⟨0, by omega, rfl, rfl⟩
  case round =>
    obtain ⟨k, hk, rfl, rfl⟩ := hrel
    by_cases hlt : k < n
    · have hkl : k < l.length := by rw [HL.out]; exact hlt
      have h1 : w.cell? ⟨gb, off + k, none⟩ = some (.int .u8 (l[k].toNat : Int)) := by rw [HC.out k hlt, List.getElem?_eq_getElem hkl]; rfl
      have hns := num_take_succ l k hkl
      have hnl := num_take_lt l k (by omega)
      obtain ⟨x, hx⟩ : ∃ x, x = num (l.take k) := ⟨_, rfl⟩
      obtain ⟨y, hy⟩ : ∃ y, y = l[k].toNat := ⟨_, rfl⟩
      have hy8 : y < 256 := by rw [hy]; exact l[k].toNat_lt
      rw [← hx] at hns hnl ⊢
      rw [← hy] at hns h1
      have HNS := Lib.hid hns
      have HNL := Lib.hid hnl
      clear hns hnl hx hy
      go_wp2_with fail
      go_round
      case rel => exact ⟨k + 1, by omega, by go_num, by rw [or_step x y k HNL.out hy8 (by omega), HNS.out]⟩
      case measure => simp [intOf]; omega
    · obtain rfl : k = n := by omega
      have HT : Hid (l.take k = l) := Lib.hid (List.take_of_length_le (by rw [HL.out]; omega))
      rw [HT.out]
      go_wp2_with fail
      go_ret2
      exact ⟨rfl, rfl⟩
end Go.Proofs.YtnphgaiiiiknpaaDoor
namespace Go.Proofs.YtnphgaiiiiknpaaDoor
open Go.RowKit
set_option linter.unusedSimpArgs false
set_option maxRecDepth 100000
/-- A reader lies in block g, its bytes in block gb: where it is, whether it has not failed. -/
structure ReaderAt (w : World) (g gb : Nat) (b : List UInt8) (i : Nat) (fine : Bool) : Prop where
  row : w.heap[g]? = some (.cells #[.slice (some ⟨gb, 0, none⟩) 252 256, .int .i64 (i : Int), .bool fine] 124 (0, 0))
  src : w.heap[gb]? = some (.cells (blk b) 45 (0, 0))
  len : b.length = 256
  lt : i ≤ 252
  ne : g ≠ gb
theorem fine_any (w : World) (g gb : Nat) (b : List UInt8) (i : Nat) (fine : Bool) (hr : ReaderAt w g gb b i fine) : Calls Tryd.prog 75 #[.pointer (some ⟨g, 0, none⟩)] w fun e w' => e = .returned (.bool fine) ∧ w = w' := by
  have h2 : w.cell? ⟨g, 2, none⟩ = some (.bool fine) := cell_of_row w g 2 _ _ _ hr.row
  clear hr
  go_enter Tryd.func75, Tryd.ntmps75
  go_wp2
  go_ret
  exact ⟨rfl, rfl⟩
theorem reader_set {w : World} {g gb : Nat} {b : List UInt8} {i : Nat} {fine : Bool} (hr : ReaderAt w g gb b i fine) (f : Bool) :
    ReaderAt (w.drew.setCell ⟨g, 2, none⟩ (.bool f)) g gb b i f ∧ w.grownBy (w.drew.setCell ⟨g, 2, none⟩ (.bool f)) (some g) := by
  refine ⟨⟨?_, ?_, hr.len, hr.lt, hr.ne⟩, ⟨rfl, rfl, rfl, by simp [World.setCell], fun k _ hne => ?_⟩⟩
  · exact heap_setCell_same w.drew g 2 _ _ _ hr.row
  · rw [heap_setCell_other _ _ _ _ (fun e => hr.ne e.symm)]; exact hr.src
  · rw [heap_setCell_other _ _ _ _ (fun e => hne (by rw [e]))]; rfl
/-- The deferred closure: the reader is fine if it was, and ok is. -/
theorem settle_any (w : World) (g gb : Nat) (b : List UInt8) (i : Nat) (fine ok : Bool) (r o : Nat) (hr : ReaderAt w g gb b i fine) (h1 : w.cell? ⟨r, 0, none⟩ = some (.pointer (some ⟨g, 0, none⟩))) (h2 : w.cell? ⟨o, 0, none⟩ = some (.bool ok)) (u : FrameMode) :
    CallsD Tryd.prog 79 #[.pointer (some ⟨r, 0, none⟩), .pointer (some ⟨o, 0, none⟩)] u w fun e u' w' => u' = u ∧ (e = .returned (.tuple #[]) ∧ ReaderAt w' g gb b i (fine && ok) ∧ w.grownBy w' (some g)) := by
  have hf : w.cell? ⟨g, 2, none⟩ = some (.bool fine) := cell_of_row w g 2 _ _ _ hr.row
  have ff : w.frozen? ⟨g, 2, none⟩ = false := frozen_of_row w g 2 _ _ hr.row
  have HR := Lib.hid hr
  have HF : Hid (ReaderAt (w.drew.setCell ⟨g, 2, none⟩ (.bool (fine && ok))) g gb b i (fine && ok) ∧ w.grownBy (w.drew.setCell ⟨g, 2, none⟩ (.bool (fine && ok))) (some g)) := Lib.hid (reader_set hr _)
  clear hr
  cases fine <;> cases ok
  all_goals
    go_enter_d Tryd.func79, Tryd.ntmps79
    go_wp2
    go_still_tail 10, (by kernel_rfl)
    change wpList _ _ _ _ _ w.drew
    generalize hW : w.drew = W at *
    have hf2 := (show W.cell? ⟨g, 2, none⟩ = w.cell? ⟨g, 2, none⟩ by rw [← hW]; rfl).trans hf
    have ff2 : W.frozen? ⟨g, 2, none⟩ = false := by rw [← hW]; exact ff
    clear hW
    go_wp2
    go_end0
    exact ⟨rfl, HF.out.1, HF.out.2⟩
end Go.Proofs.YtnphgaiiiiknpaaDoor
namespace Go.Proofs.YtnphgaiiiiknpaaDoor
open Go.RowKit
set_option linter.unusedSimpArgs false
set_option maxRecDepth 100000
theorem ReaderAt.below {w w' : World} {g gb : Nat} {b : List UInt8} {i : Nat} {fine : Bool} (h : ReaderAt w g gb b i fine) (hb : Below w.heap.size w w') : ReaderAt w' g gb b i fine :=
  ⟨(hb.block g (Array.getElem?_eq_some_iff.1 h.row).1).trans h.row, (hb.block gb (Array.getElem?_eq_some_iff.1 h.src).1).trans h.src, h.len, h.lt, h.ne⟩
theorem grown_trans2 {a b c : World} {row : Option Nat} (h : a.grownBy b row) (h' : b.grownBy c row) : a.grownBy c row :=
  ⟨h'.os.trans h.os, h'.tape.trans h.tape, h'.output.trans h.output, Nat.le_trans h.size h'.size, fun k hk hne => by
    have hs := h.size
    rw [h'.block k (by omega) hne, h.block k hk hne]⟩
theorem grown_below {a b c : World} {row : Option Nat} (h : a.grownBy b row) (h' : Below b.heap.size b c) : a.grownBy c row :=
  grown_trans2 h ⟨h'.os, h'.tape, h'.output, h'.size, fun k hk _ => h'.block k hk⟩
set_option maxHeartbeats 1000000 in
theorem take_fail (w : World) (g gb : Nat) (b : List UInt8) (i n : Nat) (fine may : Bool) (hr : ReaderAt w g gb b i fine) (_hn : n ≤ 256) (hf : (fine && (may && decide (i + n ≤ 252))) = false) :
    Calls Tryd.prog 73 #[.pointer (some ⟨g, 0, none⟩), .bool may, .int .i64 (n : Int), .func (.func 74) #[] #[]] w fun e w' => e = .returned (.int .u64 0) ∧ ReaderAt w' g gb b i false ∧ w.grownBy w' (some g) := by
  have hmf : ∀ (fn : Fn) (first cap : Array Value) (w : World), (Instr.makeFunc fn first cap).run Tryd.prog w = .ok (.func fn first cap) w := fun _ _ _ _ => rfl
  obtain ⟨W, hW⟩ : ∃ W, W = (w.alloc (.cells #[.pointer (some ⟨g, 0, none⟩)] 113)).alloc (.cells #[.bool false] 4) := ⟨_, rfl⟩
  have hB : Below w.heap.size w W := by rw [hW]; exact ((Below.refl _ _).alloc (Nat.le_refl _) _).alloc (by simp) _
  have hgr : w.grownBy W (some g) := by rw [hW]; exact grown_trans2 (World.grownBy_alloc _ _ _) (World.grownBy_alloc _ _ _)
  have q1 : W.cell? ⟨w.heap.size, 0, none⟩ = some (.pointer (some ⟨g, 0, none⟩)) := by rw [hW, cell_of_row _ _ 0 _ _ _ (heap_alloc2_old _ _ _)]; rfl
  have q2 : W.cell? ⟨w.heap.size + 1, 0, none⟩ = some (.bool false) := by rw [hW, cell_of_row _ _ 0 _ _ _ (heap_alloc2_new _ _ _)]; rfl
  have HR := Lib.hid (hr.below hB)
  have HW := Lib.hid hW
  have HGR := Lib.hid hgr
  have Q1 := Lib.hid q1
  have Q2 := Lib.hid q2
  have hi := hr.lt
  have R0 : Hid (W.cell? ⟨g, 0, none⟩ = _) := Lib.hid (cell_of_row W g 0 _ _ _ HR.out.row)
  have R1 : Hid (W.cell? ⟨g, 1, none⟩ = _) := Lib.hid (cell_of_row W g 1 _ _ _ HR.out.row)
  have hs : W.heap.size = w.heap.size + 2 := by rw [hW]; simp
  have HS := Lib.hid hs
  clear hW hB hgr q1 q2 hr hs
  cases fine with
  | false =>
    clear hf
    go_enter_defers Tryd.func73, Tryd.ntmps73
    go_wp2_with fail
    rw [← HW.out]
    refine wk_region_since (by kernel_rfl) (by kernel_rfl) ?_
    refine wk_load1 _ _ _ _ _ rfl (by kernel_rfl) rfl rfl (fun w' hC => hC.cell Q1.out) Tryd.underlying113 ?_
    simp only [Act.put, List.setIfInBounds_toArray, List.set_cons_zero, List.set_cons_succ]
    refine wk_call 75 _ _ _ _ _ (by kernel_rfl) rfl Tryd.func75 rfl (by kernel_rfl) (fun w' hC => hC.same (fine_any w' g gb b i false (HR.out.below hC))) ?_
    simp only [Act.put, List.setIfInBounds_toArray, List.set_cons_zero, List.set_cons_succ]
    repeat (first
      | (refine wk_move _ (by first | exact wanted_none rfl | exact wanted_yes _ _ rfl rfl) rfl ?_; simp only [Act.put, Act.eval, Array.getD_eq_getD_getElem?, List.getElem?_toArray, List.getElem?_cons_succ, List.getElem?_cons_zero, Option.getD_some, List.setIfInBounds_toArray, List.set_cons_zero, List.set_cons_succ])
      | (refine wk_assign _ (by first | exact wanted_none rfl | exact wanted_yes _ _ rfl rfl) rfl ?_; simp only [Act.put, Act.eval, Array.getD_eq_getD_getElem?, List.getElem?_toArray, List.getElem?_cons_succ, List.getElem?_cons_zero, Option.getD_some, List.setIfInBounds_toArray, List.set_cons_zero, List.set_cons_succ])
      | (refine wk_pickt _ _ _ _ (by first | exact wanted_none rfl | exact wanted_yes _ _ rfl rfl) rfl rfl rfl ?_; simp only [Act.put, Act.eval, Array.getD_eq_getD_getElem?, List.getElem?_toArray, List.getElem?_cons_succ, List.getElem?_cons_zero, Option.getD_some, List.setIfInBounds_toArray, List.set_cons_zero, List.set_cons_succ])
      | (refine wk_pickf _ _ _ _ (by first | exact wanted_none rfl | exact wanted_yes _ _ rfl rfl) rfl rfl rfl ?_; simp only [Act.put, Act.eval, Array.getD_eq_getD_getElem?, List.getElem?_toArray, List.getElem?_cons_succ, List.getElem?_cons_zero, Option.getD_some, List.setIfInBounds_toArray, List.set_cons_zero, List.set_cons_succ])
      | (refine wk_skip (wanted_not _ true false rfl rfl rfl) ?_; simp only [Act.put, List.setIfInBounds_toArray, List.set_cons_zero, List.set_cons_succ])
      | (refine wk_skip (wanted_not _ false true rfl rfl rfl) ?_; simp only [Act.put, List.setIfInBounds_toArray, List.set_cons_zero, List.set_cons_succ])
      | (refine wk_skip (wanted_undef _ _ rfl rfl) ?_; simp only [Act.put, List.setIfInBounds_toArray, List.set_cons_zero, List.set_cons_succ])
      | (refine wk_not true _ _ (by first | exact wanted_none rfl | exact wanted_yes _ _ rfl rfl) rfl rfl ?_; simp only [Act.put, List.setIfInBounds_toArray, List.set_cons_zero, List.set_cons_succ])
      | (refine wk_not false _ _ (by first | exact wanted_none rfl | exact wanted_yes _ _ rfl rfl) rfl rfl ?_; simp only [Act.put, List.setIfInBounds_toArray, List.set_cons_zero, List.set_cons_succ]))
    refine wk_nil ?_
    intro w' hC
    have H1 := hC.cell Q1.out
    have H2 := hC.cell Q2.out
    have HR2 := Lib.hid (HR.out.below hC)
    have HG2 := Lib.hid (grown_below HGR.out hC)
    clear hC
    go_wp2_with fail
    refine leaves_cons (f := 79) (args := #[.pointer (some ⟨w.heap.size, 0, none⟩), .pointer (some ⟨w.heap.size + 1, 0, none⟩)]) (by simp) (by simp [go_sem]) ?_
    refine (settle_any _ g gb b i false false w.heap.size (w.heap.size + 1) HR2.out H1 H2 .returning).mono ?_
    rintro e u' w2 ⟨rfl, rfl, hr2, hg2⟩
    rw [Bool.and_false] at hr2
    exact ⟨_, results_tmp rfl _ _ _, rfl, hr2, grown_trans2 HG2.out hg2⟩
  | true =>
    cases may with
    | false =>
      clear hf
      go_enter_defers Tryd.func73, Tryd.ntmps73
      go_wp2_with fail
      rw [← HW.out]
      refine wk_region_since (by kernel_rfl) (by kernel_rfl) ?_
      refine wk_load1 _ _ _ _ _ rfl (by kernel_rfl) rfl rfl (fun w' hC => hC.cell Q1.out) Tryd.underlying113 ?_
      simp only [Act.put, List.setIfInBounds_toArray, List.set_cons_zero, List.set_cons_succ]
      refine wk_call 75 _ _ _ _ _ (by kernel_rfl) rfl Tryd.func75 rfl (by kernel_rfl) (fun w' hC => hC.same (fine_any w' g gb b i true (HR.out.below hC))) ?_
      simp only [Act.put, List.setIfInBounds_toArray, List.set_cons_zero, List.set_cons_succ]
      repeat (first
        | (refine wk_move _ (by first | exact wanted_none rfl | exact wanted_yes _ _ rfl rfl) rfl ?_; simp only [Act.put, Act.eval, Array.getD_eq_getD_getElem?, List.getElem?_toArray, List.getElem?_cons_succ, List.getElem?_cons_zero, Option.getD_some, List.setIfInBounds_toArray, List.set_cons_zero, List.set_cons_succ])
        | (refine wk_assign _ (by first | exact wanted_none rfl | exact wanted_yes _ _ rfl rfl) rfl ?_; simp only [Act.put, Act.eval, Array.getD_eq_getD_getElem?, List.getElem?_toArray, List.getElem?_cons_succ, List.getElem?_cons_zero, Option.getD_some, List.setIfInBounds_toArray, List.set_cons_zero, List.set_cons_succ])
        | (refine wk_pickt _ _ _ _ (by first | exact wanted_none rfl | exact wanted_yes _ _ rfl rfl) rfl rfl rfl ?_; simp only [Act.put, Act.eval, Array.getD_eq_getD_getElem?, List.getElem?_toArray, List.getElem?_cons_succ, List.getElem?_cons_zero, Option.getD_some, List.setIfInBounds_toArray, List.set_cons_zero, List.set_cons_succ])
        | (refine wk_pickf _ _ _ _ (by first | exact wanted_none rfl | exact wanted_yes _ _ rfl rfl) rfl rfl rfl ?_; simp only [Act.put, Act.eval, Array.getD_eq_getD_getElem?, List.getElem?_toArray, List.getElem?_cons_succ, List.getElem?_cons_zero, Option.getD_some, List.setIfInBounds_toArray, List.set_cons_zero, List.set_cons_succ])
        | (refine wk_skip (wanted_not _ true false rfl rfl rfl) ?_; simp only [Act.put, List.setIfInBounds_toArray, List.set_cons_zero, List.set_cons_succ])
        | (refine wk_skip (wanted_not _ false true rfl rfl rfl) ?_; simp only [Act.put, List.setIfInBounds_toArray, List.set_cons_zero, List.set_cons_succ])
        | (refine wk_skip (wanted_undef _ _ rfl rfl) ?_; simp only [Act.put, List.setIfInBounds_toArray, List.set_cons_zero, List.set_cons_succ])
        | (refine wk_not true _ _ (by first | exact wanted_none rfl | exact wanted_yes _ _ rfl rfl) rfl rfl ?_; simp only [Act.put, List.setIfInBounds_toArray, List.set_cons_zero, List.set_cons_succ])
        | (refine wk_not false _ _ (by first | exact wanted_none rfl | exact wanted_yes _ _ rfl rfl) rfl rfl ?_; simp only [Act.put, List.setIfInBounds_toArray, List.set_cons_zero, List.set_cons_succ]))
      refine wk_nil ?_
      intro w' hC
      have H1 := hC.cell Q1.out
      have H2 := hC.cell Q2.out
      have HR2 := Lib.hid (HR.out.below hC)
      have HG2 := Lib.hid (grown_below HGR.out hC)
      clear hC
      go_wp2_with fail
      refine leaves_cons (f := 79) (args := #[.pointer (some ⟨w.heap.size, 0, none⟩), .pointer (some ⟨w.heap.size + 1, 0, none⟩)]) (by simp) (by simp [go_sem]) ?_
      refine (settle_any _ g gb b i true false w.heap.size (w.heap.size + 1) HR2.out H1 H2 .returning).mono ?_
      rintro e u' w2 ⟨rfl, rfl, hr2, hg2⟩
      rw [Bool.and_false] at hr2
      exact ⟨_, results_tmp rfl _ _ _, rfl, hr2, grown_trans2 HG2.out hg2⟩
    | true =>
      have hlt : 252 < i + n := by simpa using hf
      clear hf
      have hw1 : IntKind.i64.wrap ((252 : Int) - (i : Int)) = 252 - (i : Int) := by rw [IntKind.wrap_i64]; omega
      have hw2 : cmpInt .gtr (n : Int) (252 - (i : Int)) = some true := by simp [cmpInt]; omega
      have HW1 := Lib.hid hw1
      have HW2 := Lib.hid hw2
      clear hw1 hw2 hlt
      go_enter_defers Tryd.func73, Tryd.ntmps73
      go_wp2_with fail
      rw [← HW.out]
      refine wk_region_since (by kernel_rfl) (by kernel_rfl) ?_
      refine wk_load1 _ _ _ _ _ rfl (by kernel_rfl) rfl rfl (fun w' hC => hC.cell Q1.out) Tryd.underlying113 ?_
      simp only [Act.put, List.setIfInBounds_toArray, List.set_cons_zero, List.set_cons_succ]
      refine wk_call 75 _ _ _ _ _ (by kernel_rfl) rfl Tryd.func75 rfl (by kernel_rfl) (fun w' hC => hC.same (fine_any w' g gb b i true (HR.out.below hC))) ?_
      simp only [Act.put, List.setIfInBounds_toArray, List.set_cons_zero, List.set_cons_succ]
      repeat (first
        | (refine wk_move _ (by first | exact wanted_none rfl | exact wanted_yes _ _ rfl rfl) rfl ?_; simp only [Act.put, Act.eval, Array.getD_eq_getD_getElem?, List.getElem?_toArray, List.getElem?_cons_succ, List.getElem?_cons_zero, Option.getD_some, List.setIfInBounds_toArray, List.set_cons_zero, List.set_cons_succ])
        | (refine wk_assign _ (by first | exact wanted_none rfl | exact wanted_yes _ _ rfl rfl) rfl ?_; simp only [Act.put, Act.eval, Array.getD_eq_getD_getElem?, List.getElem?_toArray, List.getElem?_cons_succ, List.getElem?_cons_zero, Option.getD_some, List.setIfInBounds_toArray, List.set_cons_zero, List.set_cons_succ])
        | (refine wk_pickt _ _ _ _ (by first | exact wanted_none rfl | exact wanted_yes _ _ rfl rfl) rfl rfl rfl ?_; simp only [Act.put, Act.eval, Array.getD_eq_getD_getElem?, List.getElem?_toArray, List.getElem?_cons_succ, List.getElem?_cons_zero, Option.getD_some, List.setIfInBounds_toArray, List.set_cons_zero, List.set_cons_succ])
        | (refine wk_pickf _ _ _ _ (by first | exact wanted_none rfl | exact wanted_yes _ _ rfl rfl) rfl rfl rfl ?_; simp only [Act.put, Act.eval, Array.getD_eq_getD_getElem?, List.getElem?_toArray, List.getElem?_cons_succ, List.getElem?_cons_zero, Option.getD_some, List.setIfInBounds_toArray, List.set_cons_zero, List.set_cons_succ])
        | (refine wk_skip (wanted_not _ true false rfl rfl rfl) ?_; simp only [Act.put, List.setIfInBounds_toArray, List.set_cons_zero, List.set_cons_succ])
        | (refine wk_skip (wanted_not _ false true rfl rfl rfl) ?_; simp only [Act.put, List.setIfInBounds_toArray, List.set_cons_zero, List.set_cons_succ])
        | (refine wk_skip (wanted_undef _ _ rfl rfl) ?_; simp only [Act.put, List.setIfInBounds_toArray, List.set_cons_zero, List.set_cons_succ])
        | (refine wk_not true _ _ (by first | exact wanted_none rfl | exact wanted_yes _ _ rfl rfl) rfl rfl ?_; simp only [Act.put, List.setIfInBounds_toArray, List.set_cons_zero, List.set_cons_succ])
        | (refine wk_not false _ _ (by first | exact wanted_none rfl | exact wanted_yes _ _ rfl rfl) rfl rfl ?_; simp only [Act.put, List.setIfInBounds_toArray, List.set_cons_zero, List.set_cons_succ]))
      refine wk_load1 _ _ _ _ _ rfl (by kernel_rfl) rfl rfl (fun w' hC => hC.cell Q1.out) Tryd.underlying113 ?_
      simp only [Act.put, List.setIfInBounds_toArray, List.set_cons_zero, List.set_cons_succ]
      refine wk_nilcheck _ _ (by first | exact wanted_none rfl | exact wanted_yes _ _ rfl rfl) rfl rfl ?_
      simp only [Act.put, List.setIfInBounds_toArray, List.set_cons_zero, List.set_cons_succ]
      refine wk_field 124 _ 99 0 0 _ _ _ (by first | exact wanted_none rfl | exact wanted_yes _ _ rfl rfl) rfl (by kernel_rfl) (by kernel_rfl) (by kernel_rfl) rfl ?_
      simp only [Act.put, List.setIfInBounds_toArray, List.set_cons_zero, List.set_cons_succ, Nat.zero_add]
      refine wk_load1 _ _ _ _ _ rfl (by kernel_rfl) rfl rfl (fun w' hC => hC.cell R0.out) Tryd.underlying99 ?_
      simp only [Act.put, List.setIfInBounds_toArray, List.set_cons_zero, List.set_cons_succ]
      refine wk_len_slice _ _ _ _ _ _ Tryd.underlying99 (by kernel_rfl) rfl rfl ?_
      simp only [Act.put, List.setIfInBounds_toArray, List.set_cons_zero, List.set_cons_succ]
      refine wk_load1 _ _ _ _ _ rfl (by kernel_rfl) rfl rfl (fun w' hC => hC.cell Q1.out) Tryd.underlying113 ?_
      simp only [Act.put, List.setIfInBounds_toArray, List.set_cons_zero, List.set_cons_succ]
      refine wk_nilcheck _ _ (by first | exact wanted_none rfl | exact wanted_yes _ _ rfl rfl) rfl rfl ?_
      simp only [Act.put, List.setIfInBounds_toArray, List.set_cons_zero, List.set_cons_succ]
      refine wk_field 124 _ 3 1 0 _ _ _ (by first | exact wanted_none rfl | exact wanted_yes _ _ rfl rfl) rfl (by kernel_rfl) (by kernel_rfl) (by kernel_rfl) rfl ?_
      simp only [Act.put, List.setIfInBounds_toArray, List.set_cons_zero, List.set_cons_succ, Nat.zero_add]
      refine wk_load1 _ _ _ _ _ rfl (by kernel_rfl) rfl rfl (fun w' hC => hC.cell R1.out) Tryd.underlying3 ?_
      simp only [Act.put, List.setIfInBounds_toArray, List.set_cons_zero, List.set_cons_succ]
      refine wk_sub _ _ _ _ _ _ _ (by kernel_rfl) rfl rfl rfl HW1.out ?_
      simp only [Act.put, List.setIfInBounds_toArray, List.set_cons_zero, List.set_cons_succ]
      refine wk_cmp_int .gtr (true) _ _ _ _ _ _ _ (by kernel_rfl) rfl rfl rfl (HW2.out) ?_
      simp only [Act.put, List.setIfInBounds_toArray, List.set_cons_zero, List.set_cons_succ]
      repeat (first
        | (refine wk_move _ (by first | exact wanted_none rfl | exact wanted_yes _ _ rfl rfl) rfl ?_; simp only [Act.put, Act.eval, Array.getD_eq_getD_getElem?, List.getElem?_toArray, List.getElem?_cons_succ, List.getElem?_cons_zero, Option.getD_some, List.setIfInBounds_toArray, List.set_cons_zero, List.set_cons_succ])
        | (refine wk_assign _ (by first | exact wanted_none rfl | exact wanted_yes _ _ rfl rfl) rfl ?_; simp only [Act.put, Act.eval, Array.getD_eq_getD_getElem?, List.getElem?_toArray, List.getElem?_cons_succ, List.getElem?_cons_zero, Option.getD_some, List.setIfInBounds_toArray, List.set_cons_zero, List.set_cons_succ])
        | (refine wk_pickt _ _ _ _ (by first | exact wanted_none rfl | exact wanted_yes _ _ rfl rfl) rfl rfl rfl ?_; simp only [Act.put, Act.eval, Array.getD_eq_getD_getElem?, List.getElem?_toArray, List.getElem?_cons_succ, List.getElem?_cons_zero, Option.getD_some, List.setIfInBounds_toArray, List.set_cons_zero, List.set_cons_succ])
        | (refine wk_pickf _ _ _ _ (by first | exact wanted_none rfl | exact wanted_yes _ _ rfl rfl) rfl rfl rfl ?_; simp only [Act.put, Act.eval, Array.getD_eq_getD_getElem?, List.getElem?_toArray, List.getElem?_cons_succ, List.getElem?_cons_zero, Option.getD_some, List.setIfInBounds_toArray, List.set_cons_zero, List.set_cons_succ])
        | (refine wk_skip (wanted_not _ true false rfl rfl rfl) ?_; simp only [Act.put, List.setIfInBounds_toArray, List.set_cons_zero, List.set_cons_succ])
        | (refine wk_skip (wanted_not _ false true rfl rfl rfl) ?_; simp only [Act.put, List.setIfInBounds_toArray, List.set_cons_zero, List.set_cons_succ])
        | (refine wk_skip (wanted_undef _ _ rfl rfl) ?_; simp only [Act.put, List.setIfInBounds_toArray, List.set_cons_zero, List.set_cons_succ])
        | (refine wk_not true _ _ (by first | exact wanted_none rfl | exact wanted_yes _ _ rfl rfl) rfl rfl ?_; simp only [Act.put, List.setIfInBounds_toArray, List.set_cons_zero, List.set_cons_succ])
        | (refine wk_not false _ _ (by first | exact wanted_none rfl | exact wanted_yes _ _ rfl rfl) rfl rfl ?_; simp only [Act.put, List.setIfInBounds_toArray, List.set_cons_zero, List.set_cons_succ]))
      refine wk_nil ?_
      intro w' hC
      have H1 := hC.cell Q1.out
      have H2 := hC.cell Q2.out
      have HR2 := Lib.hid (HR.out.below hC)
      have HG2 := Lib.hid (grown_below HGR.out hC)
      clear hC
      go_wp2_with fail
      refine leaves_cons (f := 79) (args := #[.pointer (some ⟨w.heap.size, 0, none⟩), .pointer (some ⟨w.heap.size + 1, 0, none⟩)]) (by simp) (by simp [go_sem]) ?_
      refine (settle_any _ g gb b i true false w.heap.size (w.heap.size + 1) HR2.out H1 H2 .returning).mono ?_
      rintro e u' w2 ⟨rfl, rfl, hr2, hg2⟩
      rw [Bool.and_false] at hr2
      exact ⟨_, results_tmp rfl _ _ _, rfl, hr2, grown_trans2 HG2.out hg2⟩
theorem seg_cells {w : World} {g gb : Nat} {b : List UInt8} {i n : Nat} {fine : Bool} (h : ReaderAt w g gb b i fine) (_hn : i + n ≤ 256) : ∀ j, j < n → w.cell? ⟨gb, i + j, none⟩ = (seg b i n)[j]?.map vu8 := by
  intro j hj
  rw [cell_of_row w gb (i + j) _ _ _ h.src, get_seg b i n j hj]
  simp [blk]
set_option maxHeartbeats 1000000 in
theorem take_ok (w : World) (g gb : Nat) (b : List UInt8) (i n : Nat) (hr : ReaderAt w g gb b i true) (hn : 1 ≤ n) (hn8 : n ≤ 8) (hf : i + n ≤ 252) :
    Calls Tryd.prog 73 #[.pointer (some ⟨g, 0, none⟩), .bool true, .int .i64 (n : Int), .func (.func 74) #[] #[]] w fun e w' => e = .returned (.int .u64 (num (seg b i n) : Int)) ∧ ReaderAt w' g gb b (i + n) true ∧ w.grownBy w' (some g) := by
  have hmf : ∀ (fn : Fn) (first cap : Array Value) (w : World), (Instr.makeFunc fn first cap).run Tryd.prog w = .ok (.func fn first cap) w := fun _ _ _ _ => rfl
  obtain ⟨W, hW⟩ : ∃ W, W = (w.alloc (.cells #[.pointer (some ⟨g, 0, none⟩)] 113)).alloc (.cells #[.bool false] 4) := ⟨_, rfl⟩
  have hB : Below w.heap.size w W := by rw [hW]; exact ((Below.refl _ _).alloc (Nat.le_refl _) _).alloc (by simp) _
  have hgr : w.grownBy W (some g) := by rw [hW]; exact grown_trans2 (World.grownBy_alloc _ _ _) (World.grownBy_alloc _ _ _)
  have p1 : W.heap[w.heap.size]? = some (.cells #[.pointer (some ⟨g, 0, none⟩)] 113 (0, 0)) := by rw [hW]; exact heap_alloc2_old _ _ _
  have p2 : W.heap[w.heap.size + 1]? = some (.cells #[.bool false] 4 (0, 0)) := by rw [hW]; exact heap_alloc2_new _ _ _
  have q1 : W.cell? ⟨w.heap.size, 0, none⟩ = some (.pointer (some ⟨g, 0, none⟩)) := cell_of_row _ _ 0 _ _ _ p1
  have HR := Lib.hid (hr.below hB)
  have HW := Lib.hid hW
  have HGR := Lib.hid hgr
  have Q1 := Lib.hid q1
  have P1 := Lib.hid p1
  have P2 := Lib.hid p2
  have R0 : Hid (W.cell? ⟨g, 0, none⟩ = _) := Lib.hid (cell_of_row W g 0 _ _ _ HR.out.row)
  have R1 : Hid (W.cell? ⟨g, 1, none⟩ = _) := Lib.hid (cell_of_row W g 1 _ _ _ HR.out.row)
  have hs : W.heap.size = w.heap.size + 2 := by rw [hW]; simp
  have HS := Lib.hid hs
  have hgs : g < w.heap.size := (Array.getElem?_eq_some_iff.1 hr.row).1
  have hbs : gb < w.heap.size := (Array.getElem?_eq_some_iff.1 hr.src).1
  have hlen := hr.len
  have hne := hr.ne
  have HLEN := Lib.hid hlen
  have hsl : (seg b i n).length = i + n - i := by rw [length_seg b i n (by omega)]; omega
  have HSL := Lib.hid hsl
  have hw1 : IntKind.i64.wrap ((252 : Int) - (i : Int)) = 252 - (i : Int) := by rw [IntKind.wrap_i64]; omega
  have hw2 : cmpInt .gtr (n : Int) (252 - (i : Int)) = some false := by simp [cmpInt]; omega
  have hw3 : IntKind.i64.wrap ((i : Int) + (n : Int)) = ((i + n : Nat) : Int) := by rw [IntKind.wrap_i64]; omega
  have HW1 := Lib.hid hw1
  have HW2 := Lib.hid hw2
  have HW3 := Lib.hid hw3
  clear hw1 hw2 hw3 hW hB hgr p1 p2 q1 hr hs hlen hsl
  go_enter_defers Tryd.func73, Tryd.ntmps73
  go_wp2_with fail
  rw [← HW.out]
  refine wk_region_since (by kernel_rfl) (by kernel_rfl) ?_
  refine wk_load1 _ _ _ _ _ rfl (by kernel_rfl) rfl rfl (fun w' hC => hC.cell Q1.out) Tryd.underlying113 ?_
  simp only [Act.put, List.setIfInBounds_toArray, List.set_cons_zero, List.set_cons_succ]
  refine wk_call 75 _ _ _ _ _ (by kernel_rfl) rfl Tryd.func75 rfl (by kernel_rfl) (fun w' hC => hC.same (fine_any w' g gb b i true (HR.out.below hC))) ?_
  simp only [Act.put, List.setIfInBounds_toArray, List.set_cons_zero, List.set_cons_succ]
  repeat (first
    | (refine wk_move _ (by first | exact wanted_none rfl | exact wanted_yes _ _ rfl rfl) rfl ?_; simp only [Act.put, Act.eval, Array.getD_eq_getD_getElem?, List.getElem?_toArray, List.getElem?_cons_succ, List.getElem?_cons_zero, Option.getD_some, List.setIfInBounds_toArray, List.set_cons_zero, List.set_cons_succ])
    | (refine wk_assign _ (by first | exact wanted_none rfl | exact wanted_yes _ _ rfl rfl) rfl ?_; simp only [Act.put, Act.eval, Array.getD_eq_getD_getElem?, List.getElem?_toArray, List.getElem?_cons_succ, List.getElem?_cons_zero, Option.getD_some, List.setIfInBounds_toArray, List.set_cons_zero, List.set_cons_succ])
    | (refine wk_pickt _ _ _ _ (by first | exact wanted_none rfl | exact wanted_yes _ _ rfl rfl) rfl rfl rfl ?_; simp only [Act.put, Act.eval, Array.getD_eq_getD_getElem?, List.getElem?_toArray, List.getElem?_cons_succ, List.getElem?_cons_zero, Option.getD_some, List.setIfInBounds_toArray, List.set_cons_zero, List.set_cons_succ])
    | (refine wk_pickf _ _ _ _ (by first | exact wanted_none rfl | exact wanted_yes _ _ rfl rfl) rfl rfl rfl ?_; simp only [Act.put, Act.eval, Array.getD_eq_getD_getElem?, List.getElem?_toArray, List.getElem?_cons_succ, List.getElem?_cons_zero, Option.getD_some, List.setIfInBounds_toArray, List.set_cons_zero, List.set_cons_succ])
    | (refine wk_skip (wanted_not _ true false rfl rfl rfl) ?_; simp only [Act.put, List.setIfInBounds_toArray, List.set_cons_zero, List.set_cons_succ])
    | (refine wk_skip (wanted_not _ false true rfl rfl rfl) ?_; simp only [Act.put, List.setIfInBounds_toArray, List.set_cons_zero, List.set_cons_succ])
    | (refine wk_skip (wanted_undef _ _ rfl rfl) ?_; simp only [Act.put, List.setIfInBounds_toArray, List.set_cons_zero, List.set_cons_succ])
    | (refine wk_not true _ _ (by first | exact wanted_none rfl | exact wanted_yes _ _ rfl rfl) rfl rfl ?_; simp only [Act.put, List.setIfInBounds_toArray, List.set_cons_zero, List.set_cons_succ])
    | (refine wk_not false _ _ (by first | exact wanted_none rfl | exact wanted_yes _ _ rfl rfl) rfl rfl ?_; simp only [Act.put, List.setIfInBounds_toArray, List.set_cons_zero, List.set_cons_succ]))
  refine wk_load1 _ _ _ _ _ rfl (by kernel_rfl) rfl rfl (fun w' hC => hC.cell Q1.out) Tryd.underlying113 ?_
  simp only [Act.put, List.setIfInBounds_toArray, List.set_cons_zero, List.set_cons_succ]
  refine wk_nilcheck _ _ (by first | exact wanted_none rfl | exact wanted_yes _ _ rfl rfl) rfl rfl ?_
  simp only [Act.put, List.setIfInBounds_toArray, List.set_cons_zero, List.set_cons_succ]
  refine wk_field 124 _ 99 0 0 _ _ _ (by first | exact wanted_none rfl | exact wanted_yes _ _ rfl rfl) rfl (by kernel_rfl) (by kernel_rfl) (by kernel_rfl) rfl ?_
  simp only [Act.put, List.setIfInBounds_toArray, List.set_cons_zero, List.set_cons_succ, Nat.zero_add]
  refine wk_load1 _ _ _ _ _ rfl (by kernel_rfl) rfl rfl (fun w' hC => hC.cell R0.out) Tryd.underlying99 ?_
  simp only [Act.put, List.setIfInBounds_toArray, List.set_cons_zero, List.set_cons_succ]
  refine wk_len_slice _ _ _ _ _ _ Tryd.underlying99 (by kernel_rfl) rfl rfl ?_
  simp only [Act.put, List.setIfInBounds_toArray, List.set_cons_zero, List.set_cons_succ]
  refine wk_load1 _ _ _ _ _ rfl (by kernel_rfl) rfl rfl (fun w' hC => hC.cell Q1.out) Tryd.underlying113 ?_
  simp only [Act.put, List.setIfInBounds_toArray, List.set_cons_zero, List.set_cons_succ]
  refine wk_nilcheck _ _ (by first | exact wanted_none rfl | exact wanted_yes _ _ rfl rfl) rfl rfl ?_
  simp only [Act.put, List.setIfInBounds_toArray, List.set_cons_zero, List.set_cons_succ]
  refine wk_field 124 _ 3 1 0 _ _ _ (by first | exact wanted_none rfl | exact wanted_yes _ _ rfl rfl) rfl (by kernel_rfl) (by kernel_rfl) (by kernel_rfl) rfl ?_
  simp only [Act.put, List.setIfInBounds_toArray, List.set_cons_zero, List.set_cons_succ, Nat.zero_add]
  refine wk_load1 _ _ _ _ _ rfl (by kernel_rfl) rfl rfl (fun w' hC => hC.cell R1.out) Tryd.underlying3 ?_
  simp only [Act.put, List.setIfInBounds_toArray, List.set_cons_zero, List.set_cons_succ]
  refine wk_sub _ _ _ _ _ _ _ (by kernel_rfl) rfl rfl rfl HW1.out ?_
  simp only [Act.put, List.setIfInBounds_toArray, List.set_cons_zero, List.set_cons_succ]
  refine wk_cmp_int .gtr (false) _ _ _ _ _ _ _ (by kernel_rfl) rfl rfl rfl (HW2.out) ?_
  simp only [Act.put, List.setIfInBounds_toArray, List.set_cons_zero, List.set_cons_succ]
  repeat (first
    | (refine wk_move _ (by first | exact wanted_none rfl | exact wanted_yes _ _ rfl rfl) rfl ?_; simp only [Act.put, Act.eval, Array.getD_eq_getD_getElem?, List.getElem?_toArray, List.getElem?_cons_succ, List.getElem?_cons_zero, Option.getD_some, List.setIfInBounds_toArray, List.set_cons_zero, List.set_cons_succ])
    | (refine wk_assign _ (by first | exact wanted_none rfl | exact wanted_yes _ _ rfl rfl) rfl ?_; simp only [Act.put, Act.eval, Array.getD_eq_getD_getElem?, List.getElem?_toArray, List.getElem?_cons_succ, List.getElem?_cons_zero, Option.getD_some, List.setIfInBounds_toArray, List.set_cons_zero, List.set_cons_succ])
    | (refine wk_pickt _ _ _ _ (by first | exact wanted_none rfl | exact wanted_yes _ _ rfl rfl) rfl rfl rfl ?_; simp only [Act.put, Act.eval, Array.getD_eq_getD_getElem?, List.getElem?_toArray, List.getElem?_cons_succ, List.getElem?_cons_zero, Option.getD_some, List.setIfInBounds_toArray, List.set_cons_zero, List.set_cons_succ])
    | (refine wk_pickf _ _ _ _ (by first | exact wanted_none rfl | exact wanted_yes _ _ rfl rfl) rfl rfl rfl ?_; simp only [Act.put, Act.eval, Array.getD_eq_getD_getElem?, List.getElem?_toArray, List.getElem?_cons_succ, List.getElem?_cons_zero, Option.getD_some, List.setIfInBounds_toArray, List.set_cons_zero, List.set_cons_succ])
    | (refine wk_skip (wanted_not _ true false rfl rfl rfl) ?_; simp only [Act.put, List.setIfInBounds_toArray, List.set_cons_zero, List.set_cons_succ])
    | (refine wk_skip (wanted_not _ false true rfl rfl rfl) ?_; simp only [Act.put, List.setIfInBounds_toArray, List.set_cons_zero, List.set_cons_succ])
    | (refine wk_skip (wanted_undef _ _ rfl rfl) ?_; simp only [Act.put, List.setIfInBounds_toArray, List.set_cons_zero, List.set_cons_succ])
    | (refine wk_not true _ _ (by first | exact wanted_none rfl | exact wanted_yes _ _ rfl rfl) rfl rfl ?_; simp only [Act.put, List.setIfInBounds_toArray, List.set_cons_zero, List.set_cons_succ])
    | (refine wk_not false _ _ (by first | exact wanted_none rfl | exact wanted_yes _ _ rfl rfl) rfl rfl ?_; simp only [Act.put, List.setIfInBounds_toArray, List.set_cons_zero, List.set_cons_succ]))
  refine wk_nil ?_
  intro w' hC
  obtain ⟨V, hV⟩ : ∃ V, V = w' := ⟨_, rfl⟩
  rw [← hV] at hC ⊢
  have HV := Lib.hid hC
  clear hC hV
  go_wp2_with fail
  have V1 := Lib.hid (HV.out.cell Q1.out)
  have V0 := Lib.hid (HV.out.cell R0.out)
  have V2 := Lib.hid (HV.out.cell R1.out)
  have HRV := Lib.hid (HR.out.below HV.out)
  refine wk_region_since (by kernel_rfl) (by kernel_rfl) ?_
  repeat (first
    | (refine wk_move _ (by first | exact wanted_none rfl | exact wanted_yes _ _ rfl rfl) rfl ?_; simp only [Act.put, Act.eval, Array.getD_eq_getD_getElem?, List.getElem?_toArray, List.getElem?_cons_succ, List.getElem?_cons_zero, Option.getD_some, List.setIfInBounds_toArray, List.set_cons_zero, List.set_cons_succ])
    | (refine wk_assign _ (by first | exact wanted_none rfl | exact wanted_yes _ _ rfl rfl) rfl ?_; simp only [Act.put, Act.eval, Array.getD_eq_getD_getElem?, List.getElem?_toArray, List.getElem?_cons_succ, List.getElem?_cons_zero, Option.getD_some, List.setIfInBounds_toArray, List.set_cons_zero, List.set_cons_succ])
    | (refine wk_pickt _ _ _ _ (by first | exact wanted_none rfl | exact wanted_yes _ _ rfl rfl) rfl rfl rfl ?_; simp only [Act.put, Act.eval, Array.getD_eq_getD_getElem?, List.getElem?_toArray, List.getElem?_cons_succ, List.getElem?_cons_zero, Option.getD_some, List.setIfInBounds_toArray, List.set_cons_zero, List.set_cons_succ])
    | (refine wk_pickf _ _ _ _ (by first | exact wanted_none rfl | exact wanted_yes _ _ rfl rfl) rfl rfl rfl ?_; simp only [Act.put, Act.eval, Array.getD_eq_getD_getElem?, List.getElem?_toArray, List.getElem?_cons_succ, List.getElem?_cons_zero, Option.getD_some, List.setIfInBounds_toArray, List.set_cons_zero, List.set_cons_succ])
    | (refine wk_skip (wanted_not _ true false rfl rfl rfl) ?_; simp only [Act.put, List.setIfInBounds_toArray, List.set_cons_zero, List.set_cons_succ])
    | (refine wk_skip (wanted_not _ false true rfl rfl rfl) ?_; simp only [Act.put, List.setIfInBounds_toArray, List.set_cons_zero, List.set_cons_succ])
    | (refine wk_skip (wanted_undef _ _ rfl rfl) ?_; simp only [Act.put, List.setIfInBounds_toArray, List.set_cons_zero, List.set_cons_succ])
    | (refine wk_not true _ _ (by first | exact wanted_none rfl | exact wanted_yes _ _ rfl rfl) rfl rfl ?_; simp only [Act.put, List.setIfInBounds_toArray, List.set_cons_zero, List.set_cons_succ])
    | (refine wk_not false _ _ (by first | exact wanted_none rfl | exact wanted_yes _ _ rfl rfl) rfl rfl ?_; simp only [Act.put, List.setIfInBounds_toArray, List.set_cons_zero, List.set_cons_succ]))
  refine wk_load1 _ _ _ _ _ rfl (by kernel_rfl) rfl rfl (fun w' hC => hC.cell V1.out) Tryd.underlying113 ?_
  simp only [Act.put, List.setIfInBounds_toArray, List.set_cons_zero, List.set_cons_succ]
  refine wk_nilcheck _ _ (by first | exact wanted_none rfl | exact wanted_yes _ _ rfl rfl) rfl rfl ?_
  simp only [Act.put, List.setIfInBounds_toArray, List.set_cons_zero, List.set_cons_succ]
  refine wk_field 124 _ 99 0 0 _ _ _ (by first | exact wanted_none rfl | exact wanted_yes _ _ rfl rfl) rfl (by kernel_rfl) (by kernel_rfl) (by kernel_rfl) rfl ?_
  simp only [Act.put, List.setIfInBounds_toArray, List.set_cons_zero, List.set_cons_succ, Nat.zero_add]
  refine wk_load1 _ _ _ _ _ rfl (by kernel_rfl) rfl rfl (fun w' hC => hC.cell V0.out) Tryd.underlying99 ?_
  simp only [Act.put, List.setIfInBounds_toArray, List.set_cons_zero, List.set_cons_succ]
  refine wk_load1 _ _ _ _ _ rfl (by kernel_rfl) rfl rfl (fun w' hC => hC.cell V1.out) Tryd.underlying113 ?_
  simp only [Act.put, List.setIfInBounds_toArray, List.set_cons_zero, List.set_cons_succ]
  refine wk_nilcheck _ _ (by first | exact wanted_none rfl | exact wanted_yes _ _ rfl rfl) rfl rfl ?_
  simp only [Act.put, List.setIfInBounds_toArray, List.set_cons_zero, List.set_cons_succ]
  refine wk_field 124 _ 3 1 0 _ _ _ (by first | exact wanted_none rfl | exact wanted_yes _ _ rfl rfl) rfl (by kernel_rfl) (by kernel_rfl) (by kernel_rfl) rfl ?_
  simp only [Act.put, List.setIfInBounds_toArray, List.set_cons_zero, List.set_cons_succ, Nat.zero_add]
  refine wk_load1 _ _ _ _ _ rfl (by kernel_rfl) rfl rfl (fun w' hC => hC.cell V2.out) Tryd.underlying3 ?_
  simp only [Act.put, List.setIfInBounds_toArray, List.set_cons_zero, List.set_cons_succ]
  refine wk_load1 _ _ _ _ _ rfl (by kernel_rfl) rfl rfl (fun w' hC => hC.cell V1.out) Tryd.underlying113 ?_
  simp only [Act.put, List.setIfInBounds_toArray, List.set_cons_zero, List.set_cons_succ]
  refine wk_nilcheck _ _ (by first | exact wanted_none rfl | exact wanted_yes _ _ rfl rfl) rfl rfl ?_
  simp only [Act.put, List.setIfInBounds_toArray, List.set_cons_zero, List.set_cons_succ]
  refine wk_field 124 _ 3 1 0 _ _ _ (by first | exact wanted_none rfl | exact wanted_yes _ _ rfl rfl) rfl (by kernel_rfl) (by kernel_rfl) (by kernel_rfl) rfl ?_
  simp only [Act.put, List.setIfInBounds_toArray, List.set_cons_zero, List.set_cons_succ, Nat.zero_add]
  refine wk_load1 _ _ _ _ _ rfl (by kernel_rfl) rfl rfl (fun w' hC => hC.cell V2.out) Tryd.underlying3 ?_
  simp only [Act.put, List.setIfInBounds_toArray, List.set_cons_zero, List.set_cons_succ]
  repeat (first
    | (refine wk_move _ (by first | exact wanted_none rfl | exact wanted_yes _ _ rfl rfl) rfl ?_; simp only [Act.put, Act.eval, Array.getD_eq_getD_getElem?, List.getElem?_toArray, List.getElem?_cons_succ, List.getElem?_cons_zero, Option.getD_some, List.setIfInBounds_toArray, List.set_cons_zero, List.set_cons_succ])
    | (refine wk_assign _ (by first | exact wanted_none rfl | exact wanted_yes _ _ rfl rfl) rfl ?_; simp only [Act.put, Act.eval, Array.getD_eq_getD_getElem?, List.getElem?_toArray, List.getElem?_cons_succ, List.getElem?_cons_zero, Option.getD_some, List.setIfInBounds_toArray, List.set_cons_zero, List.set_cons_succ])
    | (refine wk_pickt _ _ _ _ (by first | exact wanted_none rfl | exact wanted_yes _ _ rfl rfl) rfl rfl rfl ?_; simp only [Act.put, Act.eval, Array.getD_eq_getD_getElem?, List.getElem?_toArray, List.getElem?_cons_succ, List.getElem?_cons_zero, Option.getD_some, List.setIfInBounds_toArray, List.set_cons_zero, List.set_cons_succ])
    | (refine wk_pickf _ _ _ _ (by first | exact wanted_none rfl | exact wanted_yes _ _ rfl rfl) rfl rfl rfl ?_; simp only [Act.put, Act.eval, Array.getD_eq_getD_getElem?, List.getElem?_toArray, List.getElem?_cons_succ, List.getElem?_cons_zero, Option.getD_some, List.setIfInBounds_toArray, List.set_cons_zero, List.set_cons_succ])
    | (refine wk_skip (wanted_not _ true false rfl rfl rfl) ?_; simp only [Act.put, List.setIfInBounds_toArray, List.set_cons_zero, List.set_cons_succ])
    | (refine wk_skip (wanted_not _ false true rfl rfl rfl) ?_; simp only [Act.put, List.setIfInBounds_toArray, List.set_cons_zero, List.set_cons_succ])
    | (refine wk_skip (wanted_undef _ _ rfl rfl) ?_; simp only [Act.put, List.setIfInBounds_toArray, List.set_cons_zero, List.set_cons_succ])
    | (refine wk_not true _ _ (by first | exact wanted_none rfl | exact wanted_yes _ _ rfl rfl) rfl rfl ?_; simp only [Act.put, List.setIfInBounds_toArray, List.set_cons_zero, List.set_cons_succ])
    | (refine wk_not false _ _ (by first | exact wanted_none rfl | exact wanted_yes _ _ rfl rfl) rfl rfl ?_; simp only [Act.put, List.setIfInBounds_toArray, List.set_cons_zero, List.set_cons_succ]))
  refine wk_add _ _ _ _ _ _ _ (by kernel_rfl) rfl rfl rfl HW3.out ?_
  simp only [Act.put, List.setIfInBounds_toArray, List.set_cons_zero, List.set_cons_succ]
  refine wk_slice2 i (i + n) 252 256 .i64 .i64 _ _ _ _ _ gb 0 (by kernel_rfl) rfl Tryd.underlying99 sizeU8 rfl rfl rfl (by omega) (by omega) (by omega) ?_
  simp only [Act.put, List.setIfInBounds_toArray, List.set_cons_zero, List.set_cons_succ, Nat.zero_add]
  refine wk_callv 74 _ [_] _ _ _ _ (by kernel_rfl) rfl rfl Tryd.func74 rfl (by kernel_rfl) (fun w' hC => hC.same (readnum_any w' gb i (i + n - i) (256 - i) (seg b i n) HSL.out (by omega) (by rw [show i + n - i = n by omega]; exact seg_cells (HRV.out.below hC) (by omega)))) ?_
  simp only [Act.put, List.setIfInBounds_toArray, List.set_cons_zero, List.set_cons_succ]
  repeat (first
    | (refine wk_move _ (by first | exact wanted_none rfl | exact wanted_yes _ _ rfl rfl) rfl ?_; simp only [Act.put, Act.eval, Array.getD_eq_getD_getElem?, List.getElem?_toArray, List.getElem?_cons_succ, List.getElem?_cons_zero, Option.getD_some, List.setIfInBounds_toArray, List.set_cons_zero, List.set_cons_succ])
    | (refine wk_assign _ (by first | exact wanted_none rfl | exact wanted_yes _ _ rfl rfl) rfl ?_; simp only [Act.put, Act.eval, Array.getD_eq_getD_getElem?, List.getElem?_toArray, List.getElem?_cons_succ, List.getElem?_cons_zero, Option.getD_some, List.setIfInBounds_toArray, List.set_cons_zero, List.set_cons_succ])
    | (refine wk_pickt _ _ _ _ (by first | exact wanted_none rfl | exact wanted_yes _ _ rfl rfl) rfl rfl rfl ?_; simp only [Act.put, Act.eval, Array.getD_eq_getD_getElem?, List.getElem?_toArray, List.getElem?_cons_succ, List.getElem?_cons_zero, Option.getD_some, List.setIfInBounds_toArray, List.set_cons_zero, List.set_cons_succ])
    | (refine wk_pickf _ _ _ _ (by first | exact wanted_none rfl | exact wanted_yes _ _ rfl rfl) rfl rfl rfl ?_; simp only [Act.put, Act.eval, Array.getD_eq_getD_getElem?, List.getElem?_toArray, List.getElem?_cons_succ, List.getElem?_cons_zero, Option.getD_some, List.setIfInBounds_toArray, List.set_cons_zero, List.set_cons_succ])
    | (refine wk_skip (wanted_not _ true false rfl rfl rfl) ?_; simp only [Act.put, List.setIfInBounds_toArray, List.set_cons_zero, List.set_cons_succ])
    | (refine wk_skip (wanted_not _ false true rfl rfl rfl) ?_; simp only [Act.put, List.setIfInBounds_toArray, List.set_cons_zero, List.set_cons_succ])
    | (refine wk_skip (wanted_undef _ _ rfl rfl) ?_; simp only [Act.put, List.setIfInBounds_toArray, List.set_cons_zero, List.set_cons_succ])
    | (refine wk_not true _ _ (by first | exact wanted_none rfl | exact wanted_yes _ _ rfl rfl) rfl rfl ?_; simp only [Act.put, List.setIfInBounds_toArray, List.set_cons_zero, List.set_cons_succ])
    | (refine wk_not false _ _ (by first | exact wanted_none rfl | exact wanted_yes _ _ rfl rfl) rfl rfl ?_; simp only [Act.put, List.setIfInBounds_toArray, List.set_cons_zero, List.set_cons_succ]))
  refine wk_extract _ _ _ _ (by first | exact wanted_none rfl | exact wanted_yes _ _ rfl rfl) rfl rfl rfl ?_
  simp only [Act.put, List.setIfInBounds_toArray, List.set_cons_zero, List.set_cons_succ]
  refine wk_extract _ _ _ _ (by first | exact wanted_none rfl | exact wanted_yes _ _ rfl rfl) rfl rfl rfl ?_
  simp only [Act.put, List.setIfInBounds_toArray, List.set_cons_zero, List.set_cons_succ]
  repeat (first
    | (refine wk_move _ (by first | exact wanted_none rfl | exact wanted_yes _ _ rfl rfl) rfl ?_; simp only [Act.put, Act.eval, Array.getD_eq_getD_getElem?, List.getElem?_toArray, List.getElem?_cons_succ, List.getElem?_cons_zero, Option.getD_some, List.setIfInBounds_toArray, List.set_cons_zero, List.set_cons_succ])
    | (refine wk_assign _ (by first | exact wanted_none rfl | exact wanted_yes _ _ rfl rfl) rfl ?_; simp only [Act.put, Act.eval, Array.getD_eq_getD_getElem?, List.getElem?_toArray, List.getElem?_cons_succ, List.getElem?_cons_zero, Option.getD_some, List.setIfInBounds_toArray, List.set_cons_zero, List.set_cons_succ])
    | (refine wk_pickt _ _ _ _ (by first | exact wanted_none rfl | exact wanted_yes _ _ rfl rfl) rfl rfl rfl ?_; simp only [Act.put, Act.eval, Array.getD_eq_getD_getElem?, List.getElem?_toArray, List.getElem?_cons_succ, List.getElem?_cons_zero, Option.getD_some, List.setIfInBounds_toArray, List.set_cons_zero, List.set_cons_succ])
    | (refine wk_pickf _ _ _ _ (by first | exact wanted_none rfl | exact wanted_yes _ _ rfl rfl) rfl rfl rfl ?_; simp only [Act.put, Act.eval, Array.getD_eq_getD_getElem?, List.getElem?_toArray, List.getElem?_cons_succ, List.getElem?_cons_zero, Option.getD_some, List.setIfInBounds_toArray, List.set_cons_zero, List.set_cons_succ])
    | (refine wk_skip (wanted_not _ true false rfl rfl rfl) ?_; simp only [Act.put, List.setIfInBounds_toArray, List.set_cons_zero, List.set_cons_succ])
    | (refine wk_skip (wanted_not _ false true rfl rfl rfl) ?_; simp only [Act.put, List.setIfInBounds_toArray, List.set_cons_zero, List.set_cons_succ])
    | (refine wk_skip (wanted_undef _ _ rfl rfl) ?_; simp only [Act.put, List.setIfInBounds_toArray, List.set_cons_zero, List.set_cons_succ])
    | (refine wk_not true _ _ (by first | exact wanted_none rfl | exact wanted_yes _ _ rfl rfl) rfl rfl ?_; simp only [Act.put, List.setIfInBounds_toArray, List.set_cons_zero, List.set_cons_succ])
    | (refine wk_not false _ _ (by first | exact wanted_none rfl | exact wanted_yes _ _ rfl rfl) rfl rfl ?_; simp only [Act.put, List.setIfInBounds_toArray, List.set_cons_zero, List.set_cons_succ]))
  refine wk_nil ?_
  intro w' hC
  obtain ⟨U, hU⟩ : ∃ U, U = w' := ⟨_, rfl⟩
  rw [← hU] at hC ⊢
  have HU := Lib.hid hC
  clear hC hU
  have u2 : U.heap[w.heap.size + 1]? = some (.cells #[.bool false] 4 (0, 0)) := HU.out.row (HV.out.row P2.out)
  have u1 : U.heap[w.heap.size]? = some (.cells #[.pointer (some ⟨g, 0, none⟩)] 113 (0, 0)) := HU.out.row (HV.out.row P1.out)
  have hru := HRV.out.below HU.out
  have f1 := frozen_of_row U (w.heap.size + 1) 0 _ _ u2
  have c1 : U.cell? ⟨w.heap.size + 1, 0, none⟩ = some (.bool false) := cell_of_row U _ 0 _ _ _ u2
  obtain ⟨U1, hU1⟩ : ∃ U1, U1 = U.setCell ⟨w.heap.size + 1, 0, none⟩ (.bool true) := ⟨_, rfl⟩
  have d2 : U1.heap[w.heap.size + 1]? = some (.cells #[.bool true] 4 (0, 0)) := by rw [hU1]; exact heap_setCell_same _ _ _ _ _ _ u2
  have d1 : U1.heap[w.heap.size]? = some (.cells #[.pointer (some ⟨g, 0, none⟩)] 113 (0, 0)) := by rw [hU1, heap_setCell_other _ _ _ _ (by simp)]; exact u1
  have dr : U1.heap[g]? = some (.cells #[.slice (some ⟨gb, 0, none⟩) 252 256, .int .i64 (i : Int), .bool true] 124 (0, 0)) := by rw [hU1, heap_setCell_other _ _ _ _ (by simp; omega)]; exact hru.row
  have db : U1.heap[gb]? = some (.cells (blk b) 45 (0, 0)) := by rw [hU1, heap_setCell_other _ _ _ _ (by simp; omega)]; exact hru.src
  have c2 : U1.cell? ⟨w.heap.size, 0, none⟩ = some (.pointer (some ⟨g, 0, none⟩)) := cell_of_row U1 _ 0 _ _ _ d1
  have c3 : U1.cell? ⟨g, 1, none⟩ = some (.int .i64 (i : Int)) := cell_of_row U1 _ 1 _ _ _ dr
  have f3 := frozen_of_row U1 g 1 _ _ dr
  have gU := grown_below (grown_below HGR.out HV.out) HU.out
  have gu : w.grownBy U1 (some g) := by
    rw [hU1]
    exact ⟨gU.os, gU.tape, gU.output, by simpa [World.setCell] using gU.size, fun k hk hne => by rw [heap_setCell_other U ⟨w.heap.size + 1, 0, none⟩ k _ (by simp; omega)]; exact gU.block k hk hne⟩
  obtain ⟨U2, hU2⟩ : ∃ U2, U2 = U1.setCell ⟨g, 1, none⟩ (.int .i64 ((i + n : Nat) : Int)) := ⟨_, rfl⟩
  have er : U2.heap[g]? = some (.cells #[.slice (some ⟨gb, 0, none⟩) 252 256, .int .i64 ((i + n : Nat) : Int), .bool true] 124 (0, 0)) := by rw [hU2]; exact heap_setCell_same _ _ _ _ _ _ dr
  have eb : U2.heap[gb]? = some (.cells (blk b) 45 (0, 0)) := by rw [hU2, heap_setCell_other _ _ _ _ (fun e => hne e.symm)]; exact db
  have e1 : U2.cell? ⟨w.heap.size, 0, none⟩ = some (.pointer (some ⟨g, 0, none⟩)) := by
    refine cell_of_row U2 _ 0 _ _ (0, 0) (by rw [hU2, heap_setCell_other U1 ⟨g, 1, none⟩ w.heap.size _ (Nat.ne_of_gt hgs)]; exact d1)
  have e2 : U2.cell? ⟨w.heap.size + 1, 0, none⟩ = some (.bool true) := by
    refine cell_of_row U2 _ 0 _ _ (0, 0) (by rw [hU2, heap_setCell_other U1 ⟨g, 1, none⟩ (w.heap.size + 1) _ (Nat.ne_of_gt (Nat.lt_succ_of_lt hgs))]; exact d2)
  have hr2 : ReaderAt U2 g gb b (i + n) true := ⟨er, eb, hru.len, hf, hne⟩
  have gu2 : w.grownBy U2 (some g) := grown_trans2 gu (by rw [hU2]; exact ⟨rfl, rfl, rfl, by simp [World.setCell], fun k _ hk => heap_setCell_other _ _ _ _ (fun e => hk (by rw [e]))⟩)
  have HU1 := Lib.hid hU1
  have HU2 := Lib.hid hU2
  have HR2 := Lib.hid hr2
  have GU2 := Lib.hid gu2
  have E1 := Lib.hid e1
  have E2 := Lib.hid e2
  have e3 : (i : Int) + (n : Int) = ((i + n : Nat) : Int) := by omega
  have E3 := Lib.hid e3
  clear u1 u2 hru hU1 d1 d2 dr db gu gU hU2 er eb e1 e2 hr2 gu2 e3
  go_upto_region 9 with (fail)
  rw [← HU1.out]
  clear c1 f1
  go_upto_region 10 with (fail)
  rw [E3.out, ← HU2.out]
  clear c2 c3 f3
  go_wp2_with fail
  refine leaves_cons (f := 79) (args := #[.pointer (some ⟨w.heap.size, 0, none⟩), .pointer (some ⟨w.heap.size + 1, 0, none⟩)]) (by simp) (by simp [go_sem]) ?_
  refine (settle_any _ g gb b (i + n) true true w.heap.size (w.heap.size + 1) HR2.out E1.out E2.out .returning).mono ?_
  rintro e u' w2 ⟨rfl, rfl, hr2, hg2⟩
  exact ⟨_, results_tmp rfl _ _ _, rfl, hr2, grown_trans2 GU2.out hg2⟩
end Go.Proofs.YtnphgaiiiiknpaaDoor
