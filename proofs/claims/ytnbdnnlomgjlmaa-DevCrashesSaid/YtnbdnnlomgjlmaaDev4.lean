/- The device layer: far, up. -/
import Derived.Test.YtnbdnnlomgjlmaaDev3
import Derived.Test.YtnbdnnlomgjlmaaFlow
import Derived.Great.BuildSlice
import Derived.Maps.AppendAt
namespace Go.Proofs.Ytnbdnnlomgjlmaa
open Go.RowKit
set_option linter.unusedSimpArgs false
set_option linter.unusedVariables false
set_option maxRecDepth 100000
def askV (x : Ask) : Array Value := #[.int .i64 x.e, .func (.func x.f) x.first x.cap]
section
variable {w : World} {g : Nat} {s : Dv}
theorem far_dev (h : (dvT g s).at w) (a : Nat) : Calls Try.prog 72 #[.pointer (some ⟨g, 0, none⟩), .int .u32 (a : Int)] w fun e w' => ∃ x : Ask, e = .returned (.agg (askV x)) ∧ x.Ok w' ∧ x.e = 2 ∧ x.r = decide (s.size ≤ a) ∧ Below w.heap.size w w' := by
  have H := Lib.hid h
  clear h
  have hmf : ∀ (fn : Fn) (first cap : Array Value) (w : World), (Instr.makeFunc fn first cap).run Try.prog w = .ok (.func fn first cap) w := fun _ _ _ _ => rfl
  have q := (((Rows.start w).alloc #[.pointer (some ⟨g, 0, none⟩)] 56).alloc #[.int .u32 (a : Int)] 25).alloc #[.int .i64 0, .nilFunc] 112
  rw [show ((w.alloc (.cells #[.pointer (some ⟨g, 0, none⟩)] 56)).alloc (.cells #[.int .u32 (a : Int)] 25)).heap.size = w.heap.size + 1 + 1 by simp, show (w.alloc (.cells #[.pointer (some ⟨g, 0, none⟩)] 56)).heap.size = w.heap.size + 1 by simp] at q
  have HQ := Lib.hid q
  clear q
  go_enter Try.func72, Try.ntmps72
  go_upto_region 1 with (refine wpList_alloc_row rfl 112 rfl _ zeroAsk ?_)
  obtain ⟨W, hW⟩ : ∃ W, W = ((w.alloc (.cells #[.pointer (some ⟨g, 0, none⟩)] 56)).alloc (.cells #[.int .u32 (a : Int)] 25)).alloc (.cells #[.int .i64 0, .nilFunc] 112) := ⟨_, rfl⟩
  rw [← hW]
  rw [show ((w.alloc (.cells #[.pointer (some ⟨g, 0, none⟩)] 56)).alloc (.cells #[.int .u32 (a : Int)] 25)).heap.size = w.heap.size + 1 + 1 by simp]
  have R := HQ.out
  rw [← hW] at R
  have HR := Lib.hid R
  clear R HQ hW
  obtain ⟨bd, hbd⟩ : ∃ b, b = w.heap.size := ⟨_, rfl⟩
  rw [← hbd] at HR ⊢
  have HBD := Lib.hid hbd
  clear hbd
  go_wp2_with (refine wpList_store_row rfl 112 _ _ rfl (bd + 1 + 1) #[.int .i64 2, .func (.func 91) #[] #[.pointer (some ⟨bd + 1, 0, none⟩), .pointer (some ⟨bd, 0, none⟩)]] rfl rfl 112 _ (HR.out.get 0 rfl) sizeAsk rfl (askOne _ _ _ _) ?_)
  have R1 := HR.out.setRow 0 #[.int .i64 2, .func (.func 91) #[] #[.pointer (some ⟨bd + 1, 0, none⟩), .pointer (some ⟨bd, 0, none⟩)]] rfl
  refine bodyPost_ret (v := .agg (askV (farQ s a (bd + 1) bd))) (results_cell_row rfl _ _ (bd + 1 + 1) 112 _ (0, 0) _ rfl (R1.get 0 rfl) Try.underlying112 rfl sizeAsk) rfl ⟨farQ s a (bd + 1) bd, rfl, ?_, rfl, rfl, R1.below⟩
  exact farQ_ok (H.out.since R1.below) a _ _ (R1.cell 1 0 rfl rfl) (R1.cell 2 0 rfl rfl) (R1.lt 1 rfl) (R1.lt 2 rfl)
end
end Go.Proofs.Ytnbdnnlomgjlmaa
