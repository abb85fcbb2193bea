/- The card layer: words, Put. -/
import Derived.Test.YtnbdnnlomgjlmaaCard2
import Derived.StillTailTactics
namespace Go.Proofs.Ytnbdnnlomgjlmaa
open Go.RowKit
set_option linter.unusedSimpArgs false
/-- The addresses of a card's numbers. -/
def wordsA (g : Nat) : Array Value := #[.pointer (some ⟨g, 1, none⟩), .pointer (some ⟨g, 2, none⟩), .pointer (some ⟨g, 3, none⟩), .pointer (some ⟨g, 4, none⟩), .pointer (some ⟨g, 5, none⟩), .pointer (some ⟨g, 6, none⟩), .pointer (some ⟨g, 7, none⟩)]
set_option maxRecDepth 100000 in
set_option maxHeartbeats 1000000 in
theorem words_any (w : World) (g : Nat) :
    Calls Try.prog 62 #[.pointer (some ⟨g, 0, none⟩)] w fun e w' => e = .returned (.agg (wordsA g)) ∧ Below w.heap.size w w' := by
  obtain ⟨W, hW⟩ : ∃ W, W = w.alloc (.cells #[.pointer none, .pointer none, .pointer none, .pointer none, .pointer none, .pointer none, .pointer none] 97) := ⟨_, rfl⟩
  have HW := Lib.hid hW
  have hg : W.heap[w.heap.size]? = some (.cells #[.pointer none, .pointer none, .pointer none, .pointer none, .pointer none, .pointer none, .pointer none] 97 (0, 0)) := by rw [hW]; exact heap_alloc_new _ _
  have hB : Below w.heap.size w W.drew := by rw [hW]; exact ((Below.refl _ _).alloc (Nat.le_refl _) _).trans (below_drewN (Below.refl _ _) 1)
  have HG : Hid (W.drew.heap[w.heap.size]? = _) := Lib.hid hg
  have HB := Lib.hid hB
  clear hW hg hB
  have sz : (Try.prog.info? 97).map (·.size) = some 7 := by kernel_rfl
  have SZ := Lib.hid sz
  clear sz
  go_enter Try.func62, Try.ntmps62
  go_wp2_with fail
  rw [← HW.out]
  go_still_tail 22, (by kernel_rfl)
  change wpList _ _ _ _ _ W.drew
  generalize W.drew = W2 at *
  refine wpList_store_row rfl 97 _ _ rfl w.heap.size (wordsA g) rfl rfl 97 _ HG.out SZ.out rfl (by simp [wordsA, Value.oneCell']) ?_
  go_wp2_with fail
  refine bodyPost_ret (v := .agg (wordsA g)) (results_cell_row rfl _ _ w.heap.size 97 _ (0, 0) _ rfl (setRow_heap _ _ _ _ _ _ HG.out) Try.underlying97 rfl SZ.out) rfl ⟨rfl, ?_⟩
  exact below_setRow HB.out (Nat.le_refl _) _
end Go.Proofs.Ytnbdnnlomgjlmaa
