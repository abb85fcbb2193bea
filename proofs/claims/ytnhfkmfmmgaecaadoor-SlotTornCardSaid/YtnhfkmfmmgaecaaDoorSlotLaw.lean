/- The slot layer's plain laws: a root's bytes tell it; a block is a root's just if it is the block of the root that stands in it; torn blocks. -/
import Derived.Test.YtnhfkmfmmgaecaaDoorSlotEq
import Derived.Test.YtnhfkmfmmgaecaaDoorRef07T
import Derived.Test.YtnhfkmfmmgaecaaDoorPack
namespace Go.Proofs.YtnhfkmfmmgaecaaDoor
open Go.RowKit
set_option maxRecDepth 100000
def rootW : List Nat := [8, 4, 4, 4, 4, 4, 4, 1]
def Root.all (r : Root) : List Nat := [r.gen, r.size, r.picks, r.names, r.free, r.next, r.hint, r.vols]
theorem Root.bytes_pack (r : Root) : r.bytes = pack rootW r.all := by
  simp [Root.bytes, Root.upto, Root.nums, pack, rootW, Root.all]
theorem Root.fits {r : Root} (h : r.Ok) : Fits rootW r.all :=
  ⟨by have := h.gen; omega, by have := h.size; omega, by have := h.picks; omega, by have := h.names; omega, by have := h.free; omega, by have := h.next; omega, by have := h.hint; omega, by have := h.vols; omega, trivial⟩
theorem rootOf_all (b : List UInt8) : (rootOf b).all = unpack rootW b 1 := rfl
theorem Root.all_inj {r s : Root} (h : r.all = s.all) : r = s := by
  cases r; cases s
  simpa [Root.all] using h
theorem zeros_all (b : List UInt8) (hb : b.length = 256) : allZero (seg b 34 218) = true ↔ zerosFrom b 34 := by
  rw [allZero_iff, length_seg b 34 218 (by omega)]
  constructor
  · intro h k h1 h2
    obtain ⟨j, rfl⟩ : ∃ j, k = 34 + j := ⟨k - 34, by omega⟩
    rw [← get_seg b 34 218 j (by omega)]
    exact h j (by omega)
  · intro h i hi
    rw [get_seg b 34 218 i hi]
    exact h _ (by omega) (by omega)
theorem isRoot_iff (b : List UInt8) (hb : b.length = 256) : isRoot b = true ↔ (rootOf b).may = true ∧ doneB 82 (rootOf b).bytes = b := by
  rw [Root.bytes_pack, rootOf_all, pack_iff b hb 82 rootW (by decide)]
  unfold isRoot fineB
  simp only [Bool.and_eq_true, decide_eq_true_eq, zeros_all b hb]
  show _ ↔ _ ∧ sealB b = b ∧ b[0]? = some 82 ∧ zerosFrom b 34
  constructor
  · rintro ⟨⟨h1, h2⟩, h3, h4⟩; exact ⟨h4, h1, h2, h3⟩
  · rintro ⟨h4, h1, h2, h3⟩; exact ⟨⟨h1, h2⟩, h3, h4⟩
theorem rootOf_put (r : Root) (hr : r.Ok) : rootOf (doneB 82 r.bytes) = r := by
  refine Root.all_inj ?_
  rw [rootOf_all, Root.bytes_pack]
  exact unpack_done 82 rootW r.all (Root.fits hr) (by decide)
theorem isRoot_put (r : Root) (hr : r.Ok) (hm : r.may = true) : isRoot (doneB 82 r.bytes) = true := by
  rw [isRoot_iff _ (length_doneB _ _ (by rw [r.length_bytes]; omega)), rootOf_put r hr]
  exact ⟨hm, rfl⟩
theorem getC_put (r : Root) (hr : r.Ok) (hm : r.may = true) : getC (doneB 82 r.bytes) = r.cells ∧ getE (doneB 82 r.bytes) = 0 := by
  unfold getC getE
  rw [isRoot_put r hr hm, rootOf_put r hr]
  exact ⟨rfl, rfl⟩
theorem get_tornB (a b : List UInt8) (s i : Nat) (hi : i < 256) : (tornB a b s)[i]? = some (if newAt s (i / 64) = true then b.getD i 0 else a.getD i 0) := by
  simp [tornB, tornK, hi]
theorem length_tornB (a b : List UInt8) (s : Nat) : (tornB a b s).length = 256 := length_tornK a b s 256
theorem torn_none (a b : List UInt8) (ha : a.length = 256) : tornB a b 0 = a := by
  apply List.ext_getElem?
  intro i
  by_cases hi : i < 256
  · rw [get_tornB a b 0 i hi]
    have : newAt 0 (i / 64) = false := by simp [newAt]
    simp [this, ha, hi]
  · rw [List.getElem?_eq_none (by rw [length_tornB]; omega), List.getElem?_eq_none (by omega)]
theorem torn_all (a b : List UInt8) (hb : b.length = 256) : tornB a b 255 = b := by
  apply List.ext_getElem?
  intro i
  by_cases hi : i < 256
  · rw [get_tornB a b 255 i hi]
    have : newAt 255 (i / 64) = true := by
      have : i / 64 = 0 ∨ i / 64 = 1 ∨ i / 64 = 2 ∨ i / 64 = 3 := by omega
      rcases this with h | h | h | h <;> rw [h] <;> decide
    simp [this, hb, hi]
  · rw [List.getElem?_eq_none (by rw [length_tornB]; omega), List.getElem?_eq_none (by omega)]
/-- A sealed block that agrees with a root's block in the first sector, and has zeros behind, is it. -/
theorem sealed_first (x c : List UInt8) (h1 : sealB x = x) (h2 : sealB c = c) (hz : zerosFrom x 34) (hc2 : zerosFrom c 34) (hf : ∀ i, i < 64 → x[i]? = c[i]?) : x = c := by
  rw [← h1, ← h2]
  refine seal_of_take _ _ ?_
  apply List.ext_getElem?
  intro i
  simp only [List.getElem?_take]
  split
  · by_cases h : i < 64
    · exact hf i h
    · rw [hz i (by omega) ‹_›, hc2 i (by omega) ‹_›]
  · rfl
theorem torn_is (r s : Root) (hr : r.Ok) (hs : s.Ok) (n : Nat) (hx : isRoot (tornB (doneB 82 r.bytes) (doneB 82 s.bytes) n) = true) (hmr : r.may = true) (hms : s.may = true) :
    tornB (doneB 82 r.bytes) (doneB 82 s.bytes) n = doneB 82 r.bytes ∨ tornB (doneB 82 r.bytes) (doneB 82 s.bytes) n = doneB 82 s.bytes := by
  obtain ⟨b, hb⟩ : ∃ b, b = doneB 82 r.bytes := ⟨_, rfl⟩
  obtain ⟨c, hc⟩ : ∃ c, c = doneB 82 s.bytes := ⟨_, rfl⟩
  have ib := isRoot_put r hr hmr
  have ic := isRoot_put s hs hms
  have lb : b.length = 256 := by rw [hb]; exact length_doneB _ _ (by rw [r.length_bytes]; omega)
  have lc : c.length = 256 := by rw [hc]; exact length_doneB _ _ (by rw [s.length_bytes]; omega)
  rw [← hb] at ib; rw [← hc] at ic
  rw [← hb, ← hc] at hx ⊢
  obtain ⟨x, hxe⟩ : ∃ x, x = tornB b c n := ⟨_, rfl⟩
  have lx : x.length = 256 := by rw [hxe]; exact length_tornB _ _ _
  have hget : ∀ i, i < 256 → x[i]? = some (if newAt n (i / 64) = true then c.getD i 0 else b.getD i 0) := fun i hi => by rw [hxe]; exact get_tornB b c n i hi
  rw [← hxe] at hx ⊢
  have parts : ∀ y : List UInt8, y.length = 256 → isRoot y = true → sealB y = y ∧ zerosFrom y 34 := by
    intro y hy h
    unfold isRoot fineB at h
    simp only [Bool.and_eq_true, decide_eq_true_eq, zeros_all y hy] at h
    exact ⟨h.1.1, h.2.1⟩
  obtain ⟨x1, x2⟩ := parts x lx hx
  obtain ⟨b1, b2⟩ := parts b lb ib
  obtain ⟨c1, c2⟩ := parts c lc ic
  cases h0 : newAt n 0 with
  | true =>
    right
    refine sealed_first x c x1 c1 x2 c2 fun i hi => ?_
    rw [hget i (by omega), show i / 64 = 0 by omega, h0]
    simp [show i < c.length by omega]
  | false =>
    left
    refine sealed_first x b x1 b1 x2 b2 fun i hi => ?_
    rw [hget i (by omega), show i / 64 = 0 by omega, h0]
    simp [show i < b.length by omega]
end Go.Proofs.YtnhfkmfmmgaecaaDoor
