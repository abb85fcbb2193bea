/- The document's torn block. -/
import Derived.Test.YtnhfkmfmmgaecaaDoorRef02D
namespace Go.Proofs.YtnhfkmfmmgaecaaDoor
open Go.RowKit
set_option linter.unusedSimpArgs false
set_option maxRecDepth 100000
/-- Is sector j of those that are new? -/
def newAt (s j : Nat) : Bool := decide (s / 2 ^ j % 2 = 1)
/-- The torn block of which k bytes are done. -/
def tornK (a b : List UInt8) (s k : Nat) : List UInt8 := (List.range 256).map fun i => if i < k ∧ newAt s (i / 64) = true then b.getD i 0 else a.getD i 0
def tornB (a b : List UInt8) (s : Nat) : List UInt8 := tornK a b s 256
theorem length_tornK (a b : List UInt8) (s k : Nat) : (tornK a b s k).length = 256 := by simp [tornK]
theorem tornK_zero (a b : List UInt8) (ha : a.length = 256) (s : Nat) : tornK a b s 0 = a := by
  apply List.ext_getElem
  · simp [tornK, ha]
  · intro i h1 h2
    simp [tornK, h2]
theorem tornK_new (a b : List UInt8) (s k : Nat) (hk : k < 256) (h : newAt s (k / 64) = true) : (tornK a b s k).set k (b.getD k 0) = tornK a b s (k + 1) := by
  apply List.ext_getElem
  · simp [tornK]
  · intro i h1 h2
    have hi : i < 256 := by simpa [tornK] using h2
    by_cases e : i = k
    · subst e
      simp [tornK, h, hi]
    · rw [List.getElem_set_ne (by omega)]
      simp only [tornK, List.getElem_map, List.getElem_range]
      have : i < k ↔ i < k + 1 := by omega
      simp only [this]
theorem tornK_old (a b : List UInt8) (s k : Nat) (h : newAt s (k / 64) = false) : tornK a b s k = tornK a b s (k + 1) := by
  unfold tornK
  apply List.map_congr_left
  intro i _
  by_cases e : i = k
  · subst e; simp [h]
  · have : i < k ↔ i < k + 1 := by omega
    simp only [this]
set_option maxHeartbeats 1000000 in
theorem reftorn_any (a b : List UInt8) (ha : a.length = 256) (hb : b.length = 256) (s : Nat) (w : World) :
    Calls Tryd.prog 35 #[.agg (blk a), .agg (blk b), .int .u8 (s : Int)] w fun e w' => e = .returned (.agg (blk (tornB a b s))) ∧ Below w.heap.size w w' := by
  obtain ⟨W, hW⟩ : ∃ W, W = ((w.alloc (.cells (blk a) 33)).alloc (.cells (blk b) 33)).alloc (.cells (zeros 256 (.int .u8 0)) 33) := ⟨_, rfl⟩
  have hsz : ((w.alloc (.cells (blk a) 33)).alloc (.cells (blk b) 33)).heap.size = w.heap.size + 2 := by simp
  have h0 : W.heap[w.heap.size]? = some (.cells (blk (tornK a b s 0)) 33 (0, 0)) := by rw [tornK_zero a b ha, hW, Go.heap_alloc_old _ _ (by rw [hsz]; omega)]; exact heap_alloc2_old _ _ _
  have h1 : W.heap[w.heap.size + 1]? = some (.cells (blk b) 33 (0, 0)) := by rw [hW, Go.heap_alloc_old _ _ (by rw [hsz]; omega)]; exact heap_alloc2_new _ _ _
  have h2 : W.heap[w.heap.size + 2]? = some (.cells (zeros 256 (.int .u8 0)) 33 (0, 0)) := by rw [hW, ← hsz]; exact heap_alloc_new _ _
  have hB : Below w.heap.size w W := by rw [hW]; exact (((Below.refl _ _).alloc (Nat.le_refl _) _).alloc (by simp) _).alloc (by simp; omega) _
  have HW := Lib.hid hW
  have H0 := Lib.hid h0
  have H1 := Lib.hid h1
  have H2 := Lib.hid h2
  have HB := Lib.hid hB
  have HLB := Lib.hid hb
  clear hW hsz h0 h1 h2 hB ha hb
  go_enter Tryd.func35, Tryd.ntmps35
  go_wp2_with (first
   | refine wpList_alloc_row rfl 33 rfl _ zeroB ?_)
  rw [← HW.out]
  go_loopw [7] (fun i wr => ∃ k : Nat, k ≤ 256 ∧ i = .int .i64 k ∧ wr.heap[w.heap.size]? = some (.cells (blk (tornK a b s k)) 33 (0, 0)) ∧ wr.heap[w.heap.size + 1]? = some (.cells (blk b) 33 (0, 0)) ∧ wr.heap[w.heap.size + 2]? = some (.cells (zeros 256 (.int .u8 0)) 33 (0, 0)) ∧ Below w.heap.size w wr) (fun i _ => 256 - (intOf i).toNat)
  case atStart => exact ⟨0, by omega, rfl, H0.out, H1.out, H2.out, HB.out⟩
  case round =>
    obtain ⟨k, hk, rfl, g0, g1, g2, gB⟩ := hrel
    have G0 := Lib.hid g0
    have G1 := Lib.hid g1
    have G2 := Lib.hid g2
    have GB := Lib.hid gB
    clear g0 g1 g2 gB H0 H1 H2 HB HW
    by_cases hlt : k < 256
    · have hbit : (((s : Int) / 2 ^ (k / 64)).tmod 2 == 1) = newAt s (k / 64) := by
        have e1 : ((s : Int) / 2 ^ (k / 64)) = ((s / 2 ^ (k / 64) : Nat) : Int) := by simp
        rw [e1, Int.tmod_eq_emod_of_nonneg (Int.natCast_nonneg _), newAt, Bool.eq_iff_iff]
        simp
        omega
      cases hn : newAt s (k / 64) with
      | true =>
        rw [hn] at hbit
        have HT := Lib.hid (tornK_new a b s k hlt hn)
        have hkb : k < b.length := by rw [HLB.out]; exact hlt
        have hgd : b.getD k 0 = b[k] := by simp [hkb]
        rw [hgd] at HT
        obtain ⟨y, hy⟩ : ∃ y, y = b[k] := ⟨_, rfl⟩
        rw [← hy] at HT
        have c1 : wr.cell? ⟨w.heap.size + 1, k, none⟩ = some (.int .u8 (y.toNat : Int)) := by
          rw [cell_of_row wr _ k _ _ _ G1.out, blk_get b k hkb, hy]; rfl
        obtain ⟨v0, c0⟩ : ∃ v0, wr.cell? ⟨w.heap.size, k, none⟩ = some v0 := ⟨_, by
          rw [cell_of_row wr _ k _ _ _ G0.out]; exact blk_get _ k (by rw [length_tornK]; omega)⟩
        have f0 := frozen_of_row wr (w.heap.size) k _ _ G0.out
        clear hn hkb hgd hy
        go_wp2_with fail
        refine ⟨⟨k + 1, by omega, by go_num, ?_, ?_, ?_, ?_⟩, by simp [intOf]; omega⟩
        · rw [heap_setCell_same _ _ _ _ _ _ G0.out, show (Value.int .u8 (y.toNat : Int)) = vu8 y from rfl, blk_set, HT.out]
        · rw [heap_setCell_other _ _ _ _ (by simp)]; exact G1.out
        · rw [heap_setCell_other _ _ _ _ (by simp)]; exact G2.out
        · exact GB.out.setCell (by simp) _
      | false =>
        rw [hn] at hbit
        have HT := Lib.hid (tornK_old a b s k hn)
        clear hn
        go_wp2_with fail
        exact ⟨⟨k + 1, by omega, by go_num, by rw [← HT.out]; exact G0.out, G1.out, G2.out, GB.out⟩, by simp [intOf]; omega⟩
    · obtain rfl : k = 256 := by omega
      have hS : (blk (tornK a b s 256)).size = 256 := by rw [size_blk, length_tornK]
      have HS := Lib.hid hS
      clear hS
      obtain ⟨T, hT⟩ : ∃ T, T = tornK a b s 256 := ⟨_, rfl⟩
      rw [← hT] at G0 HS
      have HT := Lib.hid hT
      clear hT
      go_wp2_with (first
       | refine wpList_load_row rfl 33 _ rfl w.heap.size rfl 33 (blk T) (0, 0) _ G0.out Tryd.underlying33 rfl (by rw [HS.out]; exact sizeB) ?_
       | refine wpList_store_row rfl 33 _ _ rfl (w.heap.size + 2) (blk T) rfl rfl 33 _ G2.out (by rw [HS.out]; exact sizeB) (by rw [HS.out, size_zeros]) (blk_one _) ?_)
      refine bodyPost_ret (v := .agg (blk (tornB a b s))) (results_cell_row rfl _ _ (w.heap.size + 2) 33 _ (0, 0) _ rfl (by rw [show tornB a b s = T from HT.out.symm]; exact setRow_heap _ _ _ _ _ _ G2.out) Tryd.underlying33 rfl (by rw [show tornB a b s = T from HT.out.symm, HS.out]; exact sizeB)) rfl ⟨rfl, ?_⟩
      exact below_setRow GB.out (by omega) _
end Go.Proofs.YtnhfkmfmmgaecaaDoor
