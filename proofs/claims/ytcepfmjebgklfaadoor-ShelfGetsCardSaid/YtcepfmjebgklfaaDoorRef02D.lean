/- The document's block of all fields' bytes. -/
import Derived.Test.YtcepfmjebgklfaaDoorRef02
namespace Go.Proofs.YtcepfmjebgklfaaDoor
open Go.RowKit
set_option linter.unusedSimpArgs false
set_option maxRecDepth 100000
theorem inside_set (m : UInt8) (L : List UInt8) (k : Nat) (hk : k < L.length) (hL : L.length ≤ 251) : (insideB m (L.take k)).set (k + 1) L[k] = insideB m (L.take (k + 1)) := by
  have h1 : (L.take k).length = k := by rw [List.length_take]; omega
  have h2 : (L.take (k + 1)).length = k + 1 := by rw [List.length_take]; omega
  unfold insideB
  rw [List.set_cons_succ, h1, h2, List.set_append_right _ _ (by omega), h1, Nat.sub_self, show 255 - k = (255 - (k + 1)) + 1 by omega, List.replicate_succ, List.set_cons_zero, List.take_succ_eq_append_getElem hk, List.append_assoc]
  rfl
theorem inside_zero (m : UInt8) : insideB m [] = zeroBlk.set 0 m := by
  simp [insideB, zeroBlk]
set_option maxHeartbeats 2000000 in
theorem refdone_any (m : UInt8) (L : List UInt8) (hL : L.length ≤ 251) (w : World) :
    Calls Tryd.prog 76 #[.int .u8 (m.toNat : Int), .string ⟨L.toArray⟩] w fun e w' => e = .returned (.tuple #[.agg (blk (doneB m L)), .int .i64 0]) ∧ Below w.heap.size w w' := by
  obtain ⟨s, hs⟩ : ∃ s : ByteArray, s = ⟨L.toArray⟩ := ⟨_, rfl⟩
  obtain ⟨n, hn⟩ : ∃ n, n = L.length := ⟨_, rfl⟩
  have hsz : s.size = n := by rw [hs, hn]; simp [ByteArray.size]
  rw [← hs]
  have hz : (Tryd.prog.info? 52).bind (·.zero) = some (.agg (blk zeroBlk)) := by rw [zeroB, zero_cells]
  have HZ := Lib.hid hz; clear hz
  have hlz := length_zeroBlk
  have HLZ := Lib.hid hlz; clear hlz
  have HS := Lib.hid hs
  have HN := Lib.hid hn
  have hn251 : n ≤ 251 := by omega
  clear hs hn hL
  go_enter Tryd.func76, Tryd.ntmps76
  go_wp2_with (first
   | refine wpList_alloc_row rfl 52 rfl _ zeroB ?_
   | refine wpList_build_none rfl 52 rfl (blk zeroBlk) HZ.out Tryd.underlying52 (by kernel_rfl) ?_
   | refine wpList_store_new rfl 52 _ _ rfl _ _ _ rfl rfl (by rw [size_blk, HLZ.out]; exact sizeB) (by rw [size_blk, HLZ.out, size_zeros]) (blk_one _) ?_)
  have hset : (blk zeroBlk).setIfInBounds 0 (Value.int .u8 (m.toNat : Int)) = blk (insideB m (L.take 0)) := by
    rw [show (Value.int .u8 (m.toNat : Int)) = vu8 m from rfl, blk_set, List.take_zero, inside_zero]
  rw [hset]
  obtain ⟨W, hW⟩ : ∃ W, W = (w.alloc (.cells (zeros 256 (.int .u8 0)) 52)).alloc (.cells (blk (insideB m (L.take 0))) 52) := ⟨_, rfl⟩
  rw [← hW]
  have h0 : W.heap[w.heap.size]? = some (.cells (zeros 256 (.int .u8 0)) 52 (0, 0)) := by rw [hW]; exact heap_alloc2_old _ _ _
  have h1 : W.heap[w.heap.size + 1]? = some (.cells (blk (insideB m (L.take 0))) 52 (0, 0)) := by rw [hW]; exact heap_alloc2_new _ _ _
  have hB : Below w.heap.size w W := by rw [hW]; exact ((Below.refl _ _).alloc (Nat.le_refl _) _).alloc (by simp) _
  have H0 := Lib.hid h0
  have H1 := Lib.hid h1
  have HB := Lib.hid hB
  clear hset hW h0 h1 hB
  go_loopw [7] (fun i wr => ∃ k : Nat, k ≤ n ∧ i = .int .i64 k ∧ wr.heap[w.heap.size]? = some (.cells (zeros 256 (.int .u8 0)) 52 (0, 0)) ∧ wr.heap[w.heap.size + 1]? = some (.cells (blk (insideB m (L.take k))) 52 (0, 0)) ∧ Below w.heap.size w wr) (fun i _ => n - (intOf i).toNat)
  case atStart => exact ⟨0, by omega, rfl, H0.out, H1.out, HB.out⟩
  case round =>
    obtain ⟨k, hk, rfl, g0, g1, gB⟩ := hrel
    have G0 := Lib.hid g0
    have G1 := Lib.hid g1
    have GB := Lib.hid gB
    clear g0 g1 gB
    have hLn := HN.out
    have hTl : (L.take k).length = k := by rw [List.length_take]; omega
    by_cases hlt : k < n
    · have hkL : k < L.length := by omega
      have hil : (insideB m (L.take k)).length = 256 := length_insideB m _ (by omega)
      obtain ⟨v0, c1⟩ : ∃ v0, wr.cell? ⟨w.heap.size + 1, k + 1, none⟩ = some v0 := ⟨_, by
        rw [cell_of_row wr _ (k + 1) _ _ _ G1.out]; exact blk_get _ (k + 1) (by omega)⟩
      have e1 : IntKind.i64.wrap (1 + (k : Int)) = ((k + 1 : Nat) : Int) := by rw [IntKind.wrap_i64]; omega
      have f1 := frozen_of_row wr (w.heap.size + 1) (k + 1) _ _ G1.out
      have hks : k < s.size := by rw [hsz]; exact hlt
      have hsk : s[k]'hks = L[k]'hkL := by
        have := HS.out; subst this; rfl
      obtain ⟨y, hy⟩ : ∃ y, y = L[k] := ⟨_, rfl⟩
      rw [← hy] at hsk
      have HY := Lib.hid (show (insideB m (L.take k)).set (k + 1) y = insideB m (L.take (k + 1)) by rw [hy]; exact inside_set m L k hkL (by omega))
      clear hLn hTl hkL hil hy
      go_wp2_with fail
      refine ⟨⟨k + 1, by omega, by go_num, ?_, ?_, ?_⟩, by simp [intOf]; omega⟩
      · rw [heap_setCell_other _ _ _ _ (by simp)]; exact G0.out
      · rw [heap_setCell_same _ _ _ _ _ _ G1.out, show (Value.int .u8 (y.toNat : Int)) = vu8 y from rfl, blk_set, HY.out]
      · exact GB.out.setCell (by simp) _
    · obtain rfl : k = n := by omega
      have hT : L.take k = L := by rw [hLn]; exact List.take_length
      have G1' : Hid (wr.heap[w.heap.size + 1]? = some (.cells (blk (insideB m L)) 52 (0, 0))) := by rw [← hT]; exact G1
      have HI : Hid ((insideB m L).length = 256) := Lib.hid (length_insideB m L (by omega))
      have hlS : (blk (sealB (insideB m L))).size = 256 := by rw [size_blk, length_sealB _ HI.out]
      have HS3 := Lib.hid hlS
      have hws : w.heap.size + 2 ≤ wr.heap.size := (Array.getElem?_eq_some_iff.1 G1'.out).1
      clear hlS hT hTl hLn G1
      go_wp2_with (first
       | refine wpList_load_row rfl 52 _ rfl (w.heap.size + 1) rfl 52 (blk (insideB m L)) (0, 0) _ G1'.out Tryd.underlying52 rfl (by rw [size_blk, HI.out]; exact sizeB) ?_
       | (go_at_call 22; refine (refseal_any _ HI.out _).mono ?_))
      rintro e W3 ⟨rfl, hb4⟩
      have HB3 := Lib.hid (GB.out.trans (hb4.mono (show w.heap.size ≤ wr.heap.size by omega)))
      have HR3 := Lib.hid ((hb4.block _ (show w.heap.size < wr.heap.size by omega)).trans G0.out)
      clear hb4
      go_wp2_with (refine wpList_store_row rfl 52 _ _ rfl w.heap.size (blk (sealB (insideB m L))) rfl rfl 52 _ HR3.out (by rw [HS3.out]; exact sizeB) (by rw [HS3.out, size_zeros]) (blk_one _) ?_)
      refine bodyPost_ret (v := .tuple #[.agg (blk (sealB (insideB m L))), .int .i64 0]) (results_cell_slot rfl _ _ w.heap.size 52 _ (0, 0) _ _ rfl rfl (setRow_heap _ _ _ _ _ _ HR3.out) Tryd.underlying52 rfl (by rw [HS3.out]; exact sizeB)) rfl ⟨rfl, ?_⟩
      exact below_setRow HB3.out (Nat.le_refl _) _
end Go.Proofs.YtcepfmjebgklfaaDoor
