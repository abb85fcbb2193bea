/- The document's roots: the number at a place of a block. -/
import Derived.Test.YtnhfkmfmmgaecaaDoorRef02D
namespace Go.Proofs.YtnhfkmfmmgaecaaDoor
open Go.RowKit
set_option linter.unusedSimpArgs false
set_option maxRecDepth 100000
theorem seg_cons (b : List UInt8) (i n : Nat) (h : i < b.length) : seg b i (n + 1) = b[i] :: seg b (i + 1) n := by
  unfold seg
  rw [List.drop_eq_getElem_cons h, List.take_succ_cons]
set_option maxHeartbeats 1000000 in
theorem refget_num (b : List UInt8) (hb : b.length = 256) (p n : Nat) (hn : n ≤ 8) (hp : p + n ≤ 256) (w : World) :
    Calls Tryd.prog 73 #[.agg (blk b), .int .i64 (p : Int), .int .i64 (n : Int)] w fun e w' => e = .returned (.int .u64 (num (seg b p n) : Int)) ∧ Below w.heap.size w w' := by
  obtain ⟨W, hW⟩ : ∃ W, W = w.alloc (.cells (blk b) 33) := ⟨_, rfl⟩
  have hg : W.heap[w.heap.size]? = some (.cells (blk b) 33 (0, 0)) := by rw [hW]; exact heap_alloc_new _ _
  have hB : Below w.heap.size w W := by rw [hW]; exact (Below.refl _ _).alloc (Nat.le_refl _) _
  have HG := Lib.hid hg
  have HB := Lib.hid hB
  have HW := Lib.hid hW
  have HL := Lib.hid hb
  have e0 : IntKind.i64.wrap ((n : Int) - 1) = (n : Int) - 1 := by rw [IntKind.wrap_i64]; omega
  clear hW hg hB hb
  go_enter Tryd.func73, Tryd.ntmps73
  go_upto_region 1 with fail
  rw [← HW.out]
  go_wp2_with fail
  go_loopw [7, 8] (fun x i wr => ∃ j : Nat, j ≤ n ∧ x = .int .u64 (num (seg b (p + (n - j)) j) : Int) ∧ i = .int .i64 ((n : Int) - 1 - (j : Int)) ∧ wr = W) (fun _ i _ => (intOf i + 1).toNat)
  case atStart => exact ⟨0, by omega, by simp [seg, num], by simp, rfl⟩
  case round =>
    obtain ⟨j, hj, rfl, rfl, rfl⟩ := hrel
    by_cases hlt : j < n
    · obtain ⟨q, hq⟩ : ∃ q, q = p + (n - (j + 1)) := ⟨_, rfl⟩
      have hq1 : p + (n - j) = q + 1 := by omega
      obtain ⟨z, hz⟩ : ∃ z, z = num (seg b (q + 1) j) := ⟨_, rfl⟩
      have hzl : z < 256 ^ j := by rw [hz]; exact num_seg_lt b _ _ (by rw [HL.out]; omega)
      have hz7 : z < 256 ^ 7 := Nat.lt_of_lt_of_le hzl (Nat.pow_le_pow_right (by decide) (by omega))
      have hql : q < b.length := by rw [HL.out]; omega
      obtain ⟨y, hy⟩ : ∃ y, y = b[q]'hql := ⟨_, rfl⟩
      have hyl := y.toNat_lt
      have hv : num (seg b q (j + 1)) = y.toNat + 256 * z := by rw [seg_cons b q j hql, hz, hy]; rfl
      have c1 : wr.cell? ⟨w.heap.size, q, none⟩ = some (.int .u8 (y.toNat : Int)) := by
        rw [cell_of_row wr _ q _ _ _ HG.out, blk_get b q hql, hy]; rfl
      rw [hq1, ← hz]
      obtain ⟨i, hi⟩ : ∃ i : Nat, i = n - (j + 1) := ⟨_, rfl⟩
      have hi1 : (n : Int) - 1 - (j : Int) = (i : Int) := by omega
      have e1 : IntKind.u64.wrap (256 * (z : Int)) = ((256 * z : Nat) : Int) := by rw [IntKind.wrap_u64]; omega
      have hpq : p + i = q := by omega
      have e2 : IntKind.u64.wrap (y.toNat : Int) = (y.toNat : Int) := by rw [IntKind.wrap_u64]; omega
      have e3 : IntKind.u64.wrap (256 * (z : Int) + (y.toNat : Int)) = 256 * (z : Int) + (y.toNat : Int) := by rw [IntKind.wrap_u64]; omega
      have e1' : IntKind.u64.wrap (256 * (z : Int)) = 256 * (z : Int) := by rw [IntKind.wrap_u64]; omega
      have HV : Hid ((256 * (z : Int) + (y.toNat : Int)) = (num (seg b (p + (n - (j + 1))) (j + 1)) : Int)) := Lib.hid (by rw [← hq, hv]; omega)
      have HI : Hid (((i : Int) - 1) = (n : Int) - 1 - ((j + 1 : Nat) : Int)) := Lib.hid (by omega)
      have hi8 : i < 8 := by omega
      have hpi : p + i < 256 := by omega
      have c2 : wr.cell? ⟨w.heap.size, p + i, none⟩ = some (.int .u8 (y.toNat : Int)) := by rw [hpq]; exact c1
      have e4 : IntKind.i64.wrap ((p : Int) + (i : Int)) = (p : Int) + (i : Int) := by rw [IntKind.wrap_i64]; omega
      have HJ : Hid (i = n - (j + 1)) := Lib.hid hi
      rw [hi1]
      clear e1 hi1 hpq c1 hv hy hql hzl hz hq1 hq hi hj
      go_wp2_with fail
      exact ⟨⟨j + 1, by omega, by rw [HV.out], by rw [HI.out], trivial⟩, by simp [intOf]⟩
    · obtain rfl : j = n := by omega
      have hk : p + (j - j) = p := by omega
      have hi1 : (j : Int) - 1 - (j : Int) = -1 := by omega
      rw [hk, hi1]
      clear hk hi1
      go_wp2_with fail
      go_ret
      exact ⟨rfl, HB.out⟩
end Go.Proofs.YtnhfkmfmmgaecaaDoor
