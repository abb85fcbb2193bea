/- The device layer's laws: their own small functions: full, block, great. -/
import Derived.Test.YtnbdnnlomgjlmaaDev13
namespace Go.Proofs.Ytnbdnnlomgjlmaa
open Go.RowKit
set_option linter.unusedSimpArgs false
set_option linter.unusedVariables false
set_option maxRecDepth 100000
def fullK (c : UInt8) (k : Nat) : List UInt8 := List.replicate k c ++ List.replicate (256 - k) 0
theorem fullK_zero (c : UInt8) : fullK c 0 = zeroBlk := rfl
theorem length_fullK (c : UInt8) (k : Nat) (h : k ≤ 256) : (fullK c k).length = 256 := by simp [fullK]; omega
theorem fullK_set (c : UInt8) (k : Nat) (h : k < 256) : (fullK c k).set k c = fullK c (k + 1) := by
  apply List.ext_getElem?
  intro i
  rw [List.getElem?_set, length_fullK c k (by omega)]
  by_cases e : k = i
  · subst e
    rw [if_pos rfl, if_pos h]
    unfold fullK
    rw [List.getElem?_append_left (by simp)]
    simp
  · rw [if_neg e]
    unfold fullK
    by_cases h1 : i < k
    · rw [List.getElem?_append_left (by simp; omega), List.getElem?_append_left (by simp; omega)]
      simp [h1, show i < k + 1 by omega]
    · rw [List.getElem?_append_right (by simp; omega), List.getElem?_append_right (by simp; omega)]
      simp only [List.length_replicate, List.getElem?_replicate]
      by_cases h2 : i < 256
      · rw [if_pos (by omega), if_pos (by omega)]
      · rw [if_neg (by omega), if_neg (by omega)]
theorem blk_cell {w : World} {g : Nat} {b : List UInt8} {T : TypeId} (h : w.heap[g]? = some (.cells (blk b) T (0, 0))) (k : Nat) (hk : k < b.length) : w.cell? ⟨g, k, none⟩ = some (.int .u8 ((b[k]'hk).toNat : Int)) := by
  rw [cell_of_row w g k _ _ _ h]; exact blk_get b k hk
set_option maxHeartbeats 1000000 in
theorem full_any (c : UInt8) (w : World) : Calls Try.prog 67 #[.int .u8 (c.toNat : Int)] w fun e w' => e = .returned (.agg (blk (fullK c 256))) ∧ Below w.heap.size w w' := by
  have q := ((Rows.start w).alloc (zeros 256 (.int .u8 0)) 23).alloc (blk (fullK c 0)) 23
  rw [show (w.alloc (.cells (zeros 256 (.int .u8 0)) 23)).heap.size = w.heap.size + 1 by simp] at q
  have HQ := Lib.hid q
  clear q
  go_enter Try.func67, Try.ntmps67
  go_wp2_with (refine wpList_alloc_row rfl 23 rfl _ zeroB ?_)
  obtain ⟨W, hW⟩ : ∃ W, W = (w.alloc (.cells (zeros 256 (.int .u8 0)) 23)).alloc (.cells (zeros 256 (.int .u8 0)) 23) := ⟨_, rfl⟩
  have R := HQ.out
  rw [fullK_zero, ← zero_cells, ← hW, zero_cells, ← fullK_zero c] at R
  rw [← hW]
  obtain ⟨g2, hg2⟩ : ∃ g, g = w.heap.size := ⟨_, rfl⟩
  rw [← hg2] at R ⊢
  have HR := Lib.hid R
  clear R HQ hW hg2
  go_loopw [4] (fun i wr => ∃ k : Nat, k ≤ 256 ∧ i = .int .i64 (k : Int) ∧ Rows w wr [(g2 + 1, blk (fullK c k), 23), (g2, blk (fullK c 0), 23)]) (fun i _ => 256 - (intOf i).toNat)
  case atStart => exact ⟨0, by omega, rfl, HR.out⟩
  case round =>
    obtain ⟨k, hk, rfl, hR⟩ := hrel
    have HRR := Lib.hid hR
    clear hR HR
    by_cases hlt : k < 256
    · have c0 := blk_cell (HRR.out.get 0 rfl) k (by rw [length_fullK c k hk]; exact hlt)
      have f0 := HRR.out.free 0 k rfl
      have R2 := HRR.out.setCell 0 k (vu8 c) rfl
      rw [blk_set, fullK_set c k hlt] at R2
      have HR2 := Lib.hid R2
      clear R2
      go_wp2_with fail
      exact ⟨⟨k + 1, by omega, by simp, HR2.out⟩, by simp [intOf]; omega⟩
    · obtain rfl : k = 256 := by omega
      have HS : Hid ((blk (fullK c 256)).size = 256) := Lib.hid (by rw [size_blk, length_fullK c 256 (by omega)])
      have HS0 : Hid ((blk (fullK c 0)).size = 256) := Lib.hid (by rw [size_blk, length_fullK c 0 (by omega)])
      go_wp2_with (first
        | refine wpList_load_row rfl 23 _ rfl (g2 + 1) rfl 23 (blk (fullK c 256)) (0, 0) _ (HRR.out.get 0 rfl) Try.underlying23 rfl (by rw [HS.out]; exact sizeB) ?_
        | refine wpList_store_row rfl 23 _ _ rfl g2 (blk (fullK c 256)) rfl rfl 23 _ (HRR.out.get 1 rfl) (by rw [HS.out]; exact sizeB) (by rw [HS.out, HS0.out]) (blk_one _) ?_)
      have R9 := HRR.out.setRow 1 (blk (fullK c 256)) rfl
      refine bodyPost_ret (v := .agg (blk (fullK c 256))) (results_cell_row rfl _ _ g2 23 _ (0, 0) _ rfl (R9.get 1 rfl) Try.underlying23 rfl (by rw [HS.out]; exact sizeB)) rfl ⟨rfl, R9.below⟩
/-- An act. -/
structure ActL where
  what : Nat
  a : Nat
  c : UInt8
  lA : Option Addr
  ln : Nat
  lc : Nat
  keeps : List (Nat × Nat)
  k : Int
def actV (x : ActL) : Array Value := #[.int .u8 (x.what : Int), .int .u32 (x.a : Int), .int .u8 (x.c.toNat : Int), .slice x.lA x.ln x.lc, .int .i64 x.k]
theorem sizeAct : (Try.prog.info? 63).map (·.size) = some 5 := by kernel_rfl
/-- A row of acts. -/
structure ActsIn (w : World) (A : Option Addr) (n : Nat) (l : List ActL) : Prop where
  len : l.length = n
  at_ : n = 0 ∨ ∃ b off, A = some ⟨b, off, none⟩ ∧ b < w.heap.size ∧ ∀ i, (hi : i < l.length) → w.rangeAt b (off + i * 5) (actV l[i]).toList
  ok : ∀ x ∈ l, x.what < 256 ∧ x.a < 4294967296 ∧ x.k < 9223372036854775808 ∧ x.ln ≤ 9223372036854775807 ∧ KeepsIn w x.lA x.ln x.keeps []
/-- An act's block. -/
def actB (c : UInt8) : List UInt8 := (((zeroBlk.set 0 c).set 64 (c + 1)).set 128 (c + 2)).set 192 (c + 3)
theorem length_actB (c : UInt8) : (actB c).length = 256 := by simp [actB, length_zeroBlk]
def actK (c : UInt8) : Nat → List UInt8
  | 0 => zeroBlk
  | 1 => zeroBlk.set 0 c
  | 2 => (zeroBlk.set 0 c).set 64 (c + 1)
  | 3 => ((zeroBlk.set 0 c).set 64 (c + 1)).set 128 (c + 2)
  | _ => actB c
theorem length_actK (c : UInt8) (k : Nat) : (actK c k).length = 256 := by
  unfold actK; split <;> simp [length_zeroBlk, actB]
theorem add_u8 (c : UInt8) (k : Nat) (hk : k < 256) : IntKind.u8.wrap ((c.toNat : Int) + (k : Int)) = ((c + UInt8.ofNat k).toNat : Int) := by
  rw [UInt8.toNat_add, UInt8.toNat_ofNat', IntKind.wrap_u8]
  omega
set_option maxHeartbeats 1000000 in
theorem block_any (x : ActL) (w : World) : Calls Try.prog 44 #[.agg (actV x)] w fun e w' => e = .returned (.agg (blk (actB x.c))) ∧ Below w.heap.size w w' := by
  have q := (((Rows.start w).alloc (actV x) 63).alloc (blk zeroBlk) 23).alloc (blk zeroBlk) 23
  rw [show ((w.alloc (.cells (actV x) 63)).alloc (.cells (blk zeroBlk) 23)).heap.size = w.heap.size + 1 + 1 by simp, show (w.alloc (.cells (actV x) 63)).heap.size = w.heap.size + 1 by simp] at q
  have HQ := Lib.hid q
  clear q
  go_enter Try.func44, Try.ntmps44
  go_upto_region 2 with (refine wpList_alloc_row rfl 23 rfl _ zeroB ?_)
  simp only [Act.put, List.setIfInBounds_toArray, List.set_cons_zero, List.set_cons_succ]
  rw [show ((w.alloc (.cells (actV x) 63)).alloc (.cells (zeros 256 (.int .u8 0)) 23)).heap.size = w.heap.size + 1 + 1 by simp, show (w.alloc (.cells (actV x) 63)).heap.size = w.heap.size + 1 by simp]
  obtain ⟨W, hW⟩ : ∃ W, W = ((w.alloc (.cells (actV x) 63)).alloc (.cells (zeros 256 (.int .u8 0)) 23)).alloc (.cells (zeros 256 (.int .u8 0)) 23) := ⟨_, rfl⟩
  have R := HQ.out
  rw [← zero_cells, ← hW, zero_cells] at R
  rw [← hW]
  obtain ⟨g2, hg2⟩ : ∃ g, g = w.heap.size := ⟨_, rfl⟩
  rw [← hg2] at R ⊢
  have HR := Lib.hid R
  clear R HQ hW hg2
  have c0 := blk_cell (HR.out.get 0 rfl) 0 (by rw [length_zeroBlk]; omega)
  have f0 := HR.out.free 0 0 rfl
  have x2 := HR.out.cell 2 2 rfl (show (actV x)[2]? = some (.int .u8 (x.c.toNat : Int)) from rfl)
  have R2 := HR.out.setCell 0 0 (vu8 x.c) rfl
  rw [blk_set] at R2
  have HR2 := Lib.hid R2
  clear R2
  obtain ⟨W1, hW1⟩ : ∃ W1, W1 = W.setCell ⟨g2 + 1 + 1, 0, none⟩ (vu8 x.c) := ⟨_, rfl⟩
  have hW1' := hW1
  unfold vu8 at hW1'
  go_wp2_with fail
  rw [← hW1']
  have R3 := HR2.out
  rw [← hW1] at R3
  have HR3 := Lib.hid R3
  clear R3 HR2 hW1 hW1' c0 f0 x2
  simp only [List.set_cons_zero] at HR3
  go_loopw [4] (fun i wr => ∃ (k : Nat) (z : Int), z = (k : Int) ∧ 1 ≤ k ∧ k ≤ 4 ∧ i = .int .i64 z ∧ Rows w wr [(g2 + 1 + 1, blk (actK x.c k), 23), (g2 + 1, blk zeroBlk, 23), (g2, actV x, 63)]) (fun i _ => 4 - (intOf i).toNat)
  case atStart => exact ⟨1, 1, rfl, by omega, by omega, rfl, HR3.out⟩
  case round =>
    obtain ⟨k, z, hz, hk1, hk, rfl, hR⟩ := hrel
    have HRR := Lib.hid hR
    clear hR HR3 HR
    rcases (show (k = 1 ∧ z = 1) ∨ (k = 2 ∧ z = 2) ∨ (k = 3 ∧ z = 3) ∨ (k = 4 ∧ z = 4) by omega) with ⟨rfl, rfl⟩ | ⟨rfl, rfl⟩ | ⟨rfl, rfl⟩ | ⟨rfl, rfl⟩
    · clear hz hk1 hk
      have c0 := blk_cell (HRR.out.get 0 rfl) 64 (by rw [length_actK]; omega)
      have f0 := HRR.out.free 0 64 rfl
      have x2 := HRR.out.cell 2 2 rfl (show (actV x)[2]? = some (.int .u8 (x.c.toNat : Int)) from rfl)
      have R2 := HRR.out.setCell 0 64 (vu8 (x.c + 1)) rfl
      rw [blk_set] at R2
      have HR2 := Lib.hid R2
      have ha := add_u8 x.c 1 (by omega)
      have HA := Lib.hid ha
      clear R2 ha
      go_wp2_with fail
      refine ⟨⟨2, _, by rfl, by omega, by omega, rfl, ?_⟩, by simp [intOf]⟩
      have e : Value.int .u8 (((x.c.toNat : Int) + 1) % 256) = vu8 (x.c + 1) := by
        have := HA.out
        rw [IntKind.wrap_u8] at this
        unfold vu8
        congr 1
      rw [e]
      exact HR2.out
    · clear hz hk1 hk
      have c0 := blk_cell (HRR.out.get 0 rfl) 128 (by rw [length_actK]; omega)
      have f0 := HRR.out.free 0 128 rfl
      have x2 := HRR.out.cell 2 2 rfl (show (actV x)[2]? = some (.int .u8 (x.c.toNat : Int)) from rfl)
      have R2 := HRR.out.setCell 0 128 (vu8 (x.c + 2)) rfl
      rw [blk_set] at R2
      have HR2 := Lib.hid R2
      have ha := add_u8 x.c 2 (by omega)
      have HA := Lib.hid ha
      clear R2 ha
      go_wp2_with fail
      refine ⟨⟨3, _, by rfl, by omega, by omega, rfl, ?_⟩, by simp [intOf]⟩
      have e : Value.int .u8 (((x.c.toNat : Int) + 2) % 256) = vu8 (x.c + 2) := by
        have := HA.out
        rw [IntKind.wrap_u8] at this
        unfold vu8
        congr 1
      rw [e]
      exact HR2.out
    · clear hz hk1 hk
      have c0 := blk_cell (HRR.out.get 0 rfl) 192 (by rw [length_actK]; omega)
      have f0 := HRR.out.free 0 192 rfl
      have x2 := HRR.out.cell 2 2 rfl (show (actV x)[2]? = some (.int .u8 (x.c.toNat : Int)) from rfl)
      have R2 := HRR.out.setCell 0 192 (vu8 (x.c + 3)) rfl
      rw [blk_set] at R2
      have HR2 := Lib.hid R2
      have ha := add_u8 x.c 3 (by omega)
      have HA := Lib.hid ha
      clear R2 ha
      go_wp2_with fail
      refine ⟨⟨4, _, by rfl, by omega, by omega, rfl, ?_⟩, by simp [intOf]⟩
      have e : Value.int .u8 (((x.c.toNat : Int) + 3) % 256) = vu8 (x.c + 3) := by
        have := HA.out
        rw [IntKind.wrap_u8] at this
        unfold vu8
        congr 1
      rw [e]
      exact HR2.out
    · clear hz hk1 hk
      have HS : Hid ((blk (actB x.c)).size = 256) := Lib.hid (by rw [size_blk, length_actB])
      have HS0 : Hid ((blk zeroBlk).size = 256) := Lib.hid (by rw [size_blk, length_zeroBlk])
      go_wp2_with (first
        | refine wpList_load_row rfl 23 _ rfl (g2 + 1 + 1) rfl 23 (blk (actB x.c)) (0, 0) _ (HRR.out.get 0 rfl) Try.underlying23 rfl (by rw [HS.out]; exact sizeB) ?_
        | refine wpList_store_row rfl 23 _ _ rfl (g2 + 1) (blk (actB x.c)) rfl rfl 23 _ (HRR.out.get 1 rfl) (by rw [HS.out]; exact sizeB) (by rw [HS.out, HS0.out]) (blk_one _) ?_)
      have R9 := HRR.out.setRow 1 (blk (actB x.c)) rfl
      refine bodyPost_ret (v := .agg (blk (actB x.c))) (results_cell_row rfl _ _ (g2 + 1) 23 _ (0, 0) _ rfl (R9.get 1 rfl) Try.underlying23 rfl (by rw [HS.out]; exact sizeB)) rfl ⟨rfl, R9.below⟩
end Go.Proofs.Ytnbdnnlomgjlmaa
