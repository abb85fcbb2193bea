/- The slot layer: of, Put. -/
import Derived.Test.YtnhfkmfmmgaecaaDoorSlot
import Derived.Test.YtnhfkmfmmgaecaaDoorFieldDone
namespace Go.Proofs.YtnhfkmfmmgaecaaDoor
open Go.RowKit
set_option linter.unusedSimpArgs false
set_option maxRecDepth 100000
/-- The addresses of a root's words. -/
def ofA (g : Nat) : Array Value := #[.pointer (some ⟨g, 1, none⟩), .pointer (some ⟨g, 2, none⟩), .pointer (some ⟨g, 3, none⟩), .pointer (some ⟨g, 4, none⟩), .pointer (some ⟨g, 5, none⟩), .pointer (some ⟨g, 6, none⟩)]
theorem ofA_get (g k : Nat) (hk : k < 6) : (ofA g)[k]? = some (.pointer (some ⟨g, k + 1, none⟩)) := by
  have : k = 0 ∨ k = 1 ∨ k = 2 ∨ k = 3 ∨ k = 4 ∨ k = 5 := by omega
  rcases this with rfl | rfl | rfl | rfl | rfl | rfl <;> rfl
theorem swords_any (v : Value) (w : World) : Calls Tryd.prog 90 #[v] w fun e w' => e = .returned v ∧ w = w' := by
  go_enter Tryd.func90, Tryd.ntmps90
  go_wp2
  go_ret
  exact ⟨rfl, rfl⟩
theorem of_any (w : World) (g : Nat) : Calls Tryd.prog 70 #[.pointer (some ⟨g, 0, none⟩)] w fun e w' =>
    e = .returned (.slice (some ⟨w.heap.size, 0, none⟩) 6 6) ∧ w'.heap[w.heap.size]? = some (.cells (ofA g) 123 (0, 0)) ∧ Below w.heap.size w w' := by
  have hB : Below w.heap.size w (w.drew.alloc (.cells (ofA g) 123)) := (Below.refl _ _).drew.alloc (Nat.le_refl _) _
  have hg : (w.drew.alloc (.cells (ofA g) 123)).heap[w.heap.size]? = some (.cells (ofA g) 123 (0, 0)) := heap_alloc_new w.drew _
  have HB := Lib.hid hB
  have HG := Lib.hid hg
  clear hB hg
  go_enter Tryd.func70, Tryd.ntmps70
  go_wp2_with fail
  go_still_tail 18, (by kernel_rfl)
  change wpList _ _ _ _ _ w.drew
  go_wp2_with (go_at_call 90; refine (swords_any _ _).mono ?_; rintro e w1 ⟨rfl, rfl⟩)
  go_ret
  exact ⟨rfl, HG.out, HB.out⟩
def Root.nums (r : Root) : List Nat := [r.size, r.picks, r.names, r.free, r.next, r.hint]
def Root.upto (r : Root) (k : Nat) : List UInt8 := lows r.gen 8 ++ (r.nums.take k).flatMap (lows · 4)
/-- A root's bytes. -/
def Root.bytes (r : Root) : List UInt8 := r.upto 6 ++ lows r.vols 1
theorem Root.upto_succ (r : Root) (k : Nat) (hk : k < 6) : r.upto k ++ lows (r.nums.getD k 0) 4 = r.upto (k + 1) := by
  unfold Root.upto
  rw [List.append_assoc]
  congr 1
  have : k = 0 ∨ k = 1 ∨ k = 2 ∨ k = 3 ∨ k = 4 ∨ k = 5 := by omega
  rcases this with rfl | rfl | rfl | rfl | rfl | rfl <;> simp [Root.nums]
theorem Root.length_upto (r : Root) (k : Nat) (hk : k ≤ 6) : (r.upto k).length = 8 + 4 * k := by
  unfold Root.upto
  rw [List.length_append, length_lows]
  have : k = 0 ∨ k = 1 ∨ k = 2 ∨ k = 3 ∨ k = 4 ∨ k = 5 ∨ k = 6 := by omega
  rcases this with rfl | rfl | rfl | rfl | rfl | rfl | rfl <;> simp [Root.nums, length_lows]
theorem Root.length_bytes (r : Root) : r.bytes.length = 33 := by
  rw [Root.bytes, List.length_append, r.length_upto 6 (by omega), length_lows]
theorem rcells_get (r : Root) (k : Nat) (hk : k < 6) : r.cells[k + 1]? = some (.int .u32 (r.nums.getD k 0 : Int)) := by
  have : k = 0 ∨ k = 1 ∨ k = 2 ∨ k = 3 ∨ k = 4 ∨ k = 5 := by omega
  rcases this with rfl | rfl | rfl | rfl | rfl | rfl <;> rfl
theorem Root.Ok.num {r : Root} (h : r.Ok) (k : Nat) (hk : k < 6) : r.nums.getD k 0 < 4294967296 := by
  obtain ⟨-, h1, h2, h3, h4, h5, h6, -⟩ := h
  have : k = 0 ∨ k = 1 ∨ k = 2 ∨ k = 3 ∨ k = 4 ∨ k = 5 := by omega
  rcases this with rfl | rfl | rfl | rfl | rfl | rfl <;> simp [Root.nums] <;> assumption
set_option maxHeartbeats 1000000 in
theorem rput_no (c : Root) (hm : c.may = false) (w : World) :
    Calls Tryd.prog 26 #[.agg c.cells] w fun e w' => e = .returned (.tuple #[.agg (zeros 256 (.int .u8 0)), .int .i64 2]) ∧ Below w.heap.size w w' := by
  obtain ⟨W, hW⟩ : ∃ W, W = (w.alloc (.cells c.cells 54)).alloc (.cells (zeros 256 (.int .u8 0)) 33) := ⟨_, rfl⟩
  have hB : Below w.heap.size w W := by rw [hW]; exact ((Below.refl _ _).alloc (Nat.le_refl _) _).alloc (by simp) _
  have hg0 : W.heap[w.heap.size]? = some (.cells c.cells 54 (0, 0)) := by rw [hW]; exact heap_alloc2_old w _ _
  have hg1 : W.heap[w.heap.size + 1]? = some (.cells (zeros 256 (.int .u8 0)) 33 (0, 0)) := by rw [hW]; exact heap_alloc2_new w _ _
  have hs : W.heap.size = w.heap.size + 2 := by rw [hW]; simp
  have hM := rmay_any c W
  rw [hm] at hM
  have HM := Lib.hid hM
  have HW := Lib.hid hW
  have HS := Lib.hid hs
  have HG0 := Lib.hid hg0
  have HG1 := Lib.hid hg1
  have hcs : c.cells.size = 8 := rfl
  have HCS := Lib.hid hcs
  have hz : (Tryd.prog.info? 54).map (·.size) = some 8 := by kernel_rfl
  have HZ := Lib.hid hz
  clear hW hs hg0 hg1 hM hm hcs hz
  obtain ⟨cs, hcs⟩ : ∃ cs, cs = c.cells := ⟨_, rfl⟩
  rw [← hcs] at HM HW HG0 HCS ⊢
  clear hcs
  go_enter Tryd.func26, Tryd.ntmps26
  go_wp2_with (first
   | refine wpList_alloc_row rfl 33 rfl _ zeroB ?_
   | (rw [← HW.out]; refine wpList_load_row rfl 54 _ rfl w.heap.size rfl 54 cs (0, 0) _ HG0.out Tryd.underlying54 rfl (by rw [HCS.out]; exact HZ.out) ?_))
  refine HM.out.mono ?_
  rintro e w1 ⟨rfl, hb1⟩
  have hr1 : w1.heap[w.heap.size + 1]? = some (.cells (zeros 256 (.int .u8 0)) 33 (0, 0)) := (hb1.block _ (by rw [HS.out]; omega)).trans HG1.out
  have hB1 : Below w.heap.size w w1 := hB.trans (hb1.mono (by rw [HS.out]; omega))
  have HR1 := Lib.hid hr1
  have HB1 := Lib.hid hB1
  clear hr1 hB1 hb1 hB
  go_wp2_with (first
   | refine wpList_build_none rfl 33 rfl _ zeroB Tryd.underlying33 rfl ?_
   | refine wpList_store_row rfl 33 _ _ rfl (w.heap.size + 1) (zeros 256 (.int .u8 0)) rfl rfl 33 _ HR1.out (by rw [size_zeros]; exact sizeB) (by rw [size_zeros]) zeros_one ?_)
  refine bodyPost_ret (v := .tuple #[.agg (zeros 256 (.int .u8 0)), .int .i64 2]) (results_cell_slot rfl _ _ (w.heap.size + 1) 33 _ (0, 0) _ _ rfl rfl (setRow_heap _ _ _ _ _ _ HR1.out) Tryd.underlying33 rfl (by rw [size_zeros]; exact sizeB)) rfl ⟨rfl, ?_⟩
  exact below_setRow HB1.out (by omega) _
set_option maxHeartbeats 2000000 in
theorem rput_any (c : Root) (hc : c.Ok) (hm : c.may = true) (w : World) :
    Calls Tryd.prog 26 #[.agg c.cells] w fun e w' => e = .returned (.tuple #[.agg (blk (doneB 82 c.bytes)), .int .i64 0]) ∧ Below w.heap.size w w' := by
  obtain ⟨W, hW⟩ : ∃ W, W = (w.alloc (.cells c.cells 54)).alloc (.cells (zeros 256 (.int .u8 0)) 33) := ⟨_, rfl⟩
  have hB : Below w.heap.size w W := by rw [hW]; exact ((Below.refl _ _).alloc (Nat.le_refl _) _).alloc (by simp) _
  have hg0 : W.heap[w.heap.size]? = some (.cells c.cells 54 (0, 0)) := by rw [hW]; exact heap_alloc2_old w _ _
  have hg1 : W.heap[w.heap.size + 1]? = some (.cells (zeros 256 (.int .u8 0)) 33 (0, 0)) := by rw [hW]; exact heap_alloc2_new w _ _
  have hs : W.heap.size = w.heap.size + 2 := by rw [hW]; simp
  have hM := rmay_any c W
  rw [hm] at hM
  have HM := Lib.hid hM
  have HW := Lib.hid hW
  have HS := Lib.hid hs
  have HG0 := Lib.hid hg0
  have HG1 := Lib.hid hg1
  have hcs : c.cells.size = 8 := rfl
  have HCS := Lib.hid hcs
  have hz : (Tryd.prog.info? 54).map (·.size) = some 8 := by kernel_rfl
  have HZ := Lib.hid hz
  have HLU := Lib.hid c.length_upto
  have HUS := Lib.hid c.upto_succ
  have HLB := Lib.hid c.length_bytes
  have HNUM := Lib.hid (fun k hk => hc.num k hk)
  have HCG := Lib.hid (rcells_get c)
  have hgen := hc.gen
  have hvols := hc.vols
  have HBY : Hid (c.bytes = c.upto 6 ++ lows c.vols 1) := Lib.hid rfl
  have HU0 : Hid (lows c.gen 8 = c.upto 0) := Lib.hid (by simp [Root.upto])
  have hc0 : c.cells[0]? = some (.int .u64 (c.gen : Int)) := rfl
  have hc7 : c.cells[7]? = some (.int .u8 (c.vols : Int)) := rfl
  have HGEN : Hid (c.gen < 2 ^ 64) := Lib.hid hgen
  clear hW hs hg0 hg1 hM hm hcs hz hgen
  obtain ⟨cs, hcs⟩ : ∃ cs, cs = c.cells := ⟨_, rfl⟩
  rw [← hcs] at HM HW HG0 HCS HCG hc0 hc7 ⊢
  have HC0 := Lib.hid hc0
  have HC7 := Lib.hid hc7
  clear hcs hc0 hc7
  have hmf : ∀ (fn : Fn) (first cap : Array Value) (w : World), (Instr.makeFunc fn first cap).run Tryd.prog w = .ok (.func fn first cap) w := fun _ _ _ _ => rfl
  go_enter Tryd.func26, Tryd.ntmps26
  go_wp2_with (first
   | refine wpList_alloc_row rfl 33 rfl _ zeroB ?_
   | (rw [← HW.out]; refine wpList_load_row rfl 54 _ rfl w.heap.size rfl 54 cs (0, 0) _ HG0.out Tryd.underlying54 rfl (by rw [HCS.out]; exact HZ.out) ?_))
  refine HM.out.mono ?_
  rintro e w1 ⟨rfl, hb1⟩
  have HB1 := Lib.hid (hb1.mono (show w.heap.size + 2 ≤ W.heap.size by rw [HS.out]; exact Nat.le_refl _))
  have hs1 : w.heap.size + 2 ≤ w1.heap.size := by have := hb1.size; rw [HS.out] at this; exact this
  clear hb1
  go_wp2_with fail
  refine (new_any _).mono ?_
  rintro e w2 ⟨g, rfl, hg, hw2, hb2⟩
  have HB2 := Lib.hid (HB1.out.trans (hb2.mono hs1))
  have h0 : w2.cell? ⟨w.heap.size, 0, none⟩ = some (.int .u64 (c.gen : Int)) := by
    rw [HB2.out.cell (p := ⟨w.heap.size, 0, none⟩) (by simp), cell_of_row W _ 0 _ _ _ HG0.out]; exact HC0.out
  have HW2 := Lib.hid hw2
  have HGE := Lib.hid hg
  clear hw2 hb2 hg
  go_wp2_with fail
  refine (num_any _ _ _ _ _ _ _ 8 (by omega) (by simp) HGEN.out HW2.out).mono ?_
  rintro e w3 ⟨rfl, hw3, hl3⟩
  rw [List.nil_append, HU0.out] at hw3
  have HB3 := Lib.hid (HB2.out.trans (hl3.1.mono hs1))
  have HW3 := Lib.hid hw3
  clear hw3 hl3
  go_wp2_with fail
  refine (of_any _ _).mono ?_
  rintro e w4 ⟨rfl, hk4, hb4⟩
  have hs3 : w.heap.size + 2 ≤ w3.heap.size := by have := HB3.out.size; rw [HS.out] at this; exact this
  have HW4 := Lib.hid (HW3.out.also hb4 (Array.getElem?_eq_some_iff.1 hk4).1)
  have HB4 := Lib.hid (HB3.out.trans (hb4.mono hs3))
  have HK4 := Lib.hid hk4
  clear hb4 hk4 h0
  go_wp2_with fail
  go_loopw [21] (fun i wr => ∃ k : Nat, k ≤ 6 ∧ i = .int .i64 k ∧ WriterAt wr w1.heap.size g [w3.heap.size] false (c.upto k) ∧ Below (w.heap.size + 2) W wr ∧ wr.heap[w3.heap.size]? = some (.cells (ofA w.heap.size) 123 (0, 0))) (fun i _ => 6 - (intOf i).toNat)
  case atStart => exact ⟨0, by omega, rfl, HW4.out, HB4.out, HK4.out⟩
  case round =>
    obtain ⟨k, hk, rfl, hwr, hbr, hkr⟩ := hrel
    have HWR := Lib.hid hwr
    have HBR := Lib.hid hbr
    have HKR := Lib.hid hkr
    clear hwr hbr hkr
    by_cases hlt : k < 6
    · have h1 : wr.cell? ⟨w.heap.size, k + 1, none⟩ = some (.int .u32 (c.nums.getD k 0 : Int)) := by
        rw [HBR.out.cell (p := ⟨w.heap.size, k + 1, none⟩) (by simp), cell_of_row W _ _ _ _ _ HG0.out]; exact HCG.out k hlt
      have h2 : wr.cell? ⟨w3.heap.size, k, none⟩ = some (.pointer (some ⟨w.heap.size, k + 1, none⟩)) := by
        rw [cell_of_row wr _ _ _ _ _ HKR.out]; exact ofA_get _ _ hlt
      have hx := HNUM.out k hlt
      have hl := HLU.out k hk
      obtain ⟨x, hxe⟩ : ∃ x, x = c.nums.getD k 0 := ⟨_, rfl⟩
      rw [← hxe] at h1 hx
      have HXE := Lib.hid hxe
      have HL := Lib.hid hl
      clear hxe hl
      go_wp2_with fail
      refine (num_any _ _ _ _ _ _ _ 4 (by omega) (by rw [HL.out]; omega) (by omega) HWR.out).mono ?_
      rintro e w5 ⟨rfl, hw5, hl5⟩
      have HW5 : Hid (WriterAt w5 w1.heap.size g [w3.heap.size] false (c.upto (k + 1))) := Lib.hid (by rw [← HUS.out k hlt, ← HXE.out]; exact hw5)
      have HB5 := Lib.hid (HBR.out.trans (hl5.1.mono hs1))
      have HK5 := Lib.hid ((hl5.2 w3.heap.size (by simp)).trans HKR.out)
      clear hw5 hl5
      go_wp2_with fail
      go_roundw
      case rel => exact ⟨k + 1, by omega, by go_num, HW5.out, HB5.out, HK5.out⟩
      case measure => simp [intOf]; omega
    · obtain rfl : k = 6 := by omega
      have h8 : wr.cell? ⟨w.heap.size, 7, none⟩ = some (.int .u8 (c.vols : Int)) := by
        rw [HBR.out.cell (p := ⟨w.heap.size, 7, none⟩) (by simp), cell_of_row W _ _ _ _ _ HG0.out]; exact HC7.out
      have hl := HLU.out 6 (by omega)
      have HL := Lib.hid hl
      clear hl
      go_wp2_with fail
      refine (num_any _ _ _ _ _ _ _ 1 (by omega) (by rw [HL.out]; omega) (by omega) HWR.out).mono ?_
      rintro e w5 ⟨rfl, hw5, hl5⟩
      have HW5 : Hid (WriterAt w5 w1.heap.size g [w3.heap.size] false c.bytes) := Lib.hid (by rw [HBY.out]; exact hw5)
      have HB5 := Lib.hid (HBR.out.trans (hl5.1.mono hs1))
      clear hw5 hl5
      go_wp2_with fail
      refine (done_any _ _ _ _ _ 82 (by rw [HLB.out]; omega) HW5.out).mono ?_
      rintro e w6 ⟨rfl, hb6⟩
      have hs5 : w.heap.size + 2 ≤ w5.heap.size := by have := HB5.out.size; rw [HS.out] at this; exact this
      have HB6 := Lib.hid (HB5.out.trans (hb6.mono hs5))
      have hr6 : w6.heap[w.heap.size + 1]? = some (.cells (zeros 256 (.int .u8 0)) 33 (0, 0)) := (HB6.out.block _ (by omega)).trans HG1.out
      have HR6 := Lib.hid hr6
      have hd : (blk (doneB 82 c.bytes)).size = 256 := by rw [size_blk, length_doneB _ _ (by rw [HLB.out]; omega)]
      have HD := Lib.hid hd
      clear hb6 hr6 hd
      go_wp2_with (refine wpList_store_row rfl 33 _ _ rfl (w.heap.size + 1) (blk (doneB 82 c.bytes)) rfl rfl 33 _ HR6.out (by rw [HD.out]; exact sizeB) (by rw [HD.out, size_zeros]) (blk_one _) ?_)
      refine bodyPost_ret (v := .tuple #[.agg (blk (doneB 82 c.bytes)), .int .i64 0]) (results_cell_slot rfl _ _ (w.heap.size + 1) 33 _ (0, 0) _ _ rfl rfl (setRow_heap _ _ _ _ _ _ HR6.out) Tryd.underlying33 rfl (by rw [HD.out]; exact sizeB)) rfl ⟨rfl, ?_⟩
      exact below_setRow (hB.trans (HB6.out.mono (by omega))) (by omega) _
/-- What Put answers. -/
def Root.putB (r : Root) : List UInt8 := if r.may then doneB 82 r.bytes else List.replicate 256 0
def Root.putE (r : Root) : Int := if r.may then 0 else 2
theorem length_rputB (r : Root) : r.putB.length = 256 := by
  unfold Root.putB
  split
  · exact length_doneB _ _ (by rw [r.length_bytes]; omega)
  · exact List.length_replicate
theorem rput_all (r : Root) (hr : r.Ok) (w : World) : Calls Tryd.prog 26 #[.agg r.cells] w fun e w' => e = .returned (.tuple #[.agg (blk r.putB), .int .i64 r.putE]) ∧ Below w.heap.size w w' := by
  unfold Root.putB Root.putE
  cases hm : r.may with
  | true => simp only [if_true]; exact rput_any r hr hm w
  | false => simp only [Bool.false_eq_true, if_false, ← zeros_blk]; exact rput_no r hm w
end Go.Proofs.YtnhfkmfmmgaecaaDoor
