/- The slot layer: what a root is; which may be. The slot layer: of, Put. The slot layer: Get. -/
import Derived.Test.YtnphgaiiiiknpaaDoorRead6
import Derived.Test.YtnphgaiiiiknpaaDoorFieldNum
namespace Go.Proofs.YtnphgaiiiiknpaaDoor
open Go.RowKit
set_option linter.unusedSimpArgs false
set_option maxRecDepth 100000
/-- A root. -/
structure Root where
  gen : Nat
  size : Nat
  picks : Nat
  names : Nat
  free : Nat
  next : Nat
  hint : Nat
  vols : Nat
def Root.cells (r : Root) : Array Value := #[.int .u64 (r.gen : Int), .int .u32 (r.size : Int), .int .u32 (r.picks : Int), .int .u32 (r.names : Int), .int .u32 (r.free : Int), .int .u32 (r.next : Int), .int .u32 (r.hint : Int), .int .u8 (r.vols : Int)]
structure Root.Ok (r : Root) : Prop where
  gen : r.gen < 2 ^ 64
  size : r.size < 4294967296
  picks : r.picks < 4294967296
  names : r.names < 4294967296
  free : r.free < 4294967296
  next : r.next < 4294967296
  hint : r.hint < 4294967296
  vols : r.vols < 256
def Root.s1 (r : Root) : Bool := decide (64 ≤ r.size) && decide (r.size ≤ 1048576)
def Root.s2 (r : Root) : Bool := decide (r.names < r.size) && (decide (r.hint < r.size) && decide (r.free ≤ r.size))
def Root.s3 (r : Root) : Bool := decide (r.vols ≤ 16) && (decide (r.vols = 0) == decide (r.names = 0))
def Root.may (r : Root) : Bool := decide (0 < r.gen) && (r.s1 && (r.s2 && (decide (r.picks < 65536) && (decide (0 < r.next) && r.s3))))
theorem beq0 (n : Nat) : ((n : Int) == 0) = decide (n = 0) := by
  by_cases h : n = 0 <;> simp [h]
set_option maxHeartbeats 1000000 in
theorem rmay_any (r : Root) (w : World) : Calls Tryd.prog 52 #[.agg r.cells] w fun e w' => e = .returned (.bool r.may) ∧ Below w.heap.size w w' := by
  obtain ⟨W, hW⟩ : ∃ W, W = w.alloc (.cells r.cells 34) := ⟨_, rfl⟩
  have hg : W.heap[w.heap.size]? = some (.cells r.cells 34 (0, 0)) := by rw [hW]; exact heap_alloc_new _ _
  have hB : Below w.heap.size w W := by rw [hW]; exact (Below.refl _ _).alloc (Nat.le_refl _) _
  have c0 : W.cell? ⟨w.heap.size, 0, none⟩ = some (.int .u64 (r.gen : Int)) := cell_of_row W _ 0 _ _ _ hg
  have c1 : W.cell? ⟨w.heap.size, 1, none⟩ = some (.int .u32 (r.size : Int)) := cell_of_row W _ 1 _ _ _ hg
  have c2 : W.cell? ⟨w.heap.size, 2, none⟩ = some (.int .u32 (r.picks : Int)) := cell_of_row W _ 2 _ _ _ hg
  have c3 : W.cell? ⟨w.heap.size, 3, none⟩ = some (.int .u32 (r.names : Int)) := cell_of_row W _ 3 _ _ _ hg
  have c4 : W.cell? ⟨w.heap.size, 4, none⟩ = some (.int .u32 (r.free : Int)) := cell_of_row W _ 4 _ _ _ hg
  have c5 : W.cell? ⟨w.heap.size, 5, none⟩ = some (.int .u32 (r.next : Int)) := cell_of_row W _ 5 _ _ _ hg
  have c6 : W.cell? ⟨w.heap.size, 6, none⟩ = some (.int .u32 (r.hint : Int)) := cell_of_row W _ 6 _ _ _ hg
  have c7 : W.cell? ⟨w.heap.size, 7, none⟩ = some (.int .u8 (r.vols : Int)) := cell_of_row W _ 7 _ _ _ hg
  have HB := Lib.hid hB
  have HW := Lib.hid hW
  have S1 : Hid (r.s1 = (decide (64 ≤ r.size) && decide (r.size ≤ 1048576))) := Lib.hid rfl
  have S2 : Hid (r.s2 = (decide (r.names < r.size) && (decide (r.hint < r.size) && decide (r.free ≤ r.size)))) := Lib.hid rfl
  have S3 : Hid (r.s3 = (decide (r.vols ≤ 16) && (decide (r.vols = 0) == decide (r.names = 0)))) := Lib.hid rfl
  have SM : Hid (r.may = (decide (0 < r.gen) && (r.s1 && (r.s2 && (decide (r.picks < 65536) && (decide (0 < r.next) && r.s3)))))) := Lib.hid rfl
  clear hW hg hB
  obtain ⟨C, hC⟩ : ∃ C, C = r.cells := ⟨_, rfl⟩
  rw [← hC] at HW ⊢
  clear hC
  go_enter Tryd.func52, Tryd.ntmps52
  go_upto_region 1 with fail
  rw [← HW.out]
  go_cut [3] (fun s w' => s = .bool r.s1 ∧ w' = W)
  case first =>
    by_cases a1 : 64 ≤ r.size
    all_goals
      go_wp2
      go_meet
    all_goals exact ⟨by rw [S1.out]; simp [a1]; try omega, rfl⟩
  case rest =>
    obtain ⟨rfl, rfl⟩ := hcut
    go_upto_region 2 with fail
    go_cut [4] (fun s w' => s = .bool r.s2 ∧ w' = wc)
    case first =>
      by_cases a1 : r.names < r.size
      · by_cases a2 : r.hint < r.size
        all_goals
          go_wp2
          go_meet
        all_goals exact ⟨by rw [S2.out]; simp [a1, a2]; try omega, rfl⟩
      · go_wp2
        go_meet
        exact ⟨by rw [S2.out]; simp [a1], rfl⟩
    case rest =>
      obtain ⟨rfl, rfl⟩ := hcut
      go_upto_region 3 with fail
      go_cut [5] (fun s w' => s = .bool r.s3 ∧ w' = wc)
      case first =>
        by_cases a1 : r.vols ≤ 16
        all_goals
          go_wp2
          go_meet
        · exact ⟨by rw [S3.out]; simp only [beq0, a1, decide_true, Bool.true_and], rfl⟩
        · exact ⟨by rw [S3.out]; simp [a1], rfl⟩
      case rest =>
        obtain ⟨rfl, rfl⟩ := hcut
        obtain ⟨s1, e1⟩ : ∃ s, s = r.s1 := ⟨_, rfl⟩
        obtain ⟨s2, e2⟩ : ∃ s, s = r.s2 := ⟨_, rfl⟩
        obtain ⟨s3, e3⟩ : ∃ s, s = r.s3 := ⟨_, rfl⟩
        rw [← e1, ← e2, ← e3] at SM
        simp only [← e1, ← e2, ← e3]
        clear S1 S2 S3 e1 e2 e3
        by_cases b1 : 0 < r.gen
        · cases s1
          · go_wp2
            go_ret
            exact ⟨by rw [SM.out]; simp, HB.out⟩
          cases s2
          · go_wp2
            go_ret
            exact ⟨by rw [SM.out]; simp, HB.out⟩
          obtain ⟨p, hp⟩ : ∃ p, p = decide (r.picks < 65536) := ⟨_, rfl⟩
          have b2 : decide ((r.picks : Int) < 65536) = p := by rw [hp, Bool.eq_iff_iff]; simp; omega
          rw [← hp] at SM
          clear hp
          cases p
          case true =>
            by_cases b3 : 0 < r.next
            all_goals
              go_wp2
              go_ret
            · exact ⟨by rw [SM.out]; simp [b1, b3], HB.out⟩
            · exact ⟨by rw [SM.out]; simp [b3], HB.out⟩
          case false =>
            go_wp2
            go_ret
            exact ⟨by rw [SM.out]; simp, HB.out⟩
        · go_wp2
          go_ret
          exact ⟨by rw [SM.out]; simp [b1], HB.out⟩
end Go.Proofs.YtnphgaiiiiknpaaDoor
namespace Go.Proofs.YtnphgaiiiiknpaaDoor
open Go.RowKit
set_option linter.unusedSimpArgs false
set_option maxRecDepth 100000
/-- The addresses of a root's words. -/
def ofA (g : Nat) : Array Value := #[.pointer (some ⟨g, 1, none⟩), .pointer (some ⟨g, 2, none⟩), .pointer (some ⟨g, 3, none⟩), .pointer (some ⟨g, 4, none⟩), .pointer (some ⟨g, 5, none⟩), .pointer (some ⟨g, 6, none⟩)]
theorem ofA_get (g k : Nat) (hk : k < 6) : (ofA g)[k]? = some (.pointer (some ⟨g, k + 1, none⟩)) := by
  have : k = 0 ∨ k = 1 ∨ k = 2 ∨ k = 3 ∨ k = 4 ∨ k = 5 := by omega
  rcases this with rfl | rfl | rfl | rfl | rfl | rfl <;> rfl
theorem swords_any (v : Value) (w : World) : Calls Tryd.prog 70 #[v] w fun e w' => e = .returned v ∧ w = w' := by
  go_enter Tryd.func70, Tryd.ntmps70
  go_wp2
  go_ret
  exact ⟨rfl, rfl⟩
theorem of_any (w : World) (g : Nat) : Calls Tryd.prog 61 #[.pointer (some ⟨g, 0, none⟩)] w fun e w' =>
    e = .returned (.slice (some ⟨w.heap.size, 0, none⟩) 6 6) ∧ w'.heap[w.heap.size]? = some (.cells (ofA g) 110 (0, 0)) ∧ Below w.heap.size w w' := by
  have hB : Below w.heap.size w (w.drew.alloc (.cells (ofA g) 110)) := (Below.refl _ _).drew.alloc (Nat.le_refl _) _
  have hg : (w.drew.alloc (.cells (ofA g) 110)).heap[w.heap.size]? = some (.cells (ofA g) 110 (0, 0)) := heap_alloc_new w.drew _
  have HB := Lib.hid hB
  have HG := Lib.hid hg
  clear hB hg
  go_enter Tryd.func61, Tryd.ntmps61
  go_wp2_with fail
  go_still_tail 18, (by kernel_rfl)
  change wpList _ _ _ _ _ w.drew
  go_wp2_with (go_at_call 70; refine (swords_any _ _).mono ?_; rintro e w1 ⟨rfl, rfl⟩)
  go_ret
  exact ⟨rfl, HG.out, HB.out⟩
def Root.nums (r : Root) : List Nat := [r.size, r.picks, r.names, r.free, r.next, r.hint]
def Root.upto (r : Root) (k : Nat) : List UInt8 := lows r.gen 8 ++ (r.nums.take k).flatMap (lows · 4)
/-- A root's bytes. -/
def Root.bytes (r : Root) : List UInt8 := r.upto 6 ++ lows r.vols 1
theorem Root.upto_succ (r : Root) (k : Nat) (hk : k < 6) : r.upto k ++ lows (r.nums.getD k 0) 4 = r.upto (k + 1) := by
  unfold Root.upto
  rw [List.append_assoc]
  congr 1
  have : k = 0 ∨ k = 1 ∨ k = 2 ∨ k = 3 ∨ k = 4 ∨ k = 5 := by omega
  rcases this with rfl | rfl | rfl | rfl | rfl | rfl <;> simp [Root.nums]
theorem Root.length_upto (r : Root) (k : Nat) (hk : k ≤ 6) : (r.upto k).length = 8 + 4 * k := by
  unfold Root.upto
  rw [List.length_append, length_lows]
  have : k = 0 ∨ k = 1 ∨ k = 2 ∨ k = 3 ∨ k = 4 ∨ k = 5 ∨ k = 6 := by omega
  rcases this with rfl | rfl | rfl | rfl | rfl | rfl | rfl <;> simp [Root.nums, length_lows]
theorem Root.length_bytes (r : Root) : r.bytes.length = 33 := by
  rw [Root.bytes, List.length_append, r.length_upto 6 (by omega), length_lows]
theorem rcells_get (r : Root) (k : Nat) (hk : k < 6) : r.cells[k + 1]? = some (.int .u32 (r.nums.getD k 0 : Int)) := by
  have : k = 0 ∨ k = 1 ∨ k = 2 ∨ k = 3 ∨ k = 4 ∨ k = 5 := by omega
  rcases this with rfl | rfl | rfl | rfl | rfl | rfl <;> rfl
theorem Root.Ok.num {r : Root} (h : r.Ok) (k : Nat) (hk : k < 6) : r.nums.getD k 0 < 4294967296 := by
  obtain ⟨-, h1, h2, h3, h4, h5, h6, -⟩ := h
  have : k = 0 ∨ k = 1 ∨ k = 2 ∨ k = 3 ∨ k = 4 ∨ k = 5 := by omega
  rcases this with rfl | rfl | rfl | rfl | rfl | rfl <;> simp [Root.nums] <;> assumption
set_option maxHeartbeats 1000000 in
theorem rput_no (c : Root) (hm : c.may = false) (w : World) :
    Calls Tryd.prog 49 #[.agg c.cells] w fun e w' => e = .returned (.tuple #[.agg (zeros 256 (.int .u8 0)), .int .i64 2]) ∧ Below w.heap.size w w' := by
  obtain ⟨W, hW⟩ : ∃ W, W = (w.alloc (.cells c.cells 34)).alloc (.cells (zeros 256 (.int .u8 0)) 45) := ⟨_, rfl⟩
  have hB : Below w.heap.size w W := by rw [hW]; exact ((Below.refl _ _).alloc (Nat.le_refl _) _).alloc (by simp) _
  have hg0 : W.heap[w.heap.size]? = some (.cells c.cells 34 (0, 0)) := by rw [hW]; exact heap_alloc2_old w _ _
  have hg1 : W.heap[w.heap.size + 1]? = some (.cells (zeros 256 (.int .u8 0)) 45 (0, 0)) := by rw [hW]; exact heap_alloc2_new w _ _
  have hs : W.heap.size = w.heap.size + 2 := by rw [hW]; simp
  have hM := rmay_any c W
  rw [hm] at hM
  have HM := Lib.hid hM
  have HW := Lib.hid hW
  have HS := Lib.hid hs
  have HG0 := Lib.hid hg0
  have HG1 := Lib.hid hg1
  have hcs : c.cells.size = 8 := rfl
  have HCS := Lib.hid hcs
  have hz : (Tryd.prog.info? 34).map (·.size) = some 8 := by kernel_rfl
  have HZ := Lib.hid hz
  clear hW hs hg0 hg1 hM hm hcs hz
  obtain ⟨cs, hcs⟩ : ∃ cs, cs = c.cells := ⟨_, rfl⟩
  rw [← hcs] at HM HW HG0 HCS ⊢
  clear hcs
  go_enter Tryd.func49, Tryd.ntmps49
  go_wp2_with (first
   | refine wpList_alloc_row rfl 45 rfl _ zeroB ?_
   | (rw [← HW.out]; refine wpList_load_row rfl 34 _ rfl w.heap.size rfl 34 cs (0, 0) _ HG0.out Tryd.underlying34 rfl (by rw [HCS.out]; exact HZ.out) ?_))
  refine HM.out.mono ?_
  rintro e w1 ⟨rfl, hb1⟩
  have hr1 : w1.heap[w.heap.size + 1]? = some (.cells (zeros 256 (.int .u8 0)) 45 (0, 0)) := (hb1.block _ (by rw [HS.out]; omega)).trans HG1.out
  have hB1 : Below w.heap.size w w1 := hB.trans (hb1.mono (by rw [HS.out]; omega))
  have HR1 := Lib.hid hr1
  have HB1 := Lib.hid hB1
  clear hr1 hB1 hb1 hB
  go_wp2_with (first
   | refine wpList_build_none rfl 45 rfl _ zeroB Tryd.underlying45 rfl ?_
   | refine wpList_store_row rfl 45 _ _ rfl (w.heap.size + 1) (zeros 256 (.int .u8 0)) rfl rfl 45 _ HR1.out (by rw [size_zeros]; exact sizeB) (by rw [size_zeros]) zeros_one ?_)
  refine bodyPost_ret (v := .tuple #[.agg (zeros 256 (.int .u8 0)), .int .i64 2]) (results_cell_slot rfl _ _ (w.heap.size + 1) 45 _ (0, 0) _ _ rfl rfl (setRow_heap _ _ _ _ _ _ HR1.out) Tryd.underlying45 rfl (by rw [size_zeros]; exact sizeB)) rfl ⟨rfl, ?_⟩
  exact below_setRow HB1.out (by omega) _
set_option maxHeartbeats 2000000 in
theorem rput_any (c : Root) (hc : c.Ok) (hm : c.may = true) (w : World) :
    Calls Tryd.prog 49 #[.agg c.cells] w fun e w' => e = .returned (.tuple #[.agg (blk (doneB 82 c.bytes)), .int .i64 0]) ∧ Below w.heap.size w w' := by
  obtain ⟨W, hW⟩ : ∃ W, W = (w.alloc (.cells c.cells 34)).alloc (.cells (zeros 256 (.int .u8 0)) 45) := ⟨_, rfl⟩
  have hB : Below w.heap.size w W := by rw [hW]; exact ((Below.refl _ _).alloc (Nat.le_refl _) _).alloc (by simp) _
  have hg0 : W.heap[w.heap.size]? = some (.cells c.cells 34 (0, 0)) := by rw [hW]; exact heap_alloc2_old w _ _
  have hg1 : W.heap[w.heap.size + 1]? = some (.cells (zeros 256 (.int .u8 0)) 45 (0, 0)) := by rw [hW]; exact heap_alloc2_new w _ _
  have hs : W.heap.size = w.heap.size + 2 := by rw [hW]; simp
  have hM := rmay_any c W
  rw [hm] at hM
  have HM := Lib.hid hM
  have HW := Lib.hid hW
  have HS := Lib.hid hs
  have HG0 := Lib.hid hg0
  have HG1 := Lib.hid hg1
  have hcs : c.cells.size = 8 := rfl
  have HCS := Lib.hid hcs
  have hz : (Tryd.prog.info? 34).map (·.size) = some 8 := by kernel_rfl
  have HZ := Lib.hid hz
  have HLU := Lib.hid c.length_upto
  have HUS := Lib.hid c.upto_succ
  have HLB := Lib.hid c.length_bytes
  have HNUM := Lib.hid (fun k hk => hc.num k hk)
  have HCG := Lib.hid (rcells_get c)
  have hgen := hc.gen
  have hvols := hc.vols
  have HBY : Hid (c.bytes = c.upto 6 ++ lows c.vols 1) := Lib.hid rfl
  have HU0 : Hid (lows c.gen 8 = c.upto 0) := Lib.hid (by simp [Root.upto])
  have hc0 : c.cells[0]? = some (.int .u64 (c.gen : Int)) := rfl
  have hc7 : c.cells[7]? = some (.int .u8 (c.vols : Int)) := rfl
  have HGEN : Hid (c.gen < 2 ^ 64) := Lib.hid hgen
  clear hW hs hg0 hg1 hM hm hcs hz hgen
  obtain ⟨cs, hcs⟩ : ∃ cs, cs = c.cells := ⟨_, rfl⟩
  rw [← hcs] at HM HW HG0 HCS HCG hc0 hc7 ⊢
  have HC0 := Lib.hid hc0
  have HC7 := Lib.hid hc7
  clear hcs hc0 hc7
  have hmf : ∀ (fn : Fn) (first cap : Array Value) (w : World), (Instr.makeFunc fn first cap).run Tryd.prog w = .ok (.func fn first cap) w := fun _ _ _ _ => rfl
  go_enter Tryd.func49, Tryd.ntmps49
  go_wp2_with (first
   | refine wpList_alloc_row rfl 45 rfl _ zeroB ?_
   | (rw [← HW.out]; refine wpList_load_row rfl 34 _ rfl w.heap.size rfl 34 cs (0, 0) _ HG0.out Tryd.underlying34 rfl (by rw [HCS.out]; exact HZ.out) ?_))
  refine HM.out.mono ?_
  rintro e w1 ⟨rfl, hb1⟩
  have HB1 := Lib.hid (hb1.mono (show w.heap.size + 2 ≤ W.heap.size by rw [HS.out]; exact Nat.le_refl _))
  have hs1 : w.heap.size + 2 ≤ w1.heap.size := by have := hb1.size; rw [HS.out] at this; exact this
  clear hb1
  go_wp2_with fail
  refine (new_any _).mono ?_
  rintro e w2 ⟨g, rfl, hg, hw2, hb2⟩
  have HB2 := Lib.hid (HB1.out.trans (hb2.mono hs1))
  have h0 : w2.cell? ⟨w.heap.size, 0, none⟩ = some (.int .u64 (c.gen : Int)) := by
    rw [HB2.out.cell (p := ⟨w.heap.size, 0, none⟩) (by simp), cell_of_row W _ 0 _ _ _ HG0.out]; exact HC0.out
  have HW2 := Lib.hid hw2
  have HGE := Lib.hid hg
  clear hw2 hb2 hg
  go_wp2_with fail
  refine (num_any _ _ _ _ _ _ _ 8 (by omega) (by simp) HGEN.out HW2.out).mono ?_
  rintro e w3 ⟨rfl, hw3, hl3⟩
  rw [List.nil_append, HU0.out] at hw3
  have HB3 := Lib.hid (HB2.out.trans (hl3.1.mono hs1))
  have HW3 := Lib.hid hw3
  clear hw3 hl3
  go_wp2_with fail
  refine (of_any _ _).mono ?_
  rintro e w4 ⟨rfl, hk4, hb4⟩
  have hs3 : w.heap.size + 2 ≤ w3.heap.size := by have := HB3.out.size; rw [HS.out] at this; exact this
  have HW4 := Lib.hid (HW3.out.also hb4 (Array.getElem?_eq_some_iff.1 hk4).1)
  have HB4 := Lib.hid (HB3.out.trans (hb4.mono hs3))
  have HK4 := Lib.hid hk4
  clear hb4 hk4 h0
  go_wp2_with fail
  go_loopw [21] (fun i wr => ∃ k : Nat, k ≤ 6 ∧ i = .int .i64 k ∧ WriterAt wr w1.heap.size g [w3.heap.size] false (c.upto k) ∧ Below (w.heap.size + 2) W wr ∧ wr.heap[w3.heap.size]? = some (.cells (ofA w.heap.size) 110 (0, 0))) (fun i _ => 6 - (intOf i).toNat)
  case atStart => exact ⟨0, by omega, rfl, HW4.out, HB4.out, HK4.out⟩
  case round =>
    obtain ⟨k, hk, rfl, hwr, hbr, hkr⟩ := hrel
    have HWR := Lib.hid hwr
    have HBR := Lib.hid hbr
    have HKR := Lib.hid hkr
    clear hwr hbr hkr
    by_cases hlt : k < 6
    · have h1 : wr.cell? ⟨w.heap.size, k + 1, none⟩ = some (.int .u32 (c.nums.getD k 0 : Int)) := by
        rw [HBR.out.cell (p := ⟨w.heap.size, k + 1, none⟩) (by simp), cell_of_row W _ _ _ _ _ HG0.out]; exact HCG.out k hlt
      have h2 : wr.cell? ⟨w3.heap.size, k, none⟩ = some (.pointer (some ⟨w.heap.size, k + 1, none⟩)) := by
        rw [cell_of_row wr _ _ _ _ _ HKR.out]; exact ofA_get _ _ hlt
      have hx := HNUM.out k hlt
      have hl := HLU.out k hk
      obtain ⟨x, hxe⟩ : ∃ x, x = c.nums.getD k 0 := ⟨_, rfl⟩
      rw [← hxe] at h1 hx
      have HXE := Lib.hid hxe
      have HL := Lib.hid hl
      clear hxe hl
      go_wp2_with fail
      refine (num_any _ _ _ _ _ _ _ 4 (by omega) (by rw [HL.out]; omega) (by omega) HWR.out).mono ?_
      rintro e w5 ⟨rfl, hw5, hl5⟩
      have HW5 : Hid (WriterAt w5 w1.heap.size g [w3.heap.size] false (c.upto (k + 1))) := Lib.hid (by rw [← HUS.out k hlt, ← HXE.out]; exact hw5)
      have HB5 := Lib.hid (HBR.out.trans (hl5.1.mono hs1))
      have HK5 := Lib.hid ((hl5.2 w3.heap.size (by simp)).trans HKR.out)
      clear hw5 hl5
      go_wp2_with fail
      go_roundw
      case rel => exact ⟨k + 1, by omega, by go_num, HW5.out, HB5.out, HK5.out⟩
      case measure => simp [intOf]; omega
    · obtain rfl : k = 6 := by omega
      have h8 : wr.cell? ⟨w.heap.size, 7, none⟩ = some (.int .u8 (c.vols : Int)) := by
        rw [HBR.out.cell (p := ⟨w.heap.size, 7, none⟩) (by simp), cell_of_row W _ _ _ _ _ HG0.out]; exact HC7.out
      have hl := HLU.out 6 (by omega)
      have HL := Lib.hid hl
      clear hl
      go_wp2_with fail
      refine (num_any _ _ _ _ _ _ _ 1 (by omega) (by rw [HL.out]; omega) (by omega) HWR.out).mono ?_
      rintro e w5 ⟨rfl, hw5, hl5⟩
      have HW5 : Hid (WriterAt w5 w1.heap.size g [w3.heap.size] false c.bytes) := Lib.hid (by rw [HBY.out]; exact hw5)
      have HB5 := Lib.hid (HBR.out.trans (hl5.1.mono hs1))
      clear hw5 hl5
      go_wp2_with fail
      refine (done_any _ _ _ _ _ 82 (by rw [HLB.out]; omega) HW5.out).mono ?_
      rintro e w6 ⟨rfl, hb6⟩
      have hs5 : w.heap.size + 2 ≤ w5.heap.size := by have := HB5.out.size; rw [HS.out] at this; exact this
      have HB6 := Lib.hid (HB5.out.trans (hb6.mono hs5))
      have hr6 : w6.heap[w.heap.size + 1]? = some (.cells (zeros 256 (.int .u8 0)) 45 (0, 0)) := (HB6.out.block _ (by omega)).trans HG1.out
      have HR6 := Lib.hid hr6
      have hd : (blk (doneB 82 c.bytes)).size = 256 := by rw [size_blk, length_doneB _ _ (by rw [HLB.out]; omega)]
      have HD := Lib.hid hd
      clear hb6 hr6 hd
      go_wp2_with (refine wpList_store_row rfl 45 _ _ rfl (w.heap.size + 1) (blk (doneB 82 c.bytes)) rfl rfl 45 _ HR6.out (by rw [HD.out]; exact sizeB) (by rw [HD.out, size_zeros]) (blk_one _) ?_)
      refine bodyPost_ret (v := .tuple #[.agg (blk (doneB 82 c.bytes)), .int .i64 0]) (results_cell_slot rfl _ _ (w.heap.size + 1) 45 _ (0, 0) _ _ rfl rfl (setRow_heap _ _ _ _ _ _ HR6.out) Tryd.underlying45 rfl (by rw [HD.out]; exact sizeB)) rfl ⟨rfl, ?_⟩
      exact below_setRow (hB.trans (HB6.out.mono (by omega))) (by omega) _
/-- What Put answers. -/
def Root.putB (r : Root) : List UInt8 := if r.may then doneB 82 r.bytes else List.replicate 256 0
def Root.putE (r : Root) : Int := if r.may then 0 else 2
theorem length_rputB (r : Root) : r.putB.length = 256 := by
  unfold Root.putB
  split
  · exact length_doneB _ _ (by rw [r.length_bytes]; omega)
  · exact List.length_replicate
theorem rput_all (r : Root) (hr : r.Ok) (w : World) : Calls Tryd.prog 49 #[.agg r.cells] w fun e w' => e = .returned (.tuple #[.agg (blk r.putB), .int .i64 r.putE]) ∧ Below w.heap.size w w' := by
  unfold Root.putB Root.putE
  cases hm : r.may with
  | true => simp only [if_true]; exact rput_any r hr hm w
  | false => simp only [Bool.false_eq_true, if_false, ← zeros_blk]; exact rput_no r hm w
end Go.Proofs.YtnphgaiiiiknpaaDoor
namespace Go.Proofs.YtnphgaiiiiknpaaDoor
open Go.RowKit
set_option linter.unusedSimpArgs false
set_option maxRecDepth 100000
/-- The root that a block's bytes are. -/
def rootOf (b : List UInt8) : Root := ⟨num (seg b 1 8), num (seg b 9 4), num (seg b 13 4), num (seg b 17 4), num (seg b 21 4), num (seg b 25 4), num (seg b 29 4), num (seg b 33 1)⟩
theorem rootOf_ok (b : List UInt8) (hb : b.length = 256) : (rootOf b).Ok :=
  ⟨num_seg_lt b 1 8 (by omega), num_seg_lt b 9 4 (by omega), num_seg_lt b 13 4 (by omega), num_seg_lt b 17 4 (by omega), num_seg_lt b 21 4 (by omega), num_seg_lt b 25 4 (by omega), num_seg_lt b 29 4 (by omega), num_seg_lt b 33 1 (by omega)⟩
def zeroRoot : Array Value := #[.int .u64 0, .int .u32 0, .int .u32 0, .int .u32 0, .int .u32 0, .int .u32 0, .int .u32 0, .int .u8 0]
theorem zeroR : (Tryd.prog.info? 34).bind (·.zero) = some (.agg zeroRoot) := by kernel_rfl
theorem sizeR : (Tryd.prog.info? 34).map (·.size) = some 8 := by kernel_rfl
/-- Is a block a root's? -/
def isRoot (b : List UInt8) : Bool := fineB b 82 && (allZero (seg b 34 218) && (rootOf b).may)
def getC (b : List UInt8) : Array Value := if isRoot b then (rootOf b).cells else zeroRoot
def getE (b : List UInt8) : Int := if isRoot b then 0 else 250
/-- A root's cells behind the k-th word. -/
def outC (b : List UInt8) (f : Bool) : Nat → Array Value
  | 0 => zeroRoot.setIfInBounds 0 (.int .u64 (readV b 1 8 f : Int))
  | k + 1 => (outC b f k).setIfInBounds (k + 1) (.int .u32 (readV b (nextI 9 (4 * k) f) 4 f : Int))
theorem size_outC (b : List UInt8) (f : Bool) (k : Nat) : (outC b f k).size = 8 := by
  induction k with
  | zero => rfl
  | succ k ih => simp [outC, ih]
theorem outC_other (b : List UInt8) (f : Bool) (k j : Nat) (h : k < j) (hj : j < 8) : (outC b f k)[j]? = zeroRoot[j]? := by
  induction k with
  | zero => simp [outC, Array.getElem?_setIfInBounds, show ¬ 0 = j by omega]
  | succ k ih => rw [outC, Array.getElem?_setIfInBounds_ne (by omega)]; exact ih (by omega)
theorem outC_full (b : List UInt8) : (outC b true 6).setIfInBounds 7 (.int .u8 (readV b 33 1 true : Int)) = (rootOf b).cells := by
  simp [outC, readV, nextI, rootOf, Root.cells, zeroRoot]
def posF (f : Bool) (k : Nat) : Nat := if f then 9 + 4 * k else 1
theorem posF_next (f : Bool) (k : Nat) : nextI (posF f k) 4 f = posF f (k + 1) := by cases f <;> simp [nextI, posF]; omega
theorem posF_read (b : List UInt8) (f : Bool) (k : Nat) : readV b (posF f k) 4 f = readV b (nextI 9 (4 * k) f) 4 f := by cases f <;> rfl
theorem posF_le (f : Bool) (k : Nat) (h : k ≤ 6) : posF f k ≤ 33 := by unfold posF; split <;> omega
theorem zero_one : zeroRoot.all (·.oneCell') = true := by simp [zeroRoot, Value.oneCell']
theorem rcells_one (r : Root) : r.cells.all (·.oneCell') = true := by simp [Root.cells, Value.oneCell']
set_option maxHeartbeats 2000000 in
theorem rget_any (b : List UInt8) (hb : b.length = 256) (w : World) :
    Calls Tryd.prog 54 #[.agg (blk b)] w fun e w' => e = .returned (.tuple #[.agg (getC b), .int .i64 (getE b)]) ∧ Below w.heap.size w w' := by
  obtain ⟨W, hW⟩ : ∃ W, W = ((w.alloc (.cells (blk b) 45)).alloc (.cells zeroRoot 34)).alloc (.cells zeroRoot 34) := ⟨_, rfl⟩
  have hB : Below w.heap.size w W := by rw [hW]; exact (((Below.refl _ _).alloc (Nat.le_refl _) _).alloc (by simp) _).alloc (by simp; omega) _
  have hs : W.heap.size = w.heap.size + 3 := by rw [hW]; simp
  have hsz : ((w.alloc (.cells (blk b) 45)).alloc (.cells zeroRoot 34)).heap.size = w.heap.size + 2 := by simp
  have hg0 : W.heap[w.heap.size]? = some (.cells (blk b) 45 (0, 0)) := by rw [hW, Go.heap_alloc_old _ _ (by rw [hsz]; omega)]; exact heap_alloc2_old _ _ _
  have hg1 : W.heap[w.heap.size + 1]? = some (.cells zeroRoot 34 (0, 0)) := by rw [hW, Go.heap_alloc_old _ _ (by rw [hsz]; omega)]; exact heap_alloc2_new _ _ _
  have hg2 : W.heap[w.heap.size + 2]? = some (.cells zeroRoot 34 (0, 0)) := by rw [hW, ← hsz]; exact heap_alloc_new _ _
  have HS0 : Hid ((blk b).size = 256) := Lib.hid (by rw [size_blk, hb])
  have HO := Lib.hid (open_any W b hb 82)
  have HW := Lib.hid hW
  have HG0 := Lib.hid hg0
  have HG1 := Lib.hid hg1
  have HG2 := Lib.hid hg2
  have HS := Lib.hid hs
  have HB := Lib.hid hB
  have HLB := Lib.hid hb
  obtain ⟨f, hf⟩ : ∃ f, f = fineB b 82 := ⟨_, rfl⟩
  rw [← hf] at HO
  have HF := Lib.hid hf
  have hmf : ∀ (fn : Fn) (first cap : Array Value) (w : World), (Instr.makeFunc fn first cap).run Tryd.prog w = .ok (.func fn first cap) w := fun _ _ _ _ => rfl
  clear hW hB hs hsz hg0 hg1 hg2 hf
  go_enter Tryd.func54, Tryd.ntmps54
  go_wp2_with (first
   | refine wpList_alloc_row rfl 34 rfl _ zeroR ?_
   | (rw [← HW.out]; refine wpList_load_row rfl 45 _ rfl w.heap.size rfl 45 (blk b) (0, 0) _ HG0.out Tryd.underlying45 rfl (by rw [HS0.out]; exact sizeB) ?_))
  refine HO.out.mono ?_
  rintro e w2 ⟨g, rfl, hgl, hr2, hb2⟩
  rw [HS.out] at hgl hr2
  have hb2' : Below (w.heap.size + 3) W w2 := by rw [HS.out] at hb2; exact hb2
  have hs2 : g < w2.heap.size := (Array.getElem?_eq_some_iff.1 hr2.row).1
  have p1 : w2.heap[w.heap.size + 1]? = _ := (hb2'.block _ (by omega)).trans HG1.out
  have p2 : w2.heap[w.heap.size + 2]? = _ := (hb2'.block _ (by omega)).trans HG2.out
  have HB2 := Lib.hid (HB.out.trans (hb2'.mono (by omega)))
  have HR2 := Lib.hid hr2
  have P1 := Lib.hid p1
  have P2 := Lib.hid p2
  clear hb2 hb2' hr2 p1 p2 HO
  go_wp2_with fail
  refine (rnum_all _ _ _ _ _ 8 _ HR2.out (by omega) (by omega)).mono ?_
  rintro e w3 ⟨rfl, hr3, hg3⟩
  have q1 : w3.heap[w.heap.size + 1]? = some (.cells zeroRoot 34 (0, 0)) := (hg3.block _ (by omega) (by simp; omega)).trans P1.out
  have q2 : w3.heap[w.heap.size + 2]? = some (.cells zeroRoot 34 (0, 0)) := (hg3.block _ (by omega) (by simp; omega)).trans P2.out
  have hb3 : Below w.heap.size w w3 := HB2.out.grown hg3 (by omega) (fun k hk => by simp at hk; omega)
  have hs3 : w2.heap.size ≤ w3.heap.size := hg3.size
  have c3 : w3.cell? ⟨w.heap.size + 2, 0, none⟩ = some (.int .u64 0) := cell_of_row w3 _ 0 _ _ _ q2
  have f3 := frozen_of_row w3 (w.heap.size + 2) 0 _ _ q2
  obtain ⟨V3, hV3⟩ : ∃ V, V = w3.setCell ⟨w.heap.size + 2, 0, none⟩ (.int .u64 (readV b 1 8 f : Int)) := ⟨_, rfl⟩
  have u2 : V3.heap[w.heap.size + 2]? = some (.cells (outC b f 0) 34 (0, 0)) := by rw [hV3]; exact heap_setCell_same _ _ _ _ _ _ q2
  have u1 : V3.heap[w.heap.size + 1]? = some (.cells zeroRoot 34 (0, 0)) := by rw [hV3, heap_setCell_other _ _ _ _ (by simp)]; exact q1
  have ur : ReaderAt V3 g (w.heap.size + 3) b (posF f 0) f := by
    have : posF f 0 = nextI 1 8 f := by cases f <;> rfl
    rw [this]
    exact ⟨by rw [hV3, heap_setCell_other _ _ _ _ (by simp; omega)]; exact hr3.row, by rw [hV3, heap_setCell_other _ _ _ _ (by simp)]; exact hr3.src, hr3.len, hr3.lt, hr3.ne⟩
  have ub : Below w.heap.size w V3 := by rw [hV3]; exact hb3.setCell (by simp) _
  have us : V3.heap.size = w3.heap.size := by rw [hV3]; simp [World.setCell]
  have U1 := Lib.hid u1
  have U2 := Lib.hid u2
  have UR := Lib.hid ur
  have UB := Lib.hid ub
  have US := Lib.hid us
  have HV3 := Lib.hid hV3
  clear hr3 hg3 q1 q2 hb3 hV3 u1 u2 ur ub us
  go_upto_region 5 with (fail)
  rw [← HV3.out]
  clear c3 f3
  go_wp2_with fail
  refine (of_any _ _).mono ?_
  rintro e w4 ⟨rfl, hk4, hb4⟩
  have HR4 := Lib.hid (UR.out.below hb4)
  have O1 := Lib.hid ((hb4.block _ (Array.getElem?_eq_some_iff.1 U1.out).1).trans U1.out)
  have O2 := Lib.hid ((hb4.block _ (Array.getElem?_eq_some_iff.1 U2.out).1).trans U2.out)
  have HB4 := Lib.hid (UB.out.trans (hb4.mono (by rw [US.out]; omega)))
  have HK4 := Lib.hid hk4
  have hgk : g < V3.heap.size := by rw [US.out]; omega
  have hok : w.heap.size + 3 < V3.heap.size := by rw [US.out]; omega
  clear hb4 hk4
  go_wp2_with fail
  obtain ⟨kb, hkb⟩ : ∃ kb, kb = V3.heap.size := ⟨_, rfl⟩
  rw [← hkb] at HK4 hgk hok
  rw [← hkb]
  clear hkb US
  go_loopw [18] (fun i wr => ∃ k : Nat, k ≤ 6 ∧ i = .int .i64 k ∧ ReaderAt wr g (w.heap.size + 3) b (posF f k) f ∧ wr.heap[w.heap.size + 1]? = some (.cells zeroRoot 34 (0, 0)) ∧ wr.heap[w.heap.size + 2]? = some (.cells (outC b f k) 34 (0, 0)) ∧
    wr.heap[kb]? = some (.cells (ofA (w.heap.size + 2)) 110 (0, 0)) ∧ Below w.heap.size w wr) (fun i _ => 6 - (intOf i).toNat)
  case atStart => exact ⟨0, by omega, rfl, HR4.out, O1.out, O2.out, HK4.out, HB4.out⟩
  case round =>
    obtain ⟨k, hk, rfl, hr, h1, h2, h3, h4⟩ := hrel
    have hgs : g < wr.heap.size := (Array.getElem?_eq_some_iff.1 hr.row).1
    have hks : kb < wr.heap.size := (Array.getElem?_eq_some_iff.1 h3).1
    have hos : w.heap.size + 2 < wr.heap.size := (Array.getElem?_eq_some_iff.1 h2).1
    have hbs : w.heap.size ≤ wr.heap.size := h4.size
    have HR := Lib.hid hr
    have H1 := Lib.hid h1
    have H2 := Lib.hid h2
    have H3 := Lib.hid h3
    have H4 := Lib.hid h4
    clear hr h1 h2 h3 h4
    by_cases hlt : k < 6
    · have kp : wr.cell? ⟨kb, k, none⟩ = some (.pointer (some ⟨w.heap.size + 2, k + 1, none⟩)) := by
        rw [cell_of_row wr _ _ _ _ _ H3.out]; exact ofA_get _ _ hlt
      have hpl := posF_le f k hk
      go_wp2_with fail
      refine (rnum_all _ _ _ _ _ 4 _ HR.out (by omega) (by omega)).mono ?_
      rintro e w5 ⟨rfl, hr5, hg5⟩
      have q1 : w5.heap[w.heap.size + 1]? = some (.cells zeroRoot 34 (0, 0)) := (hg5.block _ (by omega) (by simp; omega)).trans H1.out
      have q2 : w5.heap[w.heap.size + 2]? = some (.cells (outC b f k) 34 (0, 0)) := (hg5.block _ hos (by simp; omega)).trans H2.out
      have q3 : w5.heap[kb]? = some (.cells (ofA (w.heap.size + 2)) 110 (0, 0)) := (hg5.block _ hks (by simp; omega)).trans H3.out
      have hb5 : Below w.heap.size w w5 := H4.out.grown hg5 hbs (fun k hk => by simp at hk; omega)
      have hx : readV b (posF f k) 4 f < 4294967296 := readV_lt b HLB.out _ 4 f (by omega)
      have c5 : w5.cell? ⟨w.heap.size + 2, k + 1, none⟩ = some (.int .u32 0) := by
        rw [cell_of_row w5 _ (k + 1) _ _ _ q2, outC_other b f k (k + 1) (by omega) (by omega)]
        have : k = 0 ∨ k = 1 ∨ k = 2 ∨ k = 3 ∨ k = 4 ∨ k = 5 := by omega
        rcases this with rfl | rfl | rfl | rfl | rfl | rfl <;> rfl
      have f5 := frozen_of_row w5 (w.heap.size + 2) (k + 1) _ _ q2
      obtain ⟨x, hxe⟩ : ∃ x, x = readV b (posF f k) 4 f := ⟨_, rfl⟩
      rw [← hxe] at hx ⊢
      obtain ⟨V5, hV5⟩ : ∃ V, V = w5.setCell ⟨w.heap.size + 2, k + 1, none⟩ (.int .u32 (x : Int)) := ⟨_, rfl⟩
      have u2 : V5.heap[w.heap.size + 2]? = some (.cells (outC b f (k + 1)) 34 (0, 0)) := by
        rw [hV5, heap_setCell_same _ _ _ _ _ _ q2, outC, ← posF_read, ← hxe]
      have u1 : V5.heap[w.heap.size + 1]? = some (.cells zeroRoot 34 (0, 0)) := by rw [hV5, heap_setCell_other _ _ _ _ (by simp)]; exact q1
      have u3 : V5.heap[kb]? = some (.cells (ofA (w.heap.size + 2)) 110 (0, 0)) := by rw [hV5, heap_setCell_other _ _ _ _ (by simp; omega)]; exact q3
      have ur : ReaderAt V5 g (w.heap.size + 3) b (posF f (k + 1)) f := by
        rw [← posF_next]
        exact ⟨by rw [hV5, heap_setCell_other _ _ _ _ (by simp; omega)]; exact hr5.row, by rw [hV5, heap_setCell_other _ _ _ _ (by simp)]; exact hr5.src, hr5.len, hr5.lt, hr5.ne⟩
      have ub : Below w.heap.size w V5 := by rw [hV5]; exact hb5.setCell (by simp) _
      have U1 := Lib.hid u1
      have U2 := Lib.hid u2
      have U3 := Lib.hid u3
      have UR := Lib.hid ur
      have UB := Lib.hid ub
      have HV5 := Lib.hid hV5
      clear hr5 hg5 q1 q2 q3 hb5 hV5 u1 u2 u3 ur ub hxe
      go_upto_region 9 with (fail)
      rw [← HV5.out]
      clear c5 f5 kp
      go_wp2_with fail
      go_roundw
      case rel => exact ⟨k + 1, by omega, by go_num, UR.out, U1.out, U2.out, U3.out, UB.out⟩
      case measure => simp [intOf]; omega
    · obtain rfl : k = 6 := by omega
      have hpl := posF_le f 6 (by omega)
      go_wp2_with fail
      refine (rnum_all _ _ _ _ _ 1 _ HR.out (by omega) (by omega)).mono ?_
      rintro e w5 ⟨rfl, hr5, hg5⟩
      have q1 : w5.heap[w.heap.size + 1]? = some (.cells zeroRoot 34 (0, 0)) := (hg5.block _ (by omega) (by simp; omega)).trans H1.out
      have q2 : w5.heap[w.heap.size + 2]? = some (.cells (outC b f 6) 34 (0, 0)) := (hg5.block _ hos (by simp; omega)).trans H2.out
      have hb5 : Below w.heap.size w w5 := H4.out.grown hg5 hbs (fun k hk => by simp at hk; omega)
      have hx : readV b (posF f 6) 1 f < 256 := readV_lt b HLB.out _ 1 f (by omega)
      have c5 : w5.cell? ⟨w.heap.size + 2, 7, none⟩ = some (.int .u8 0) := by
        rw [cell_of_row w5 _ 7 _ _ _ q2, outC_other b f 6 7 (by omega) (by omega)]; rfl
      have f5 := frozen_of_row w5 (w.heap.size + 2) 7 _ _ q2
      obtain ⟨x, hxe⟩ : ∃ x, x = readV b (posF f 6) 1 f := ⟨_, rfl⟩
      rw [← hxe] at hx ⊢
      obtain ⟨V5, hV5⟩ : ∃ V, V = w5.setCell ⟨w.heap.size + 2, 7, none⟩ (.int .u8 (x : Int)) := ⟨_, rfl⟩
      have u2 : V5.heap[w.heap.size + 2]? = some (.cells ((outC b f 6).setIfInBounds 7 (.int .u8 (x : Int))) 34 (0, 0)) := by rw [hV5, heap_setCell_same _ _ _ _ _ _ q2]
      have u1 : V5.heap[w.heap.size + 1]? = some (.cells zeroRoot 34 (0, 0)) := by rw [hV5, heap_setCell_other _ _ _ _ (by simp)]; exact q1
      have ur : ReaderAt V5 g (w.heap.size + 3) b (nextI (posF f 6) 1 f) f :=
        ⟨by rw [hV5, heap_setCell_other _ _ _ _ (by simp; omega)]; exact hr5.row, by rw [hV5, heap_setCell_other _ _ _ _ (by simp)]; exact hr5.src, hr5.len, hr5.lt, hr5.ne⟩
      have ub : Below w.heap.size w V5 := by rw [hV5]; exact hb5.setCell (by simp) _
      have U1 := Lib.hid u1
      have U2 := Lib.hid u2
      have UR := Lib.hid ur
      have UB := Lib.hid ub
      have HV5 := Lib.hid hV5
      have HXE := Lib.hid hxe
      clear hr5 hg5 q1 q2 hb5 hV5 u1 u2 ur ub hxe
      have HU1 : Hid (∀ w', Since V5 w' → w'.heap[w.heap.size + 1]? = some (.cells zeroRoot 34 (0, 0))) := Lib.hid (fun w' hC => hC.row U1.out)
      have HUB : Hid (∀ w', Since V5 w' → Below w.heap.size w w') := Lib.hid (fun w' hC => UB.out.trans (Below.mono hC UB.out.size))
      by_cases hz : (f && allZero (seg b (nextI (posF f 6) 1 f) (252 - nextI (posF f 6) 1 f))) = true
      · have hf : f = true := by cases f <;> simp_all
        subst hf
        have HE : Hid (∀ w', Since V5 w' → Calls Tryd.prog 65 #[.pointer (some ⟨g, 0, none⟩)] w' fun e w'' => e = .returned (.int .i64 0) ∧ Below w'.heap.size w' w'') := Lib.hid (fun w' hC => by
          have := end_all w' g (w.heap.size + 3) b _ true (UR.out.below hC)
          unfold endV at this
          rw [if_pos hz] at this
          exact this)
        have hR : isRoot b = (rootOf b).may := by
          have h2 : allZero (seg b 34 218) = true := by simpa [nextI, posF] using hz
          unfold isRoot; rw [← HF.out, h2]; simp
        have hC : (outC b true 6).setIfInBounds 7 (.int .u8 (x : Int)) = (rootOf b).cells := by rw [← outC_full, HXE.out]; rfl
        have HRR := Lib.hid hR
        have HMM := Lib.hid (rmay_any (rootOf b))
        rw [hC] at U2
        have HC8 : Hid ((rootOf b).cells.size = 8) := Lib.hid rfl
        obtain ⟨R, hRc⟩ : ∃ R, R = (rootOf b).cells := ⟨_, rfl⟩
        rw [← hRc] at HMM U2 HC8
        have HONE : Hid (R.all (·.oneCell') = true) := Lib.hid (by rw [hRc]; exact rcells_one _)
        have HRC := Lib.hid hRc
        obtain ⟨m, hm⟩ : ∃ m, m = (rootOf b).may := ⟨_, rfl⟩
        rw [← hm] at HMM HRR
        clear hz hR hC hRc hm
        go_upto_region 11 with (fail)
        rw [← HV5.out]
        clear c5 f5
        refine wk_plain_since ?_
        repeat (first
          | (refine wk_move _ (by first | exact wanted_none rfl | exact wanted_yes _ _ rfl rfl) rfl ?_; simp only [Act.put, Act.eval, Array.getD_eq_getD_getElem?, List.getElem?_toArray, List.getElem?_cons_succ, List.getElem?_cons_zero, Option.getD_some, List.setIfInBounds_toArray, List.set_cons_zero, List.set_cons_succ])
          | (refine wk_assign _ (by first | exact wanted_none rfl | exact wanted_yes _ _ rfl rfl) rfl ?_; simp only [Act.put, Act.eval, Array.getD_eq_getD_getElem?, List.getElem?_toArray, List.getElem?_cons_succ, List.getElem?_cons_zero, Option.getD_some, List.setIfInBounds_toArray, List.set_cons_zero, List.set_cons_succ])
          | (refine wk_pickt _ _ _ _ (by first | exact wanted_none rfl | exact wanted_yes _ _ rfl rfl) rfl rfl rfl ?_; simp only [Act.put, Act.eval, Array.getD_eq_getD_getElem?, List.getElem?_toArray, List.getElem?_cons_succ, List.getElem?_cons_zero, Option.getD_some, List.setIfInBounds_toArray, List.set_cons_zero, List.set_cons_succ])
          | (refine wk_pickf _ _ _ _ (by first | exact wanted_none rfl | exact wanted_yes _ _ rfl rfl) rfl rfl rfl ?_; simp only [Act.put, Act.eval, Array.getD_eq_getD_getElem?, List.getElem?_toArray, List.getElem?_cons_succ, List.getElem?_cons_zero, Option.getD_some, List.setIfInBounds_toArray, List.set_cons_zero, List.set_cons_succ])
          | (refine wk_skip (wanted_not _ true false rfl rfl rfl) ?_; simp only [Act.put, List.setIfInBounds_toArray, List.set_cons_zero, List.set_cons_succ])
          | (refine wk_skip (wanted_not _ false true rfl rfl rfl) ?_; simp only [Act.put, List.setIfInBounds_toArray, List.set_cons_zero, List.set_cons_succ])
          | (refine wk_skip (wanted_undef _ _ rfl rfl) ?_; simp only [Act.put, List.setIfInBounds_toArray, List.set_cons_zero, List.set_cons_succ])
          | (refine wk_not true _ _ (by first | exact wanted_none rfl | exact wanted_yes _ _ rfl rfl) rfl rfl ?_; simp only [Act.put, List.setIfInBounds_toArray, List.set_cons_zero, List.set_cons_succ])
          | (refine wk_not false _ _ (by first | exact wanted_none rfl | exact wanted_yes _ _ rfl rfl) rfl rfl ?_; simp only [Act.put, List.setIfInBounds_toArray, List.set_cons_zero, List.set_cons_succ]))
        refine wk_call 65 _ _ _ _ _ (by kernel_rfl) rfl Tryd.func65 rfl (by kernel_rfl) (fun w' hC => hC.call (HE.out w' hC)) ?_
        simp only [Act.put, List.setIfInBounds_toArray, List.set_cons_zero, List.set_cons_succ]
        refine wk_cmp_int .neq (false) _ _ _ _ _ _ _ (by kernel_rfl) rfl rfl rfl (rfl) ?_
        simp only [Act.put, List.setIfInBounds_toArray, List.set_cons_zero, List.set_cons_succ]
        repeat (first
          | (refine wk_move _ (by first | exact wanted_none rfl | exact wanted_yes _ _ rfl rfl) rfl ?_; simp only [Act.put, Act.eval, Array.getD_eq_getD_getElem?, List.getElem?_toArray, List.getElem?_cons_succ, List.getElem?_cons_zero, Option.getD_some, List.setIfInBounds_toArray, List.set_cons_zero, List.set_cons_succ])
          | (refine wk_assign _ (by first | exact wanted_none rfl | exact wanted_yes _ _ rfl rfl) rfl ?_; simp only [Act.put, Act.eval, Array.getD_eq_getD_getElem?, List.getElem?_toArray, List.getElem?_cons_succ, List.getElem?_cons_zero, Option.getD_some, List.setIfInBounds_toArray, List.set_cons_zero, List.set_cons_succ])
          | (refine wk_pickt _ _ _ _ (by first | exact wanted_none rfl | exact wanted_yes _ _ rfl rfl) rfl rfl rfl ?_; simp only [Act.put, Act.eval, Array.getD_eq_getD_getElem?, List.getElem?_toArray, List.getElem?_cons_succ, List.getElem?_cons_zero, Option.getD_some, List.setIfInBounds_toArray, List.set_cons_zero, List.set_cons_succ])
          | (refine wk_pickf _ _ _ _ (by first | exact wanted_none rfl | exact wanted_yes _ _ rfl rfl) rfl rfl rfl ?_; simp only [Act.put, Act.eval, Array.getD_eq_getD_getElem?, List.getElem?_toArray, List.getElem?_cons_succ, List.getElem?_cons_zero, Option.getD_some, List.setIfInBounds_toArray, List.set_cons_zero, List.set_cons_succ])
          | (refine wk_skip (wanted_not _ true false rfl rfl rfl) ?_; simp only [Act.put, List.setIfInBounds_toArray, List.set_cons_zero, List.set_cons_succ])
          | (refine wk_skip (wanted_not _ false true rfl rfl rfl) ?_; simp only [Act.put, List.setIfInBounds_toArray, List.set_cons_zero, List.set_cons_succ])
          | (refine wk_skip (wanted_undef _ _ rfl rfl) ?_; simp only [Act.put, List.setIfInBounds_toArray, List.set_cons_zero, List.set_cons_succ])
          | (refine wk_not true _ _ (by first | exact wanted_none rfl | exact wanted_yes _ _ rfl rfl) rfl rfl ?_; simp only [Act.put, List.setIfInBounds_toArray, List.set_cons_zero, List.set_cons_succ])
          | (refine wk_not false _ _ (by first | exact wanted_none rfl | exact wanted_yes _ _ rfl rfl) rfl rfl ?_; simp only [Act.put, List.setIfInBounds_toArray, List.set_cons_zero, List.set_cons_succ]))
        refine wk_load_row 34 _ (w.heap.size + 2) 34 R (0, 0) _ (by kernel_rfl) rfl rfl (fun w' hC => hC.row U2.out) Tryd.underlying34 rfl (by rw [HC8.out]; exact sizeR) ?_
        simp only [Act.put, List.setIfInBounds_toArray, List.set_cons_zero, List.set_cons_succ]
        refine wk_call 52 _ _ _ _ _ (by kernel_rfl) rfl Tryd.func52 rfl (by kernel_rfl) (fun w' hC => hC.call (HMM.out w')) ?_
        simp only [Act.put, List.setIfInBounds_toArray, List.set_cons_zero, List.set_cons_succ]
        cases m
        · skip
          repeat (first
            | (refine wk_move _ (by first | exact wanted_none rfl | exact wanted_yes _ _ rfl rfl) rfl ?_; simp only [Act.put, Act.eval, Array.getD_eq_getD_getElem?, List.getElem?_toArray, List.getElem?_cons_succ, List.getElem?_cons_zero, Option.getD_some, List.setIfInBounds_toArray, List.set_cons_zero, List.set_cons_succ])
            | (refine wk_assign _ (by first | exact wanted_none rfl | exact wanted_yes _ _ rfl rfl) rfl ?_; simp only [Act.put, Act.eval, Array.getD_eq_getD_getElem?, List.getElem?_toArray, List.getElem?_cons_succ, List.getElem?_cons_zero, Option.getD_some, List.setIfInBounds_toArray, List.set_cons_zero, List.set_cons_succ])
            | (refine wk_pickt _ _ _ _ (by first | exact wanted_none rfl | exact wanted_yes _ _ rfl rfl) rfl rfl rfl ?_; simp only [Act.put, Act.eval, Array.getD_eq_getD_getElem?, List.getElem?_toArray, List.getElem?_cons_succ, List.getElem?_cons_zero, Option.getD_some, List.setIfInBounds_toArray, List.set_cons_zero, List.set_cons_succ])
            | (refine wk_pickf _ _ _ _ (by first | exact wanted_none rfl | exact wanted_yes _ _ rfl rfl) rfl rfl rfl ?_; simp only [Act.put, Act.eval, Array.getD_eq_getD_getElem?, List.getElem?_toArray, List.getElem?_cons_succ, List.getElem?_cons_zero, Option.getD_some, List.setIfInBounds_toArray, List.set_cons_zero, List.set_cons_succ])
            | (refine wk_skip (wanted_not _ true false rfl rfl rfl) ?_; simp only [Act.put, List.setIfInBounds_toArray, List.set_cons_zero, List.set_cons_succ])
            | (refine wk_skip (wanted_not _ false true rfl rfl rfl) ?_; simp only [Act.put, List.setIfInBounds_toArray, List.set_cons_zero, List.set_cons_succ])
            | (refine wk_skip (wanted_undef _ _ rfl rfl) ?_; simp only [Act.put, List.setIfInBounds_toArray, List.set_cons_zero, List.set_cons_succ])
            | (refine wk_not true _ _ (by first | exact wanted_none rfl | exact wanted_yes _ _ rfl rfl) rfl rfl ?_; simp only [Act.put, List.setIfInBounds_toArray, List.set_cons_zero, List.set_cons_succ])
            | (refine wk_not false _ _ (by first | exact wanted_none rfl | exact wanted_yes _ _ rfl rfl) rfl rfl ?_; simp only [Act.put, List.setIfInBounds_toArray, List.set_cons_zero, List.set_cons_succ]))
          refine wk_nil ?_
          intro w' hC
          have S1 := Lib.hid (HU1.out _ hC)
          have S2 := Lib.hid (hC.row U2.out)
          have SB := Lib.hid (HUB.out _ hC)
          clear hC
          go_wp2_with (refine wpList_store_row rfl 34 _ _ rfl (w.heap.size + 1) zeroRoot rfl rfl 34 _ S1.out sizeR rfl zero_one ?_)
          refine bodyPost_ret (v := .tuple #[.agg zeroRoot, .int .i64 250]) (results_cell_slot rfl _ _ (w.heap.size + 1) 34 _ (0, 0) _ _ rfl rfl (setRow_heap _ _ _ _ _ _ S1.out) Tryd.underlying34 rfl sizeR) rfl ⟨by unfold getC getE; rw [HRR.out]; rfl, ?_⟩
          exact below_setRow SB.out (by omega) _
        · skip
          repeat (first
            | (refine wk_move _ (by first | exact wanted_none rfl | exact wanted_yes _ _ rfl rfl) rfl ?_; simp only [Act.put, Act.eval, Array.getD_eq_getD_getElem?, List.getElem?_toArray, List.getElem?_cons_succ, List.getElem?_cons_zero, Option.getD_some, List.setIfInBounds_toArray, List.set_cons_zero, List.set_cons_succ])
            | (refine wk_assign _ (by first | exact wanted_none rfl | exact wanted_yes _ _ rfl rfl) rfl ?_; simp only [Act.put, Act.eval, Array.getD_eq_getD_getElem?, List.getElem?_toArray, List.getElem?_cons_succ, List.getElem?_cons_zero, Option.getD_some, List.setIfInBounds_toArray, List.set_cons_zero, List.set_cons_succ])
            | (refine wk_pickt _ _ _ _ (by first | exact wanted_none rfl | exact wanted_yes _ _ rfl rfl) rfl rfl rfl ?_; simp only [Act.put, Act.eval, Array.getD_eq_getD_getElem?, List.getElem?_toArray, List.getElem?_cons_succ, List.getElem?_cons_zero, Option.getD_some, List.setIfInBounds_toArray, List.set_cons_zero, List.set_cons_succ])
            | (refine wk_pickf _ _ _ _ (by first | exact wanted_none rfl | exact wanted_yes _ _ rfl rfl) rfl rfl rfl ?_; simp only [Act.put, Act.eval, Array.getD_eq_getD_getElem?, List.getElem?_toArray, List.getElem?_cons_succ, List.getElem?_cons_zero, Option.getD_some, List.setIfInBounds_toArray, List.set_cons_zero, List.set_cons_succ])
            | (refine wk_skip (wanted_not _ true false rfl rfl rfl) ?_; simp only [Act.put, List.setIfInBounds_toArray, List.set_cons_zero, List.set_cons_succ])
            | (refine wk_skip (wanted_not _ false true rfl rfl rfl) ?_; simp only [Act.put, List.setIfInBounds_toArray, List.set_cons_zero, List.set_cons_succ])
            | (refine wk_skip (wanted_undef _ _ rfl rfl) ?_; simp only [Act.put, List.setIfInBounds_toArray, List.set_cons_zero, List.set_cons_succ])
            | (refine wk_not true _ _ (by first | exact wanted_none rfl | exact wanted_yes _ _ rfl rfl) rfl rfl ?_; simp only [Act.put, List.setIfInBounds_toArray, List.set_cons_zero, List.set_cons_succ])
            | (refine wk_not false _ _ (by first | exact wanted_none rfl | exact wanted_yes _ _ rfl rfl) rfl rfl ?_; simp only [Act.put, List.setIfInBounds_toArray, List.set_cons_zero, List.set_cons_succ]))
          refine wk_nil ?_
          intro w' hC
          have S1 := Lib.hid (HU1.out _ hC)
          have S2 := Lib.hid (hC.row U2.out)
          have SB := Lib.hid (HUB.out _ hC)
          clear hC
          go_wp2_with (first
            | refine wpList_load_row rfl 34 _ rfl (w.heap.size + 2) rfl 34 R (0, 0) _ S2.out Tryd.underlying34 rfl (by rw [HC8.out]; exact sizeR) ?_
            | refine wpList_store_row rfl 34 _ _ rfl (w.heap.size + 1) R rfl rfl 34 _ S1.out (by rw [HC8.out]; exact sizeR) (by rw [HC8.out]; rfl) HONE.out ?_)
          refine bodyPost_ret (v := .tuple #[.agg R, .int .i64 0]) (results_cell_slot rfl _ _ (w.heap.size + 1) 34 _ (0, 0) _ _ rfl rfl (setRow_heap _ _ _ _ _ _ S1.out) Tryd.underlying34 rfl (by rw [HC8.out]; exact sizeR)) rfl ⟨by unfold getC getE; rw [HRR.out, HRC.out]; rfl, ?_⟩
          exact below_setRow SB.out (by omega) _
      · have hR : isRoot b = false := by
          unfold isRoot; rw [← HF.out]
          cases f with
          | false => rfl
          | true =>
            have h2 : allZero (seg b 34 218) = false := by simpa [nextI, posF] using hz
            rw [h2]; rfl
        have HRR := Lib.hid hR
        have HE : Hid (∀ w', Since V5 w' → Calls Tryd.prog 65 #[.pointer (some ⟨g, 0, none⟩)] w' fun e w'' => e = .returned (.int .i64 250) ∧ Below w'.heap.size w' w'') := Lib.hid (fun w' hC => by
          have := end_all w' g (w.heap.size + 3) b _ f (UR.out.below hC)
          unfold endV at this
          rw [if_neg hz] at this
          exact this)
        clear hz hR
        go_upto_region 11 with (fail)
        rw [← HV5.out]
        clear c5 f5
        refine wk_plain_since ?_
        repeat (first
          | (refine wk_move _ (by first | exact wanted_none rfl | exact wanted_yes _ _ rfl rfl) rfl ?_; simp only [Act.put, Act.eval, Array.getD_eq_getD_getElem?, List.getElem?_toArray, List.getElem?_cons_succ, List.getElem?_cons_zero, Option.getD_some, List.setIfInBounds_toArray, List.set_cons_zero, List.set_cons_succ])
          | (refine wk_assign _ (by first | exact wanted_none rfl | exact wanted_yes _ _ rfl rfl) rfl ?_; simp only [Act.put, Act.eval, Array.getD_eq_getD_getElem?, List.getElem?_toArray, List.getElem?_cons_succ, List.getElem?_cons_zero, Option.getD_some, List.setIfInBounds_toArray, List.set_cons_zero, List.set_cons_succ])
          | (refine wk_pickt _ _ _ _ (by first | exact wanted_none rfl | exact wanted_yes _ _ rfl rfl) rfl rfl rfl ?_; simp only [Act.put, Act.eval, Array.getD_eq_getD_getElem?, List.getElem?_toArray, List.getElem?_cons_succ, List.getElem?_cons_zero, Option.getD_some, List.setIfInBounds_toArray, List.set_cons_zero, List.set_cons_succ])
          | (refine wk_pickf _ _ _ _ (by first | exact wanted_none rfl | exact wanted_yes _ _ rfl rfl) rfl rfl rfl ?_; simp only [Act.put, Act.eval, Array.getD_eq_getD_getElem?, List.getElem?_toArray, List.getElem?_cons_succ, List.getElem?_cons_zero, Option.getD_some, List.setIfInBounds_toArray, List.set_cons_zero, List.set_cons_succ])
          | (refine wk_skip (wanted_not _ true false rfl rfl rfl) ?_; simp only [Act.put, List.setIfInBounds_toArray, List.set_cons_zero, List.set_cons_succ])
          | (refine wk_skip (wanted_not _ false true rfl rfl rfl) ?_; simp only [Act.put, List.setIfInBounds_toArray, List.set_cons_zero, List.set_cons_succ])
          | (refine wk_skip (wanted_undef _ _ rfl rfl) ?_; simp only [Act.put, List.setIfInBounds_toArray, List.set_cons_zero, List.set_cons_succ])
          | (refine wk_not true _ _ (by first | exact wanted_none rfl | exact wanted_yes _ _ rfl rfl) rfl rfl ?_; simp only [Act.put, List.setIfInBounds_toArray, List.set_cons_zero, List.set_cons_succ])
          | (refine wk_not false _ _ (by first | exact wanted_none rfl | exact wanted_yes _ _ rfl rfl) rfl rfl ?_; simp only [Act.put, List.setIfInBounds_toArray, List.set_cons_zero, List.set_cons_succ]))
        refine wk_call 65 _ _ _ _ _ (by kernel_rfl) rfl Tryd.func65 rfl (by kernel_rfl) (fun w' hC => hC.call (HE.out w' hC)) ?_
        simp only [Act.put, List.setIfInBounds_toArray, List.set_cons_zero, List.set_cons_succ]
        refine wk_cmp_int .neq (true) _ _ _ _ _ _ _ (by kernel_rfl) rfl rfl rfl (rfl) ?_
        simp only [Act.put, List.setIfInBounds_toArray, List.set_cons_zero, List.set_cons_succ]
        repeat (first
          | (refine wk_move _ (by first | exact wanted_none rfl | exact wanted_yes _ _ rfl rfl) rfl ?_; simp only [Act.put, Act.eval, Array.getD_eq_getD_getElem?, List.getElem?_toArray, List.getElem?_cons_succ, List.getElem?_cons_zero, Option.getD_some, List.setIfInBounds_toArray, List.set_cons_zero, List.set_cons_succ])
          | (refine wk_assign _ (by first | exact wanted_none rfl | exact wanted_yes _ _ rfl rfl) rfl ?_; simp only [Act.put, Act.eval, Array.getD_eq_getD_getElem?, List.getElem?_toArray, List.getElem?_cons_succ, List.getElem?_cons_zero, Option.getD_some, List.setIfInBounds_toArray, List.set_cons_zero, List.set_cons_succ])
          | (refine wk_pickt _ _ _ _ (by first | exact wanted_none rfl | exact wanted_yes _ _ rfl rfl) rfl rfl rfl ?_; simp only [Act.put, Act.eval, Array.getD_eq_getD_getElem?, List.getElem?_toArray, List.getElem?_cons_succ, List.getElem?_cons_zero, Option.getD_some, List.setIfInBounds_toArray, List.set_cons_zero, List.set_cons_succ])
          | (refine wk_pickf _ _ _ _ (by first | exact wanted_none rfl | exact wanted_yes _ _ rfl rfl) rfl rfl rfl ?_; simp only [Act.put, Act.eval, Array.getD_eq_getD_getElem?, List.getElem?_toArray, List.getElem?_cons_succ, List.getElem?_cons_zero, Option.getD_some, List.setIfInBounds_toArray, List.set_cons_zero, List.set_cons_succ])
          | (refine wk_skip (wanted_not _ true false rfl rfl rfl) ?_; simp only [Act.put, List.setIfInBounds_toArray, List.set_cons_zero, List.set_cons_succ])
          | (refine wk_skip (wanted_not _ false true rfl rfl rfl) ?_; simp only [Act.put, List.setIfInBounds_toArray, List.set_cons_zero, List.set_cons_succ])
          | (refine wk_skip (wanted_undef _ _ rfl rfl) ?_; simp only [Act.put, List.setIfInBounds_toArray, List.set_cons_zero, List.set_cons_succ])
          | (refine wk_not true _ _ (by first | exact wanted_none rfl | exact wanted_yes _ _ rfl rfl) rfl rfl ?_; simp only [Act.put, List.setIfInBounds_toArray, List.set_cons_zero, List.set_cons_succ])
          | (refine wk_not false _ _ (by first | exact wanted_none rfl | exact wanted_yes _ _ rfl rfl) rfl rfl ?_; simp only [Act.put, List.setIfInBounds_toArray, List.set_cons_zero, List.set_cons_succ]))
        refine wk_nil ?_
        intro w' hC
        have S1 := Lib.hid (HU1.out _ hC)
        have SB := Lib.hid (HUB.out _ hC)
        clear hC
        go_wp2_with (refine wpList_store_row rfl 34 _ _ rfl (w.heap.size + 1) zeroRoot rfl rfl 34 _ S1.out sizeR rfl zero_one ?_)
        refine bodyPost_ret (v := .tuple #[.agg zeroRoot, .int .i64 250]) (results_cell_slot rfl _ _ (w.heap.size + 1) 34 _ (0, 0) _ _ rfl rfl (setRow_heap _ _ _ _ _ _ S1.out) Tryd.underlying34 rfl sizeR) rfl ⟨by unfold getC getE; rw [HRR.out]; rfl, ?_⟩
        exact below_setRow SB.out (by omega) _
end Go.Proofs.YtnphgaiiiiknpaaDoor
