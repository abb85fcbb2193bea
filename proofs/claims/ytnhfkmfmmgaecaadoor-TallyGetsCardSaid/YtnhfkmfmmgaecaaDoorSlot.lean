/- The slot layer: what a root is; which may be. -/
import Derived.Test.YtnhfkmfmmgaecaaDoorRead6
namespace Go.Proofs.YtnhfkmfmmgaecaaDoor
open Go.RowKit
set_option linter.unusedSimpArgs false
set_option maxRecDepth 100000
/-- A root. -/
structure Root where
  gen : Nat
  size : Nat
  picks : Nat
  names : Nat
  free : Nat
  next : Nat
  hint : Nat
  vols : Nat
def Root.cells (r : Root) : Array Value := #[.int .u64 (r.gen : Int), .int .u32 (r.size : Int), .int .u32 (r.picks : Int), .int .u32 (r.names : Int), .int .u32 (r.free : Int), .int .u32 (r.next : Int), .int .u32 (r.hint : Int), .int .u8 (r.vols : Int)]
structure Root.Ok (r : Root) : Prop where
  gen : r.gen < 2 ^ 64
  size : r.size < 4294967296
  picks : r.picks < 4294967296
  names : r.names < 4294967296
  free : r.free < 4294967296
  next : r.next < 4294967296
  hint : r.hint < 4294967296
  vols : r.vols < 256
def Root.s1 (r : Root) : Bool := decide (64 ≤ r.size) && decide (r.size ≤ 1048576)
def Root.s2 (r : Root) : Bool := decide (r.names < r.size) && (decide (r.hint < r.size) && decide (r.free ≤ r.size))
def Root.s3 (r : Root) : Bool := decide (r.vols ≤ 16) && (decide (r.vols = 0) == decide (r.names = 0))
def Root.may (r : Root) : Bool := decide (0 < r.gen) && (r.s1 && (r.s2 && (decide (r.picks < 65536) && (decide (0 < r.next) && r.s3))))
theorem beq0 (n : Nat) : ((n : Int) == 0) = decide (n = 0) := by
  by_cases h : n = 0 <;> simp [h]
set_option maxHeartbeats 1000000 in
theorem rmay_any (r : Root) (w : World) : Calls Tryd.prog 28 #[.agg r.cells] w fun e w' => e = .returned (.bool r.may) ∧ Below w.heap.size w w' := by
  obtain ⟨W, hW⟩ : ∃ W, W = w.alloc (.cells r.cells 54) := ⟨_, rfl⟩
  have hg : W.heap[w.heap.size]? = some (.cells r.cells 54 (0, 0)) := by rw [hW]; exact heap_alloc_new _ _
  have hB : Below w.heap.size w W := by rw [hW]; exact (Below.refl _ _).alloc (Nat.le_refl _) _
  have c0 : W.cell? ⟨w.heap.size, 0, none⟩ = some (.int .u64 (r.gen : Int)) := cell_of_row W _ 0 _ _ _ hg
  have c1 : W.cell? ⟨w.heap.size, 1, none⟩ = some (.int .u32 (r.size : Int)) := cell_of_row W _ 1 _ _ _ hg
  have c2 : W.cell? ⟨w.heap.size, 2, none⟩ = some (.int .u32 (r.picks : Int)) := cell_of_row W _ 2 _ _ _ hg
  have c3 : W.cell? ⟨w.heap.size, 3, none⟩ = some (.int .u32 (r.names : Int)) := cell_of_row W _ 3 _ _ _ hg
  have c4 : W.cell? ⟨w.heap.size, 4, none⟩ = some (.int .u32 (r.free : Int)) := cell_of_row W _ 4 _ _ _ hg
  have c5 : W.cell? ⟨w.heap.size, 5, none⟩ = some (.int .u32 (r.next : Int)) := cell_of_row W _ 5 _ _ _ hg
  have c6 : W.cell? ⟨w.heap.size, 6, none⟩ = some (.int .u32 (r.hint : Int)) := cell_of_row W _ 6 _ _ _ hg
  have c7 : W.cell? ⟨w.heap.size, 7, none⟩ = some (.int .u8 (r.vols : Int)) := cell_of_row W _ 7 _ _ _ hg
  have HB := Lib.hid hB
  have HW := Lib.hid hW
  have S1 : Hid (r.s1 = (decide (64 ≤ r.size) && decide (r.size ≤ 1048576))) := Lib.hid rfl
  have S2 : Hid (r.s2 = (decide (r.names < r.size) && (decide (r.hint < r.size) && decide (r.free ≤ r.size)))) := Lib.hid rfl
  have S3 : Hid (r.s3 = (decide (r.vols ≤ 16) && (decide (r.vols = 0) == decide (r.names = 0)))) := Lib.hid rfl
  have SM : Hid (r.may = (decide (0 < r.gen) && (r.s1 && (r.s2 && (decide (r.picks < 65536) && (decide (0 < r.next) && r.s3)))))) := Lib.hid rfl
  clear hW hg hB
  obtain ⟨C, hC⟩ : ∃ C, C = r.cells := ⟨_, rfl⟩
  rw [← hC] at HW ⊢
  clear hC
  go_enter Tryd.func28, Tryd.ntmps28
  go_upto_region 1 with fail
  rw [← HW.out]
  go_cut [3] (fun s w' => s = .bool r.s1 ∧ w' = W)
  case first =>
    by_cases a1 : 64 ≤ r.size
    all_goals
      go_wp2
      go_meet
    all_goals exact ⟨by rw [S1.out]; simp [a1]; try omega, rfl⟩
  case rest =>
    obtain ⟨rfl, rfl⟩ := hcut
    go_upto_region 2 with fail
    go_cut [4] (fun s w' => s = .bool r.s2 ∧ w' = wc)
    case first =>
      by_cases a1 : r.names < r.size
      · by_cases a2 : r.hint < r.size
        all_goals
          go_wp2
          go_meet
        all_goals exact ⟨by rw [S2.out]; simp [a1, a2]; try omega, rfl⟩
      · go_wp2
        go_meet
        exact ⟨by rw [S2.out]; simp [a1], rfl⟩
    case rest =>
      obtain ⟨rfl, rfl⟩ := hcut
      go_upto_region 3 with fail
      go_cut [5] (fun s w' => s = .bool r.s3 ∧ w' = wc)
      case first =>
        by_cases a1 : r.vols ≤ 16
        all_goals
          go_wp2
          go_meet
        · exact ⟨by rw [S3.out]; simp only [beq0, a1, decide_true, Bool.true_and], rfl⟩
        · exact ⟨by rw [S3.out]; simp [a1], rfl⟩
      case rest =>
        obtain ⟨rfl, rfl⟩ := hcut
        obtain ⟨s1, e1⟩ : ∃ s, s = r.s1 := ⟨_, rfl⟩
        obtain ⟨s2, e2⟩ : ∃ s, s = r.s2 := ⟨_, rfl⟩
        obtain ⟨s3, e3⟩ : ∃ s, s = r.s3 := ⟨_, rfl⟩
        rw [← e1, ← e2, ← e3] at SM
        simp only [← e1, ← e2, ← e3]
        clear S1 S2 S3 e1 e2 e3
        by_cases b1 : 0 < r.gen
        · cases s1
          · go_wp2
            go_ret
            exact ⟨by rw [SM.out]; simp, HB.out⟩
          cases s2
          · go_wp2
            go_ret
            exact ⟨by rw [SM.out]; simp, HB.out⟩
          obtain ⟨p, hp⟩ : ∃ p, p = decide (r.picks < 65536) := ⟨_, rfl⟩
          have b2 : decide ((r.picks : Int) < 65536) = p := by rw [hp, Bool.eq_iff_iff]; simp; omega
          rw [← hp] at SM
          clear hp
          cases p
          case true =>
            by_cases b3 : 0 < r.next
            all_goals
              go_wp2
              go_ret
            · exact ⟨by rw [SM.out]; simp [b1, b3], HB.out⟩
            · exact ⟨by rw [SM.out]; simp [b3], HB.out⟩
          case false =>
            go_wp2
            go_ret
            exact ⟨by rw [SM.out]; simp, HB.out⟩
        · go_wp2
          go_ret
          exact ⟨by rw [SM.out]; simp [b1], HB.out⟩
end Go.Proofs.YtnhfkmfmmgaecaaDoor
