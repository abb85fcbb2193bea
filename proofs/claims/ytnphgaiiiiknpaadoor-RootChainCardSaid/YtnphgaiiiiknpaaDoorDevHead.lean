/- The device layer's laws: the law's head holds. -/
import Derived.Test.YtnphgaiiiiknpaaDoorDev9
namespace Go.Proofs.YtnphgaiiiiknpaaDoor
open Go.RowKit
set_option linter.unusedSimpArgs false
set_option linter.unusedVariables false
set_option maxRecDepth 100000
theorem fullK_get (c : UInt8) (k : Nat) (hk : k < 256) : (fullK c 256)[k]'(by rw [length_fullK c 256 (by omega)]; exact hk) = c := by
  have h : (fullK c 256)[k]? = some c := by
    unfold fullK
    rw [List.getElem?_append_left (by rw [List.length_replicate]; exact hk), List.getElem?_replicate, if_pos hk]
  have := List.getElem?_eq_some_iff.1 h
  exact this.2
def hA : List UInt8 := fullK 97 256
def hB : List UInt8 := fullK 98 256
def hd1 : Dv := ⟨64, fun _ => zeroBlk, [(5, hA)], none, false, 1⟩
def hd2 : Dv := ⟨64, updB (fun _ => zeroBlk) 5 hA, [], none, false, 2⟩
def hd3 : Dv := ⟨64, updB (fun _ => zeroBlk) 5 hA, [(5, hB)], none, false, 3⟩
def hG4 : Nat → List UInt8 := updB (updB (fun _ => zeroBlk) 5 hA) 5 (dtorn hA hB 9)
def hd4 : Dv := ⟨64, hG4, [], none, false, 3⟩
def hd5 : Dv := ⟨64, hG4, [], some 1, false, 3⟩
def hd6 : Dv := ⟨64, hG4, [(6, hA)], some 0, false, 4⟩
def hd7 : Dv := ⟨64, hG4, [(6, hA)], some 0, true, 4⟩
def hd8 : Dv := ⟨64, updB hG4 6 (dtorn zeroBlk hA 15), [], none, false, 4⟩
theorem dtorn_all (x y : List UInt8) (hy : y.length = 256) : dtorn x y 15 = y := by
  apply List.ext_getElem?
  intro i
  by_cases hi : i < 256
  · have h4 : i / 64 < 4 := by omega
    have h1 : 15 / 2 ^ (i / 64) % 2 = 1 := by
      rcases (by omega : i / 64 = 0 ∨ i / 64 = 1 ∨ i / 64 = 2 ∨ i / 64 = 3) with h | h | h | h <;> rw [h] <;> decide
    simp [dtorn, dtornTo, List.getElem?_map, List.getElem?_range hi, h4, h1, List.getElem?_eq_getElem (by omega : i < y.length)]
  · rw [List.getElem?_eq_none (by rw [length_dtorn]; omega), List.getElem?_eq_none (by omega)]
theorem length_hA : hA.length = 256 := length_fullK 97 256 (by omega)
theorem length_hB : hB.length = 256 := length_fullK 98 256 (by omega)
theorem h_1 : (newDv 64).write 5 hA = (hd1, 0) := rfl
theorem h_2 : hd1.flush = (hd2, 0) := rfl
theorem h_3 : hd2.write 5 hB = (hd3, 0) := rfl
theorem h_64 : hd3.write 64 hB = (hd3, 2) := rfl
theorem h_4 : hd3.crash [(0, 9)] = hd4 := rfl
theorem h_5 : hd4.lay 1 = (hd5, 0) := rfl
theorem h_6 : hd5.write 6 hA = (hd6, 0) := rfl
theorem h_7 : hd6.flush = (hd7, 30) := rfl
theorem h_7b : hd7.write 6 hB = (hd7, 30) := rfl
theorem h_8 : hd7.crash [(0, 15)] = hd8 := rfl
theorem hr_1 : readB hd1 5 = hA ∧ readE hd1 5 = 0 := ⟨rfl, rfl⟩
theorem hr_4 : readB hd4 5 = dtorn hA hB 9 ∧ readE hd4 5 = 0 := ⟨rfl, rfl⟩
theorem hr_8 : readB hd8 6 = hA ∧ readE hd8 6 = 0 := ⟨dtorn_all _ _ length_hA, rfl⟩
def hY : List UInt8 := dtorn hA hB 9
theorem length_hY : hY.length = 256 := length_dtorn _ _ _
theorem getD_hA (k : Nat) (hk : k < 256) : hA.getD k 0 = 97 := by
  rw [List.getD_eq_getElem?_getD, List.getElem?_eq_getElem (by rw [length_hA]; exact hk)]
  exact fullK_get 97 k hk
theorem getD_hB (k : Nat) (hk : k < 256) : hB.getD k 0 = 98 := by
  rw [List.getD_eq_getElem?_getD, List.getElem?_eq_getElem (by rw [length_hB]; exact hk)]
  exact fullK_get 98 k hk
theorem hY_get (k : Nat) (hk : k < 256) (v : UInt8) (hv : (if k / 64 < 4 ∧ 9 / 2 ^ (k / 64) % 2 = 1 then (98 : UInt8) else 97) = v) : hY[k]'(by rw [length_hY]; exact hk) = v := by
  have h := get_dtornTo 4 hA hB 9 k hk
  rw [getD_hA k hk, getD_hB k hk, hv] at h
  rw [List.getD_eq_getElem?_getD, List.getElem?_eq_getElem (by rw [length_dtornTo]; exact hk)] at h
  exact h
theorem pending_is {w : World} {g : Nat} {s : Dv} (h : (dvT g s).at w) (n : Nat) (hn : s.pend.length = n) : Calls Tryd.prog 20 #[.pointer (some ⟨g, 0, none⟩)] w fun e w' => e = .returned (.int .i64 (n : Int)) ∧ w = w' := by
  have := pending_dev h
  rwa [hn] at this
theorem read_is {w : World} {g : Nat} {s : Dv} (h : (dvT g s).at w) (a : Nat) (ha : a < 4294967296) (B : List UInt8) (E : Int) (he : readB s a = B ∧ readE s a = E) :
    Calls Tryd.prog 16 #[.pointer (some ⟨g, 0, none⟩), .int .u32 (a : Int)] w fun e w' => e = .returned (.tuple #[.agg (blk B), .int .i64 E]) ∧ Below w.heap.size w w' := by
  have := read_dev h a ha
  rwa [he.1, he.2] at this
theorem Tryd.infoKeep : (Tryd.prog.info? 77).map (fun i => (i.zero, i.size, i.bytes)) = some (some (.agg #[.int .u16 0, .int .u8 0]), 2, 4) := by kernel_rfl
theorem hYc (k : Nat) (hk : k < 256) (v : UInt8) (hv : (if k / 64 < 4 ∧ 9 / 2 ^ (k / 64) % 2 = 1 then (98 : UInt8) else 97) = v) : (blk hY)[k]? = some (.int .u8 (v.toNat : Int)) := by
  have := blk_get hY k (by rw [length_hY]; exact hk)
  rw [hY_get k hk v hv] at this
  exact this
end Go.Proofs.YtnphgaiiiiknpaaDoor
