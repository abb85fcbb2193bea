/- How arguments read: a row of blocks that are to be put; a crash. -/
import Derived.Test.YtnphgaiiiiknpaaDoorOpenStruct
import Derived.Test.YtnphgaiiiiknpaaDoorRootTurn
namespace Go.Proofs.YtnphgaiiiiknpaaDoor
open Go.ChangeShapes Go.WideShapes Go.ChangeAt Go.RowKit
set_option maxRecDepth 100000
section
variable {H : Type} {enc : TypeId × Value → H} {w : World} {base : Nat} {spare : Nat → Bool} {held : Bool} {fuel : Nat} {cs : List Value} {x : DataW H × List MemPlace}
theorem fieldsPutU : ((Tryd.prog.fieldsOf 47).toList.map fun f => (f.name == "_", f.type, f.offset)) = [(false, 22, 0), (false, 45, 1)] := by kernel_rfl
theorem structPutU : Tryd.prog.underlying 47 = some (.struct (Tryd.prog.fieldsOf 47)) := by kernel_rfl
theorem fieldsCr : ((Tryd.prog.fieldsOf 38).toList.map fun f => (f.name == "_", f.type, f.offset)) = [(false, 5, 0), (false, 36, 1)] := by kernel_rfl
theorem structCr : Tryd.prog.underlying 38 = some (.struct (Tryd.prog.fieldsOf 38)) := by kernel_rfl
theorem trod_put {row : List Value} (hl : row.length = 257) (h : DataW.trod enc Tryd.prog w base spare held fuel 47 row = some x) : ∃ y : Nat × List UInt8, y.1 < 4294967296 ∧ y.2.length = 256 ∧ row = (putV y.1 y.2).toList := by
  obtain ⟨_, _, f0⟩ := trod_field structPutU h _ fieldsPutU 0 false 22 0 rfl
  obtain ⟨_, _, f1⟩ := trod_field structPutU h _ fieldsPutU 1 false 45 1 rfl
  obtain ⟨z0, e0, w0⟩ := trod_int_cell Tryd.underlying22 f0
  have hc : Tryd.prog.cellsOf 45 = 256 := by kernel_rfl
  obtain ⟨zs, hz, hcs, hw⟩ := trod_ints Tryd.underlying45 Tryd.underlying5 (by kernel_rfl) hc f1
  obtain ⟨b, hb, he⟩ := bytes_of zs hw
  have c0 := cell_of_take e0
  have b0 := bounds_u32 w0
  rw [hc] at hcs
  refine ⟨(z0.toNat, b), by show z0.toNat < _; omega, by show b.length = 256; omega, ?_⟩
  show row = .int .u32 ((z0.toNat : Nat) : Int) :: b.map vu8
  rw [Int.toNat_of_nonneg b0.1]
  cases row with
  | nil => simp at hl
  | cons v row =>
    simp at c0
    subst c0
    congr 1
    have hl' : row.length = 256 := by simpa using hl
    have h1 : ((Value.int IntKind.u32 z0 :: row).drop 1).take 256 = row := by
      rw [List.drop_succ_cons, List.drop_zero, List.take_of_length_le (by omega)]
    rw [h1] at hcs
    rw [hcs, he]
theorem open_puts {W : World} {r : Reach} {b0 : Nat} {v : Value} {d : DataW H} {p : List MemPlace}
    (hv : Value.okWide Tryd.prog W r b0 35 v) (h : DataW.Trod enc Tryd.prog w base spare held 35 v d p) : ∃ A n c l, v = .slice A n c ∧ n ≤ 9223372036854775807 ∧ PutsIn w A n l := by
  obtain ⟨A0, n0, c0, rfl⟩ := okWide_slice Tryd.underlying35 hv
  obtain ⟨fuel, hf⟩ := h
  obtain ⟨A, n, c, hcs, hn, hat⟩ := trod_elems 257 (by omega) Tryd.underlying35 (by kernel_rfl) hf
  simp [Value.cells] at hcs
  obtain ⟨rfl, rfl, rfl⟩ := hcs
  rcases hat with rfl | ⟨b, off, rfl, hb, hat⟩
  · exact ⟨_, _, _, [], rfl, hn, ⟨rfl, .inl rfl, by simp⟩⟩
  · obtain ⟨l, hl, hls⟩ := list_of (p := fun i y => y.1 < 4294967296 ∧ y.2.length = 256 ∧ w.rangeAt b (off + i * 257) (putV (y : Nat × List UInt8).1 y.2).toList) (fun i hi => by
      obtain ⟨row, _, _, h1, h2, h3⟩ := hat i hi
      obtain ⟨y, y1, y2, rfl⟩ := trod_put h1 h3
      exact ⟨y, y1, y2, h2⟩)
    refine ⟨_, _, _, l, rfl, hn, ⟨hl, .inr ⟨b, off, rfl, hb, fun i hi => (hls i hi).2.2⟩, ?_⟩⟩
    intro y hy
    obtain ⟨i, hi, rfl⟩ := List.mem_iff_getElem.1 hy
    exact ⟨(hls i hi).1, (hls i hi).2.1⟩
theorem open_crashing {W : World} {r : Reach} {b0 : Nat} {v : Value} {d : DataW H} {p : List MemPlace}
    (hv : Value.okWide Tryd.prog W r b0 38 v) (h : DataW.Trod enc Tryd.prog w base spare held 38 v d p) :
    ∃ (f : Nat) (A : Option Addr) (n c : Nat) (ks : List (Nat × Nat)), v = .agg #[.int .u8 (f : Int), .slice A n c] ∧ f < 256 ∧ n ≤ 9223372036854775807 ∧ KeepsIn w A n ks [] := by
  obtain ⟨cs, rfl, hcs⟩ := okWide_struct structCr hv
  obtain ⟨fuel, hf⟩ := h
  have h2 : Tryd.prog.cellsOf 38 = 2 := by kernel_rfl
  obtain ⟨row, hrow⟩ : ∃ row, row = (Value.agg cs).cells.toList := ⟨_, rfl⟩
  have hl : row.length = 2 := by rw [hrow]; simp [Value.cells, hcs, h2]
  rw [← hrow] at hf
  obtain ⟨_, _, f0⟩ := trod_field structCr hf _ fieldsCr 0 false 5 0 rfl
  obtain ⟨_, _, f1⟩ := trod_field structCr hf _ fieldsCr 1 false 36 1 rfl
  obtain ⟨z0, e0, w0⟩ := trod_int_cell Tryd.underlying5 f0
  obtain ⟨A, n, c, ks, e1, hn, hks⟩ := trod_keeps f1
  have c0 := cell_of_take e0
  have c1 := cell_of_take e1
  have b0 := bounds_u8 w0
  refine ⟨z0.toNat, A, n, c, ks, ?_, by omega, hn, hks⟩
  congr 1
  apply Array.ext'
  have hcl : cs.toList = row := by rw [hrow]; simp [Value.cells]
  rw [hcl, Int.toNat_of_nonneg b0.1]
  match row, hl with
  | [p, q], _ => simp at c0 c1; rw [c0, c1]
end
end Go.Proofs.YtnphgaiiiiknpaaDoor
