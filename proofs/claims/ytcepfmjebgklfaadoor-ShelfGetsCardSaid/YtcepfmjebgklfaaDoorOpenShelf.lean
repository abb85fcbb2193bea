/- How arguments read: a shelf, an act on a shelf; and that the table of classes lies in its place. -/
import Derived.Test.YtcepfmjebgklfaaDoorOpenElems
import Derived.Test.YtcepfmjebgklfaaDoorShHead
import Derived.Test.YtcepfmjebgklfaaDoorRows
import Derived.Lib.LaidU8
import Derived.FnData
namespace Go.Proofs.YtcepfmjebgklfaaDoor
open Go.ChangeShapes Go.WideShapes Go.ChangeAt Go.RowKit
set_option linter.unusedSimpArgs false
set_option maxRecDepth 100000
/-- An act on a shelf. -/
structure ActH where
  what : Nat
  place : Int
  ser : Nat
  off : Int
  n : Int
  A : Option Addr
  m : Nat
  c : Nat
  data : List UInt8
def actHV (x : ActH) : Array Value := #[.int .u8 (x.what : Int), .int .i64 x.place, .int .u64 (x.ser : Int), .int .i64 x.off, .int .i64 x.n, .slice x.A x.m x.c]
structure ActOk (w : World) (x : ActH) : Prop where
  what : x.what < 256
  place : -9223372036854775808 ≤ x.place ∧ x.place ≤ 9223372036854775807
  ser : x.ser < 18446744073709551616
  off : -9223372036854775808 ≤ x.off ∧ x.off ≤ 9223372036854775807
  n : -9223372036854775808 ≤ x.n ∧ x.n ≤ 9223372036854775807
  len : x.data.length = x.m
  cap : x.m ≤ x.c
  max : x.m ≤ 9223372036854775807
  by_ : BytesIn w x.A x.data
section
variable {H : Type} {enc : TypeId × Value → H} {w : World} {base : Nat} {spare : Nat → Bool} {held : Bool} {fuel : Nat} {cs : List Value} {x : DataW H × List MemPlace}
/-- A slice of bytes that reads. -/
theorem trod_bytes (h : DataW.trod enc Tryd.prog w base spare held fuel 27 cs = some x) : ∃ (A : Option Addr) (m c : Nat) (d : List UInt8), cs = [.slice A m c] ∧ d.length = m ∧ m ≤ c ∧ m ≤ 9223372036854775807 ∧ BytesIn w A d := by
  obtain ⟨A, m, c, rfl, h1, h2, hat⟩ := trod_elems 1 (by omega) Tryd.underlying27 (by kernel_rfl) h
  rcases hat with rfl | ⟨b, off, rfl, hb, hat⟩
  · exact ⟨_, _, _, [], rfl, rfl, h1, by omega, .inl rfl⟩
  · obtain ⟨d, hd, hds⟩ := list_of (p := fun i (a : UInt8) => w.cell? ⟨b, off + i, none⟩ = some (vu8 a)) (fun i hi => by
      obtain ⟨row, _, _, h3, h4, h5⟩ := hat i hi
      obtain ⟨z, rfl, hz⟩ := trod_int_cell Tryd.underlying5 h5
      have hz' := bounds_u8 hz
      refine ⟨UInt8.ofNat z.toNat, ?_⟩
      have := h4 0 _ rfl
      rw [Nat.mul_one, Nat.add_zero] at this
      rw [this]
      unfold vu8
      rw [UInt8.toNat_ofNat', Nat.mod_eq_of_lt (by omega), Int.toNat_of_nonneg hz'.1])
    refine ⟨_, _, _, d, rfl, hd, h1, by omega, .inr ⟨b, off, rfl, hb, fun i hi => ?_⟩⟩
    rw [hds i hi, List.getElem?_eq_getElem hi]
    rfl
theorem fieldsCell : ((Tryd.prog.fieldsOf 41).toList.map fun f => (f.name == "_", f.type, f.offset)) = [(false, 26, 0), (false, 27, 1)] := by kernel_rfl
theorem structCell : Tryd.prog.underlying 41 = some (.struct (Tryd.prog.fieldsOf 41)) := by kernel_rfl
theorem trod_cellS {row : List Value} (hl : row.length = 2) (h : DataW.trod enc Tryd.prog w base spare held fuel 41 row = some x) : ∃ a : CellH, (CellOk w a ∧ a.m ≤ 9223372036854775807) ∧ row = (cellV a).toList := by
  obtain ⟨_, _, f0⟩ := trod_field structCell h _ fieldsCell 0 false 26 0 rfl
  obtain ⟨_, _, f1⟩ := trod_field structCell h _ fieldsCell 1 false 27 1 rfl
  obtain ⟨z0, e0, w0⟩ := trod_int_cell Tryd.underlying26 f0
  obtain ⟨A, m, c, d, e1, h1, h2, h3, h4⟩ := trod_bytes f1
  have c0 := cell_of_take e0
  have c1 := cell_of_take e1
  have b0 := bounds_u64 w0
  refine ⟨⟨z0.toNat, A, m, c, d⟩, ⟨⟨h1, h2, by show z0.toNat < _; omega, h4⟩, h3⟩, ?_⟩
  show row = [.int .u64 ((z0.toNat : Nat) : Int), .slice A m c]
  rw [Int.toNat_of_nonneg b0.1]
  match row, hl with
  | [p, q], _ => simp at c0 c1; rw [c0, c1]
theorem fieldsShelf : ((Tryd.prog.fieldsOf 25).toList.map fun f => (f.name == "_", f.type, f.offset)) = [(false, 5, 0), (false, 22, 1), (false, 22, 2), (false, 23, 3)] := by kernel_rfl
theorem structShelf : Tryd.prog.underlying 25 = some (.struct (Tryd.prog.fieldsOf 25)) := by kernel_rfl
/-- A shelf, opened. -/
theorem open_shelf {W : World} {r : Reach} {b0 : Nat} {v : Value} {d : DataW H} {p : List MemPlace}
    (hv : Value.okWide Tryd.prog W r b0 25 v) (h : DataW.Trod enc Tryd.prog w base spare held 25 v d p) : ∃ s A n c l, v = .agg (shV s A n c) ∧ ShArg w s A n c l := by
  obtain ⟨cs, rfl, hcs⟩ := okWide_struct structShelf hv
  obtain ⟨fuel, hf⟩ := h
  have h4 : Tryd.prog.cellsOf 25 = 4 := by kernel_rfl
  rw [h4] at hcs
  have hrow : (Value.agg cs).cells.toList = cs.toList := by simp [Value.cells]
  rw [hrow] at hf
  obtain ⟨_, _, f0⟩ := trod_field structShelf hf _ fieldsShelf 0 false 5 0 rfl
  obtain ⟨_, _, f1⟩ := trod_field structShelf hf _ fieldsShelf 1 false 22 1 rfl
  obtain ⟨_, _, f2⟩ := trod_field structShelf hf _ fieldsShelf 2 false 22 2 rfl
  obtain ⟨_, _, f3⟩ := trod_field structShelf hf _ fieldsShelf 3 false 23 3 rfl
  obtain ⟨z0, e0, w0⟩ := trod_int_cell Tryd.underlying5 f0
  obtain ⟨z1, e1, w1⟩ := trod_int_cell Tryd.underlying22 f1
  obtain ⟨z2, e2, w2⟩ := trod_int_cell Tryd.underlying22 f2
  obtain ⟨A, n, c, e3, h1, h2, hat⟩ := trod_elems 2 (by omega) Tryd.underlying23 (by kernel_rfl) f3
  have c0 := cell_of_take e0
  have c1 := cell_of_take e1
  have c2 := cell_of_take e2
  have c3 := cell_of_take e3
  have b0 := bounds_u8 w0
  have b1 := bounds_u16 w1
  have b2 := bounds_u16 w2
  obtain ⟨l, hl, hok, hcat⟩ : ∃ l : List CellH, l.length = n ∧ (∀ x ∈ l, CellOk w x ∧ x.m ≤ 9223372036854775807) ∧ (n = 0 ∨ ∃ b off, A = some ⟨b, off, none⟩ ∧ b < w.heap.size ∧ ∀ i, (hi : i < l.length) → w.rangeAt b (off + i * 2) (cellV l[i]).toList) := by
    rcases hat with rfl | ⟨b, off, rfl, hb, hat⟩
    · exact ⟨[], rfl, by simp, .inl rfl⟩
    · obtain ⟨l, hl, hls⟩ := list_of (p := fun i (a : CellH) => (CellOk w a ∧ a.m ≤ 9223372036854775807) ∧ w.rangeAt b (off + i * 2) (cellV a).toList) (fun i hi => by
        obtain ⟨row, _, _, g1, g2, g3⟩ := hat i hi
        obtain ⟨a, ha, rfl⟩ := trod_cellS g1 g3
        exact ⟨a, ha, g2⟩)
      refine ⟨l, hl, fun a ha => ?_, .inr ⟨b, off, rfl, hb, fun i hi => (hls i hi).2⟩⟩
      obtain ⟨i, hi, rfl⟩ := List.mem_iff_getElem.1 ha
      exact (hls i hi).1
  refine ⟨⟨z0.toNat, z1.toNat, z2.toNat, l.map CellH.dat⟩, A, n, c, l, ?_, ⟨hl, hcat, fun x hx => (hok x hx).1⟩, rfl, h1, by show z0.toNat < _; omega, by show z1.toNat < _; omega, by show z2.toNat < _; omega, by omega, fun x hx => (hok x hx).2⟩
  congr 1
  unfold shV
  simp only [Int.toNat_of_nonneg b0.1, Int.toNat_of_nonneg b1.1, Int.toNat_of_nonneg b2.1]
  apply Array.ext'
  have hlen : cs.toList.length = 4 := by simpa using hcs
  generalize cs.toList = row at hlen c0 c1 c2 c3
  match row, hlen with
  | [p, q, r, s], _ => simp at c0 c1 c2 c3; rw [c0, c1, c2, c3]
theorem fieldsAct18 : ((Tryd.prog.fieldsOf 29).toList.map fun f => (f.name == "_", f.type, f.offset)) = [(false, 5, 0), (false, 3, 1), (false, 26, 2), (false, 3, 3), (false, 3, 4), (false, 27, 5)] := by kernel_rfl
theorem structAct18 : Tryd.prog.underlying 29 = some (.struct (Tryd.prog.fieldsOf 29)) := by kernel_rfl
theorem trod_act18 {row : List Value} (hl : row.length = 6) (h : DataW.trod enc Tryd.prog w base spare held fuel 29 row = some x) : ∃ a : ActH, ActOk w a ∧ row = (actHV a).toList := by
  obtain ⟨_, _, f0⟩ := trod_field structAct18 h _ fieldsAct18 0 false 5 0 rfl
  obtain ⟨_, _, f1⟩ := trod_field structAct18 h _ fieldsAct18 1 false 3 1 rfl
  obtain ⟨_, _, f2⟩ := trod_field structAct18 h _ fieldsAct18 2 false 26 2 rfl
  obtain ⟨_, _, f3⟩ := trod_field structAct18 h _ fieldsAct18 3 false 3 3 rfl
  obtain ⟨_, _, f4⟩ := trod_field structAct18 h _ fieldsAct18 4 false 3 4 rfl
  obtain ⟨_, _, f5⟩ := trod_field structAct18 h _ fieldsAct18 5 false 27 5 rfl
  obtain ⟨z0, e0, w0⟩ := trod_int_cell Tryd.underlying5 f0
  obtain ⟨z1, e1, w1⟩ := trod_int_cell Tryd.underlying3 f1
  obtain ⟨z2, e2, w2⟩ := trod_int_cell Tryd.underlying26 f2
  obtain ⟨z3, e3, w3⟩ := trod_int_cell Tryd.underlying3 f3
  obtain ⟨z4, e4, w4⟩ := trod_int_cell Tryd.underlying3 f4
  obtain ⟨A, m, c, d, e5, h1, h2, h3, h4⟩ := trod_bytes f5
  have c0 := cell_of_take e0
  have c1 := cell_of_take e1
  have c2 := cell_of_take e2
  have c3 := cell_of_take e3
  have c4 := cell_of_take e4
  have c5 := cell_of_take e5
  have b0 := bounds_u8 w0
  have b1 := bounds_i64 w1
  have b2 := bounds_u64 w2
  have b3 := bounds_i64 w3
  have b4 := bounds_i64 w4
  refine ⟨⟨z0.toNat, z1, z2.toNat, z3, z4, A, m, c, d⟩, ⟨by show z0.toNat < _; omega, b1, by show z2.toNat < _; omega, b3, b4, h1, h2, h3, h4⟩, ?_⟩
  show row = [.int .u8 ((z0.toNat : Nat) : Int), .int .i64 z1, .int .u64 ((z2.toNat : Nat) : Int), .int .i64 z3, .int .i64 z4, .slice A m c]
  rw [Int.toNat_of_nonneg b0.1, Int.toNat_of_nonneg b2.1]
  match row, hl with
  | [p, q, r, s, t, u], _ => simp at c0 c1 c2 c3 c4 c5; rw [c0, c1, c2, c3, c4, c5]
/-- An act, opened. -/
theorem open_act18 {W : World} {r : Reach} {b0 : Nat} {v : Value} {d : DataW H} {p : List MemPlace}
    (hv : Value.okWide Tryd.prog W r b0 29 v) (h : DataW.Trod enc Tryd.prog w base spare held 29 v d p) : ∃ x, v = .agg (actHV x) ∧ ActOk w x := by
  obtain ⟨cs, rfl, hcs⟩ := okWide_struct structAct18 hv
  obtain ⟨fuel, hf⟩ := h
  have h6 : Tryd.prog.cellsOf 29 = 6 := by kernel_rfl
  rw [h6] at hcs
  have hrow : (Value.agg cs).cells.toList = cs.toList := by simp [Value.cells]
  rw [hrow] at hf
  obtain ⟨x, hx, hr⟩ := trod_act18 (by simpa using hcs) hf
  refine ⟨x, ?_, hx⟩
  congr 1
  exact Array.ext' hr
end
theorem structClass : Tryd.prog.underlying 75 = some (.struct (Tryd.prog.fieldsOf 75)) := by kernel_rfl
theorem fieldsClass : ((Tryd.prog.fieldsOf 75).toList.map fun f => (f.type, f.offset)) = [(3, 0), (3, 1)] := by kernel_rfl
/-- The table of classes lies where the card lays it. -/
theorem clsAt_of_mem {W : World} {L : List (String × DataW Unit)} (h : laidMet Tryd.prog L W) (hm : ("pantile/shelf.classes", Rows.laid_pantile_shelf_classes) ∈ L) : ClsAt W := by
  obtain ⟨g, t, cs, fuel, p, hg, ht, hv, hd⟩ := Lib.laidMet.reads h hm
  obtain rfl : 0 = g := Option.some.inj ((show Tryd.prog.globalNamed "pantile/shelf.classes" = some 0 by kernel_rfl).symm.trans hg)
  obtain rfl : 88 = t := Option.some.inj ((show (Tryd.prog.globals[0]?).map (·.type) = some 88 by kernel_rfl).symm.trans ht)
  have hc : ∀ j, W.cell? ⟨0, j, none⟩ = cs.toList[j]? := fun j => (World.var?_cell hg hv j).trans (by simp)
  generalize cs.toList = row at hc hd
  have each : ∀ i, i < 7 → ∀ a b : Int, (Rows.laid_pantile_shelf_classes : DataW Unit) = Rows.laid_pantile_shelf_classes → (match (Rows.laid_pantile_shelf_classes : DataW Unit) with | .agg ds => ds[i]? | _ => none) = some (.agg ([a, b].map fun z => .lit (.int .i64 z))) →
      row[i * 2]? = some (.int .i64 a) ∧ row[i * 2 + 1]? = some (.int .i64 b) := by
    intro i hi a b _ hab
    obtain ⟨f', d, q, h1, h2⟩ := Lib.array_elem (n := 7) (e := 75) Tryd.underlying88 hd i hi
    rw [show Tryd.prog.cellsOf 75 = 2 by kernel_rfl] at h2
    have : d = .agg ([a, b].map fun z => .lit (.int .i64 z)) := Option.some.inj (h1.symm.trans hab)
    subst this
    have := Lib.ints_of_struct structClass (fun k f hk => by
      have hf : (Tryd.prog.fieldsOf 75).toList[k]? = some f := by simpa using hk
      have h3 := congrArg (·[k]?) fieldsClass
      simp only [List.getElem?_map, hf, Option.map_some] at h3
      match k with
      | 0 => simp at h3; rw [h3.1, h3.2]; exact ⟨Tryd.underlying3, rfl, by kernel_rfl⟩
      | 1 => simp at h3; rw [h3.1, h3.2]; exact ⟨Tryd.underlying3, rfl, by kernel_rfl⟩
      | k + 2 => simp at h3) (by kernel_rfl) h2
    have e0 := congrArg (·[0]?) this
    have e1 := congrArg (·[1]?) this
    simp [List.getElem?_take, List.getElem?_drop] at e0 e1
    exact ⟨e0, e1⟩
  refine ⟨?_, ?_⟩
  · have := hc 0
    rw [(each 0 (by omega) 8 14 rfl rfl).1] at this
    exact cell_lt this
  · intro j v hj
    rw [Nat.zero_add, hc]
    have hlt : j < 14 := (List.getElem?_eq_some_iff.1 hj).1
    have a0 := each 0 (by omega) 8 14 rfl rfl
    have a1 := each 1 (by omega) 16 9 rfl rfl
    have a2 := each 2 (by omega) 24 7 rfl rfl
    have a3 := each 3 (by omega) 40 5 rfl rfl
    have a4 := each 4 (by omega) 72 3 rfl rfl
    have a5 := each 5 (by omega) 114 2 rfl rfl
    have a6 := each 6 (by omega) 237 1 rfl rfl
    match j, hlt with
    | 0, _ => exact a0.1.trans hj
    | 1, _ => exact a0.2.trans hj
    | 2, _ => exact a1.1.trans hj
    | 3, _ => exact a1.2.trans hj
    | 4, _ => exact a2.1.trans hj
    | 5, _ => exact a2.2.trans hj
    | 6, _ => exact a3.1.trans hj
    | 7, _ => exact a3.2.trans hj
    | 8, _ => exact a4.1.trans hj
    | 9, _ => exact a4.2.trans hj
    | 10, _ => exact a5.1.trans hj
    | 11, _ => exact a5.2.trans hj
    | 12, _ => exact a6.1.trans hj
    | 13, _ => exact a6.2.trans hj
theorem clsAt_of_laid {W : World} (h : laidMet Tryd.prog [("pantile/shelf.classes", Rows.laid_pantile_shelf_classes)] W) : ClsAt W := clsAt_of_mem h (List.mem_singleton.2 rfl)
end Go.Proofs.YtcepfmjebgklfaaDoor
