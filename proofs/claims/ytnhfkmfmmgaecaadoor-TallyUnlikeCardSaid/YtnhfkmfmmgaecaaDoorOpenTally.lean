/- How arguments read: a tally, a pick (the general law as in XOpenNode, under another name). -/
import Derived.Test.YtnhfkmfmmgaecaaDoorOpenStruct
import Derived.Test.YtnhfkmfmmgaecaaDoorTallyHead
namespace Go.Proofs.YtnhfkmfmmgaecaaDoor
open Go.ChangeShapes Go.WideShapes Go.ChangeAt Go.RowKit
section
variable {H : Type} {enc : TypeId × Value → H} {P : Program} {w : World} {base : Nat} {spare : Nat → Bool} {held : Bool}
theorem open_pageT {T th tl e : TypeId} {kh kl : IntKind} {n : Nat} (hT : P.underlying T = some (.struct (P.fieldsOf T))) (hf : ((P.fieldsOf T).toList.map fun f => (f.name == "_", f.type, f.offset)) = [(false, th, 0), (false, tl, 1)])
    (hh : P.underlying th = some (.int kh)) (hl : P.underlying tl = some (.array n e)) (he : P.underlying e = some (.int kl)) (ch : P.cellsOf th = 1) (ce : P.cellsOf e = 1) (cl : P.cellsOf tl = n) (cT : P.cellsOf T = n + 1)
    {W : World} {r : Reach} {b0 : Nat} {v : Value} {d : DataW H} {p : List MemPlace}
    (hv : Value.okWide P W r b0 T v) (h : DataW.Trod enc P w base spare held T v d p) :
    ∃ (z : Int) (zs : List Int), zs.length = n ∧ (Lit.int kh z).wf = true ∧ (∀ x ∈ zs, (Lit.int kl x).wf = true) ∧ v = .agg (Value.int kh z :: zs.map (Value.int kl)).toArray := by
  obtain ⟨cs, rfl, hcs⟩ := okWide_struct hT hv
  obtain ⟨fuel, hf'⟩ := h
  have hl' : (Value.agg cs).cells.toList.length = n + 1 := by rw [← cT, ← hcs]; simp [Value.cells]
  obtain ⟨l, hle⟩ : ∃ l, l = (Value.agg cs).cells.toList := ⟨_, rfl⟩
  rw [← hle] at hf' hl'
  obtain ⟨_, _, f0⟩ := trod_field hT hf' _ hf 0 false th 0 rfl
  obtain ⟨_, _, f1⟩ := trod_field hT hf' _ hf 1 false tl 1 rfl
  obtain ⟨z, e0, w0⟩ := trod_int_cell hh f0
  rw [ch] at e0
  have c0 := cell_of_take e0
  obtain ⟨zs, hzl, hzc, hzw⟩ := trod_ints hl he ce cl f1
  rw [cl] at hzc
  refine ⟨z, zs, hzl, w0, hzw, ?_⟩
  have hcl : cs.toList = l := by rw [hle]; simp [Value.cells]
  congr 1
  apply Array.ext'
  rw [hcl]
  have hd : l.drop 1 = zs.map (Value.int kl) := by
    rw [← hzc, List.take_of_length_le (by simp; omega)]
  cases l with
  | nil => simp at hl'
  | cons x l =>
    simp only [List.getElem?_cons_zero, Option.some.injEq] at c0
    simp only [List.drop_succ_cons, List.drop_zero] at hd
    rw [c0, hd]
theorem nats_ofT (k : IntKind) (b : Nat) (zs : List Int) (h : ∀ z ∈ zs, 0 ≤ z ∧ z < (b : Int)) : ∃ l : List Nat, l.length = zs.length ∧ (∀ x ∈ l, x < b) ∧ zs.map (Value.int k) = l.map fun (x : Nat) => Value.int k (x : Int) := by
  refine ⟨zs.map Int.toNat, by simp, ?_, ?_⟩
  · intro x hx
    obtain ⟨z, hz, rfl⟩ := List.mem_map.1 hx
    have := h z hz
    omega
  · rw [List.map_map]
    apply List.map_congr_left
    intro z hz
    have := h z hz
    simp only [Function.comp, Value.int.injEq, true_and]
    omega
set_option maxRecDepth 100000 in
theorem open_tally {W : World} {r : Reach} {b0 : Nat} {v : Value} {d : DataW H} {p : List MemPlace}
    (hv : Value.okWide Tryd.prog W r b0 90 v) (h : DataW.Trod enc Tryd.prog w base spare held 90 v d p) : ∃ c : Nat × List Nat, POk 4 2 64 c.1 c.2 ∧ v = .agg (pcells .u32 .u16 c.1 c.2) := by
  obtain ⟨z, zs, hl, w0, hw, rfl⟩ := open_pageT structTa fieldsTa Tryd.underlying52 Tryd.underlying88 Tryd.underlying87 (by kernel_rfl) (by kernel_rfl) (by kernel_rfl) (by kernel_rfl) hv h
  have b0 := bounds_u32 w0
  obtain ⟨l, h1, h2, h3⟩ := nats_ofT .u16 65536 zs (fun x hx => by have := bounds_u16 (hw x hx); omega)
  refine ⟨(z.toNat, l), ⟨by rw [h1, hl], by show z.toNat < 4294967296; omega, h2⟩, ?_⟩
  rw [h3]
  show _ = Value.agg (Value.int .u32 ((z.toNat : Nat) : Int) :: _).toArray
  rw [Int.toNat_of_nonneg b0.1]
set_option maxRecDepth 100000 in
theorem open_pick {W : World} {r : Reach} {b0 : Nat} {v : Value} {d : DataW H} {p : List MemPlace}
    (hv : Value.okWide Tryd.prog W r b0 93 v) (h : DataW.Trod enc Tryd.prog w base spare held 93 v d p) : ∃ c : Nat × List Nat, POk 4 8 16 c.1 c.2 ∧ v = .agg (pcells .u32 .u64 c.1 c.2) := by
  obtain ⟨z, zs, hl, w0, hw, rfl⟩ := open_pageT structTi fieldsTi Tryd.underlying52 Tryd.underlying91 Tryd.underlying29 (by kernel_rfl) (by kernel_rfl) (by kernel_rfl) (by kernel_rfl) hv h
  have b0 := bounds_u32 w0
  obtain ⟨l, h1, h2, h3⟩ := nats_ofT .u64 18446744073709551616 zs (fun x hx => by have := bounds_u64 (hw x hx); omega)
  refine ⟨(z.toNat, l), ⟨by rw [h1, hl], by show z.toNat < 4294967296; omega, h2⟩, ?_⟩
  rw [h3]
  show _ = Value.agg (Value.int .u32 ((z.toNat : Nat) : Int) :: _).toArray
  rw [Int.toNat_of_nonneg b0.1]
end
end Go.Proofs.YtnhfkmfmmgaecaaDoor
