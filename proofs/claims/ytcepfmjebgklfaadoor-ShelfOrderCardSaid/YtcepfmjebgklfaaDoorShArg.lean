/- Shelves as arguments and as variables that are overwritten. -/
import Derived.Test.YtcepfmjebgklfaaDoorShHead
import Derived.Test.YtcepfmjebgklfaaDoorShKeepM
namespace Go.Proofs.YtcepfmjebgklfaaDoor
open Go.RowKit
set_option linter.unusedSimpArgs false
set_option linter.unusedVariables false
set_option maxRecDepth 100000
/-- A shelf as an argument, of whatever size. -/
structure ShArg (w : World) (s : ShL) (A : Option Addr) (n c : Nat) (l : List CellH) : Prop where
  cells : CellsIn w A n l
  dat : l.map CellH.dat = s.cells
  cap : n ≤ c
  cl : s.cl < 256
  prev : s.prev < 65536
  next : s.next < 65536
  nmax : n ≤ 9223372036854775807
  mmax : ∀ x ∈ l, x.m ≤ 9223372036854775807
theorem ShArg.shelf {w : World} {s : ShL} {A : Option Addr} {n c : Nat} {l : List CellH} (h : ShArg w s A n c l) (h30 : n ≤ 30) (h4 : ∀ x ∈ l, x.m ≤ 400) : ShelfOf w s A n c l := by
  refine ⟨h.cells, h.dat, h.cap, h.cl, h.prev, h.next, ?_, ?_⟩
  · rw [← h.dat, List.length_map, h.cells.len]; exact h30
  · intro x hx
    rw [← h.dat] at hx
    obtain ⟨y, hy, rfl⟩ := List.mem_map.1 hx
    have := (h.cells.ok y hy).len
    have := h4 y hy
    show y.data.length ≤ 400
    omega
theorem ShArg.below {w w' : World} {s : ShL} {A : Option Addr} {n c : Nat} {l : List CellH} (h : ShArg w s A n c l) (hb : Below w.heap.size w w') : ShArg w' s A n c l := ⟨h.cells.below hb, h.dat, h.cap, h.cl, h.prev, h.next, h.nmax, h.mmax⟩
theorem cell_block {w w' : World} {p : Addr} (h : w'.heap[p.block]? = w.heap[p.block]?) : w'.cell? p = w.cell? p := by
  obtain ⟨b, i, f⟩ := p
  simp only [World.cell?] at h ⊢
  rw [h]
/-- A shelf where another block is written. -/
theorem ShelfOf.only {w w' : World} {s : ShL} {A : Option Addr} {n c g : Nat} {l : List CellH} (h : ShelfOf w s A n c l) (ha : Avoids g A n l) (ho : Only [g] w w') : ShelfOf w' s A n c l := by
  refine ⟨⟨h.cells.len, ?_, fun x hx => ?_⟩, h.dat, h.cap, h.cl, h.prev, h.next, h.small⟩
  · rcases h.cells.at_ with h0 | ⟨b, off, rfl, h1, h2⟩
    · exact .inl h0
    · by_cases h0 : n = 0
      · exact .inl h0
      have hne : b ≠ g := ha.1 h0 _ rfl
      exact .inr ⟨b, off, rfl, Nat.lt_of_lt_of_le h1 ho.size, fun i hi j v hj => (cell_block (ho.block b h1 (by simpa using hne))).trans (h2 i hi j v hj)⟩
  · have q := h.cells.ok x hx
    refine ⟨q.len, q.cap, q.ser, ?_⟩
    rcases q.by_ with h0 | ⟨b, off, hA, h1, h2⟩
    · exact .inl h0
    · by_cases h0 : x.data = []
      · exact .inl h0
      have hne : b ≠ g := ha.2 x hx h0 _ hA
      exact .inr ⟨b, off, hA, Nat.lt_of_lt_of_le h1 ho.size, fun i hi => (cell_block (ho.block b h1 (by simpa using hne))).trans (h2 i hi)⟩
/-- What stands in memory keeps clear of the blocks behind. -/
theorem ShelfOf.avoids {w : World} {s : ShL} {A : Option Addr} {n c g : Nat} {l : List CellH} (h : ShelfOf w s A n c l) (hg : w.heap.size ≤ g) : Avoids g A n l := by
  refine ⟨fun h0 a ha => ?_, fun x hx h0 a ha => ?_⟩
  · rcases h.cells.at_ with h1 | ⟨b, off, rfl, h1, h2⟩
    · exact absurd h1 h0
    · cases ha; show b ≠ g; omega
  · rcases (h.cells.ok x hx).by_ with h1 | ⟨b, off, hA, h1, h2⟩
    · exact absurd h1 h0
    · rw [hA] at ha; cases ha; show b ≠ g; omega
theorem only4 (w : World) (g : Nat) (a b c d : Value) : Only [g] w ((((w.setCell ⟨g, 0, none⟩ a).setCell ⟨g, 1, none⟩ b).setCell ⟨g, 2, none⟩ c).setCell ⟨g, 3, none⟩ d) :=
  ((((Only.refl _ _).setCell (.inl (by simp)) _).setCell (.inl (by simp)) _).setCell (.inl (by simp)) _).setCell (.inl (by simp)) _
/-- The classes' table lies at block 0: it is not what is written. -/
theorem ClsAt.only {w w' : World} {g : Nat} (h : ClsAt w) (hg : 0 < g) (ho : Only [g] w w') : ClsAt w' := by
  exact ⟨Nat.lt_of_lt_of_le h.1 ho.size, fun j v hv => (cell_block (ho.block 0 h.1 (by simp; omega))).trans (h.2 j v hv)⟩
section
variable {P : Program} {o : Oper} {a : Act} {w : World} {K : Act → World → Prop} {Q : Exit → Act → World → Prop}
theorem wpo_make0 (t e : TypeId) (x y : Operand) (i : TypeInfo) (z : Value) (n sz bytes : Nat) (ho : o.op = .makeSlice t x y) (ht : P.underlying t = some (.slice e)) (hi : P.info? e = some i) (hz : i.zero = some z)
    (hs : i.size = sz) (hb : i.bytes = bytes) (hx : a.eval x = .int .i64 (n : Int)) (hy : a.eval y = .int .i64 (n : Int)) (hn : n ≤ 1000) (hsz : sz ≤ 10) (hbz : bytes ≤ 100)
    (h : K (a.put o.dst (.slice (some ⟨w.heap.size, 0, none⟩) n n)) (w.alloc (.cells (madeCells z.cells (n * sz)) e))) : o.wp P a w K Q := by
  have h1 : n * sz ≤ 1000 * 10 := Nat.mul_le_mul hn hsz
  have h2 : bytes * n ≤ 100 * 1000 := Nat.mul_le_mul hbz hn
  have h3 : ((bytes * n : Nat) : Int) = (bytes : Int) * (n : Int) := by push_cast; rfl
  have := run_makeSlice w t e i z ht hi hz .i64 .i64 (n : Int) (n : Int) (by omega) (by omega) (by simp only [Int.toNat_natCast]; rw [hs]; omega) (by rw [hb]; omega) (by omega)
  simp only [Int.toNat_natCast, hs] at this
  unfold Oper.wp execOp
  simp only [ho, hx, hy, Sem.run_bind, this, Result.andThen_ok, Sem.run_pure]
  exact h
theorem wpo_neq_str (r : Bool) (t ty : TypeId) (x y : Operand) (m n : ByteArray) (ho : o.op = .binOp .neq t x y ty)
    (hx : a.eval x = .string m) (hy : a.eval y = .string n) (hr : (!decide (m = n)) = r) (h : K (a.put o.dst (.bool r)) w) : o.wp P a w K Q :=
  wpo_bin _ .neq t ty x y ho (by
    have h0 : (eqGuard .neq t x y (.string m) (.string n)).run P w = .ok () w := rfl
    simp only [hx, hy, Sem.run_bind, h0, Result.andThen_ok, run_neq_string w t, str_beq, hr]) h
end
section
variable {P : Program} {ops : Array Oper} {C : World → Prop} {Q : Act → Prop} {rest : List Oper} {o : Oper} {a : Act}
theorem wk_bytes_in (src dst e : TypeId) (x : Operand) (A : Option Addr) (n c : Nat) (l : List UInt8) (S : ByteArray) (hw : Region.wanted o (yielded ops a.tmps) = true) (ho : o.op = .convert src dst x)
    (hx : a.eval x = .slice A n c) (hs : P.underlying src = some (.slice e)) (he : P.underlying e = some (.int .u8)) (hd : P.underlying dst = some .string)
    (hl : l.length = n) (hS : S = ⟨l.toArray⟩) (hg : ∀ w, C w → BytesIn w A l) (h : WQ P ops C Q rest (a.put o.dst (.string S))) : WQ P ops C Q (o :: rest) a :=
  wk_val _ hw (fun w hC => by
    unfold execOp
    rw [hS]
    simp only [ho, hx, Sem.run_bind, run_bytes_in w src dst e A n c hs he hd l hl (hg w hC), Sem.run_pure, Result.andThen_ok]) h
end
/-- Bytes that have just been made. -/
theorem made_bytes (w : World) (n : Nat) (T : TypeId) : BytesAt (w.alloc (.cells (madeCells #[.int .u8 0] (n * 1)) T)) w.heap.size 0 (List.replicate n 0) := by
  intro i hi
  rw [made_zeros, Nat.zero_add, cell_of_row _ _ _ _ _ _ (heap_alloc_new _ _)]
  rw [List.length_replicate] at hi
  simp [List.getElem?_replicate, hi, vu8]
end Go.Proofs.YtcepfmjebgklfaaDoor
