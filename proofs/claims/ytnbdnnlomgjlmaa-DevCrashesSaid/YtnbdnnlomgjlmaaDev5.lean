/- The device layer: up asks whether there is a device, some things more, and whether it is down. -/
import Derived.Test.YtnbdnnlomgjlmaaDev4
namespace Go.Proofs.Ytnbdnnlomgjlmaa
open Go.RowKit
set_option linter.unusedSimpArgs false
set_option linter.unusedVariables false
set_option maxRecDepth 100000
theorem Try.infoAsk : (Try.prog.info? 112).map (fun i => (i.zero, i.size, i.bytes)) = some (some (.agg #[.int .i64 0, .nilFunc]), 2, 16) := by kernel_rfl
/-- A slice literal of one element. -/
theorem wp_build_one {P : Program} {o : Oper} {a : Act} {w : World} {K : Act → World → Prop} {Q : Exit → Act → World → Prop} (t e : TypeId) (p : Operand) (ho : o.op = .buildSlice t 1 #[(0, p)]) (cells : Array Value) (hx : a.eval p = .agg cells)
    (ie : TypeInfo) (z : Value) (hu : P.underlying t = some (.slice e)) (hie : P.info? e = some ie) (hz : ie.zero = some z) (hs : cells.size = ie.size) (h0 : 0 < ie.size) (h1 : ie.size ≤ 1000)
    (h : K (a.put o.dst (.slice (some ⟨w.heap.size, 0, none⟩) 1 1)) (w.alloc (.cells cells e))) : o.wp P a w K Q := by
  refine wp_buildSlice t e 1 _ ho cells ie z hu hie hz (by omega) (by omega) ?_ h
  have := Great.fill_whole (s := ie.size) h0 [Value.agg cells] ((Array.range (1 * ie.size)).map (z.cells[· % z.cells.size]!)) (by intro v hv; simp at hv; subst hv; simpa [Value.cells] using hs) (by simp)
  have e1 : ((#[(0, p)] : Array (Nat × Operand)).map fun (i, x) => (i, a.eval x)).toList = (([Value.agg cells].zipIdx 0).map fun x => (x.2, x.1)) := by simp [hx]
  rw [e1, this]
  simp [Value.cells]
/-- A slice of no question or of one. -/
inductive AskSrc (w : World) : Value → List Ask → Prop
  | none : AskSrc w (.slice none 0 0) []
  | one (b c : Nat) (x : Ask) : w.heap[b]? = some (.cells (askV x) 112 (0, 0)) → AskSrc w (.slice (some ⟨b, 0, none⟩) 1 c) [x]
theorem AskSrc.since {w w' : World} {v : Value} {l : List Ask} (h : AskSrc w v l) (hb : Below w.heap.size w w') : AskSrc w' v l := by
  cases h with
  | none => exact .none
  | one b c x h => exact .one b c x ((hb.block b (Array.getElem?_eq_some_iff.1 h).1).trans h)
theorem ask_cells {w : World} {b : Nat} {x : Ask} {T : TypeId} (h : w.heap[b]? = some (.cells (askV x) T (0, 0))) : ∀ j v, (askCells [x])[j]? = some v → w.cell? ((⟨b, 0, none⟩ : Addr).add j) = some v := by
  intro j v hv
  rw [Addr.add_lit, Nat.zero_add, cell_of_row w b j _ _ _ h]
  simpa [askCells, askV] using hv
theorem len_askCells (l : List Ask) : (askCells l).length = l.length * 2 := by
  induction l with
  | nil => rfl
  | cons x l ih => simp [askCells] at ih ⊢; omega
theorem askCells_one (l : List Ask) : ∀ u ∈ askCells l, u.oneCell' = true := by
  intro u hu
  simp only [askCells, List.mem_flatMap, List.mem_cons, List.not_mem_nil, or_false] at hu
  obtain ⟨x, _, rfl | rfl⟩ := hu <;> rfl
/-- append of the questions onto one. -/
theorem ask_append (w : World) (ty : TypeId) (b : Nat) (x : Ask) (hb : w.heap[b]? = some (.cells (askV x) 112 (0, 0))) (sv : Value) (l : List Ask) (hs : AskSrc w sv l) (base : Nat) (hbase : base ≤ b) :
    ∃ v w', (Builtin.append_ #[132, 132] ty #[.slice (some ⟨b, 0, none⟩) 1 1, sv]).run Try.prog w = .ok v w' ∧ Below w.heap.size w w' ∧ w'.ownsRow base 112 2 v (1 + l.length) (askCells (x :: l)) := by
  obtain ⟨i, hi, hz, hs2, hby⟩ := info_parts Try.infoAsk
  have hbl : b < w.heap.size := (Array.getElem?_eq_some_iff.1 hb).1
  cases hs with
  | none =>
    refine ⟨.slice (some ⟨b, 0, none⟩) 1 1, w, ?_, Below.refl _ _, ⟨by simp [len_askCells], .inr ⟨b, 1, _, rfl, hbase, hb, Nat.le_refl _, by unfold maxLen; omega, by simp [askV], by simp [askV, askCells]⟩⟩⟩
    simp [Builtin.append_, run_underlying Try.underlying132, sizeOf, typeInfo, hi, Builtin.lenOf, Builtin.firstCells, loadCells, loadCellsFrom, storeCells]
  | one b' c y hy =>
    have hr := run_append_grow (P := Try.prog) w 132 ty 112 i _ Try.underlying132 hi hz ⟨b, 0, none⟩ 1 1 (askCells [x]) (by rw [len_askCells, hs2]; rfl) (ask_cells hb) ⟨b', 0, none⟩ 1 c (askCells [y]) (by rw [len_askCells, hs2]; rfl) (ask_cells hy) (by omega) (by omega) (growslice_fits (by omega) (by rw [hby]; omega))
    refine ⟨_, _, hr, ((Below.refl _ _).drew).alloc (Nat.le_refl _) _, ?_⟩
    have hge := grownCap_ge w 2 1 112
    refine ⟨by simp [len_askCells], .inr ⟨w.heap.size, _, _, rfl, by omega, heap_alloc_new w.drew _, hge, grownCap_le_maxLen w 2 1 _ (by unfold maxLen; omega), ?_, ?_⟩⟩
    · simp only [Array.size_append, List.size_toArray, size_zeroCells, len_askCells, List.length_cons, List.length_nil, Value.cells]
      show 1 * 2 + 1 * 2 + (grownCap w 2 1 112 - 2) * 2 = grownCap w 2 1 112 * 2
      omega
    · simp only [Array.toList_append, List.append_assoc]
      rw [show askCells [x, y] = askCells [x] ++ askCells [y] by simp [askCells], ← List.append_assoc]
      refine List.take_left' ?_
      simp [len_askCells]
end Go.Proofs.Ytnbdnnlomgjlmaa
