/- A slice of two blocks, made by a literal; a block read out of the middle of a row. -/
import Derived.Test.YtnphgaiiiiknpaaDoorSeal
import Derived.Test.YtnphgaiiiiknpaaDoorQuiet
import Derived.Test.YtnphgaiiiiknpaaDoorKeep
import Derived.Great.BuildSlice
import Derived.Deep.MidRow
namespace Go.Proofs.YtnphgaiiiiknpaaDoor
open Go.RowKit
set_option maxRecDepth 100000
section
variable {P : Program} {ops : Array Oper} {C : World → Prop} {o : Oper} {a : Act} {rest : List Oper}
theorem wk_load_mid {Q : Act → Prop} (ty : TypeId) (x : Operand) (b off : Nat) (cs : Array Value) (d : TypeDesc) (hw : Region.wanted o (yielded ops a.tmps) = true) (ho : o.op = .load ty x)
    (hx : a.eval x = .pointer (some ⟨b, off, none⟩)) (hc : ∀ w, C w → w.rangeAt b off cs.toList) (hu : P.underlying ty = some d) (hd : d.isRow = true) (hi : (P.info? ty).map (·.size) = some cs.size)
    (h : WQ P ops C Q rest (a.put o.dst (.agg cs))) : WQ P ops C Q (o :: rest) a :=
  wk_val _ hw (fun w hC => by
    have := run_loadVar_mid (P := P) w b off ty cs.toList d (hc w hC) hu hd (by simpa using hi)
    unfold execOp
    simp only [ho, hx, Instr.loadAt, Instr.sureAddr, Sem.run_bind, Sem.run_pure, Result.andThen_ok, this]) h
theorem wpList_load_arr {w : World} {Q : Exit → Act → World → Prop} (hgd : o.guard = none) (ty : TypeId) (x : Operand) (ho : o.op = .load ty x) (b off : Nat) (hx : a.eval x = .pointer (some ⟨b, off, none⟩)) (cs : Array Value) (d : TypeDesc)
    (hc : w.rangeAt b off cs.toList) (hu : P.underlying ty = some d) (hd : d.isRow = true) (hi : (P.info? ty).map (·.size) = some cs.size)
    (h : wpList P ops Q rest (a.put o.dst (.agg cs)) w) : wpList P ops Q (o :: rest) a w :=
  wpList_load_mid hgd ty x ho b off hx cs.toList d hc hu hd (by simpa using hi) h
end
theorem blk_append (a b : List UInt8) : (blk a).toList ++ (blk b).toList = (blk (a ++ b)).toList := by simp [blk]
theorem wpList_build_pair {ops : Array Oper} {rest : List Oper} {o : Oper} {act : Act} {w : World} {Q : Exit → Act → World → Prop} (hg : o.guard = none) (t : TypeId) (p0 p1 : Operand) (ho : o.op = .buildSlice t 2 #[(0, p0), (1, p1)])
    (a b : List UInt8) (ha : a.length = 256) (hb : b.length = 256) (h0 : act.eval p0 = .agg (blk a)) (h1 : act.eval p1 = .agg (blk b)) (hu : Tryd.prog.underlying t = some (.slice 45))
    (h : wpList Tryd.prog ops Q rest (act.put o.dst (.slice (some ⟨w.heap.size, 0, none⟩) 2 2)) (w.alloc (.cells (blk (a ++ b)) 45))) : wpList Tryd.prog ops Q (o :: rest) act w := by
  have hs := sizeB
  have hz := zeroB
  cases hie : Tryd.prog.info? 45 with
  | none => rw [hie] at hs; cases hs
  | some ie =>
    rw [hie] at hs hz
    simp only [Option.map_some, Option.some.injEq, Option.bind_some] at hs hz
    refine wpList_buildSlice hg t 45 2 _ ho _ ie _ hu hie hz (by rw [hs]; decide) (by rw [hs]; decide) ?_ h
    have hv : ∀ v ∈ [Value.agg (blk a), Value.agg (blk b)], v.cells.size = 256 := by
      intro v hv
      simp only [List.mem_cons, List.not_mem_nil, or_false] at hv
      rcases hv with rfl | rfl
      · exact (size_blk a).trans ha
      · exact (size_blk b).trans hb
    have := Great.fill_whole (s := 256) (by decide) [Value.agg (blk a), Value.agg (blk b)] ((Array.range (2 * ie.size)).map ((Value.agg (zeros 256 (.int .u8 0))).cells[· % (Value.agg (zeros 256 (.int .u8 0))).cells.size]!)) hv (by simp [hs])
    rw [hs] at this ⊢
    have e : ((#[(0, p0), (1, p1)] : Array (Nat × Operand)).map fun (i, x) => (i, act.eval x)).toList = (([Value.agg (blk a), Value.agg (blk b)].zipIdx 0).map fun x => (x.2, x.1)) := by
      simp [h0, h1]
    rw [e, this]
    simp [Value.cells, blk]
theorem pair_fst {w : World} {g : Nat} {T : TypeId} {a b : List UInt8} (h : w.heap[g]? = some (.cells (blk (a ++ b)) T (0, 0))) : w.rangeAt g 0 (blk a).toList := by
  intro j v hv
  rw [cell_of_row w g _ _ _ _ h]
  have hj : j < a.length := by
    have := (List.getElem?_eq_some_iff.1 hv).1
    simpa [blk] using this
  simp only [blk] at hv ⊢
  rw [Nat.zero_add, List.getElem?_toArray, List.map_append, List.getElem?_append_left (by simpa using hj)]
  exact hv
theorem pair_snd {w : World} {g : Nat} {T : TypeId} {a b : List UInt8} (ha : a.length = 256) (h : w.heap[g]? = some (.cells (blk (a ++ b)) T (0, 0))) : w.rangeAt g 256 (blk b).toList := by
  intro j v hv
  rw [cell_of_row w g _ _ _ _ h]
  simp only [blk] at hv ⊢
  rw [List.getElem?_toArray, List.map_append, List.getElem?_append_right (by simp; omega)]
  simp only [List.length_map, ha, Nat.add_sub_cancel_left]
  exact hv
end Go.Proofs.YtnphgaiiiiknpaaDoor
