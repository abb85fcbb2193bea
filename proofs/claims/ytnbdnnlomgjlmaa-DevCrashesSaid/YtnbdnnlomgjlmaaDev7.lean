/- The device layer: Write. -/
import Derived.Test.YtnbdnnlomgjlmaaDev6
namespace Go.Proofs.Ytnbdnnlomgjlmaa
open Go.RowKit
set_option linter.unusedSimpArgs false
set_option linter.unusedVariables false
set_option maxRecDepth 100000
theorem infoPutZ : (Try.prog.info? 114).map (fun i => i.zero) = some (some (.agg (putV 0 zeroBlk))) := by kernel_rfl
theorem placesPut : ((Try.prog.fieldsOf 114).toList.mapM (fun f => (Try.prog.info? f.type).map fun i => (f.offset, i.size))) = some [(0, 1), (1, 256)] := by kernel_rfl
theorem structPut : Try.prog.underlying 114 = some (.struct (Try.prog.fieldsOf 114)) := by kernel_rfl
theorem fill_step (place : Nat → Option (Nat × Nat)) (cells : Array Value) (i : Nat) (v : Value) (rest : List (Nat × Value)) (off : Nat) (hp : place i = some (off, v.cells.size)) (hle : off + v.cells.size ≤ cells.size) :
    Instr.fill place cells ((i, v) :: rest) = Instr.fill place ((v.cells.toList.zipIdx 0).foldl (fun cs (x : Value × Nat) => cs.setIfInBounds (off + x.2) x.1) cells) rest := by
  rw [Instr.fill]
  simp only [hp]
  rw [if_neg (by simp; omega)]
  congr 1
  rw [← Array.foldl_toList, Array.toList_zipIdx]
theorem fill_two (z : Array Value) (hz : z.size = 257) (v : Value) (b : Array Value) (hv : v.cells = #[v]) (hb : b.size = 256) :
    Instr.fill ([(0, 1), (1, 256)].toArray[·]?) z [(0, v), (1, .agg b)] = some (v :: b.toList).toArray := by
  have f1 := Great.foldl_set 0 v.cells.toList 0 z
  have f2 := Great.foldl_set 1 b.toList 0 ((v.cells.toList.zipIdx 0).foldl (fun cs (x : Value × Nat) => cs.setIfInBounds (0 + x.2) x.1) z)
  rw [fill_step _ z 0 v _ 0 (by rw [hv]; rfl) (by rw [hv]; simp; omega)]
  rw [fill_step _ _ 1 (.agg b) _ 1 (by simp [Value.cells, hb]) (by rw [f1.1]; simp [Value.cells, hb, hz])]
  rw [Instr.fill]
  congr 1
  apply Array.ext_getElem?
  intro k
  show ((b.toList.zipIdx 0).foldl (fun cs (x : Value × Nat) => cs.setIfInBounds (1 + x.2) x.1) ((v.cells.toList.zipIdx 0).foldl (fun cs (x : Value × Nat) => cs.setIfInBounds (0 + x.2) x.1) z))[k]? = _
  rw [f2.2 k, f1.2 k, f1.1, hz]
  have hbl : b.toList.length = 256 := by simp [hb]
  rw [hbl, hv]
  cases k with
  | zero => simp
  | succ k =>
    by_cases hk : k < 256
    · rw [if_pos (by omega)]
      simp
    · rw [if_neg (by omega), if_neg (by simp)]
      rw [Array.getElem?_eq_none (by omega)]
      simp; omega
theorem builtPut (a : Nat) (b : List UInt8) (hb : b.length = 256) : Try.prog.built 114 [(0, .int .u32 (a : Int)), (1, .agg (blk b))] = some (putV a b) := by
  unfold Program.built
  obtain ⟨i, hi, hz⟩ := Option.map_eq_some_iff.1 infoPutZ
  rw [hi, structPut]
  simp only [hz, placesPut]
  show Instr.fill ([(0, 1), (1, 256)].toArray[·]?) (putV 0 zeroBlk) [(0, .int .u32 (a : Int)), (1, .agg (blk b))] = _
  rw [fill_two _ (size_putV 0 zeroBlk length_zeroBlk) _ _ rfl (by rw [size_blk, hb])]
  simp [putV, blk]
theorem Try.infoPut : (Try.prog.info? 114).map (fun i => (i.zero, i.size, i.bytes)) = some (some (.agg (putV 0 zeroBlk)), 257, 260) := by kernel_rfl
section
variable {P : Program} {Q : Exit → Act → World → Prop} {K : Act → World → Prop} {o : Oper} {a : Act} {w : World}
theorem wp_move (x : Operand) (v : Value) (ho : o.op = .move x) (hx : a.eval x = v) (h : K (a.put o.dst v) w) : o.wp P a w K Q :=
  wp_value v (by unfold execOp; rw [ho, ← hx]; rfl) h
theorem wp_nilcheck (x : Operand) (ad : Addr) (ho : o.op = .nilCheck x) (hx : a.eval x = .pointer (some ad)) (h : K (a.put o.dst (.pointer (some ad))) w) : o.wp P a w K Q :=
  wp_value _ (by unfold execOp; simp [ho, hx]) h
theorem wp_field (T : TypeId) (i : Nat) (ft : TypeId) (off sz : Nat) (x : Operand) (g k : Nat) (ho : o.op = .fieldAddr T x i) (hT : P.underlying T = some (.struct (P.fieldsOf T)))
    (hF : ((P.fieldsOf T)[i]?).map (fun f => (f.type, f.offset)) = some (ft, off)) (hs : (P.info? ft).map (·.size) = some (sz + 1)) (hx : a.eval x = .pointer (some ⟨g, k, none⟩)) (h : K (a.put o.dst (.pointer (some ⟨g, k + off, none⟩))) w) : o.wp P a w K Q :=
  wp_value _ (by
    obtain ⟨f, hf, hf1⟩ := Option.map_eq_some_iff.1 hF
    simp only [Prod.mk.injEq] at hf1
    obtain ⟨q, hq, hq1⟩ := Option.map_eq_some_iff.1 hs
    unfold execOp
    simp [ho, hx, Instr.fieldAt, run_underlying hT, hf, Instr.sureAddr, fieldPlace, sizeOf, typeInfo, hf1.1, hq, hq1, hf1.2, Addr.add_lit]) h
end
theorem Only.trans' {F G : List Nat} {a b c : World} (h : Only F a b) (h' : Only G b c) (hG : ∀ x ∈ G, x < a.heap.size → x ∈ F) : Only F a c :=
  ⟨h'.os.trans h.os, h'.tape.trans h.tape, h'.output.trans h.output, Nat.le_trans h.size h'.size, fun k hk hF => (h'.block k (Nat.lt_of_lt_of_le hk h.size) (fun hg => hF (hG k hg hk))).trans (h.block k hk hF)⟩
theorem Only.turns {F G : List Nat} {w w1 w2 : World} {y : Thing} (h1 : Only F w w1) (hG : ∀ b ∈ G, b ∈ F ∨ w.heap.size ≤ b) (h2 : Turns G w1 w2 y) : Turns F w w2 y := by
  obtain ⟨H, e1, e2, e3, e4⟩ := h2
  refine ⟨H, e1, ?_, ?_, e4⟩
  · refine h1.trans' e2 ?_
    intro b hb hlt
    rcases hG b hb with h | h
    · exact h
    · omega
  · intro b hb
    rcases e3 b hb with h | h
    · exact hG b h
    · exact .inr (Nat.le_trans h1.size h)
theorem dv_same {F : List Nat} {w w' : World} {g : Nat} {s : Dv} (h : (dvT g s).says F w) (hn : F.Nodup) (hb : Below w.heap.size w w') : Turns F w w' (dvT g s) :=
  ⟨F, (dvT g s).loc F w w' (fun b hb' => hb.block b ((dvT g s).lt F w h b hb')) h, Only.of_below hb, fun b hb => .inl hb, hn⟩
end Go.Proofs.Ytnbdnnlomgjlmaa
