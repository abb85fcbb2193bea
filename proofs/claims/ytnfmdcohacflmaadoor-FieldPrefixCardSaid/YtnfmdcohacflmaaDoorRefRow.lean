/- The document's reader: its row; Width, Open, TakeNum, End. -/
import Derived.Test.YtnfmdcohacflmaaDoorRead6
import Derived.Test.YtnfmdcohacflmaaDoorKeep
import Derived.Test.YtnfmdcohacflmaaDoorSteps
import Derived.Test.YtnfmdcohacflmaaDoorPred
import Derived.Great.BuildSlice
namespace Go.Proofs.YtnfmdcohacflmaaDoor
open Go.RowKit
set_option linter.unusedSimpArgs false
set_option linter.unusedVariables false
set_option maxRecDepth 100000
/-- A row's cells: the block, the place, whether nothing failed. -/
def rowC (b : List UInt8) (i : Nat) (f : Bool) : Array Value := blk b ++ #[.int .i64 (i : Int), .bool f]
/-- A row that has not failed, or the failed one. -/
def rowS (b : List UInt8) (i : Nat) (f : Bool) : Array Value := if f then rowC b i true else rowC zeroBlk 0 false
theorem size_rowC (b : List UInt8) (hb : b.length = 256) (i : Nat) (f : Bool) : (rowC b i f).size = 258 := by simp [rowC, size_blk, hb]
theorem rowC_one (b : List UInt8) (i : Nat) (f : Bool) : (rowC b i f).all (·.oneCell') = true := by
  unfold rowC
  rw [Array.all_append, blk_one]
  simp [Value.oneCell']
theorem rowC_get (b : List UInt8) (hb : b.length = 256) (i : Nat) (f : Bool) (k : Nat) (hk : k < 256) : (rowC b i f)[k]? = some (.int .u8 ((b.getD k 0).toNat : Int)) := by
  unfold rowC
  rw [Array.getElem?_append_left (by rw [size_blk, hb]; exact hk), blk_get b k (by omega), List.getD_eq_getElem?_getD, List.getElem?_eq_getElem (by omega)]; rfl
theorem rowC_at (b : List UInt8) (hb : b.length = 256) (i : Nat) (f : Bool) : (rowC b i f)[256]? = some (.int .i64 (i : Int)) := by
  unfold rowC
  rw [Array.getElem?_append_right (by rw [size_blk, hb]; exact Nat.le_refl _), size_blk, hb]; rfl
theorem rowC_fine (b : List UInt8) (hb : b.length = 256) (i : Nat) (f : Bool) : (rowC b i f)[257]? = some (.bool f) := by
  unfold rowC
  rw [Array.getElem?_append_right (by rw [size_blk, hb]; decide), size_blk, hb]; rfl
theorem rowC_set (b : List UInt8) (hb : b.length = 256) (i j : Nat) (f : Bool) : (rowC b i f).setIfInBounds 256 (.int .i64 (j : Int)) = rowC b j f := by
  unfold rowC
  rw [Array.setIfInBounds_append_right (by rw [size_blk, hb]; exact Nat.le_refl _), size_blk, hb]; rfl
theorem fill_stepR (place : Nat → Option (Nat × Nat)) (cells : Array Value) (i : Nat) (v : Value) (rest : List (Nat × Value)) (off : Nat) (hp : place i = some (off, v.cells.size)) (hle : off + v.cells.size ≤ cells.size) :
    Instr.fill place cells ((i, v) :: rest) = Instr.fill place ((v.cells.toList.zipIdx 0).foldl (fun cs (x : Value × Nat) => cs.setIfInBounds (off + x.2) x.1) cells) rest := by
  rw [Instr.fill]
  simp only [hp]
  rw [if_neg (by simp; omega)]
  congr 1
  rw [← Array.foldl_toList, Array.toList_zipIdx]
theorem fill_row (z : Array Value) (hz : z.size = 258) (v u : Value) (b : Array Value) (hv : v.cells = #[v]) (hu : u.cells = #[u]) (hb : b.size = 256) :
    Instr.fill ([(0, 256), (256, 1), (257, 1)].toArray[·]?) z [(0, .agg b), (1, v), (2, u)] = some (b ++ #[v, u]) := by
  have f1 := Great.foldl_set 0 b.toList 0 z
  have f2 := Great.foldl_set 256 v.cells.toList 0 ((b.toList.zipIdx 0).foldl (fun cs (x : Value × Nat) => cs.setIfInBounds (0 + x.2) x.1) z)
  have f3 := Great.foldl_set 257 u.cells.toList 0 ((v.cells.toList.zipIdx 0).foldl (fun cs (x : Value × Nat) => cs.setIfInBounds (256 + x.2) x.1) ((b.toList.zipIdx 0).foldl (fun cs (x : Value × Nat) => cs.setIfInBounds (0 + x.2) x.1) z))
  rw [fill_stepR _ z 0 (.agg b) _ 0 (by simp [Value.cells, hb]) (by simp [Value.cells, hb, hz])]
  rw [fill_stepR _ _ 1 v _ 256 (by rw [hv]; rfl) (by show 256 + v.cells.size ≤ ((b.toList.zipIdx 0).foldl (fun cs (x : Value × Nat) => cs.setIfInBounds (0 + x.2) x.1) z).size; rw [hv, f1.1, hz]; simp)]
  rw [fill_stepR _ _ 2 u _ 257 (by rw [hu]; rfl) (by show 257 + u.cells.size ≤ ((v.cells.toList.zipIdx 0).foldl (fun cs (x : Value × Nat) => cs.setIfInBounds (256 + x.2) x.1) ((b.toList.zipIdx 0).foldl (fun cs (x : Value × Nat) => cs.setIfInBounds (0 + x.2) x.1) z)).size; rw [f2.1, f1.1, hz, hu]; simp)]
  rw [Instr.fill]
  congr 1
  apply Array.ext_getElem?
  intro k
  show ((u.cells.toList.zipIdx 0).foldl (fun cs (x : Value × Nat) => cs.setIfInBounds (257 + x.2) x.1) ((v.cells.toList.zipIdx 0).foldl (fun cs (x : Value × Nat) => cs.setIfInBounds (256 + x.2) x.1) ((b.toList.zipIdx 0).foldl (fun cs (x : Value × Nat) => cs.setIfInBounds (0 + x.2) x.1) z)))[k]? = _
  rw [f3.2 k, f2.2 k, f2.1, f1.2 k, f1.1, hz]
  have hbl : b.toList.length = 256 := by simp [hb]
  rw [hbl, hv, hu]
  by_cases h1 : k < 256
  · rw [if_neg (by simp; omega), if_neg (by simp; omega), if_pos (by omega), Array.getElem?_append_left (by omega)]
    simp
  · rw [Array.getElem?_append_right (by omega), hb]
    by_cases h2 : k = 256
    · subst h2; simp
    · by_cases h3 : k = 257
      · subst h3; simp
      · rw [if_neg (by simp; omega), if_neg (by simp; omega), if_neg (by omega)]
        rw [Array.getElem?_eq_none (by omega), Array.getElem?_eq_none (by simp; omega)]
theorem results_slot_cell {P : Program} {fn : Func} {p q : Tmp} {ty : TypeId} (h : fn.results = #[.tmp q, .cell p ty]) (tmps : Array Value) (w : World) (g : Nat) (t : TypeId) (cs : Array Value) (fr : Nat × Nat) (d : TypeDesc) (v : Value)
    (hp : tmps.getD p undef = .pointer (some ⟨g, 0, none⟩)) (hq : tmps.getD q undef = v) (hg : w.heap[g]? = some (.cells cs t fr))
    (hu : P.underlying ty = some d) (hd : (match d with | .struct _ | .array _ _ => true | _ => false) = true) (hi : (P.info? ty).map (·.size) = some cs.size) :
    (results fn tmps).run P w = .ok (.tuple #[v, .agg cs]) w := by
  have hp' : tmps[p]?.getD undef = .pointer (some ⟨g, 0, none⟩) := by simpa using hp
  have hq' : tmps[q]?.getD undef = v := by simpa using hq
  simp [results, h, hp', hq', asAddr, run_loadVar_row w g t ty cs fr d hg hu hd hi]
theorem refwidth_any (n : Nat) (w : World) (hn : n = 1 ∨ n = 2 ∨ n = 4 ∨ n = 8) : Calls Tryd.prog 18 #[.int .i64 (n : Int)] w fun e w' => e = .returned (.bool true) ∧ w = w' := by
  rcases hn with rfl | rfl | rfl | rfl <;>
  · go_enter Tryd.func18, Tryd.ntmps18
    go_wp2
    go_ret
    exact ⟨rfl, rfl⟩
theorem num_step (b : List UInt8) (p j : Nat) (h : p + (j + 1) ≤ b.length) : num (seg b p (j + 1)) = (b.getD p 0).toNat + 256 * num (seg b (p + 1) j) := by
  have : seg b p (j + 1) = b.getD p 0 :: seg b (p + 1) j := by
    unfold seg
    rw [List.drop_eq_getElem_cons (by omega), List.take_succ_cons, List.getD_eq_getElem?_getD, List.getElem?_eq_getElem (by omega)]; rfl
  rw [this]; rfl
theorem length_zs256 : zeroBlk.length = 256 := length_zeroBlk
end Go.Proofs.YtnfmdcohacflmaaDoor
