/- The document's reader: its row; Width, Open, TakeNum, End. -/
import Derived.Test.YtcepfmjebgklfaaDoorRead6
import Derived.Test.YtcepfmjebgklfaaDoorKeep
import Derived.Test.YtcepfmjebgklfaaDoorSteps
import Derived.Test.YtcepfmjebgklfaaDoorPred
import Derived.Great.BuildSlice
namespace Go.Proofs.YtcepfmjebgklfaaDoor
open Go.RowKit
set_option linter.unusedSimpArgs false
set_option linter.unusedVariables false
set_option maxRecDepth 100000
/-- A row's cells: the block, the place, whether nothing failed. -/
def rowC (b : List UInt8) (i : Nat) (f : Bool) : Array Value := blk b ++ #[.int .i64 (i : Int), .bool f]
/-- A row that has not failed, or the failed one. -/
def rowS (b : List UInt8) (i : Nat) (f : Bool) : Array Value := if f then rowC b i true else rowC zeroBlk 0 false
theorem zeroRowI : (Tryd.prog.info? 98).bind (·.zero) = some (.agg (rowC zeroBlk 0 false)) := by kernel_rfl
theorem sizeRow : (Tryd.prog.info? 98).map (·.size) = some 258 := by kernel_rfl
theorem size_rowC (b : List UInt8) (hb : b.length = 256) (i : Nat) (f : Bool) : (rowC b i f).size = 258 := by simp [rowC, size_blk, hb]
theorem rowC_one (b : List UInt8) (i : Nat) (f : Bool) : (rowC b i f).all (·.oneCell') = true := by
  unfold rowC
  rw [Array.all_append, blk_one]
  simp [Value.oneCell']
theorem rowC_get (b : List UInt8) (hb : b.length = 256) (i : Nat) (f : Bool) (k : Nat) (hk : k < 256) : (rowC b i f)[k]? = some (.int .u8 ((b.getD k 0).toNat : Int)) := by
  unfold rowC
  rw [Array.getElem?_append_left (by rw [size_blk, hb]; exact hk), blk_get b k (by omega), List.getD_eq_getElem?_getD, List.getElem?_eq_getElem (by omega)]; rfl
theorem rowC_at (b : List UInt8) (hb : b.length = 256) (i : Nat) (f : Bool) : (rowC b i f)[256]? = some (.int .i64 (i : Int)) := by
  unfold rowC
  rw [Array.getElem?_append_right (by rw [size_blk, hb]; exact Nat.le_refl _), size_blk, hb]; rfl
theorem rowC_fine (b : List UInt8) (hb : b.length = 256) (i : Nat) (f : Bool) : (rowC b i f)[257]? = some (.bool f) := by
  unfold rowC
  rw [Array.getElem?_append_right (by rw [size_blk, hb]; decide), size_blk, hb]; rfl
theorem rowC_set (b : List UInt8) (hb : b.length = 256) (i j : Nat) (f : Bool) : (rowC b i f).setIfInBounds 256 (.int .i64 (j : Int)) = rowC b j f := by
  unfold rowC
  rw [Array.setIfInBounds_append_right (by rw [size_blk, hb]; exact Nat.le_refl _), size_blk, hb]; rfl
theorem placesRow : ((Tryd.prog.fieldsOf 98).toList.mapM (fun f => (Tryd.prog.info? f.type).map fun i => (f.offset, i.size))) = some [(0, 256), (256, 1), (257, 1)] := by kernel_rfl
theorem structRow : Tryd.prog.underlying 98 = some (.struct (Tryd.prog.fieldsOf 98)) := by kernel_rfl
theorem fill_stepR (place : Nat → Option (Nat × Nat)) (cells : Array Value) (i : Nat) (v : Value) (rest : List (Nat × Value)) (off : Nat) (hp : place i = some (off, v.cells.size)) (hle : off + v.cells.size ≤ cells.size) :
    Instr.fill place cells ((i, v) :: rest) = Instr.fill place ((v.cells.toList.zipIdx 0).foldl (fun cs (x : Value × Nat) => cs.setIfInBounds (off + x.2) x.1) cells) rest := by
  rw [Instr.fill]
  simp only [hp]
  rw [if_neg (by simp; omega)]
  congr 1
  rw [← Array.foldl_toList, Array.toList_zipIdx]
theorem fill_row (z : Array Value) (hz : z.size = 258) (v u : Value) (b : Array Value) (hv : v.cells = #[v]) (hu : u.cells = #[u]) (hb : b.size = 256) :
    Instr.fill ([(0, 256), (256, 1), (257, 1)].toArray[·]?) z [(0, .agg b), (1, v), (2, u)] = some (b ++ #[v, u]) := by
  have f1 := Great.foldl_set 0 b.toList 0 z
  have f2 := Great.foldl_set 256 v.cells.toList 0 ((b.toList.zipIdx 0).foldl (fun cs (x : Value × Nat) => cs.setIfInBounds (0 + x.2) x.1) z)
  have f3 := Great.foldl_set 257 u.cells.toList 0 ((v.cells.toList.zipIdx 0).foldl (fun cs (x : Value × Nat) => cs.setIfInBounds (256 + x.2) x.1) ((b.toList.zipIdx 0).foldl (fun cs (x : Value × Nat) => cs.setIfInBounds (0 + x.2) x.1) z))
  rw [fill_stepR _ z 0 (.agg b) _ 0 (by simp [Value.cells, hb]) (by simp [Value.cells, hb, hz])]
  rw [fill_stepR _ _ 1 v _ 256 (by rw [hv]; rfl) (by show 256 + v.cells.size ≤ ((b.toList.zipIdx 0).foldl (fun cs (x : Value × Nat) => cs.setIfInBounds (0 + x.2) x.1) z).size; rw [hv, f1.1, hz]; simp)]
  rw [fill_stepR _ _ 2 u _ 257 (by rw [hu]; rfl) (by show 257 + u.cells.size ≤ ((v.cells.toList.zipIdx 0).foldl (fun cs (x : Value × Nat) => cs.setIfInBounds (256 + x.2) x.1) ((b.toList.zipIdx 0).foldl (fun cs (x : Value × Nat) => cs.setIfInBounds (0 + x.2) x.1) z)).size; rw [f2.1, f1.1, hz, hu]; simp)]
  rw [Instr.fill]
  congr 1
  apply Array.ext_getElem?
  intro k
  show ((u.cells.toList.zipIdx 0).foldl (fun cs (x : Value × Nat) => cs.setIfInBounds (257 + x.2) x.1) ((v.cells.toList.zipIdx 0).foldl (fun cs (x : Value × Nat) => cs.setIfInBounds (256 + x.2) x.1) ((b.toList.zipIdx 0).foldl (fun cs (x : Value × Nat) => cs.setIfInBounds (0 + x.2) x.1) z)))[k]? = _
  rw [f3.2 k, f2.2 k, f2.1, f1.2 k, f1.1, hz]
  have hbl : b.toList.length = 256 := by simp [hb]
  rw [hbl, hv, hu]
  by_cases h1 : k < 256
  · rw [if_neg (by simp; omega), if_neg (by simp; omega), if_pos (by omega), Array.getElem?_append_left (by omega)]
    simp
  · rw [Array.getElem?_append_right (by omega), hb]
    by_cases h2 : k = 256
    · subst h2; simp
    · by_cases h3 : k = 257
      · subst h3; simp
      · rw [if_neg (by simp; omega), if_neg (by simp; omega), if_neg (by omega)]
        rw [Array.getElem?_eq_none (by omega), Array.getElem?_eq_none (by simp; omega)]
theorem builtRow (b : List UInt8) (hb : b.length = 256) (i : Nat) (f : Bool) : Tryd.prog.built 98 [(0, .agg (blk b)), (1, .int .i64 (i : Int)), (2, .bool f)] = some (rowC b i f) := by
  unfold Program.built
  have hz0 : (Tryd.prog.info? 98).map (fun i => i.zero) = some (some (.agg (rowC zeroBlk 0 false))) := by kernel_rfl
  obtain ⟨j, hi, hz⟩ := Option.map_eq_some_iff.1 hz0
  rw [hi, structRow]
  simp only [hz, placesRow]
  show Instr.fill ([(0, 256), (256, 1), (257, 1)].toArray[·]?) (rowC zeroBlk 0 false) [(0, .agg (blk b)), (1, .int .i64 (i : Int)), (2, .bool f)] = _
  rw [fill_row _ (size_rowC _ length_zeroBlk _ _) _ _ _ rfl rfl (by rw [size_blk, hb])]
  rfl
theorem builtRowZ : Tryd.prog.built 98 [] = some (rowC zeroBlk 0 false) := by kernel_rfl
theorem results_slot_cell {P : Program} {fn : Func} {p q : Tmp} {ty : TypeId} (h : fn.results = #[.tmp q, .cell p ty]) (tmps : Array Value) (w : World) (g : Nat) (t : TypeId) (cs : Array Value) (fr : Nat × Nat) (d : TypeDesc) (v : Value)
    (hp : tmps.getD p undef = .pointer (some ⟨g, 0, none⟩)) (hq : tmps.getD q undef = v) (hg : w.heap[g]? = some (.cells cs t fr))
    (hu : P.underlying ty = some d) (hd : (match d with | .struct _ | .array _ _ => true | _ => false) = true) (hi : (P.info? ty).map (·.size) = some cs.size) :
    (results fn tmps).run P w = .ok (.tuple #[v, .agg cs]) w := by
  have hp' : tmps[p]?.getD undef = .pointer (some ⟨g, 0, none⟩) := by simpa using hp
  have hq' : tmps[q]?.getD undef = v := by simpa using hq
  simp [results, h, hp', hq', asAddr, run_loadVar_row w g t ty cs fr d hg hu hd hi]
theorem refwidth_any (n : Nat) (w : World) (hn : n = 1 ∨ n = 2 ∨ n = 4 ∨ n = 8) : Calls Tryd.prog 73 #[.int .i64 (n : Int)] w fun e w' => e = .returned (.bool true) ∧ w = w' := by
  rcases hn with rfl | rfl | rfl | rfl <;>
  · go_enter Tryd.func73, Tryd.ntmps73
    go_wp2
    go_ret
    exact ⟨rfl, rfl⟩
theorem num_step (b : List UInt8) (p j : Nat) (h : p + (j + 1) ≤ b.length) : num (seg b p (j + 1)) = (b.getD p 0).toNat + 256 * num (seg b (p + 1) j) := by
  have : seg b p (j + 1) = b.getD p 0 :: seg b (p + 1) j := by
    unfold seg
    rw [List.drop_eq_getElem_cons (by omega), List.take_succ_cons, List.getD_eq_getElem?_getD, List.getElem?_eq_getElem (by omega)]; rfl
  rw [this]; rfl
set_option maxHeartbeats 2000000 in
theorem taken_ok (b : List UInt8) (hb : b.length = 256) (i n : Nat) (hn : n = 1 ∨ n = 2 ∨ n = 4 ∨ n = 8) (hf : i + n ≤ 252) (wi : World) :
    Calls Tryd.prog 50 #[.agg (rowC b i true), .int .i64 (n : Int)] wi fun e w' => e = .returned (.tuple #[.int .u64 (num (seg b i n) : Int), .agg (rowC b (i + n) true)]) ∧ Below wi.heap.size wi w' := by
  obtain ⟨C, hC⟩ : ∃ C, C = rowC b i true := ⟨_, rfl⟩
  obtain ⟨Z, hZ⟩ : ∃ Z, Z = rowC zeroBlk 0 false := ⟨_, rfl⟩
  have HZ : Hid ((Tryd.prog.info? 98).bind (·.zero) = some (.agg Z)) := Lib.hid (by rw [hZ]; exact zeroRowI)
  have HZS : Hid (Z.size = 258) := Lib.hid (by rw [hZ]; exact size_rowC _ length_zeroBlk _ _)
  have HS : Hid (C.size = 258) := Lib.hid (by rw [hC]; exact size_rowC b hb _ _)
  have HG : Hid (∀ k, k < 256 → C[k]? = some (.int .u8 ((b.getD k 0).toNat : Int))) := Lib.hid (fun k hk => by rw [hC]; exact rowC_get b hb _ _ k hk)
  have HGA : Hid (C[256]? = some (.int .i64 (i : Int))) := Lib.hid (by rw [hC]; exact rowC_at b hb _ _)
  have HGF : Hid (C[257]? = some (.bool true)) := Lib.hid (by rw [hC]; exact rowC_fine b hb _ _)
  obtain ⟨D, hD⟩ : ∃ D, D = rowC b (i + n) true := ⟨_, rfl⟩
  have HSET : Hid (C.setIfInBounds 256 (.int .i64 ((i : Int) + (n : Int))) = D) := Lib.hid (by rw [hC, hD, show (i : Int) + (n : Int) = ((i + n : Nat) : Int) by omega]; exact rowC_set b hb _ _ _)
  have HDS : Hid (D.size = 258) := Lib.hid (by rw [hD]; exact size_rowC b hb _ _)
  have HDO : Hid (D.all (·.oneCell') = true) := Lib.hid (by rw [hD]; exact rowC_one _ _ _)
  have HW := Lib.hid (fun w => refwidth_any n w hn)
  have HN := Lib.hid hn
  have HLB := Lib.hid hb
  have HNL : Hid (∀ j k, j + k = n → num (seg b (i + j) k) < 256 ^ k) := Lib.hid (fun j k h => num_seg_lt b (i + j) k (by omega))
  have HNS : Hid (∀ q, q < n → num (seg b (i + q) (n - q)) = (b.getD (i + q) 0).toNat + 256 * num (seg b (i + (q + 1)) (n - (q + 1)))) := Lib.hid (fun q hq => by
    rw [show n - q = (n - (q + 1)) + 1 by omega, num_step b (i + q) _ (by omega)]; rfl)
  have HADD : Hid (IntKind.i64.wrap ((i : Int) + (n : Int)) = ((i + n : Nat) : Int)) := Lib.hid (by rw [IntKind.wrap_i64]; omega)
  have HGT : Hid (cmpInt .gtr ((i + n : Nat) : Int) 252 = some false) := Lib.hid (by simp only [cmpInt]; congr 1; apply decide_eq_false; omega)
  have hn8 : 1 ≤ n ∧ n ≤ 8 := by omega
  have q1 := ((Rows.start wi).alloc C 98).alloc Z 98
  obtain ⟨g1, hg1⟩ : ∃ g, g = wi.heap.size := ⟨_, rfl⟩
  obtain ⟨g2, hg2⟩ : ∃ g, g = (wi.alloc (.cells C 98)).heap.size := ⟨_, rfl⟩
  rw [← hg1, ← hg2] at q1
  have G1 := Lib.hid hg1
  have G2 := Lib.hid hg2
  have Q1 := Lib.hid q1
  rw [← hC, ← hD]
  clear hg1 hg2 q1 hb hC hZ hD hn
  go_enter Tryd.func50, Tryd.ntmps50
  go_upto_region 1 with (refine wpList_alloc_row rfl 98 rfl _ HZ.out ?_)
  have q1 := Q1.out
  obtain ⟨W1, hW⟩ : ∃ W, W = (wi.alloc (.cells C 98)).alloc (.cells Z 98) := ⟨_, rfl⟩
  rw [← hW] at q1 ⊢
  simp only [Act.put, List.setIfInBounds_toArray, List.set_cons_zero, List.set_cons_succ]
  rw [← G2.out, ← G1.out]
  have R1 := Lib.hid q1
  clear hW q1 Q1 G1 G2
  refine wk_plain_since ?_
  refine wk_field 98 _ 4 257 0 _ _ _ (by first | exact wanted_none rfl | exact wanted_yes _ _ rfl rfl) rfl (by kernel_rfl) (by kernel_rfl) (by kernel_rfl) rfl ?_
  simp only [Act.put, List.setIfInBounds_toArray, List.set_cons_zero, List.set_cons_succ, Nat.zero_add]
  refine wk_load1 _ _ _ _ _ rfl (by kernel_rfl) rfl rfl (fun w' hC => hC.cell (R1.out.cell 1 257 rfl HGF.out)) Tryd.underlying4 ?_
  simp only [Act.put, List.setIfInBounds_toArray, List.set_cons_zero, List.set_cons_succ]
  repeat (first
    | (refine wk_move _ (by first | exact wanted_none rfl | exact wanted_yes _ _ rfl rfl) rfl ?_; simp only [Act.put, Act.eval, Array.getD_eq_getD_getElem?, List.getElem?_toArray, List.getElem?_cons_succ, List.getElem?_cons_zero, Option.getD_some, List.setIfInBounds_toArray, List.set_cons_zero, List.set_cons_succ])
    | (refine wk_assign _ (by first | exact wanted_none rfl | exact wanted_yes _ _ rfl rfl) rfl ?_; simp only [Act.put, Act.eval, Array.getD_eq_getD_getElem?, List.getElem?_toArray, List.getElem?_cons_succ, List.getElem?_cons_zero, Option.getD_some, List.setIfInBounds_toArray, List.set_cons_zero, List.set_cons_succ])
    | (refine wk_pickt _ _ _ _ (by first | exact wanted_none rfl | exact wanted_yes _ _ rfl rfl) rfl rfl rfl ?_; simp only [Act.put, Act.eval, Array.getD_eq_getD_getElem?, List.getElem?_toArray, List.getElem?_cons_succ, List.getElem?_cons_zero, Option.getD_some, List.setIfInBounds_toArray, List.set_cons_zero, List.set_cons_succ])
    | (refine wk_pickf _ _ _ _ (by first | exact wanted_none rfl | exact wanted_yes _ _ rfl rfl) rfl rfl rfl ?_; simp only [Act.put, Act.eval, Array.getD_eq_getD_getElem?, List.getElem?_toArray, List.getElem?_cons_succ, List.getElem?_cons_zero, Option.getD_some, List.setIfInBounds_toArray, List.set_cons_zero, List.set_cons_succ])
    | (refine wk_skip (wanted_not _ true false rfl rfl rfl) ?_; simp only [Act.put, List.setIfInBounds_toArray, List.set_cons_zero, List.set_cons_succ])
    | (refine wk_skip (wanted_not _ false true rfl rfl rfl) ?_; simp only [Act.put, List.setIfInBounds_toArray, List.set_cons_zero, List.set_cons_succ])
    | (refine wk_skip (wanted_undef _ _ rfl rfl) ?_; simp only [Act.put, List.setIfInBounds_toArray, List.set_cons_zero, List.set_cons_succ])
    | (refine wk_not true _ _ (by first | exact wanted_none rfl | exact wanted_yes _ _ rfl rfl) rfl rfl ?_; simp only [Act.put, List.setIfInBounds_toArray, List.set_cons_zero, List.set_cons_succ])
    | (refine wk_not false _ _ (by first | exact wanted_none rfl | exact wanted_yes _ _ rfl rfl) rfl rfl ?_; simp only [Act.put, List.setIfInBounds_toArray, List.set_cons_zero, List.set_cons_succ]))
  refine wk_call 73 _ _ _ _ _ (by kernel_rfl) rfl Tryd.func73 rfl (by kernel_rfl) (fun w' hC => hC.same (HW.out w')) ?_
  simp only [Act.put, List.setIfInBounds_toArray, List.set_cons_zero, List.set_cons_succ]
  repeat (first
    | (refine wk_move _ (by first | exact wanted_none rfl | exact wanted_yes _ _ rfl rfl) rfl ?_; simp only [Act.put, Act.eval, Array.getD_eq_getD_getElem?, List.getElem?_toArray, List.getElem?_cons_succ, List.getElem?_cons_zero, Option.getD_some, List.setIfInBounds_toArray, List.set_cons_zero, List.set_cons_succ])
    | (refine wk_assign _ (by first | exact wanted_none rfl | exact wanted_yes _ _ rfl rfl) rfl ?_; simp only [Act.put, Act.eval, Array.getD_eq_getD_getElem?, List.getElem?_toArray, List.getElem?_cons_succ, List.getElem?_cons_zero, Option.getD_some, List.setIfInBounds_toArray, List.set_cons_zero, List.set_cons_succ])
    | (refine wk_pickt _ _ _ _ (by first | exact wanted_none rfl | exact wanted_yes _ _ rfl rfl) rfl rfl rfl ?_; simp only [Act.put, Act.eval, Array.getD_eq_getD_getElem?, List.getElem?_toArray, List.getElem?_cons_succ, List.getElem?_cons_zero, Option.getD_some, List.setIfInBounds_toArray, List.set_cons_zero, List.set_cons_succ])
    | (refine wk_pickf _ _ _ _ (by first | exact wanted_none rfl | exact wanted_yes _ _ rfl rfl) rfl rfl rfl ?_; simp only [Act.put, Act.eval, Array.getD_eq_getD_getElem?, List.getElem?_toArray, List.getElem?_cons_succ, List.getElem?_cons_zero, Option.getD_some, List.setIfInBounds_toArray, List.set_cons_zero, List.set_cons_succ])
    | (refine wk_skip (wanted_not _ true false rfl rfl rfl) ?_; simp only [Act.put, List.setIfInBounds_toArray, List.set_cons_zero, List.set_cons_succ])
    | (refine wk_skip (wanted_not _ false true rfl rfl rfl) ?_; simp only [Act.put, List.setIfInBounds_toArray, List.set_cons_zero, List.set_cons_succ])
    | (refine wk_skip (wanted_undef _ _ rfl rfl) ?_; simp only [Act.put, List.setIfInBounds_toArray, List.set_cons_zero, List.set_cons_succ])
    | (refine wk_not true _ _ (by first | exact wanted_none rfl | exact wanted_yes _ _ rfl rfl) rfl rfl ?_; simp only [Act.put, List.setIfInBounds_toArray, List.set_cons_zero, List.set_cons_succ])
    | (refine wk_not false _ _ (by first | exact wanted_none rfl | exact wanted_yes _ _ rfl rfl) rfl rfl ?_; simp only [Act.put, List.setIfInBounds_toArray, List.set_cons_zero, List.set_cons_succ]))
  refine wk_field 98 _ 3 256 0 _ _ _ (by first | exact wanted_none rfl | exact wanted_yes _ _ rfl rfl) rfl (by kernel_rfl) (by kernel_rfl) (by kernel_rfl) rfl ?_
  simp only [Act.put, List.setIfInBounds_toArray, List.set_cons_zero, List.set_cons_succ, Nat.zero_add]
  refine wk_load1 _ _ _ _ _ rfl (by kernel_rfl) rfl rfl (fun w' hC => hC.cell (R1.out.cell 1 256 rfl HGA.out)) Tryd.underlying3 ?_
  simp only [Act.put, List.setIfInBounds_toArray, List.set_cons_zero, List.set_cons_succ]
  repeat (first
    | (refine wk_move _ (by first | exact wanted_none rfl | exact wanted_yes _ _ rfl rfl) rfl ?_; simp only [Act.put, Act.eval, Array.getD_eq_getD_getElem?, List.getElem?_toArray, List.getElem?_cons_succ, List.getElem?_cons_zero, Option.getD_some, List.setIfInBounds_toArray, List.set_cons_zero, List.set_cons_succ])
    | (refine wk_assign _ (by first | exact wanted_none rfl | exact wanted_yes _ _ rfl rfl) rfl ?_; simp only [Act.put, Act.eval, Array.getD_eq_getD_getElem?, List.getElem?_toArray, List.getElem?_cons_succ, List.getElem?_cons_zero, Option.getD_some, List.setIfInBounds_toArray, List.set_cons_zero, List.set_cons_succ])
    | (refine wk_pickt _ _ _ _ (by first | exact wanted_none rfl | exact wanted_yes _ _ rfl rfl) rfl rfl rfl ?_; simp only [Act.put, Act.eval, Array.getD_eq_getD_getElem?, List.getElem?_toArray, List.getElem?_cons_succ, List.getElem?_cons_zero, Option.getD_some, List.setIfInBounds_toArray, List.set_cons_zero, List.set_cons_succ])
    | (refine wk_pickf _ _ _ _ (by first | exact wanted_none rfl | exact wanted_yes _ _ rfl rfl) rfl rfl rfl ?_; simp only [Act.put, Act.eval, Array.getD_eq_getD_getElem?, List.getElem?_toArray, List.getElem?_cons_succ, List.getElem?_cons_zero, Option.getD_some, List.setIfInBounds_toArray, List.set_cons_zero, List.set_cons_succ])
    | (refine wk_skip (wanted_not _ true false rfl rfl rfl) ?_; simp only [Act.put, List.setIfInBounds_toArray, List.set_cons_zero, List.set_cons_succ])
    | (refine wk_skip (wanted_not _ false true rfl rfl rfl) ?_; simp only [Act.put, List.setIfInBounds_toArray, List.set_cons_zero, List.set_cons_succ])
    | (refine wk_skip (wanted_undef _ _ rfl rfl) ?_; simp only [Act.put, List.setIfInBounds_toArray, List.set_cons_zero, List.set_cons_succ])
    | (refine wk_not true _ _ (by first | exact wanted_none rfl | exact wanted_yes _ _ rfl rfl) rfl rfl ?_; simp only [Act.put, List.setIfInBounds_toArray, List.set_cons_zero, List.set_cons_succ])
    | (refine wk_not false _ _ (by first | exact wanted_none rfl | exact wanted_yes _ _ rfl rfl) rfl rfl ?_; simp only [Act.put, List.setIfInBounds_toArray, List.set_cons_zero, List.set_cons_succ]))
  refine wk_addk .i64 _ _ _ _ _ _ _ (by first | exact wanted_none rfl | exact wanted_yes _ _ rfl rfl) rfl rfl rfl (HADD.out) ?_
  simp only [Act.put, List.setIfInBounds_toArray, List.set_cons_zero, List.set_cons_succ]
  refine wk_cmp_int .gtr (false) _ _ _ _ _ _ _ (by kernel_rfl) rfl rfl rfl (HGT.out) ?_
  simp only [Act.put, List.setIfInBounds_toArray, List.set_cons_zero, List.set_cons_succ]
  repeat (first
    | (refine wk_move _ (by first | exact wanted_none rfl | exact wanted_yes _ _ rfl rfl) rfl ?_; simp only [Act.put, Act.eval, Array.getD_eq_getD_getElem?, List.getElem?_toArray, List.getElem?_cons_succ, List.getElem?_cons_zero, Option.getD_some, List.setIfInBounds_toArray, List.set_cons_zero, List.set_cons_succ])
    | (refine wk_assign _ (by first | exact wanted_none rfl | exact wanted_yes _ _ rfl rfl) rfl ?_; simp only [Act.put, Act.eval, Array.getD_eq_getD_getElem?, List.getElem?_toArray, List.getElem?_cons_succ, List.getElem?_cons_zero, Option.getD_some, List.setIfInBounds_toArray, List.set_cons_zero, List.set_cons_succ])
    | (refine wk_pickt _ _ _ _ (by first | exact wanted_none rfl | exact wanted_yes _ _ rfl rfl) rfl rfl rfl ?_; simp only [Act.put, Act.eval, Array.getD_eq_getD_getElem?, List.getElem?_toArray, List.getElem?_cons_succ, List.getElem?_cons_zero, Option.getD_some, List.setIfInBounds_toArray, List.set_cons_zero, List.set_cons_succ])
    | (refine wk_pickf _ _ _ _ (by first | exact wanted_none rfl | exact wanted_yes _ _ rfl rfl) rfl rfl rfl ?_; simp only [Act.put, Act.eval, Array.getD_eq_getD_getElem?, List.getElem?_toArray, List.getElem?_cons_succ, List.getElem?_cons_zero, Option.getD_some, List.setIfInBounds_toArray, List.set_cons_zero, List.set_cons_succ])
    | (refine wk_skip (wanted_not _ true false rfl rfl rfl) ?_; simp only [Act.put, List.setIfInBounds_toArray, List.set_cons_zero, List.set_cons_succ])
    | (refine wk_skip (wanted_not _ false true rfl rfl rfl) ?_; simp only [Act.put, List.setIfInBounds_toArray, List.set_cons_zero, List.set_cons_succ])
    | (refine wk_skip (wanted_undef _ _ rfl rfl) ?_; simp only [Act.put, List.setIfInBounds_toArray, List.set_cons_zero, List.set_cons_succ])
    | (refine wk_not true _ _ (by first | exact wanted_none rfl | exact wanted_yes _ _ rfl rfl) rfl rfl ?_; simp only [Act.put, List.setIfInBounds_toArray, List.set_cons_zero, List.set_cons_succ])
    | (refine wk_not false _ _ (by first | exact wanted_none rfl | exact wanted_yes _ _ rfl rfl) rfl rfl ?_; simp only [Act.put, List.setIfInBounds_toArray, List.set_cons_zero, List.set_cons_succ]))
  refine wk_nil ?_
  intro w' hC
  have R2 := Lib.hid (R1.out.since hC)
  clear hC R1
  have c256 : w'.cell? ⟨g1, 256, none⟩ = some (.int .i64 (i : Int)) := R2.out.cell 1 256 rfl HGA.out
  have f256 := R2.out.free 1 256 rfl
  go_wp2_with fail
  go_loop [7, 6] (fun x acc => ∃ (j : Nat) (z : Int), j ≤ n ∧ z = (j : Int) - 1 ∧ x = .int .i64 z ∧ acc = .int .u64 (num (seg b (i + j) (n - j)) : Int)) (fun x _ => (intOf x + 1).toNat)
  case atStart => exact ⟨n, _, Nat.le_refl _, rfl, rfl, by simp [seg, num]⟩
  case round =>
    obtain ⟨j, z, hj, hz, rfl, rfl⟩ := hrel
    by_cases h0 : 0 < j
    · obtain ⟨q, rfl⟩ : ∃ q, j = q + 1 := ⟨j - 1, by omega⟩
      have hzq : z = (q : Int) := by omega
      subst hzq
      have hcq : w'.cell? ⟨g1, i + q, none⟩ = some (.int .u8 ((b.getD (i + q) 0).toNat : Int)) := R2.out.cell 1 (i + q) rfl (HG.out (i + q) (by omega))
      have hns := HNS.out q (by omega)
      have hnl := HNL.out (q + 1) (n - (q + 1)) (by omega)
      have hnl2 := HNL.out q (n - q) (by omega)
      obtain ⟨x, hx⟩ : ∃ x, x = num (seg b (i + (q + 1)) (n - (q + 1))) := ⟨_, rfl⟩
      obtain ⟨y, hy⟩ : ∃ y, y = (b.getD (i + q) 0).toNat := ⟨_, rfl⟩
      have hy8 : y < 256 := by rw [hy]; exact UInt8.toNat_lt _
      rw [← hx] at hns ⊢
      rw [← hy] at hns hcq
      have hsum : y + 256 * x < 18446744073709551616 := by
        rw [← hns]
        exact Nat.lt_of_lt_of_le hnl2 (Nat.le_trans (Nat.pow_le_pow_right (by decide) (by omega : n - q ≤ 8)) (by decide))
      have HNSQ := Lib.hid hns
      have hx64 : 256 * x < 18446744073709551616 := by omega
      have HX := Lib.hid hx
      clear hns hnl hnl2 hx hy hz
      go_wp2_with fail
      go_round
      case rel => exact ⟨q, _, by omega, rfl, by go_num, by rw [HNSQ.out]; go_num⟩
      case measure => simp [intOf]
    · obtain rfl : j = 0 := by omega
      have hz1 : z = -1 := by omega
      subst hz1
      clear hz h0 hj c256 f256
      have hc := R2.out.cell 1 256 rfl (HGA.out)
      have hf := R2.out.free 1 256 rfl
      have q0 := Lib.hid (R2.out.setCell 1 256 (.int .i64 ((i : Int) + (n : Int))) rfl)
      go_upto_region 9 with (fail)
      have q1 := q0.out
      clear q0 hc hf
      obtain ⟨W3, hW⟩ : ∃ W, W = w'.setCell ⟨g1, 256, none⟩ (.int .i64 ((i : Int) + (n : Int))) := ⟨_, rfl⟩
      rw [← hW] at q1 ⊢
      clear hW
      simp only [List.set_cons_zero, List.set_cons_succ] at q1
      have R3 := Lib.hid q1
      clear q1
      rw [HSET.out] at R3
      refine wk_region_tail 3 (by kernel_rfl) (by kernel_rfl) ?_
      simp only [List.take_succ_cons, List.take_zero, List.drop_succ_cons, List.drop_zero]
      repeat (first
        | (refine wk_move _ (by first | exact wanted_none rfl | exact wanted_yes _ _ rfl rfl) rfl ?_; simp only [Act.put, Act.eval, Array.getD_eq_getD_getElem?, List.getElem?_toArray, List.getElem?_cons_succ, List.getElem?_cons_zero, Option.getD_some, List.setIfInBounds_toArray, List.set_cons_zero, List.set_cons_succ])
        | (refine wk_assign _ (by first | exact wanted_none rfl | exact wanted_yes _ _ rfl rfl) rfl ?_; simp only [Act.put, Act.eval, Array.getD_eq_getD_getElem?, List.getElem?_toArray, List.getElem?_cons_succ, List.getElem?_cons_zero, Option.getD_some, List.setIfInBounds_toArray, List.set_cons_zero, List.set_cons_succ])
        | (refine wk_pickt _ _ _ _ (by first | exact wanted_none rfl | exact wanted_yes _ _ rfl rfl) rfl rfl rfl ?_; simp only [Act.put, Act.eval, Array.getD_eq_getD_getElem?, List.getElem?_toArray, List.getElem?_cons_succ, List.getElem?_cons_zero, Option.getD_some, List.setIfInBounds_toArray, List.set_cons_zero, List.set_cons_succ])
        | (refine wk_pickf _ _ _ _ (by first | exact wanted_none rfl | exact wanted_yes _ _ rfl rfl) rfl rfl rfl ?_; simp only [Act.put, Act.eval, Array.getD_eq_getD_getElem?, List.getElem?_toArray, List.getElem?_cons_succ, List.getElem?_cons_zero, Option.getD_some, List.setIfInBounds_toArray, List.set_cons_zero, List.set_cons_succ])
        | (refine wk_skip (wanted_not _ true false rfl rfl rfl) ?_; simp only [Act.put, List.setIfInBounds_toArray, List.set_cons_zero, List.set_cons_succ])
        | (refine wk_skip (wanted_not _ false true rfl rfl rfl) ?_; simp only [Act.put, List.setIfInBounds_toArray, List.set_cons_zero, List.set_cons_succ])
        | (refine wk_skip (wanted_undef _ _ rfl rfl) ?_; simp only [Act.put, List.setIfInBounds_toArray, List.set_cons_zero, List.set_cons_succ])
        | (refine wk_not true _ _ (by first | exact wanted_none rfl | exact wanted_yes _ _ rfl rfl) rfl rfl ?_; simp only [Act.put, List.setIfInBounds_toArray, List.set_cons_zero, List.set_cons_succ])
        | (refine wk_not false _ _ (by first | exact wanted_none rfl | exact wanted_yes _ _ rfl rfl) rfl rfl ?_; simp only [Act.put, List.setIfInBounds_toArray, List.set_cons_zero, List.set_cons_succ]))
      refine wk_load_row 98 _ g1 98 D (0, 0) _ (by kernel_rfl) rfl rfl (fun w' hC => hC.row (R3.out.get 1 rfl)) Tryd.underlying98 rfl (by rw [HDS.out]; exact sizeRow) ?_
      simp only [Act.put, List.setIfInBounds_toArray, List.set_cons_zero, List.set_cons_succ]
      repeat (first
        | (refine wk_move _ (by first | exact wanted_none rfl | exact wanted_yes _ _ rfl rfl) rfl ?_; simp only [Act.put, Act.eval, Array.getD_eq_getD_getElem?, List.getElem?_toArray, List.getElem?_cons_succ, List.getElem?_cons_zero, Option.getD_some, List.setIfInBounds_toArray, List.set_cons_zero, List.set_cons_succ])
        | (refine wk_assign _ (by first | exact wanted_none rfl | exact wanted_yes _ _ rfl rfl) rfl ?_; simp only [Act.put, Act.eval, Array.getD_eq_getD_getElem?, List.getElem?_toArray, List.getElem?_cons_succ, List.getElem?_cons_zero, Option.getD_some, List.setIfInBounds_toArray, List.set_cons_zero, List.set_cons_succ])
        | (refine wk_pickt _ _ _ _ (by first | exact wanted_none rfl | exact wanted_yes _ _ rfl rfl) rfl rfl rfl ?_; simp only [Act.put, Act.eval, Array.getD_eq_getD_getElem?, List.getElem?_toArray, List.getElem?_cons_succ, List.getElem?_cons_zero, Option.getD_some, List.setIfInBounds_toArray, List.set_cons_zero, List.set_cons_succ])
        | (refine wk_pickf _ _ _ _ (by first | exact wanted_none rfl | exact wanted_yes _ _ rfl rfl) rfl rfl rfl ?_; simp only [Act.put, Act.eval, Array.getD_eq_getD_getElem?, List.getElem?_toArray, List.getElem?_cons_succ, List.getElem?_cons_zero, Option.getD_some, List.setIfInBounds_toArray, List.set_cons_zero, List.set_cons_succ])
        | (refine wk_skip (wanted_not _ true false rfl rfl rfl) ?_; simp only [Act.put, List.setIfInBounds_toArray, List.set_cons_zero, List.set_cons_succ])
        | (refine wk_skip (wanted_not _ false true rfl rfl rfl) ?_; simp only [Act.put, List.setIfInBounds_toArray, List.set_cons_zero, List.set_cons_succ])
        | (refine wk_skip (wanted_undef _ _ rfl rfl) ?_; simp only [Act.put, List.setIfInBounds_toArray, List.set_cons_zero, List.set_cons_succ])
        | (refine wk_not true _ _ (by first | exact wanted_none rfl | exact wanted_yes _ _ rfl rfl) rfl rfl ?_; simp only [Act.put, List.setIfInBounds_toArray, List.set_cons_zero, List.set_cons_succ])
        | (refine wk_not false _ _ (by first | exact wanted_none rfl | exact wanted_yes _ _ rfl rfl) rfl rfl ?_; simp only [Act.put, List.setIfInBounds_toArray, List.set_cons_zero, List.set_cons_succ]))
      refine wk_nil ?_
      intro w' hC
      have R4 := Lib.hid (R3.out.since hC)
      clear hC
      go_wp2_with (refine wpList_store_row rfl 98 _ _ rfl g2 D rfl rfl 98 _ (R4.out.get 0 rfl) (by rw [HDS.out]; exact sizeRow) (by rw [HDS.out, HZS.out]) HDO.out ?_)
      have R5 := Lib.hid (R4.out.setRow 0 D rfl)
      refine bodyPost_ret (v := .tuple #[.int .u64 (num (seg b i n) : Int), .agg D]) (results_slot_cell rfl _ _ g2 98 _ (0, 0) _ _ rfl rfl (R5.out.get 0 rfl) Tryd.underlying98 rfl (by rw [HDS.out]; exact sizeRow)) rfl ⟨rfl, R5.out.below⟩
theorem taken_no (b : List UInt8) (hb : b.length = 256) (i n : Nat) (wi : World) :
    Calls Tryd.prog 50 #[.agg (rowC b i false), .int .i64 (n : Int)] wi fun e w' => e = .returned (.tuple #[.int .u64 0, .agg (rowC zeroBlk 0 false)]) ∧ Below wi.heap.size wi w' := by
  obtain ⟨C, hC⟩ : ∃ C, C = rowC b i false := ⟨_, rfl⟩
  obtain ⟨Z, hZ⟩ : ∃ Z, Z = rowC zeroBlk 0 false := ⟨_, rfl⟩
  have HZ : Hid ((Tryd.prog.info? 98).bind (·.zero) = some (.agg Z)) := Lib.hid (by rw [hZ]; exact zeroRowI)
  have HZS : Hid (Z.size = 258) := Lib.hid (by rw [hZ]; exact size_rowC _ length_zeroBlk _ _)
  have HZO : Hid (Z.all (·.oneCell') = true) := Lib.hid (by rw [hZ]; exact rowC_one _ _ _)
  have HZB : Hid (Tryd.prog.built 98 [] = some Z) := Lib.hid (by rw [hZ]; exact builtRowZ)
  have HGF : Hid (C[257]? = some (.bool false)) := Lib.hid (by rw [hC]; exact rowC_fine b hb _ _)
  have q1 := ((Rows.start wi).alloc C 98).alloc Z 98
  obtain ⟨g1, hg1⟩ : ∃ g, g = wi.heap.size := ⟨_, rfl⟩
  obtain ⟨g2, hg2⟩ : ∃ g, g = (wi.alloc (.cells C 98)).heap.size := ⟨_, rfl⟩
  rw [← hg1, ← hg2] at q1
  have G1 := Lib.hid hg1
  have G2 := Lib.hid hg2
  have Q1 := Lib.hid q1
  rw [← hC, ← hZ]
  clear hg1 hg2 q1 hb hC hZ
  go_enter Tryd.func50, Tryd.ntmps50
  go_upto_region 1 with (refine wpList_alloc_row rfl 98 rfl _ HZ.out ?_)
  have q1 := Q1.out
  obtain ⟨W1, hW⟩ : ∃ W, W = (wi.alloc (.cells C 98)).alloc (.cells Z 98) := ⟨_, rfl⟩
  rw [← hW] at q1 ⊢
  simp only [Act.put, List.setIfInBounds_toArray, List.set_cons_zero, List.set_cons_succ]
  rw [← G2.out, ← G1.out]
  have R1 := Lib.hid q1
  clear hW q1 Q1 G1 G2
  refine wk_plain_since ?_
  refine wk_field 98 _ 4 257 0 _ _ _ (by first | exact wanted_none rfl | exact wanted_yes _ _ rfl rfl) rfl (by kernel_rfl) (by kernel_rfl) (by kernel_rfl) rfl ?_
  simp only [Act.put, List.setIfInBounds_toArray, List.set_cons_zero, List.set_cons_succ, Nat.zero_add]
  refine wk_load1 _ _ _ _ _ rfl (by kernel_rfl) rfl rfl (fun w' hC => hC.cell (R1.out.cell 1 257 rfl HGF.out)) Tryd.underlying4 ?_
  simp only [Act.put, List.setIfInBounds_toArray, List.set_cons_zero, List.set_cons_succ]
  repeat (first
    | (refine wk_move _ (by first | exact wanted_none rfl | exact wanted_yes _ _ rfl rfl) rfl ?_; simp only [Act.put, Act.eval, Array.getD_eq_getD_getElem?, List.getElem?_toArray, List.getElem?_cons_succ, List.getElem?_cons_zero, Option.getD_some, List.setIfInBounds_toArray, List.set_cons_zero, List.set_cons_succ])
    | (refine wk_assign _ (by first | exact wanted_none rfl | exact wanted_yes _ _ rfl rfl) rfl ?_; simp only [Act.put, Act.eval, Array.getD_eq_getD_getElem?, List.getElem?_toArray, List.getElem?_cons_succ, List.getElem?_cons_zero, Option.getD_some, List.setIfInBounds_toArray, List.set_cons_zero, List.set_cons_succ])
    | (refine wk_pickt _ _ _ _ (by first | exact wanted_none rfl | exact wanted_yes _ _ rfl rfl) rfl rfl rfl ?_; simp only [Act.put, Act.eval, Array.getD_eq_getD_getElem?, List.getElem?_toArray, List.getElem?_cons_succ, List.getElem?_cons_zero, Option.getD_some, List.setIfInBounds_toArray, List.set_cons_zero, List.set_cons_succ])
    | (refine wk_pickf _ _ _ _ (by first | exact wanted_none rfl | exact wanted_yes _ _ rfl rfl) rfl rfl rfl ?_; simp only [Act.put, Act.eval, Array.getD_eq_getD_getElem?, List.getElem?_toArray, List.getElem?_cons_succ, List.getElem?_cons_zero, Option.getD_some, List.setIfInBounds_toArray, List.set_cons_zero, List.set_cons_succ])
    | (refine wk_skip (wanted_not _ true false rfl rfl rfl) ?_; simp only [Act.put, List.setIfInBounds_toArray, List.set_cons_zero, List.set_cons_succ])
    | (refine wk_skip (wanted_not _ false true rfl rfl rfl) ?_; simp only [Act.put, List.setIfInBounds_toArray, List.set_cons_zero, List.set_cons_succ])
    | (refine wk_skip (wanted_undef _ _ rfl rfl) ?_; simp only [Act.put, List.setIfInBounds_toArray, List.set_cons_zero, List.set_cons_succ])
    | (refine wk_not true _ _ (by first | exact wanted_none rfl | exact wanted_yes _ _ rfl rfl) rfl rfl ?_; simp only [Act.put, List.setIfInBounds_toArray, List.set_cons_zero, List.set_cons_succ])
    | (refine wk_not false _ _ (by first | exact wanted_none rfl | exact wanted_yes _ _ rfl rfl) rfl rfl ?_; simp only [Act.put, List.setIfInBounds_toArray, List.set_cons_zero, List.set_cons_succ]))
  refine wk_nil ?_
  intro w' hC
  have R3 := Lib.hid (R1.out.since hC)
  clear hC R1
  go_upto_region 2 with (fail)
  refine wk_plain_tail 2 ?_
  simp only [List.take_succ_cons, List.take_zero, List.drop_succ_cons, List.drop_zero]
  refine wk_build 98 _ [] Z (by first | exact wanted_none rfl | exact wanted_yes _ _ rfl rfl) rfl (by simp) HZB.out ?_
  simp only [Act.put, List.setIfInBounds_toArray, List.set_cons_zero, List.set_cons_succ]
  repeat (first
    | (refine wk_move _ (by first | exact wanted_none rfl | exact wanted_yes _ _ rfl rfl) rfl ?_; simp only [Act.put, Act.eval, Array.getD_eq_getD_getElem?, List.getElem?_toArray, List.getElem?_cons_succ, List.getElem?_cons_zero, Option.getD_some, List.setIfInBounds_toArray, List.set_cons_zero, List.set_cons_succ])
    | (refine wk_assign _ (by first | exact wanted_none rfl | exact wanted_yes _ _ rfl rfl) rfl ?_; simp only [Act.put, Act.eval, Array.getD_eq_getD_getElem?, List.getElem?_toArray, List.getElem?_cons_succ, List.getElem?_cons_zero, Option.getD_some, List.setIfInBounds_toArray, List.set_cons_zero, List.set_cons_succ])
    | (refine wk_pickt _ _ _ _ (by first | exact wanted_none rfl | exact wanted_yes _ _ rfl rfl) rfl rfl rfl ?_; simp only [Act.put, Act.eval, Array.getD_eq_getD_getElem?, List.getElem?_toArray, List.getElem?_cons_succ, List.getElem?_cons_zero, Option.getD_some, List.setIfInBounds_toArray, List.set_cons_zero, List.set_cons_succ])
    | (refine wk_pickf _ _ _ _ (by first | exact wanted_none rfl | exact wanted_yes _ _ rfl rfl) rfl rfl rfl ?_; simp only [Act.put, Act.eval, Array.getD_eq_getD_getElem?, List.getElem?_toArray, List.getElem?_cons_succ, List.getElem?_cons_zero, Option.getD_some, List.setIfInBounds_toArray, List.set_cons_zero, List.set_cons_succ])
    | (refine wk_skip (wanted_not _ true false rfl rfl rfl) ?_; simp only [Act.put, List.setIfInBounds_toArray, List.set_cons_zero, List.set_cons_succ])
    | (refine wk_skip (wanted_not _ false true rfl rfl rfl) ?_; simp only [Act.put, List.setIfInBounds_toArray, List.set_cons_zero, List.set_cons_succ])
    | (refine wk_skip (wanted_undef _ _ rfl rfl) ?_; simp only [Act.put, List.setIfInBounds_toArray, List.set_cons_zero, List.set_cons_succ])
    | (refine wk_not true _ _ (by first | exact wanted_none rfl | exact wanted_yes _ _ rfl rfl) rfl rfl ?_; simp only [Act.put, List.setIfInBounds_toArray, List.set_cons_zero, List.set_cons_succ])
    | (refine wk_not false _ _ (by first | exact wanted_none rfl | exact wanted_yes _ _ rfl rfl) rfl rfl ?_; simp only [Act.put, List.setIfInBounds_toArray, List.set_cons_zero, List.set_cons_succ]))
  refine wk_nil ?_
  intro w' hC
  have R4 := Lib.hid (R3.out.since hC)
  clear hC
  go_wp2_with (refine wpList_store_row rfl 98 _ _ rfl g2 Z rfl rfl 98 _ (R4.out.get 0 rfl) (by rw [HZS.out]; exact sizeRow) rfl HZO.out ?_)
  have R5 := Lib.hid (R4.out.setRow 0 Z rfl)
  refine bodyPost_ret (v := .tuple #[.int .u64 0, .agg Z]) (results_slot_cell rfl _ _ g2 98 _ (0, 0) _ _ rfl rfl (R5.out.get 0 rfl) Tryd.underlying98 rfl (by rw [HZS.out]; exact sizeRow)) rfl ⟨rfl, R5.out.below⟩
/-- What is taken of a row. -/
theorem taken_all (b : List UInt8) (hb : b.length = 256) (i n : Nat) (f : Bool) (hn : n = 1 ∨ n = 2 ∨ n = 4 ∨ n = 8) (hf : i + n ≤ 252) (w : World) :
    Calls Tryd.prog 50 #[.agg (rowS b i f), .int .i64 (n : Int)] w fun e w' => e = .returned (.tuple #[.int .u64 (readV b i n f : Int), .agg (rowS b (i + n) f)]) ∧ Below w.heap.size w w' := by
  cases f with
  | true => exact taken_ok b hb i n hn hf w
  | false => exact taken_no zeroBlk length_zeroBlk 0 n w
theorem length_zs256 : zeroBlk.length = 256 := length_zeroBlk
set_option maxHeartbeats 1000000 in
theorem refopen_any (b : List UInt8) (hb : b.length = 256) (m : UInt8) (wi : World) :
    Calls Tryd.prog 51 #[.agg (blk b), .int .u8 (m.toNat : Int)] wi fun e w' => e = .returned (.agg (rowS b 1 (fineB b m))) ∧ Below wi.heap.size wi w' := by
  obtain ⟨Z, hZ⟩ : ∃ Z, Z = rowC zeroBlk 0 false := ⟨_, rfl⟩
  have HZ : Hid ((Tryd.prog.info? 98).bind (·.zero) = some (.agg Z)) := Lib.hid (by rw [hZ]; exact zeroRowI)
  have HZS : Hid (Z.size = 258) := Lib.hid (by rw [hZ]; exact size_rowC _ length_zeroBlk _ _)
  have HZO : Hid (Z.all (·.oneCell') = true) := Lib.hid (by rw [hZ]; exact rowC_one _ _ _)
  have HZB : Hid (Tryd.prog.built 98 [] = some Z) := Lib.hid (by rw [hZ]; exact builtRowZ)
  obtain ⟨D, hD⟩ : ∃ D, D = rowC b 1 true := ⟨_, rfl⟩
  have HDS : Hid (D.size = 258) := Lib.hid (by rw [hD]; exact size_rowC b hb _ _)
  have HDO : Hid (D.all (·.oneCell') = true) := Lib.hid (by rw [hD]; exact rowC_one _ _ _)
  have HDD := Lib.hid hD
  have HB0 : Hid ((blk b).size = 256) := Lib.hid (by rw [size_blk, hb])
  have hlt : 0 < b.length := by omega
  have H0 : Hid ((blk b)[0]? = some (.int .u8 (b[0].toNat : Int))) := Lib.hid (by rw [blk_get b 0 hlt]; rfl)
  have HGOOD := Lib.hid (fun w' => refgood_any b hb w')
  obtain ⟨z, hz⟩ : ∃ z, z = decide (sealB b = b) := ⟨_, rfl⟩
  have HF : Hid (fineB b m = (z && ((b[0].toNat : Int) == (m.toNat : Int)))) := Lib.hid (by
    unfold fineB
    rw [List.getElem?_eq_getElem hlt, hz]
    congr 1
    rw [Bool.eq_iff_iff]
    simp only [decide_eq_true_eq, Option.some.injEq, beq_iff_eq]
    constructor
    · intro h; rw [h]
    · intro h; exact UInt8.toNat_inj.1 (by omega))
  rw [← hz] at HGOOD
  obtain ⟨x, hx⟩ : ∃ x, x = b[0].toNat := ⟨_, rfl⟩
  rw [← hx] at HF H0
  obtain ⟨y, hy⟩ : ∃ y, ((x : Int) == (m.toNat : Int)) = y := ⟨_, rfl⟩
  rw [hy] at HF
  have HY : Hid (cmpInt .neq (x : Int) (m.toNat : Int) = some (!y)) := Lib.hid (by
    rw [← hy]
    by_cases h : (x : Int) = (m.toNat : Int) <;> simp [cmpInt, h, bne])
  have HLB := Lib.hid hb
  have q1 := ((Rows.start wi).alloc (blk b) 52).alloc Z 98
  obtain ⟨g1, hg1⟩ : ∃ g, g = wi.heap.size := ⟨_, rfl⟩
  obtain ⟨g2, hg2⟩ : ∃ g, g = (wi.alloc (.cells (blk b) 52)).heap.size := ⟨_, rfl⟩
  rw [← hg1, ← hg2] at q1
  have G1 := Lib.hid hg1
  have G2 := Lib.hid hg2
  have Q1 := Lib.hid q1
  have HZZ := Lib.hid hZ
  clear hg1 hg2 q1 hb hZ hD hz hlt hx hy
  have HRES : Hid (rowS b 1 (fineB b m) = if z && y then D else Z) := Lib.hid (by rw [HF.out, HDD.out, HZZ.out]; rfl)
  rw [HRES.out]
  generalize rowS b 1 (fineB b m) = RS at HRES
  clear HF HRES
  go_enter Tryd.func51, Tryd.ntmps51
  go_upto_region 1 with (refine wpList_alloc_row rfl 98 rfl _ HZ.out ?_)
  have q1 := Q1.out
  obtain ⟨W1, hW⟩ : ∃ W, W = (wi.alloc (.cells (blk b) 52)).alloc (.cells Z 98) := ⟨_, rfl⟩
  rw [← hW] at q1 ⊢
  simp only [Act.put, List.setIfInBounds_toArray, List.set_cons_zero, List.set_cons_succ]
  rw [← G2.out, ← G1.out]
  have R1 := Lib.hid q1
  clear hW q1 Q1 G1 G2
  refine wk_plain_since ?_
  refine wk_load_row 52 _ g1 52 (blk b) (0, 0) _ (by kernel_rfl) rfl rfl (fun w' hC => hC.row (R1.out.get 1 rfl)) Tryd.underlying52 rfl (by rw [HB0.out]; exact sizeB) ?_
  simp only [Act.put, List.setIfInBounds_toArray, List.set_cons_zero, List.set_cons_succ]
  refine wk_call 74 _ _ _ _ _ (by kernel_rfl) rfl Tryd.func74 rfl (by kernel_rfl) (fun w' hC => hC.call (HGOOD.out w')) ?_
  simp only [Act.put, List.setIfInBounds_toArray, List.set_cons_zero, List.set_cons_succ]
  cases z with
  | false =>
    repeat (first
      | (refine wk_move _ (by first | exact wanted_none rfl | exact wanted_yes _ _ rfl rfl) rfl ?_; simp only [Act.put, Act.eval, Array.getD_eq_getD_getElem?, List.getElem?_toArray, List.getElem?_cons_succ, List.getElem?_cons_zero, Option.getD_some, List.setIfInBounds_toArray, List.set_cons_zero, List.set_cons_succ])
      | (refine wk_assign _ (by first | exact wanted_none rfl | exact wanted_yes _ _ rfl rfl) rfl ?_; simp only [Act.put, Act.eval, Array.getD_eq_getD_getElem?, List.getElem?_toArray, List.getElem?_cons_succ, List.getElem?_cons_zero, Option.getD_some, List.setIfInBounds_toArray, List.set_cons_zero, List.set_cons_succ])
      | (refine wk_pickt _ _ _ _ (by first | exact wanted_none rfl | exact wanted_yes _ _ rfl rfl) rfl rfl rfl ?_; simp only [Act.put, Act.eval, Array.getD_eq_getD_getElem?, List.getElem?_toArray, List.getElem?_cons_succ, List.getElem?_cons_zero, Option.getD_some, List.setIfInBounds_toArray, List.set_cons_zero, List.set_cons_succ])
      | (refine wk_pickf _ _ _ _ (by first | exact wanted_none rfl | exact wanted_yes _ _ rfl rfl) rfl rfl rfl ?_; simp only [Act.put, Act.eval, Array.getD_eq_getD_getElem?, List.getElem?_toArray, List.getElem?_cons_succ, List.getElem?_cons_zero, Option.getD_some, List.setIfInBounds_toArray, List.set_cons_zero, List.set_cons_succ])
      | (refine wk_skip (wanted_not _ true false rfl rfl rfl) ?_; simp only [Act.put, List.setIfInBounds_toArray, List.set_cons_zero, List.set_cons_succ])
      | (refine wk_skip (wanted_not _ false true rfl rfl rfl) ?_; simp only [Act.put, List.setIfInBounds_toArray, List.set_cons_zero, List.set_cons_succ])
      | (refine wk_skip (wanted_undef _ _ rfl rfl) ?_; simp only [Act.put, List.setIfInBounds_toArray, List.set_cons_zero, List.set_cons_succ])
      | (refine wk_not true _ _ (by first | exact wanted_none rfl | exact wanted_yes _ _ rfl rfl) rfl rfl ?_; simp only [Act.put, List.setIfInBounds_toArray, List.set_cons_zero, List.set_cons_succ])
      | (refine wk_not false _ _ (by first | exact wanted_none rfl | exact wanted_yes _ _ rfl rfl) rfl rfl ?_; simp only [Act.put, List.setIfInBounds_toArray, List.set_cons_zero, List.set_cons_succ]))
    refine wk_nil ?_
    intro w' hC
    have R3 := Lib.hid (R1.out.since hC)
    clear hC R1
    go_upto_region 2 with (fail)
    refine wk_plain_tail 1 ?_
    simp only [List.take_succ_cons, List.take_zero, List.drop_succ_cons, List.drop_zero]
    refine wk_build 98 _ [] Z (by first | exact wanted_none rfl | exact wanted_yes _ _ rfl rfl) rfl (by simp) HZB.out ?_
    simp only [Act.put, List.setIfInBounds_toArray, List.set_cons_zero, List.set_cons_succ]
    repeat (first
      | (refine wk_move _ (by first | exact wanted_none rfl | exact wanted_yes _ _ rfl rfl) rfl ?_; simp only [Act.put, Act.eval, Array.getD_eq_getD_getElem?, List.getElem?_toArray, List.getElem?_cons_succ, List.getElem?_cons_zero, Option.getD_some, List.setIfInBounds_toArray, List.set_cons_zero, List.set_cons_succ])
      | (refine wk_assign _ (by first | exact wanted_none rfl | exact wanted_yes _ _ rfl rfl) rfl ?_; simp only [Act.put, Act.eval, Array.getD_eq_getD_getElem?, List.getElem?_toArray, List.getElem?_cons_succ, List.getElem?_cons_zero, Option.getD_some, List.setIfInBounds_toArray, List.set_cons_zero, List.set_cons_succ])
      | (refine wk_pickt _ _ _ _ (by first | exact wanted_none rfl | exact wanted_yes _ _ rfl rfl) rfl rfl rfl ?_; simp only [Act.put, Act.eval, Array.getD_eq_getD_getElem?, List.getElem?_toArray, List.getElem?_cons_succ, List.getElem?_cons_zero, Option.getD_some, List.setIfInBounds_toArray, List.set_cons_zero, List.set_cons_succ])
      | (refine wk_pickf _ _ _ _ (by first | exact wanted_none rfl | exact wanted_yes _ _ rfl rfl) rfl rfl rfl ?_; simp only [Act.put, Act.eval, Array.getD_eq_getD_getElem?, List.getElem?_toArray, List.getElem?_cons_succ, List.getElem?_cons_zero, Option.getD_some, List.setIfInBounds_toArray, List.set_cons_zero, List.set_cons_succ])
      | (refine wk_skip (wanted_not _ true false rfl rfl rfl) ?_; simp only [Act.put, List.setIfInBounds_toArray, List.set_cons_zero, List.set_cons_succ])
      | (refine wk_skip (wanted_not _ false true rfl rfl rfl) ?_; simp only [Act.put, List.setIfInBounds_toArray, List.set_cons_zero, List.set_cons_succ])
      | (refine wk_skip (wanted_undef _ _ rfl rfl) ?_; simp only [Act.put, List.setIfInBounds_toArray, List.set_cons_zero, List.set_cons_succ])
      | (refine wk_not true _ _ (by first | exact wanted_none rfl | exact wanted_yes _ _ rfl rfl) rfl rfl ?_; simp only [Act.put, List.setIfInBounds_toArray, List.set_cons_zero, List.set_cons_succ])
      | (refine wk_not false _ _ (by first | exact wanted_none rfl | exact wanted_yes _ _ rfl rfl) rfl rfl ?_; simp only [Act.put, List.setIfInBounds_toArray, List.set_cons_zero, List.set_cons_succ]))
    refine wk_nil ?_
    intro w' hC
    have R4 := Lib.hid (R3.out.since hC)
    clear hC
    go_wp2_with (refine wpList_store_row rfl 98 _ _ rfl g2 Z rfl rfl 98 _ (R4.out.get 0 rfl) (by rw [HZS.out]; exact sizeRow) rfl HZO.out ?_)
    have R5 := Lib.hid (R4.out.setRow 0 Z rfl)
    refine bodyPost_ret (v := .agg Z) (results_cell_row rfl _ _ g2 98 _ (0, 0) _ rfl (R5.out.get 0 rfl) Tryd.underlying98 rfl (by rw [HZS.out]; exact sizeRow)) rfl ⟨rfl, R5.out.below⟩
  | true =>
    repeat (first
      | (refine wk_move _ (by first | exact wanted_none rfl | exact wanted_yes _ _ rfl rfl) rfl ?_; simp only [Act.put, Act.eval, Array.getD_eq_getD_getElem?, List.getElem?_toArray, List.getElem?_cons_succ, List.getElem?_cons_zero, Option.getD_some, List.setIfInBounds_toArray, List.set_cons_zero, List.set_cons_succ])
      | (refine wk_assign _ (by first | exact wanted_none rfl | exact wanted_yes _ _ rfl rfl) rfl ?_; simp only [Act.put, Act.eval, Array.getD_eq_getD_getElem?, List.getElem?_toArray, List.getElem?_cons_succ, List.getElem?_cons_zero, Option.getD_some, List.setIfInBounds_toArray, List.set_cons_zero, List.set_cons_succ])
      | (refine wk_pickt _ _ _ _ (by first | exact wanted_none rfl | exact wanted_yes _ _ rfl rfl) rfl rfl rfl ?_; simp only [Act.put, Act.eval, Array.getD_eq_getD_getElem?, List.getElem?_toArray, List.getElem?_cons_succ, List.getElem?_cons_zero, Option.getD_some, List.setIfInBounds_toArray, List.set_cons_zero, List.set_cons_succ])
      | (refine wk_pickf _ _ _ _ (by first | exact wanted_none rfl | exact wanted_yes _ _ rfl rfl) rfl rfl rfl ?_; simp only [Act.put, Act.eval, Array.getD_eq_getD_getElem?, List.getElem?_toArray, List.getElem?_cons_succ, List.getElem?_cons_zero, Option.getD_some, List.setIfInBounds_toArray, List.set_cons_zero, List.set_cons_succ])
      | (refine wk_skip (wanted_not _ true false rfl rfl rfl) ?_; simp only [Act.put, List.setIfInBounds_toArray, List.set_cons_zero, List.set_cons_succ])
      | (refine wk_skip (wanted_not _ false true rfl rfl rfl) ?_; simp only [Act.put, List.setIfInBounds_toArray, List.set_cons_zero, List.set_cons_succ])
      | (refine wk_skip (wanted_undef _ _ rfl rfl) ?_; simp only [Act.put, List.setIfInBounds_toArray, List.set_cons_zero, List.set_cons_succ])
      | (refine wk_not true _ _ (by first | exact wanted_none rfl | exact wanted_yes _ _ rfl rfl) rfl rfl ?_; simp only [Act.put, List.setIfInBounds_toArray, List.set_cons_zero, List.set_cons_succ])
      | (refine wk_not false _ _ (by first | exact wanted_none rfl | exact wanted_yes _ _ rfl rfl) rfl rfl ?_; simp only [Act.put, List.setIfInBounds_toArray, List.set_cons_zero, List.set_cons_succ]))
    refine wk_index_arr _ _ _ _ g1 0 256 .i64 (wanted_yes _ _ rfl rfl) rfl Tryd.underlying52 sizeU8 rfl rfl (by omega) ?_
    simp only [Act.put, List.setIfInBounds_toArray, List.set_cons_zero, List.set_cons_succ]
    refine wk_load1 _ _ _ _ _ rfl (wanted_yes _ _ rfl rfl) rfl rfl (fun w' hC => hC.cell (R1.out.cell 1 0 rfl H0.out)) Tryd.underlying5 ?_
    simp only [Act.put, List.setIfInBounds_toArray, List.set_cons_zero, List.set_cons_succ]
    repeat (first
      | (refine wk_move _ (by first | exact wanted_none rfl | exact wanted_yes _ _ rfl rfl) rfl ?_; simp only [Act.put, Act.eval, Array.getD_eq_getD_getElem?, List.getElem?_toArray, List.getElem?_cons_succ, List.getElem?_cons_zero, Option.getD_some, List.setIfInBounds_toArray, List.set_cons_zero, List.set_cons_succ])
      | (refine wk_assign _ (by first | exact wanted_none rfl | exact wanted_yes _ _ rfl rfl) rfl ?_; simp only [Act.put, Act.eval, Array.getD_eq_getD_getElem?, List.getElem?_toArray, List.getElem?_cons_succ, List.getElem?_cons_zero, Option.getD_some, List.setIfInBounds_toArray, List.set_cons_zero, List.set_cons_succ])
      | (refine wk_pickt _ _ _ _ (by first | exact wanted_none rfl | exact wanted_yes _ _ rfl rfl) rfl rfl rfl ?_; simp only [Act.put, Act.eval, Array.getD_eq_getD_getElem?, List.getElem?_toArray, List.getElem?_cons_succ, List.getElem?_cons_zero, Option.getD_some, List.setIfInBounds_toArray, List.set_cons_zero, List.set_cons_succ])
      | (refine wk_pickf _ _ _ _ (by first | exact wanted_none rfl | exact wanted_yes _ _ rfl rfl) rfl rfl rfl ?_; simp only [Act.put, Act.eval, Array.getD_eq_getD_getElem?, List.getElem?_toArray, List.getElem?_cons_succ, List.getElem?_cons_zero, Option.getD_some, List.setIfInBounds_toArray, List.set_cons_zero, List.set_cons_succ])
      | (refine wk_skip (wanted_not _ true false rfl rfl rfl) ?_; simp only [Act.put, List.setIfInBounds_toArray, List.set_cons_zero, List.set_cons_succ])
      | (refine wk_skip (wanted_not _ false true rfl rfl rfl) ?_; simp only [Act.put, List.setIfInBounds_toArray, List.set_cons_zero, List.set_cons_succ])
      | (refine wk_skip (wanted_undef _ _ rfl rfl) ?_; simp only [Act.put, List.setIfInBounds_toArray, List.set_cons_zero, List.set_cons_succ])
      | (refine wk_not true _ _ (by first | exact wanted_none rfl | exact wanted_yes _ _ rfl rfl) rfl rfl ?_; simp only [Act.put, List.setIfInBounds_toArray, List.set_cons_zero, List.set_cons_succ])
      | (refine wk_not false _ _ (by first | exact wanted_none rfl | exact wanted_yes _ _ rfl rfl) rfl rfl ?_; simp only [Act.put, List.setIfInBounds_toArray, List.set_cons_zero, List.set_cons_succ]))
    refine wk_cmp_int .neq (!y) _ _ _ _ _ _ _ (wanted_yes _ _ rfl rfl) rfl rfl rfl HY.out ?_
    simp only [Act.put, List.setIfInBounds_toArray, List.set_cons_zero, List.set_cons_succ]
    cases y with
    | false =>
      repeat (first
        | (refine wk_move _ (by first | exact wanted_none rfl | exact wanted_yes _ _ rfl rfl) rfl ?_; simp only [Act.put, Act.eval, Array.getD_eq_getD_getElem?, List.getElem?_toArray, List.getElem?_cons_succ, List.getElem?_cons_zero, Option.getD_some, List.setIfInBounds_toArray, List.set_cons_zero, List.set_cons_succ])
        | (refine wk_assign _ (by first | exact wanted_none rfl | exact wanted_yes _ _ rfl rfl) rfl ?_; simp only [Act.put, Act.eval, Array.getD_eq_getD_getElem?, List.getElem?_toArray, List.getElem?_cons_succ, List.getElem?_cons_zero, Option.getD_some, List.setIfInBounds_toArray, List.set_cons_zero, List.set_cons_succ])
        | (refine wk_pickt _ _ _ _ (by first | exact wanted_none rfl | exact wanted_yes _ _ rfl rfl) rfl rfl rfl ?_; simp only [Act.put, Act.eval, Array.getD_eq_getD_getElem?, List.getElem?_toArray, List.getElem?_cons_succ, List.getElem?_cons_zero, Option.getD_some, List.setIfInBounds_toArray, List.set_cons_zero, List.set_cons_succ])
        | (refine wk_pickf _ _ _ _ (by first | exact wanted_none rfl | exact wanted_yes _ _ rfl rfl) rfl rfl rfl ?_; simp only [Act.put, Act.eval, Array.getD_eq_getD_getElem?, List.getElem?_toArray, List.getElem?_cons_succ, List.getElem?_cons_zero, Option.getD_some, List.setIfInBounds_toArray, List.set_cons_zero, List.set_cons_succ])
        | (refine wk_skip (wanted_not _ true false rfl rfl rfl) ?_; simp only [Act.put, List.setIfInBounds_toArray, List.set_cons_zero, List.set_cons_succ])
        | (refine wk_skip (wanted_not _ false true rfl rfl rfl) ?_; simp only [Act.put, List.setIfInBounds_toArray, List.set_cons_zero, List.set_cons_succ])
        | (refine wk_skip (wanted_undef _ _ rfl rfl) ?_; simp only [Act.put, List.setIfInBounds_toArray, List.set_cons_zero, List.set_cons_succ])
        | (refine wk_not true _ _ (by first | exact wanted_none rfl | exact wanted_yes _ _ rfl rfl) rfl rfl ?_; simp only [Act.put, List.setIfInBounds_toArray, List.set_cons_zero, List.set_cons_succ])
        | (refine wk_not false _ _ (by first | exact wanted_none rfl | exact wanted_yes _ _ rfl rfl) rfl rfl ?_; simp only [Act.put, List.setIfInBounds_toArray, List.set_cons_zero, List.set_cons_succ]))
      refine wk_nil ?_
      intro w' hC
      have R3 := Lib.hid (R1.out.since hC)
      clear hC R1
      go_upto_region 2 with (fail)
      refine wk_plain_tail 1 ?_
      simp only [List.take_succ_cons, List.take_zero, List.drop_succ_cons, List.drop_zero]
      refine wk_build 98 _ [] Z (by first | exact wanted_none rfl | exact wanted_yes _ _ rfl rfl) rfl (by simp) HZB.out ?_
      simp only [Act.put, List.setIfInBounds_toArray, List.set_cons_zero, List.set_cons_succ]
      repeat (first
        | (refine wk_move _ (by first | exact wanted_none rfl | exact wanted_yes _ _ rfl rfl) rfl ?_; simp only [Act.put, Act.eval, Array.getD_eq_getD_getElem?, List.getElem?_toArray, List.getElem?_cons_succ, List.getElem?_cons_zero, Option.getD_some, List.setIfInBounds_toArray, List.set_cons_zero, List.set_cons_succ])
        | (refine wk_assign _ (by first | exact wanted_none rfl | exact wanted_yes _ _ rfl rfl) rfl ?_; simp only [Act.put, Act.eval, Array.getD_eq_getD_getElem?, List.getElem?_toArray, List.getElem?_cons_succ, List.getElem?_cons_zero, Option.getD_some, List.setIfInBounds_toArray, List.set_cons_zero, List.set_cons_succ])
        | (refine wk_pickt _ _ _ _ (by first | exact wanted_none rfl | exact wanted_yes _ _ rfl rfl) rfl rfl rfl ?_; simp only [Act.put, Act.eval, Array.getD_eq_getD_getElem?, List.getElem?_toArray, List.getElem?_cons_succ, List.getElem?_cons_zero, Option.getD_some, List.setIfInBounds_toArray, List.set_cons_zero, List.set_cons_succ])
        | (refine wk_pickf _ _ _ _ (by first | exact wanted_none rfl | exact wanted_yes _ _ rfl rfl) rfl rfl rfl ?_; simp only [Act.put, Act.eval, Array.getD_eq_getD_getElem?, List.getElem?_toArray, List.getElem?_cons_succ, List.getElem?_cons_zero, Option.getD_some, List.setIfInBounds_toArray, List.set_cons_zero, List.set_cons_succ])
        | (refine wk_skip (wanted_not _ true false rfl rfl rfl) ?_; simp only [Act.put, List.setIfInBounds_toArray, List.set_cons_zero, List.set_cons_succ])
        | (refine wk_skip (wanted_not _ false true rfl rfl rfl) ?_; simp only [Act.put, List.setIfInBounds_toArray, List.set_cons_zero, List.set_cons_succ])
        | (refine wk_skip (wanted_undef _ _ rfl rfl) ?_; simp only [Act.put, List.setIfInBounds_toArray, List.set_cons_zero, List.set_cons_succ])
        | (refine wk_not true _ _ (by first | exact wanted_none rfl | exact wanted_yes _ _ rfl rfl) rfl rfl ?_; simp only [Act.put, List.setIfInBounds_toArray, List.set_cons_zero, List.set_cons_succ])
        | (refine wk_not false _ _ (by first | exact wanted_none rfl | exact wanted_yes _ _ rfl rfl) rfl rfl ?_; simp only [Act.put, List.setIfInBounds_toArray, List.set_cons_zero, List.set_cons_succ]))
      refine wk_nil ?_
      intro w' hC
      have R4 := Lib.hid (R3.out.since hC)
      clear hC
      go_wp2_with (refine wpList_store_row rfl 98 _ _ rfl g2 Z rfl rfl 98 _ (R4.out.get 0 rfl) (by rw [HZS.out]; exact sizeRow) rfl HZO.out ?_)
      have R5 := Lib.hid (R4.out.setRow 0 Z rfl)
      refine bodyPost_ret (v := .agg Z) (results_cell_row rfl _ _ g2 98 _ (0, 0) _ rfl (R5.out.get 0 rfl) Tryd.underlying98 rfl (by rw [HZS.out]; exact sizeRow)) rfl ⟨rfl, R5.out.below⟩
    | true =>
      repeat (first
        | (refine wk_move _ (by first | exact wanted_none rfl | exact wanted_yes _ _ rfl rfl) rfl ?_; simp only [Act.put, Act.eval, Array.getD_eq_getD_getElem?, List.getElem?_toArray, List.getElem?_cons_succ, List.getElem?_cons_zero, Option.getD_some, List.setIfInBounds_toArray, List.set_cons_zero, List.set_cons_succ])
        | (refine wk_assign _ (by first | exact wanted_none rfl | exact wanted_yes _ _ rfl rfl) rfl ?_; simp only [Act.put, Act.eval, Array.getD_eq_getD_getElem?, List.getElem?_toArray, List.getElem?_cons_succ, List.getElem?_cons_zero, Option.getD_some, List.setIfInBounds_toArray, List.set_cons_zero, List.set_cons_succ])
        | (refine wk_pickt _ _ _ _ (by first | exact wanted_none rfl | exact wanted_yes _ _ rfl rfl) rfl rfl rfl ?_; simp only [Act.put, Act.eval, Array.getD_eq_getD_getElem?, List.getElem?_toArray, List.getElem?_cons_succ, List.getElem?_cons_zero, Option.getD_some, List.setIfInBounds_toArray, List.set_cons_zero, List.set_cons_succ])
        | (refine wk_pickf _ _ _ _ (by first | exact wanted_none rfl | exact wanted_yes _ _ rfl rfl) rfl rfl rfl ?_; simp only [Act.put, Act.eval, Array.getD_eq_getD_getElem?, List.getElem?_toArray, List.getElem?_cons_succ, List.getElem?_cons_zero, Option.getD_some, List.setIfInBounds_toArray, List.set_cons_zero, List.set_cons_succ])
        | (refine wk_skip (wanted_not _ true false rfl rfl rfl) ?_; simp only [Act.put, List.setIfInBounds_toArray, List.set_cons_zero, List.set_cons_succ])
        | (refine wk_skip (wanted_not _ false true rfl rfl rfl) ?_; simp only [Act.put, List.setIfInBounds_toArray, List.set_cons_zero, List.set_cons_succ])
        | (refine wk_skip (wanted_undef _ _ rfl rfl) ?_; simp only [Act.put, List.setIfInBounds_toArray, List.set_cons_zero, List.set_cons_succ])
        | (refine wk_not true _ _ (by first | exact wanted_none rfl | exact wanted_yes _ _ rfl rfl) rfl rfl ?_; simp only [Act.put, List.setIfInBounds_toArray, List.set_cons_zero, List.set_cons_succ])
        | (refine wk_not false _ _ (by first | exact wanted_none rfl | exact wanted_yes _ _ rfl rfl) rfl rfl ?_; simp only [Act.put, List.setIfInBounds_toArray, List.set_cons_zero, List.set_cons_succ]))
      refine wk_nil ?_
      intro w' hC
      have R3 := Lib.hid (R1.out.since hC)
      clear hC R1
      have HBD : Hid (Tryd.prog.built 98 [(0, .agg (blk b)), (1, .int .i64 1), (2, .bool true)] = some D) := Lib.hid (by rw [HDD.out]; exact builtRow b HLB.out 1 true)
      go_upto_region 3 with (fail)
      refine wk_plain_tail 2 ?_
      simp only [List.take_succ_cons, List.take_zero, List.drop_succ_cons, List.drop_zero]
      refine wk_load_row 52 _ g1 52 (blk b) (0, 0) _ (by kernel_rfl) rfl rfl (fun w' hC => hC.row (R3.out.get 1 rfl)) Tryd.underlying52 rfl (by rw [HB0.out]; exact sizeB) ?_
      simp only [Act.put, List.setIfInBounds_toArray, List.set_cons_zero, List.set_cons_succ]
      refine wk_build 98 _ [(0, .agg (blk b)), (1, .int .i64 1), (2, .bool true)] D (by first | exact wanted_none rfl | exact wanted_yes _ _ rfl rfl) rfl (by simp [Act.eval]) HBD.out ?_
      simp only [Act.put, List.setIfInBounds_toArray, List.set_cons_zero, List.set_cons_succ]
      refine wk_nil ?_
      intro w' hC
      have R4 := Lib.hid (R3.out.since hC)
      clear hC
      go_wp2_with (refine wpList_store_row rfl 98 _ _ rfl g2 D rfl rfl 98 _ (R4.out.get 0 rfl) (by rw [HDS.out]; exact sizeRow) (by rw [HDS.out, HZS.out]) HDO.out ?_)
      have R5 := Lib.hid (R4.out.setRow 0 D rfl)
      refine bodyPost_ret (v := .agg D) (results_cell_row rfl _ _ g2 98 _ (0, 0) _ rfl (R5.out.get 0 rfl) Tryd.underlying98 rfl (by rw [HDS.out]; exact sizeRow)) rfl ⟨rfl, R5.out.below⟩
end Go.Proofs.YtcepfmjebgklfaaDoor
