/- The device layer: a device in memory; none, the questions' functions, far. -/
import Derived.Test.YtnbdnnlomgjlmaaDevCheck
import Derived.OwnWalk
import Derived.WalkSpells
namespace Go.Proofs.Ytnbdnnlomgjlmaa
open Go.RowKit
set_option linter.unusedSimpArgs false
set_option maxRecDepth 100000
/-- Pending writes as cells. -/
def putCells (l : List (Nat × List UInt8)) : List Value := l.flatMap fun x => .int .u32 (x.1 : Int) :: x.2.map vu8
theorem putCells_snoc (l : List (Nat × List UInt8)) (x : Nat × List UInt8) : putCells (l ++ [x]) = putCells l ++ (.int .u32 (x.1 : Int) :: x.2.map vu8) := by simp [putCells]
/-- The fuse's place. -/
def fuseAt (w : World) (fv : Value) : Option Nat → Prop
  | none => fv = .pointer none
  | some k => ∃ gf, fv = .pointer (some ⟨gf, 0, none⟩) ∧ w.heap[gf]? = some (.cells #[.int .i64 (k : Int)] 3 (0, 0))
def ptrBlock : Value → List Nat
  | .pointer (some a) => [a.block]
  | _ => []
def dvCells (s : Dv) (gm : Nat) (pv fv : Value) : Array Value := #[.int .u32 (s.size : Int), .map (some gm), pv, fv, .bool s.down, .int .u64 (s.writes : Int)]
/-- A device lies in block g, its map in gm; pv the pending writes' slice, fv the fuse. -/
structure DvV (w : World) (g gm : Nat) (pv fv : Value) (s : Dv) : Prop where
  row : w.heap[g]? = some (.cells (dvCells s gm pv fv) 108 (0, 0))
  good : MapAt w gm s.good
  pend : w.ownsRow 0 114 257 pv s.pend.length (putCells s.pend)
  fuse : fuseAt w fv s.fuse
  ok : s.Ok
def dvFoot (g gm : Nat) (pv fv : Value) : List Nat := g :: gm :: (pv.ownBlock.toList ++ ptrBlock fv)
theorem DvV.lt {w : World} {g gm : Nat} {pv fv : Value} {s : Dv} (h : DvV w g gm pv fv s) : ∀ b ∈ dvFoot g gm pv fv, b < w.heap.size := by
  intro b hb
  simp only [dvFoot, List.mem_cons, List.mem_append] at hb
  rcases hb with rfl | rfl | hb | hb
  · exact (Array.getElem?_eq_some_iff.1 h.row).1
  · exact h.good.lt
  · have : pv.ownBlock = some b := by simpa using hb
    exact (World.ownsRow.lt h.pend b this).2
  · have hf := h.fuse
    unfold fuseAt at hf
    split at hf
    · subst hf; simp [ptrBlock] at hb
    · obtain ⟨gf, rfl, hg⟩ := hf
      simp [ptrBlock] at hb
      subst hb
      exact (Array.getElem?_eq_some_iff.1 hg).1
theorem ownsRow_same {w w' : World} {base : Nat} {e : TypeId} {size : Nat} {v : Value} {n : Nat} {xs : List Value} (h : w.ownsRow base e size v n xs) (hb : ∀ b, v.ownBlock = some b → w'.heap[b]? = w.heap[b]?) : w'.ownsRow base e size v n xs := by
  refine ⟨h.1, ?_⟩
  rcases h.2 with h' | ⟨g, cap, cur, rfl, h1, h2, h3⟩
  · exact .inl h'
  · exact .inr ⟨g, cap, cur, rfl, h1, (hb g rfl).trans h2, h3⟩
theorem DvV.same {w w' : World} {g gm : Nat} {pv fv : Value} {s : Dv} (h : DvV w g gm pv fv s) (hb : ∀ b ∈ dvFoot g gm pv fv, w'.heap[b]? = w.heap[b]?) : DvV w' g gm pv fv s := by
  refine ⟨(hb g (by simp [dvFoot])).trans h.row, h.good.kept (hb gm (by simp [dvFoot])), ownsRow_same h.pend (fun b hb' => hb b (by simp [dvFoot, hb'])), ?_, h.ok⟩
  have hf := h.fuse
  unfold fuseAt at hf ⊢
  split at hf
  · exact hf
  · obtain ⟨gf, rfl, hg⟩ := hf
    exact ⟨gf, rfl, (hb gf (by simp [dvFoot, ptrBlock])).trans hg⟩
theorem DvV.below {w w' : World} {g gm : Nat} {pv fv : Value} {s : Dv} (h : DvV w g gm pv fv s) (hb : Below w.heap.size w w') : DvV w' g gm pv fv s := h.same (fun b hb' => hb.block b (h.lt b hb'))
/-- A device. -/
def dvT (g : Nat) (s : Dv) : Thing where
  says F w := ∃ gm pv fv, F = dvFoot g gm pv fv ∧ DvV w g gm pv fv s
  lt := by
    rintro F w ⟨gm, pv, fv, rfl, h⟩
    exact h.lt
  loc := by
    rintro F w w' hb ⟨gm, pv, fv, rfl, h⟩
    exact ⟨gm, pv, fv, rfl, h.same hb⟩
theorem eql_map (w : World) (g : Nat) : (binOp .eql 105 (.map (some g)) (.map none)).run Try.prog w = .ok (.bool false) w := by
  simp [binOp, Op.equal, Op.maxDepth, run_equalIn_map_nil w 9999 105 25 23 (some g) Try.underlying105]
section
variable {w : World} {g : Nat} {s : Dv}
theorem dv_open (h : (dvT g s).at w) : ∃ gm pv fv, DvV w g gm pv fv s := by
  obtain ⟨F, gm, pv, fv, _, h⟩ := h
  exact ⟨gm, pv, fv, h⟩
theorem none_dev (h : (dvT g s).at w) : Calls Try.prog 74 #[.pointer (some ⟨g, 0, none⟩)] w fun e w' => e = .returned (.bool false) ∧ w = w' := by
  obtain ⟨gm, pv, fv, h⟩ := dv_open h
  have h1 : w.cell? ⟨g, 1, none⟩ = some (.map (some gm)) := cell_of_row w g 1 _ _ _ h.row
  have hm := eql_map w gm
  clear h
  go_enter Try.func74, Try.ntmps74
  go_wp2
  go_ret
  exact ⟨rfl, rfl⟩
/-- The question whether there is no device. -/
def noneQ (g : Nat) : Ask := ⟨1, 74, #[.pointer (some ⟨g, 0, none⟩)], #[], false⟩
theorem noneQ_ok (h : (dvT g s).at w) : (noneQ g).Ok w :=
  ⟨⟨_, _, Try.func74, rfl, by kernel_rfl⟩, fun w' hb => by
    refine (none_dev (h.since hb)).mono ?_
    rintro e w2 ⟨rfl, rfl⟩
    exact ⟨rfl, Below.refl _ _⟩⟩
/-- The question whether it is down; the device's pointer lies in block b. -/
def downQ (s : Dv) (b : Nat) : Ask := ⟨30, 90, #[], #[.pointer (some ⟨b, 0, none⟩)], s.down⟩
theorem downQ_ok (h : (dvT g s).at w) (b : Nat) (hb : w.cell? ⟨b, 0, none⟩ = some (.pointer (some ⟨g, 0, none⟩))) (hbl : b < w.heap.size) : (downQ s b).Ok w := by
  refine ⟨⟨_, _, Try.func90, rfl, by kernel_rfl⟩, fun w' hbe => ?_⟩
  obtain ⟨gm, pv, fv, h⟩ := dv_open (h.since hbe)
  have c0 : w'.cell? ⟨b, 0, none⟩ = some (.pointer (some ⟨g, 0, none⟩)) := (hbe.cell hbl).trans hb
  have h4 : w'.cell? ⟨g, 4, none⟩ = some (.bool s.down) := cell_of_row w' g 4 _ _ _ h.row
  clear h hbe hb
  show Calls Try.prog 90 #[.pointer (some ⟨b, 0, none⟩)] w' _
  go_enter Try.func90, Try.ntmps90
  go_wp2
  go_ret
  exact ⟨rfl, Below.refl _ _⟩
/-- The question whether an address is too far. -/
def farQ (s : Dv) (a ba bd : Nat) : Ask := ⟨2, 91, #[], #[.pointer (some ⟨ba, 0, none⟩), .pointer (some ⟨bd, 0, none⟩)], decide (s.size ≤ a)⟩
theorem farQ_ok (h : (dvT g s).at w) (a ba bd : Nat) (ha : w.cell? ⟨ba, 0, none⟩ = some (.int .u32 (a : Int))) (hd : w.cell? ⟨bd, 0, none⟩ = some (.pointer (some ⟨g, 0, none⟩))) (hal : ba < w.heap.size) (hdl : bd < w.heap.size) : (farQ s a ba bd).Ok w := by
  refine ⟨⟨_, _, Try.func91, rfl, by kernel_rfl⟩, fun w' hbe => ?_⟩
  obtain ⟨gm, pv, fv, h⟩ := dv_open (h.since hbe)
  have c0 : w'.cell? ⟨bd, 0, none⟩ = some (.pointer (some ⟨g, 0, none⟩)) := (hbe.cell hdl).trans hd
  have c1 : w'.cell? ⟨ba, 0, none⟩ = some (.int .u32 (a : Int)) := (hbe.cell hal).trans ha
  have h0 : w'.cell? ⟨g, 0, none⟩ = some (.int .u32 (s.size : Int)) := cell_of_row w' g 0 _ _ _ h.row
  clear h hbe hd ha
  show Calls Try.prog 91 #[.pointer (some ⟨ba, 0, none⟩), .pointer (some ⟨bd, 0, none⟩)] w' _
  go_enter Try.func91, Try.ntmps91
  go_upto_region 1 with (fail)
  refine wk_region_since (by kernel_rfl) (by kernel_rfl) ?_
  refine wk_load1 _ _ _ _ _ rfl (by kernel_rfl) rfl rfl (fun w' hC => hC.cell c1) Try.underlying25 ?_
  simp only [Act.put, List.setIfInBounds_toArray, List.set_cons_zero, List.set_cons_succ]
  refine wk_load1 _ _ _ _ _ rfl (by kernel_rfl) rfl rfl (fun w' hC => hC.cell c0) Try.underlying56 ?_
  simp only [Act.put, List.setIfInBounds_toArray, List.set_cons_zero, List.set_cons_succ]
  refine wk_nilcheck _ _ (by first | exact wanted_none rfl | exact wanted_yes _ _ rfl rfl) rfl rfl ?_
  simp only [Act.put, List.setIfInBounds_toArray, List.set_cons_zero, List.set_cons_succ]
  refine wk_field 108 _ 25 0 0 _ _ _ (by first | exact wanted_none rfl | exact wanted_yes _ _ rfl rfl) rfl (by kernel_rfl) (by kernel_rfl) (by kernel_rfl) rfl ?_
  simp only [Act.put, List.setIfInBounds_toArray, List.set_cons_zero, List.set_cons_succ, Nat.zero_add]
  refine wk_load1 _ _ _ _ _ rfl (by kernel_rfl) rfl rfl (fun w' hC => hC.cell h0) Try.underlying25 ?_
  simp only [Act.put, List.setIfInBounds_toArray, List.set_cons_zero, List.set_cons_succ]
  refine wk_cmp_int .geq (decide (s.size ≤ a)) _ _ _ _ _ _ _ (by kernel_rfl) rfl rfl rfl (by simp [cmpInt]) ?_
  simp only [Act.put, List.setIfInBounds_toArray, List.set_cons_zero, List.set_cons_succ]
  repeat (first
    | (refine wk_move _ (by first | exact wanted_none rfl | exact wanted_yes _ _ rfl rfl) rfl ?_; simp only [Act.put, Act.eval, Array.getD_eq_getD_getElem?, List.getElem?_toArray, List.getElem?_cons_succ, List.getElem?_cons_zero, Option.getD_some, List.setIfInBounds_toArray, List.set_cons_zero, List.set_cons_succ])
    | (refine wk_assign _ (by first | exact wanted_none rfl | exact wanted_yes _ _ rfl rfl) rfl ?_; simp only [Act.put, Act.eval, Array.getD_eq_getD_getElem?, List.getElem?_toArray, List.getElem?_cons_succ, List.getElem?_cons_zero, Option.getD_some, List.setIfInBounds_toArray, List.set_cons_zero, List.set_cons_succ])
    | (refine wk_pickt _ _ _ _ (by first | exact wanted_none rfl | exact wanted_yes _ _ rfl rfl) rfl rfl rfl ?_; simp only [Act.put, Act.eval, Array.getD_eq_getD_getElem?, List.getElem?_toArray, List.getElem?_cons_succ, List.getElem?_cons_zero, Option.getD_some, List.setIfInBounds_toArray, List.set_cons_zero, List.set_cons_succ])
    | (refine wk_pickf _ _ _ _ (by first | exact wanted_none rfl | exact wanted_yes _ _ rfl rfl) rfl rfl rfl ?_; simp only [Act.put, Act.eval, Array.getD_eq_getD_getElem?, List.getElem?_toArray, List.getElem?_cons_succ, List.getElem?_cons_zero, Option.getD_some, List.setIfInBounds_toArray, List.set_cons_zero, List.set_cons_succ])
    | (refine wk_skip (wanted_not _ true false rfl rfl rfl) ?_; simp only [Act.put, List.setIfInBounds_toArray, List.set_cons_zero, List.set_cons_succ])
    | (refine wk_skip (wanted_not _ false true rfl rfl rfl) ?_; simp only [Act.put, List.setIfInBounds_toArray, List.set_cons_zero, List.set_cons_succ])
    | (refine wk_skip (wanted_undef _ _ rfl rfl) ?_; simp only [Act.put, List.setIfInBounds_toArray, List.set_cons_zero, List.set_cons_succ])
    | (refine wk_not true _ _ (by first | exact wanted_none rfl | exact wanted_yes _ _ rfl rfl) rfl rfl ?_; simp only [Act.put, List.setIfInBounds_toArray, List.set_cons_zero, List.set_cons_succ])
    | (refine wk_not false _ _ (by first | exact wanted_none rfl | exact wanted_yes _ _ rfl rfl) rfl rfl ?_; simp only [Act.put, List.setIfInBounds_toArray, List.set_cons_zero, List.set_cons_succ]))
  refine wk_nil ?_
  intro w' hC
  go_wp2
  go_ret
  exact ⟨rfl, hC⟩
end
end Go.Proofs.Ytnbdnnlomgjlmaa
