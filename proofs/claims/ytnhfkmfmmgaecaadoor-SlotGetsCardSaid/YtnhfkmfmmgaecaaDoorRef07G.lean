/- The document's Get of a root: the root that stands in the block, held against it. -/
import Derived.Test.YtnhfkmfmmgaecaaDoorRef07P
import Derived.Test.YtnhfkmfmmgaecaaDoorSlotLaw
import Derived.Test.YtnhfkmfmmgaecaaDoorFree
namespace Go.Proofs.YtnhfkmfmmgaecaaDoor
open Go.RowKit
set_option linter.unusedSimpArgs false
set_option maxRecDepth 100000
theorem conv32 (n : Nat) (h : n < 4294967296) (w : World) : (convert 29 52 (.int .u64 (n : Int))).run Tryd.prog w = .ok (.int .u32 (n : Int)) w := by
  have e : IntKind.u32.wrap (n : Int) = (n : Int) := by rw [IntKind.wrap_u32]; omega
  simp [convert, run_underlying Tryd.underlying29, run_underlying Tryd.underlying52, Conv.intToInt, e]
theorem builtR (x0 x1 x2 x3 x4 x5 x6 x7 : Nat) : Tryd.prog.built 54 [(0, .int .u64 (x0 : Int)), (1, .int .u32 (x1 : Int)), (2, .int .u32 (x2 : Int)), (3, .int .u32 (x3 : Int)), (4, .int .u32 (x4 : Int)), (5, .int .u32 (x5 : Int)), (6, .int .u32 (x6 : Int)), (7, .int .u8 (x7 : Int))] =
    some #[.int .u64 (x0 : Int), .int .u32 (x1 : Int), .int .u32 (x2 : Int), .int .u32 (x3 : Int), .int .u32 (x4 : Int), .int .u32 (x5 : Int), .int .u32 (x6 : Int), .int .u8 (x7 : Int)] := by kernel_rfl
/-- The values of the region's slots. -/
def slotsG (b : List UInt8) (g : Nat) (t : Tmp) : Value :=
  match t with
  | 7 => .agg (blk b)
  | 8 => .int .u64 (num (seg b 1 8) : Int)
  | 9 => .agg (blk b)
  | 10 => .int .u64 (num (seg b 9 4) : Int)
  | 11 => .int .u32 (num (seg b 9 4) : Int)
  | 12 => .agg (blk b)
  | 13 => .int .u64 (num (seg b 13 4) : Int)
  | 14 => .int .u32 (num (seg b 13 4) : Int)
  | 15 => .agg (blk b)
  | 16 => .int .u64 (num (seg b 17 4) : Int)
  | 17 => .int .u32 (num (seg b 17 4) : Int)
  | 18 => .agg (blk b)
  | 19 => .int .u64 (num (seg b 21 4) : Int)
  | 20 => .int .u32 (num (seg b 21 4) : Int)
  | 21 => .agg (blk b)
  | 22 => .int .u64 (num (seg b 25 4) : Int)
  | 23 => .int .u32 (num (seg b 25 4) : Int)
  | 24 => .agg (blk b)
  | 25 => .int .u64 (num (seg b 29 4) : Int)
  | 26 => .int .u32 (num (seg b 29 4) : Int)
  | 27 => .pointer (some ⟨g, 33, none⟩)
  | 28 => .int .u8 (num (seg b 33 1) : Int)
  | _ => .agg (rootOf b).cells
/-- What Get answers, held against the block. -/
theorem getC_of (b : List UInt8) (hb : b.length = 256) (h : ((rootOf b).putE != 0 || decide ((rootOf b).putB ≠ b)) = true) : getC b = zeroRoot ∧ getE b = 250 := by
  have : isRoot b = false := by
    apply Bool.eq_false_iff.2
    intro hi
    obtain ⟨h1, h2⟩ := (isRoot_iff b hb).1 hi
    unfold Root.putE Root.putB at h
    rw [h1, if_pos rfl, if_pos rfl, h2] at h
    simp at h
  unfold getC getE
  rw [this]
  exact ⟨rfl, rfl⟩
theorem getC_yes (b : List UInt8) (hb : b.length = 256) (h : ((rootOf b).putE != 0 || decide ((rootOf b).putB ≠ b)) = false) : getC b = (rootOf b).cells ∧ getE b = 0 := by
  have : isRoot b = true := by
    rw [isRoot_iff b hb]
    unfold Root.putE Root.putB at h
    cases hm : (rootOf b).may with
    | true => rw [hm] at h; simpa using h
    | false => rw [hm] at h; simp at h
  unfold getC getE
  rw [this]
  exact ⟨rfl, rfl⟩
set_option maxHeartbeats 2000000 in
theorem refget_any (b : List UInt8) (hb : b.length = 256) (w : World) :
    Calls Tryd.prog 33 #[.agg (blk b)] w fun e w' => e = .returned (.tuple #[.agg (getC b), .int .i64 (getE b)]) ∧ Below w.heap.size w w' := by
  obtain ⟨W, hW⟩ : ∃ W, W = (w.alloc (.cells (blk b) 33)).alloc (.cells zeroRoot 54) := ⟨_, rfl⟩
  have HW := Lib.hid hW
  have HG : Hid (W.heap[w.heap.size]? = some (.cells (blk b) 33 (0, 0))) := Lib.hid (by rw [hW]; exact heap_alloc2_old _ _ _)
  have HG1 : Hid (W.heap[w.heap.size + 1]? = some (.cells zeroRoot 54 (0, 0))) := Lib.hid (by rw [hW]; exact heap_alloc2_new _ _ _)
  have HS : Hid (W.heap.size = w.heap.size + 2) := Lib.hid (by rw [hW]; simp)
  have HLT : Hid (w.heap.size < W.heap.size) := Lib.hid (by rw [hW]; simp; omega)
  have HB : Hid (Below w.heap.size w W) := Lib.hid (by rw [hW]; exact ((Below.refl _ _).alloc (Nat.le_refl _) _).alloc (by simp) _)
  have HBs : Hid ((blk b).size = 256) := Lib.hid (by rw [size_blk, hb])
  have C33 : Hid ((blk b)[33]? = some (.int .u8 (num (seg b 33 1) : Int))) := Lib.hid (by
    have h33 : 33 < b.length := by omega
    rw [blk_get b 33 h33, seg_cons b 33 0 h33]
    simp [seg, num, vu8])
  have HL := Lib.hid hb
  have HP := Lib.hid (refput_all (rootOf b) (rootOf_ok b hb))
  have HPL := Lib.hid (length_rputB (rootOf b))
  have HNO := Lib.hid (getC_of b hb)
  have HYES := Lib.hid (getC_yes b hb)
  clear hW hb
  go_enter Tryd.func33, Tryd.ntmps33
  go_upto_region 1 with (first | refine wpList_alloc_row rfl 54 rfl _ zeroR ?_)
  rw [← HW.out]
  refine wp_region_free2 (by kernel_rfl) 23 24 (slotsG b w.heap.size) zeroRoot 54 4 rfl (by decide) (by kernel_rfl) ⟨_, rfl, rfl, rfl, rfl⟩ zeroR (by kernel_rfl) (by kernel_rfl) ?quiet ?last
  case quiet =>
    refine ⟨.inr (.inr ⟨rfl, _, rfl, fun a w2 hB hO hD K hK => ?_⟩), ?_⟩
    · exact wp_load_all 33 (.tmp 1) w.heap.size 33 (blk b) (0, 0) _ rfl (eval_of (hO 1 (not_dst 1 (by kernel_rfl)))) ((hB.block _ HLT.out).trans HG.out) Tryd.underlying33 rfl (by rw [HBs.out]; exact sizeB) (hK w2 (Below.refl _ _))
    refine ⟨.inr (.inr ⟨rfl, _, rfl, fun a w2 hB hO hD K hK => ?_⟩), ?_⟩
    · refine wp_call_any 73 [.tmp 7, .const (.int .i64 1), .const (.int .i64 8)] _ #[.agg (blk b), .int .i64 ((1 : Nat) : Int), .int .i64 ((8 : Nat) : Int)] (.int .u64 (num (seg b 1 8) : Int)) _ _ rfl Tryd.func73 rfl (by kernel_rfl) ?_ (refget_num b HL.out 1 8 (by omega) (by omega) w2) hK
      exact congrArg (fun v => #[v, Value.int .i64 1, Value.int .i64 8]) (dep_of hD 0 (by kernel_rfl) rfl 7 rfl)
    refine ⟨.inr (.inr ⟨rfl, _, rfl, fun a w2 hB hO hD K hK => ?_⟩), ?_⟩
    · exact wp_load_all 33 (.tmp 1) w.heap.size 33 (blk b) (0, 0) _ rfl (eval_of (hO 1 (not_dst 1 (by kernel_rfl)))) ((hB.block _ HLT.out).trans HG.out) Tryd.underlying33 rfl (by rw [HBs.out]; exact sizeB) (hK w2 (Below.refl _ _))
    refine ⟨.inr (.inr ⟨rfl, _, rfl, fun a w2 hB hO hD K hK => ?_⟩), ?_⟩
    · refine wp_call_any 73 [.tmp 9, .const (.int .i64 9), .const (.int .i64 4)] _ #[.agg (blk b), .int .i64 ((9 : Nat) : Int), .int .i64 ((4 : Nat) : Int)] (.int .u64 (num (seg b 9 4) : Int)) _ _ rfl Tryd.func73 rfl (by kernel_rfl) ?_ (refget_num b HL.out 9 4 (by omega) (by omega) w2) hK
      exact congrArg (fun v => #[v, Value.int .i64 9, Value.int .i64 4]) (dep_of hD 2 (by kernel_rfl) rfl 9 rfl)
    refine ⟨.inr (.inr ⟨rfl, _, rfl, fun a w2 hB hO hD K hK => ?_⟩), ?_⟩
    · exact wp_convert 29 52 (.tmp 10) (.int .u64 (num (seg b 9 4) : Int)) (.int .u32 (num (seg b 9 4) : Int)) rfl (dep_of hD 3 (by kernel_rfl) rfl 10 rfl) (conv32 _ (num_seg_lt b 9 4 (by rw [HL.out]; omega)) w2) (hK w2 (Below.refl _ _))
    refine ⟨.inr (.inr ⟨rfl, _, rfl, fun a w2 hB hO hD K hK => ?_⟩), ?_⟩
    · exact wp_load_all 33 (.tmp 1) w.heap.size 33 (blk b) (0, 0) _ rfl (eval_of (hO 1 (not_dst 1 (by kernel_rfl)))) ((hB.block _ HLT.out).trans HG.out) Tryd.underlying33 rfl (by rw [HBs.out]; exact sizeB) (hK w2 (Below.refl _ _))
    refine ⟨.inr (.inr ⟨rfl, _, rfl, fun a w2 hB hO hD K hK => ?_⟩), ?_⟩
    · refine wp_call_any 73 [.tmp 12, .const (.int .i64 13), .const (.int .i64 4)] _ #[.agg (blk b), .int .i64 ((13 : Nat) : Int), .int .i64 ((4 : Nat) : Int)] (.int .u64 (num (seg b 13 4) : Int)) _ _ rfl Tryd.func73 rfl (by kernel_rfl) ?_ (refget_num b HL.out 13 4 (by omega) (by omega) w2) hK
      exact congrArg (fun v => #[v, Value.int .i64 13, Value.int .i64 4]) (dep_of hD 5 (by kernel_rfl) rfl 12 rfl)
    refine ⟨.inr (.inr ⟨rfl, _, rfl, fun a w2 hB hO hD K hK => ?_⟩), ?_⟩
    · exact wp_convert 29 52 (.tmp 13) (.int .u64 (num (seg b 13 4) : Int)) (.int .u32 (num (seg b 13 4) : Int)) rfl (dep_of hD 6 (by kernel_rfl) rfl 13 rfl) (conv32 _ (num_seg_lt b 13 4 (by rw [HL.out]; omega)) w2) (hK w2 (Below.refl _ _))
    refine ⟨.inr (.inr ⟨rfl, _, rfl, fun a w2 hB hO hD K hK => ?_⟩), ?_⟩
    · exact wp_load_all 33 (.tmp 1) w.heap.size 33 (blk b) (0, 0) _ rfl (eval_of (hO 1 (not_dst 1 (by kernel_rfl)))) ((hB.block _ HLT.out).trans HG.out) Tryd.underlying33 rfl (by rw [HBs.out]; exact sizeB) (hK w2 (Below.refl _ _))
    refine ⟨.inr (.inr ⟨rfl, _, rfl, fun a w2 hB hO hD K hK => ?_⟩), ?_⟩
    · refine wp_call_any 73 [.tmp 15, .const (.int .i64 17), .const (.int .i64 4)] _ #[.agg (blk b), .int .i64 ((17 : Nat) : Int), .int .i64 ((4 : Nat) : Int)] (.int .u64 (num (seg b 17 4) : Int)) _ _ rfl Tryd.func73 rfl (by kernel_rfl) ?_ (refget_num b HL.out 17 4 (by omega) (by omega) w2) hK
      exact congrArg (fun v => #[v, Value.int .i64 17, Value.int .i64 4]) (dep_of hD 8 (by kernel_rfl) rfl 15 rfl)
    refine ⟨.inr (.inr ⟨rfl, _, rfl, fun a w2 hB hO hD K hK => ?_⟩), ?_⟩
    · exact wp_convert 29 52 (.tmp 16) (.int .u64 (num (seg b 17 4) : Int)) (.int .u32 (num (seg b 17 4) : Int)) rfl (dep_of hD 9 (by kernel_rfl) rfl 16 rfl) (conv32 _ (num_seg_lt b 17 4 (by rw [HL.out]; omega)) w2) (hK w2 (Below.refl _ _))
    refine ⟨.inr (.inr ⟨rfl, _, rfl, fun a w2 hB hO hD K hK => ?_⟩), ?_⟩
    · exact wp_load_all 33 (.tmp 1) w.heap.size 33 (blk b) (0, 0) _ rfl (eval_of (hO 1 (not_dst 1 (by kernel_rfl)))) ((hB.block _ HLT.out).trans HG.out) Tryd.underlying33 rfl (by rw [HBs.out]; exact sizeB) (hK w2 (Below.refl _ _))
    refine ⟨.inr (.inr ⟨rfl, _, rfl, fun a w2 hB hO hD K hK => ?_⟩), ?_⟩
    · refine wp_call_any 73 [.tmp 18, .const (.int .i64 21), .const (.int .i64 4)] _ #[.agg (blk b), .int .i64 ((21 : Nat) : Int), .int .i64 ((4 : Nat) : Int)] (.int .u64 (num (seg b 21 4) : Int)) _ _ rfl Tryd.func73 rfl (by kernel_rfl) ?_ (refget_num b HL.out 21 4 (by omega) (by omega) w2) hK
      exact congrArg (fun v => #[v, Value.int .i64 21, Value.int .i64 4]) (dep_of hD 11 (by kernel_rfl) rfl 18 rfl)
    refine ⟨.inr (.inr ⟨rfl, _, rfl, fun a w2 hB hO hD K hK => ?_⟩), ?_⟩
    · exact wp_convert 29 52 (.tmp 19) (.int .u64 (num (seg b 21 4) : Int)) (.int .u32 (num (seg b 21 4) : Int)) rfl (dep_of hD 12 (by kernel_rfl) rfl 19 rfl) (conv32 _ (num_seg_lt b 21 4 (by rw [HL.out]; omega)) w2) (hK w2 (Below.refl _ _))
    refine ⟨.inr (.inr ⟨rfl, _, rfl, fun a w2 hB hO hD K hK => ?_⟩), ?_⟩
    · exact wp_load_all 33 (.tmp 1) w.heap.size 33 (blk b) (0, 0) _ rfl (eval_of (hO 1 (not_dst 1 (by kernel_rfl)))) ((hB.block _ HLT.out).trans HG.out) Tryd.underlying33 rfl (by rw [HBs.out]; exact sizeB) (hK w2 (Below.refl _ _))
    refine ⟨.inr (.inr ⟨rfl, _, rfl, fun a w2 hB hO hD K hK => ?_⟩), ?_⟩
    · refine wp_call_any 73 [.tmp 21, .const (.int .i64 25), .const (.int .i64 4)] _ #[.agg (blk b), .int .i64 ((25 : Nat) : Int), .int .i64 ((4 : Nat) : Int)] (.int .u64 (num (seg b 25 4) : Int)) _ _ rfl Tryd.func73 rfl (by kernel_rfl) ?_ (refget_num b HL.out 25 4 (by omega) (by omega) w2) hK
      exact congrArg (fun v => #[v, Value.int .i64 25, Value.int .i64 4]) (dep_of hD 14 (by kernel_rfl) rfl 21 rfl)
    refine ⟨.inr (.inr ⟨rfl, _, rfl, fun a w2 hB hO hD K hK => ?_⟩), ?_⟩
    · exact wp_convert 29 52 (.tmp 22) (.int .u64 (num (seg b 25 4) : Int)) (.int .u32 (num (seg b 25 4) : Int)) rfl (dep_of hD 15 (by kernel_rfl) rfl 22 rfl) (conv32 _ (num_seg_lt b 25 4 (by rw [HL.out]; omega)) w2) (hK w2 (Below.refl _ _))
    refine ⟨.inr (.inr ⟨rfl, _, rfl, fun a w2 hB hO hD K hK => ?_⟩), ?_⟩
    · exact wp_load_all 33 (.tmp 1) w.heap.size 33 (blk b) (0, 0) _ rfl (eval_of (hO 1 (not_dst 1 (by kernel_rfl)))) ((hB.block _ HLT.out).trans HG.out) Tryd.underlying33 rfl (by rw [HBs.out]; exact sizeB) (hK w2 (Below.refl _ _))
    refine ⟨.inr (.inr ⟨rfl, _, rfl, fun a w2 hB hO hD K hK => ?_⟩), ?_⟩
    · refine wp_call_any 73 [.tmp 24, .const (.int .i64 29), .const (.int .i64 4)] _ #[.agg (blk b), .int .i64 ((29 : Nat) : Int), .int .i64 ((4 : Nat) : Int)] (.int .u64 (num (seg b 29 4) : Int)) _ _ rfl Tryd.func73 rfl (by kernel_rfl) ?_ (refget_num b HL.out 29 4 (by omega) (by omega) w2) hK
      exact congrArg (fun v => #[v, Value.int .i64 29, Value.int .i64 4]) (dep_of hD 17 (by kernel_rfl) rfl 24 rfl)
    refine ⟨.inr (.inr ⟨rfl, _, rfl, fun a w2 hB hO hD K hK => ?_⟩), ?_⟩
    · exact wp_convert 29 52 (.tmp 25) (.int .u64 (num (seg b 29 4) : Int)) (.int .u32 (num (seg b 29 4) : Int)) rfl (dep_of hD 18 (by kernel_rfl) rfl 25 rfl) (conv32 _ (num_seg_lt b 29 4 (by rw [HL.out]; omega)) w2) (hK w2 (Below.refl _ _))
    refine ⟨.inr (.inr ⟨rfl, _, rfl, fun a w2 hB hO hD K hK => ?_⟩), ?_⟩
    · exact wp_index_arr 33 5 (.tmp 1) (.const (.int .i64 33)) w.heap.size 33 256 .i64 rfl Tryd.underlying33 sizeU8 (eval_of (hO 1 (not_dst 1 (by kernel_rfl)))) rfl (by omega) (hK w2 (Below.refl _ _))
    refine ⟨.inr (.inr ⟨rfl, _, rfl, fun a w2 hB hO hD K hK => ?_⟩), ?_⟩
    · exact wp_load_cell 5 (.tmp 27) ⟨w.heap.size, 33, none⟩ (.int .u8 (num (seg b 33 1) : Int)) _ rfl rfl (dep_of hD 20 (by kernel_rfl) rfl 27 rfl) ((cell_of_row w2 _ 33 _ _ _ ((hB.block _ HLT.out).trans HG.out)).trans C33.out) Tryd.underlying5 (hK w2 (Below.refl _ _))
    refine ⟨.inr (.inr ⟨rfl, _, rfl, fun a w2 hB hO hD K hK => ?_⟩), ?_⟩
    · refine wp_built 54 _ [(0, a.eval (.tmp 8)), (1, a.eval (.tmp 11)), (2, a.eval (.tmp 14)), (3, a.eval (.tmp 17)), (4, a.eval (.tmp 20)), (5, a.eval (.tmp 23)), (6, a.eval (.tmp 26)), (7, a.eval (.tmp 28))] (rootOf b).cells rfl (by simp) ?_ (hK w2 (Below.refl _ _))
      have e : [(0, a.eval (.tmp 8)), (1, a.eval (.tmp 11)), (2, a.eval (.tmp 14)), (3, a.eval (.tmp 17)), (4, a.eval (.tmp 20)), (5, a.eval (.tmp 23)), (6, a.eval (.tmp 26)), (7, a.eval (.tmp 28))] = [((0 : Nat), slotsG b w.heap.size 8), ((1 : Nat), slotsG b w.heap.size 11), ((2 : Nat), slotsG b w.heap.size 14), ((3 : Nat), slotsG b w.heap.size 17), ((4 : Nat), slotsG b w.heap.size 20), ((5 : Nat), slotsG b w.heap.size 23), ((6 : Nat), slotsG b w.heap.size 26), ((7 : Nat), slotsG b w.heap.size 28)] := by rw [dep_of hD 1 (by kernel_rfl) rfl 8 rfl, dep_of hD 4 (by kernel_rfl) rfl 11 rfl, dep_of hD 7 (by kernel_rfl) rfl 14 rfl, dep_of hD 10 (by kernel_rfl) rfl 17 rfl, dep_of hD 13 (by kernel_rfl) rfl 20 rfl, dep_of hD 16 (by kernel_rfl) rfl 23 rfl, dep_of hD 19 (by kernel_rfl) rfl 26 rfl, dep_of hD 21 (by kernel_rfl) rfl 28 rfl]
      exact (congrArg _ e).trans (builtR (num (seg b 1 8)) (num (seg b 9 4)) (num (seg b 13 4)) (num (seg b 17 4)) (num (seg b 21 4)) (num (seg b 25 4)) (num (seg b 29 4)) (num (seg b 33 1)))
    exact ⟨.inl rfl, .inr (.inl rfl), trivial⟩
  case last =>
    refine ⟨_, rfl, rfl, rfl, by kernel_rfl, ?_⟩
    intro n w2 hn hr hb2
    simp only [putAll, slotsG, List.setIfInBounds_toArray, List.set_cons_zero, List.set_cons_succ, if_true, reduceIte, Nat.reduceEqDiff]
    have HR := Lib.hid hr
    have HB2 := Lib.hid (HB.out.trans (hb2.mono (show w.heap.size ≤ W.heap.size by rw [HS.out]; omega)))
    have HN : Hid (w.heap.size + 2 ≤ n) := Lib.hid (by rw [← HS.out]; exact hn)
    have G0 := Lib.hid ((hb2.block _ HLT.out).trans HG.out)
    have G1 := Lib.hid ((hb2.block _ (show w.heap.size + 1 < W.heap.size by rw [HS.out]; omega)).trans HG1.out)
    clear hn hr hb2
    refine wp_store_row 54 (.tmp 4) (.tmp 29) rfl n (rootOf b).cells rfl rfl 54 zeroRoot HR.out sizeR rfl (rcells_one _) ?_
    rename_i Q0 K0 hK0
    refine hK0 _ _ ?_
    simp only [Act.put]
    obtain ⟨V, hV⟩ : ∃ V, V = w2.setRow n (rootOf b).cells := ⟨_, rfl⟩
    rw [← hV]
    have V2 : Hid (V.heap[n]? = some (.cells (rootOf b).cells 54 (0, 0))) := Lib.hid (by rw [hV]; exact setRow_heap _ _ _ _ _ _ HR.out)
    have V0 : Hid (V.heap[w.heap.size]? = some (.cells (blk b) 33 (0, 0))) := Lib.hid (by rw [hV, setRow_other _ _ _ _ (by have := HN.out; omega)]; exact G0.out)
    have V1 : Hid (V.heap[w.heap.size + 1]? = some (.cells zeroRoot 54 (0, 0))) := Lib.hid (by rw [hV, setRow_other _ _ _ _ (by have := HN.out; omega)]; exact G1.out)
    have VB : Hid (Below w.heap.size w V) := Lib.hid (by rw [hV]; exact below_setRow HB2.out (by have := HN.out; omega) _)
    have VS : Hid (n < V.heap.size) := Lib.hid (Array.getElem?_eq_some_iff.1 V2.out).1
    clear hV HR G0 G1 HB2 hK0
    have HRS : Hid ((rootOf b).cells.size = 8) := Lib.hid rfl
    have HRO : Hid ((rootOf b).cells.all (·.oneCell') = true) := Lib.hid (rcells_one _)
    obtain ⟨R, hR⟩ : ∃ R, R = (rootOf b).cells := ⟨_, rfl⟩
    rw [← hR] at HP V2 HRS HRO HYES ⊢
    clear hR
    obtain ⟨E, hE⟩ : ∃ E, E = (rootOf b).putE := ⟨_, rfl⟩
    obtain ⟨B, hBe⟩ : ∃ B, B = (rootOf b).putB := ⟨_, rfl⟩
    have hEE : E = 0 ∨ E = 2 := by rw [hE]; unfold Root.putE; split <;> simp
    rw [← hE, ← hBe] at HP HNO HYES
    rw [← hBe] at HPL
    clear hE hBe
    have HBL : Hid ((blk B).size = 256) := Lib.hid (by rw [size_blk, HPL.out])
    go_wp2_with (refine wpList_load_row rfl 54 _ rfl n rfl 54 R (0, 0) _ V2.out Tryd.underlying54 rfl (by rw [HRS.out]; exact sizeR) ?_)
    refine (HP.out V).mono ?_
    rintro e w3 ⟨rfl, hb3⟩
    have X2 := Lib.hid ((hb3.block _ VS.out).trans V2.out)
    have X0 := Lib.hid ((hb3.block _ (show w.heap.size < V.heap.size by have := HN.out; have := VS.out; omega)).trans V0.out)
    have X1 := Lib.hid ((hb3.block _ (show w.heap.size + 1 < V.heap.size by have := HN.out; have := VS.out; omega)).trans V1.out)
    have XB := Lib.hid (VB.out.trans (hb3.mono (show w.heap.size ≤ V.heap.size by have := HN.out; have := VS.out; omega)))
    have XS : Hid (w.heap.size + 2 ≤ w3.heap.size) := Lib.hid (by have := hb3.size; have := HN.out; have := VS.out; omega)
    have XN : Hid (n < w3.heap.size) := Lib.hid (by have := hb3.size; have := VS.out; omega)
    clear hb3
    obtain ⟨U, hU⟩ : ∃ U, U = w3.alloc (.cells (blk B) 33) := ⟨_, rfl⟩
    have UU := Lib.hid hU
    have U2 : Hid (U.heap[n]? = some (.cells R 54 (0, 0))) := Lib.hid (by rw [hU, Go.heap_alloc_old _ _ XN.out]; exact X2.out)
    have U0 : Hid (U.heap[w.heap.size]? = some (.cells (blk b) 33 (0, 0))) := Lib.hid (by rw [hU, Go.heap_alloc_old _ _ (by have := XS.out; omega)]; exact X0.out)
    have U1 : Hid (U.heap[w.heap.size + 1]? = some (.cells zeroRoot 54 (0, 0))) := Lib.hid (by rw [hU, Go.heap_alloc_old _ _ (by have := XS.out; omega)]; exact X1.out)
    have U3 : Hid (U.heap[w3.heap.size]? = some (.cells (blk B) 33 (0, 0))) := Lib.hid (by rw [hU]; exact heap_alloc_new _ _)
    have UB : Hid (Below w.heap.size w U) := Lib.hid (by rw [hU]; exact XB.out.alloc XB.out.size _)
    clear hU
    go_upto_region 3 with (first
      | refine wpList_alloc_row rfl 33 rfl _ zeroB ?_
      | refine wpList_store_new rfl 33 _ _ rfl _ _ _ rfl rfl (by rw [HBL.out]; exact sizeB) (by rw [HBL.out, size_zeros]) (blk_one _) ?_)
    rw [← UU.out]
    rcases hEE with rfl | rfl
    · have HRUN : Hid (∀ w : World, (binOp .neq 33 (.agg (blk B)) (.agg (blk b))).run Tryd.prog w = .ok (.bool (!decide (B = b))) w) := Lib.hid (fun w => run_neq_blk w 33 5 256 Tryd.underlying33 Tryd.underlying5 sizeU8 B b HPL.out HL.out)
      by_cases hc : B = b
      · have hY := HYES.out (by simp [hc])
        have HY := Lib.hid hY
        have hd : (!decide (B = b)) = false := by simp [hc]
        rw [hd] at HRUN
        clear hY hc hd
        refine wk_plain_since ?_
        repeat (first
          | (refine wk_move _ (by first | exact wanted_none rfl | exact wanted_yes _ _ rfl rfl) rfl ?_; simp only [Act.put, Act.eval, Array.getD_eq_getD_getElem?, List.getElem?_toArray, List.getElem?_cons_succ, List.getElem?_cons_zero, Option.getD_some, List.setIfInBounds_toArray, List.set_cons_zero, List.set_cons_succ])
          | (refine wk_assign _ (by first | exact wanted_none rfl | exact wanted_yes _ _ rfl rfl) rfl ?_; simp only [Act.put, Act.eval, Array.getD_eq_getD_getElem?, List.getElem?_toArray, List.getElem?_cons_succ, List.getElem?_cons_zero, Option.getD_some, List.setIfInBounds_toArray, List.set_cons_zero, List.set_cons_succ])
          | (refine wk_pickt _ _ _ _ (by first | exact wanted_none rfl | exact wanted_yes _ _ rfl rfl) rfl rfl rfl ?_; simp only [Act.put, Act.eval, Array.getD_eq_getD_getElem?, List.getElem?_toArray, List.getElem?_cons_succ, List.getElem?_cons_zero, Option.getD_some, List.setIfInBounds_toArray, List.set_cons_zero, List.set_cons_succ])
          | (refine wk_pickf _ _ _ _ (by first | exact wanted_none rfl | exact wanted_yes _ _ rfl rfl) rfl rfl rfl ?_; simp only [Act.put, Act.eval, Array.getD_eq_getD_getElem?, List.getElem?_toArray, List.getElem?_cons_succ, List.getElem?_cons_zero, Option.getD_some, List.setIfInBounds_toArray, List.set_cons_zero, List.set_cons_succ])
          | (refine wk_skip (wanted_not _ true false rfl rfl rfl) ?_; simp only [Act.put, List.setIfInBounds_toArray, List.set_cons_zero, List.set_cons_succ])
          | (refine wk_skip (wanted_not _ false true rfl rfl rfl) ?_; simp only [Act.put, List.setIfInBounds_toArray, List.set_cons_zero, List.set_cons_succ])
          | (refine wk_skip (wanted_undef _ _ rfl rfl) ?_; simp only [Act.put, List.setIfInBounds_toArray, List.set_cons_zero, List.set_cons_succ])
          | (refine wk_not true _ _ (by first | exact wanted_none rfl | exact wanted_yes _ _ rfl rfl) rfl rfl ?_; simp only [Act.put, List.setIfInBounds_toArray, List.set_cons_zero, List.set_cons_succ])
          | (refine wk_not false _ _ (by first | exact wanted_none rfl | exact wanted_yes _ _ rfl rfl) rfl rfl ?_; simp only [Act.put, List.setIfInBounds_toArray, List.set_cons_zero, List.set_cons_succ]))
        refine wk_cmp_int .neq (false) _ _ _ _ _ _ _ (by kernel_rfl) rfl rfl rfl (rfl) ?_
        simp only [Act.put, List.setIfInBounds_toArray, List.set_cons_zero, List.set_cons_succ]
        repeat (first
          | (refine wk_move _ (by first | exact wanted_none rfl | exact wanted_yes _ _ rfl rfl) rfl ?_; simp only [Act.put, Act.eval, Array.getD_eq_getD_getElem?, List.getElem?_toArray, List.getElem?_cons_succ, List.getElem?_cons_zero, Option.getD_some, List.setIfInBounds_toArray, List.set_cons_zero, List.set_cons_succ])
          | (refine wk_assign _ (by first | exact wanted_none rfl | exact wanted_yes _ _ rfl rfl) rfl ?_; simp only [Act.put, Act.eval, Array.getD_eq_getD_getElem?, List.getElem?_toArray, List.getElem?_cons_succ, List.getElem?_cons_zero, Option.getD_some, List.setIfInBounds_toArray, List.set_cons_zero, List.set_cons_succ])
          | (refine wk_pickt _ _ _ _ (by first | exact wanted_none rfl | exact wanted_yes _ _ rfl rfl) rfl rfl rfl ?_; simp only [Act.put, Act.eval, Array.getD_eq_getD_getElem?, List.getElem?_toArray, List.getElem?_cons_succ, List.getElem?_cons_zero, Option.getD_some, List.setIfInBounds_toArray, List.set_cons_zero, List.set_cons_succ])
          | (refine wk_pickf _ _ _ _ (by first | exact wanted_none rfl | exact wanted_yes _ _ rfl rfl) rfl rfl rfl ?_; simp only [Act.put, Act.eval, Array.getD_eq_getD_getElem?, List.getElem?_toArray, List.getElem?_cons_succ, List.getElem?_cons_zero, Option.getD_some, List.setIfInBounds_toArray, List.set_cons_zero, List.set_cons_succ])
          | (refine wk_skip (wanted_not _ true false rfl rfl rfl) ?_; simp only [Act.put, List.setIfInBounds_toArray, List.set_cons_zero, List.set_cons_succ])
          | (refine wk_skip (wanted_not _ false true rfl rfl rfl) ?_; simp only [Act.put, List.setIfInBounds_toArray, List.set_cons_zero, List.set_cons_succ])
          | (refine wk_skip (wanted_undef _ _ rfl rfl) ?_; simp only [Act.put, List.setIfInBounds_toArray, List.set_cons_zero, List.set_cons_succ])
          | (refine wk_not true _ _ (by first | exact wanted_none rfl | exact wanted_yes _ _ rfl rfl) rfl rfl ?_; simp only [Act.put, List.setIfInBounds_toArray, List.set_cons_zero, List.set_cons_succ])
          | (refine wk_not false _ _ (by first | exact wanted_none rfl | exact wanted_yes _ _ rfl rfl) rfl rfl ?_; simp only [Act.put, List.setIfInBounds_toArray, List.set_cons_zero, List.set_cons_succ]))
        refine wk_load_row 33 _ w3.heap.size 33 (blk B) (0, 0) _ (by kernel_rfl) rfl rfl (fun w' hC => hC.row U3.out) Tryd.underlying33 rfl (by rw [HBL.out]; exact sizeB) ?_
        simp only [Act.put, List.setIfInBounds_toArray, List.set_cons_zero, List.set_cons_succ]
        refine wk_load_row 33 _ w.heap.size 33 (blk b) (0, 0) _ (by kernel_rfl) rfl rfl (fun w' hC => hC.row U0.out) Tryd.underlying33 rfl (by rw [HBs.out]; exact sizeB) ?_
        simp only [Act.put, List.setIfInBounds_toArray, List.set_cons_zero, List.set_cons_succ]
        refine wk_eql .neq (false) 33 33 _ _ (by first | exact wanted_none rfl | exact wanted_yes _ _ rfl rfl) rfl _ _ rfl rfl (by kernel_rfl) (fun w => HRUN.out w) ?_
        simp only [Act.put, List.setIfInBounds_toArray, List.set_cons_zero, List.set_cons_succ]
        repeat (first
          | (refine wk_move _ (by first | exact wanted_none rfl | exact wanted_yes _ _ rfl rfl) rfl ?_; simp only [Act.put, Act.eval, Array.getD_eq_getD_getElem?, List.getElem?_toArray, List.getElem?_cons_succ, List.getElem?_cons_zero, Option.getD_some, List.setIfInBounds_toArray, List.set_cons_zero, List.set_cons_succ])
          | (refine wk_assign _ (by first | exact wanted_none rfl | exact wanted_yes _ _ rfl rfl) rfl ?_; simp only [Act.put, Act.eval, Array.getD_eq_getD_getElem?, List.getElem?_toArray, List.getElem?_cons_succ, List.getElem?_cons_zero, Option.getD_some, List.setIfInBounds_toArray, List.set_cons_zero, List.set_cons_succ])
          | (refine wk_pickt _ _ _ _ (by first | exact wanted_none rfl | exact wanted_yes _ _ rfl rfl) rfl rfl rfl ?_; simp only [Act.put, Act.eval, Array.getD_eq_getD_getElem?, List.getElem?_toArray, List.getElem?_cons_succ, List.getElem?_cons_zero, Option.getD_some, List.setIfInBounds_toArray, List.set_cons_zero, List.set_cons_succ])
          | (refine wk_pickf _ _ _ _ (by first | exact wanted_none rfl | exact wanted_yes _ _ rfl rfl) rfl rfl rfl ?_; simp only [Act.put, Act.eval, Array.getD_eq_getD_getElem?, List.getElem?_toArray, List.getElem?_cons_succ, List.getElem?_cons_zero, Option.getD_some, List.setIfInBounds_toArray, List.set_cons_zero, List.set_cons_succ])
          | (refine wk_skip (wanted_not _ true false rfl rfl rfl) ?_; simp only [Act.put, List.setIfInBounds_toArray, List.set_cons_zero, List.set_cons_succ])
          | (refine wk_skip (wanted_not _ false true rfl rfl rfl) ?_; simp only [Act.put, List.setIfInBounds_toArray, List.set_cons_zero, List.set_cons_succ])
          | (refine wk_skip (wanted_undef _ _ rfl rfl) ?_; simp only [Act.put, List.setIfInBounds_toArray, List.set_cons_zero, List.set_cons_succ])
          | (refine wk_not true _ _ (by first | exact wanted_none rfl | exact wanted_yes _ _ rfl rfl) rfl rfl ?_; simp only [Act.put, List.setIfInBounds_toArray, List.set_cons_zero, List.set_cons_succ])
          | (refine wk_not false _ _ (by first | exact wanted_none rfl | exact wanted_yes _ _ rfl rfl) rfl rfl ?_; simp only [Act.put, List.setIfInBounds_toArray, List.set_cons_zero, List.set_cons_succ]))
        refine wk_nil ?_
        intro w' hC
        have S1 := Lib.hid (hC.row U1.out)
        have S2 := Lib.hid (hC.row U2.out)
        have SB := Lib.hid (UB.out.trans (Below.mono hC UB.out.size))
        clear hC
        go_wp2_with (first
          | refine wpList_load_row rfl 54 _ rfl n rfl 54 R (0, 0) _ S2.out Tryd.underlying54 rfl (by rw [HRS.out]; exact sizeR) ?_
          | refine wpList_store_row rfl 54 _ _ rfl (w.heap.size + 1) R rfl rfl 54 _ S1.out (by rw [HRS.out]; exact sizeR) (by rw [HRS.out]; rfl) HRO.out ?_)
        refine bodyPost_ret (v := .tuple #[.agg R, .int .i64 0]) (results_cell_slot rfl _ _ (w.heap.size + 1) 54 _ (0, 0) _ _ rfl rfl (setRow_heap _ _ _ _ _ _ S1.out) Tryd.underlying54 rfl (by rw [HRS.out]; exact sizeR)) rfl ⟨by rw [HY.out.1, HY.out.2], ?_⟩
        exact below_setRow SB.out (by omega) _
      · have hY := HNO.out (by simp [hc])
        have HY := Lib.hid hY
        have hd : (!decide (B = b)) = true := by simp [hc]
        rw [hd] at HRUN
        clear hY hc hd
        refine wk_plain_since ?_
        repeat (first
          | (refine wk_move _ (by first | exact wanted_none rfl | exact wanted_yes _ _ rfl rfl) rfl ?_; simp only [Act.put, Act.eval, Array.getD_eq_getD_getElem?, List.getElem?_toArray, List.getElem?_cons_succ, List.getElem?_cons_zero, Option.getD_some, List.setIfInBounds_toArray, List.set_cons_zero, List.set_cons_succ])
          | (refine wk_assign _ (by first | exact wanted_none rfl | exact wanted_yes _ _ rfl rfl) rfl ?_; simp only [Act.put, Act.eval, Array.getD_eq_getD_getElem?, List.getElem?_toArray, List.getElem?_cons_succ, List.getElem?_cons_zero, Option.getD_some, List.setIfInBounds_toArray, List.set_cons_zero, List.set_cons_succ])
          | (refine wk_pickt _ _ _ _ (by first | exact wanted_none rfl | exact wanted_yes _ _ rfl rfl) rfl rfl rfl ?_; simp only [Act.put, Act.eval, Array.getD_eq_getD_getElem?, List.getElem?_toArray, List.getElem?_cons_succ, List.getElem?_cons_zero, Option.getD_some, List.setIfInBounds_toArray, List.set_cons_zero, List.set_cons_succ])
          | (refine wk_pickf _ _ _ _ (by first | exact wanted_none rfl | exact wanted_yes _ _ rfl rfl) rfl rfl rfl ?_; simp only [Act.put, Act.eval, Array.getD_eq_getD_getElem?, List.getElem?_toArray, List.getElem?_cons_succ, List.getElem?_cons_zero, Option.getD_some, List.setIfInBounds_toArray, List.set_cons_zero, List.set_cons_succ])
          | (refine wk_skip (wanted_not _ true false rfl rfl rfl) ?_; simp only [Act.put, List.setIfInBounds_toArray, List.set_cons_zero, List.set_cons_succ])
          | (refine wk_skip (wanted_not _ false true rfl rfl rfl) ?_; simp only [Act.put, List.setIfInBounds_toArray, List.set_cons_zero, List.set_cons_succ])
          | (refine wk_skip (wanted_undef _ _ rfl rfl) ?_; simp only [Act.put, List.setIfInBounds_toArray, List.set_cons_zero, List.set_cons_succ])
          | (refine wk_not true _ _ (by first | exact wanted_none rfl | exact wanted_yes _ _ rfl rfl) rfl rfl ?_; simp only [Act.put, List.setIfInBounds_toArray, List.set_cons_zero, List.set_cons_succ])
          | (refine wk_not false _ _ (by first | exact wanted_none rfl | exact wanted_yes _ _ rfl rfl) rfl rfl ?_; simp only [Act.put, List.setIfInBounds_toArray, List.set_cons_zero, List.set_cons_succ]))
        refine wk_cmp_int .neq (false) _ _ _ _ _ _ _ (by kernel_rfl) rfl rfl rfl (rfl) ?_
        simp only [Act.put, List.setIfInBounds_toArray, List.set_cons_zero, List.set_cons_succ]
        repeat (first
          | (refine wk_move _ (by first | exact wanted_none rfl | exact wanted_yes _ _ rfl rfl) rfl ?_; simp only [Act.put, Act.eval, Array.getD_eq_getD_getElem?, List.getElem?_toArray, List.getElem?_cons_succ, List.getElem?_cons_zero, Option.getD_some, List.setIfInBounds_toArray, List.set_cons_zero, List.set_cons_succ])
          | (refine wk_assign _ (by first | exact wanted_none rfl | exact wanted_yes _ _ rfl rfl) rfl ?_; simp only [Act.put, Act.eval, Array.getD_eq_getD_getElem?, List.getElem?_toArray, List.getElem?_cons_succ, List.getElem?_cons_zero, Option.getD_some, List.setIfInBounds_toArray, List.set_cons_zero, List.set_cons_succ])
          | (refine wk_pickt _ _ _ _ (by first | exact wanted_none rfl | exact wanted_yes _ _ rfl rfl) rfl rfl rfl ?_; simp only [Act.put, Act.eval, Array.getD_eq_getD_getElem?, List.getElem?_toArray, List.getElem?_cons_succ, List.getElem?_cons_zero, Option.getD_some, List.setIfInBounds_toArray, List.set_cons_zero, List.set_cons_succ])
          | (refine wk_pickf _ _ _ _ (by first | exact wanted_none rfl | exact wanted_yes _ _ rfl rfl) rfl rfl rfl ?_; simp only [Act.put, Act.eval, Array.getD_eq_getD_getElem?, List.getElem?_toArray, List.getElem?_cons_succ, List.getElem?_cons_zero, Option.getD_some, List.setIfInBounds_toArray, List.set_cons_zero, List.set_cons_succ])
          | (refine wk_skip (wanted_not _ true false rfl rfl rfl) ?_; simp only [Act.put, List.setIfInBounds_toArray, List.set_cons_zero, List.set_cons_succ])
          | (refine wk_skip (wanted_not _ false true rfl rfl rfl) ?_; simp only [Act.put, List.setIfInBounds_toArray, List.set_cons_zero, List.set_cons_succ])
          | (refine wk_skip (wanted_undef _ _ rfl rfl) ?_; simp only [Act.put, List.setIfInBounds_toArray, List.set_cons_zero, List.set_cons_succ])
          | (refine wk_not true _ _ (by first | exact wanted_none rfl | exact wanted_yes _ _ rfl rfl) rfl rfl ?_; simp only [Act.put, List.setIfInBounds_toArray, List.set_cons_zero, List.set_cons_succ])
          | (refine wk_not false _ _ (by first | exact wanted_none rfl | exact wanted_yes _ _ rfl rfl) rfl rfl ?_; simp only [Act.put, List.setIfInBounds_toArray, List.set_cons_zero, List.set_cons_succ]))
        refine wk_load_row 33 _ w3.heap.size 33 (blk B) (0, 0) _ (by kernel_rfl) rfl rfl (fun w' hC => hC.row U3.out) Tryd.underlying33 rfl (by rw [HBL.out]; exact sizeB) ?_
        simp only [Act.put, List.setIfInBounds_toArray, List.set_cons_zero, List.set_cons_succ]
        refine wk_load_row 33 _ w.heap.size 33 (blk b) (0, 0) _ (by kernel_rfl) rfl rfl (fun w' hC => hC.row U0.out) Tryd.underlying33 rfl (by rw [HBs.out]; exact sizeB) ?_
        simp only [Act.put, List.setIfInBounds_toArray, List.set_cons_zero, List.set_cons_succ]
        refine wk_eql .neq (true) 33 33 _ _ (by first | exact wanted_none rfl | exact wanted_yes _ _ rfl rfl) rfl _ _ rfl rfl (by kernel_rfl) (fun w => HRUN.out w) ?_
        simp only [Act.put, List.setIfInBounds_toArray, List.set_cons_zero, List.set_cons_succ]
        repeat (first
          | (refine wk_move _ (by first | exact wanted_none rfl | exact wanted_yes _ _ rfl rfl) rfl ?_; simp only [Act.put, Act.eval, Array.getD_eq_getD_getElem?, List.getElem?_toArray, List.getElem?_cons_succ, List.getElem?_cons_zero, Option.getD_some, List.setIfInBounds_toArray, List.set_cons_zero, List.set_cons_succ])
          | (refine wk_assign _ (by first | exact wanted_none rfl | exact wanted_yes _ _ rfl rfl) rfl ?_; simp only [Act.put, Act.eval, Array.getD_eq_getD_getElem?, List.getElem?_toArray, List.getElem?_cons_succ, List.getElem?_cons_zero, Option.getD_some, List.setIfInBounds_toArray, List.set_cons_zero, List.set_cons_succ])
          | (refine wk_pickt _ _ _ _ (by first | exact wanted_none rfl | exact wanted_yes _ _ rfl rfl) rfl rfl rfl ?_; simp only [Act.put, Act.eval, Array.getD_eq_getD_getElem?, List.getElem?_toArray, List.getElem?_cons_succ, List.getElem?_cons_zero, Option.getD_some, List.setIfInBounds_toArray, List.set_cons_zero, List.set_cons_succ])
          | (refine wk_pickf _ _ _ _ (by first | exact wanted_none rfl | exact wanted_yes _ _ rfl rfl) rfl rfl rfl ?_; simp only [Act.put, Act.eval, Array.getD_eq_getD_getElem?, List.getElem?_toArray, List.getElem?_cons_succ, List.getElem?_cons_zero, Option.getD_some, List.setIfInBounds_toArray, List.set_cons_zero, List.set_cons_succ])
          | (refine wk_skip (wanted_not _ true false rfl rfl rfl) ?_; simp only [Act.put, List.setIfInBounds_toArray, List.set_cons_zero, List.set_cons_succ])
          | (refine wk_skip (wanted_not _ false true rfl rfl rfl) ?_; simp only [Act.put, List.setIfInBounds_toArray, List.set_cons_zero, List.set_cons_succ])
          | (refine wk_skip (wanted_undef _ _ rfl rfl) ?_; simp only [Act.put, List.setIfInBounds_toArray, List.set_cons_zero, List.set_cons_succ])
          | (refine wk_not true _ _ (by first | exact wanted_none rfl | exact wanted_yes _ _ rfl rfl) rfl rfl ?_; simp only [Act.put, List.setIfInBounds_toArray, List.set_cons_zero, List.set_cons_succ])
          | (refine wk_not false _ _ (by first | exact wanted_none rfl | exact wanted_yes _ _ rfl rfl) rfl rfl ?_; simp only [Act.put, List.setIfInBounds_toArray, List.set_cons_zero, List.set_cons_succ]))
        refine wk_nil ?_
        intro w' hC
        have S1 := Lib.hid (hC.row U1.out)
        have SB := Lib.hid (UB.out.trans (Below.mono hC UB.out.size))
        clear hC
        go_wp2_with (first
          | refine wpList_build_none rfl 54 rfl _ zeroR Tryd.underlying54 rfl ?_
          | refine wpList_store_row rfl 54 _ _ rfl (w.heap.size + 1) zeroRoot rfl rfl 54 _ S1.out sizeR rfl zero_one ?_)
        refine bodyPost_ret (v := .tuple #[.agg zeroRoot, .int .i64 250]) (results_cell_slot rfl _ _ (w.heap.size + 1) 54 _ (0, 0) _ _ rfl rfl (setRow_heap _ _ _ _ _ _ S1.out) Tryd.underlying54 rfl sizeR) rfl ⟨by rw [HY.out.1, HY.out.2], ?_⟩
        exact below_setRow SB.out (by omega) _
    · have hY := HNO.out (by simp)
      have HY := Lib.hid hY
      clear hY
      go_wp2_with (first
        | refine wpList_build_none rfl 54 rfl _ zeroR Tryd.underlying54 rfl ?_
        | refine wpList_store_row rfl 54 _ _ rfl (w.heap.size + 1) zeroRoot rfl rfl 54 _ U1.out sizeR rfl zero_one ?_)
      refine bodyPost_ret (v := .tuple #[.agg zeroRoot, .int .i64 250]) (results_cell_slot rfl _ _ (w.heap.size + 1) 54 _ (0, 0) _ _ rfl rfl (setRow_heap _ _ _ _ _ _ U1.out) Tryd.underlying54 rfl sizeR) rfl ⟨by rw [HY.out.1, HY.out.2], ?_⟩
      exact below_setRow UB.out (by omega) _
end Go.Proofs.YtnhfkmfmmgaecaaDoor
