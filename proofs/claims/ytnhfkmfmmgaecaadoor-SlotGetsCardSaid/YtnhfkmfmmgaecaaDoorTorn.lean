/- The slot layer: Torn is the document's torn block. -/
import Derived.Test.YtnhfkmfmmgaecaaDoorRef07T
import Derived.Test.YtnhfkmfmmgaecaaDoorQuiet
import Derived.Laws.CopyOwn
import Derived.Deep.RegionLaw
namespace Go.Proofs.YtnhfkmfmmgaecaaDoor
open Go.RowKit
set_option linter.unusedSimpArgs false
set_option maxRecDepth 100000
/-- The bytes of sector j. -/
def sector (b : List UInt8) (j : Nat) : List UInt8 := (b.drop (64 * j)).take 64
theorem tornK_sector (a b : List UInt8) (hb : b.length = 256) (s j : Nat) (hj : j < 4) (h : newAt s j = true) :
    splice ((tornK a b s (64 * j)).map vu8) (64 * j) ((sector b j).map vu8) = (tornK a b s (64 * (j + 1))).map vu8 := by
  have hl : (sector b j).length = 64 := by simp [sector]; omega
  have e : splice (tornK a b s (64 * j)) (64 * j) (sector b j) = tornK a b s (64 * (j + 1)) := by
    apply List.ext_getElem?
    intro i
    have ht := length_tornK a b s (64 * j)
    have hlt : (List.take (64 * j) (tornK a b s (64 * j))).length = 64 * j := by simp [ht]; omega
    unfold splice
    rw [hl]
    by_cases h1 : i < 64 * j
    · rw [List.getElem?_append_left (by omega), List.getElem?_take_of_lt h1]
      have hi : i < 256 := by omega
      simp only [tornK, List.getElem?_map, List.getElem?_range hi, Option.map_some]
      have q1 : i < 64 * j ↔ True := by simp [h1]
      have q2 : i < 64 * (j + 1) ↔ True := by simp; omega
      simp only [q1, q2]
    · rw [List.getElem?_append_right (by omega), hlt]
      by_cases h2 : i < 64 * j + 64
      · rw [List.getElem?_append_left (by omega)]
        have hi : i < 256 := by omega
        have hd : i / 64 = j := by omega
        simp only [tornK, List.getElem?_map, List.getElem?_range hi, Option.map_some, hd, h, and_true]
        rw [if_pos (by omega), sector, List.getElem?_take_of_lt (by omega), List.getElem?_drop]
        have : 64 * j + (i - 64 * j) = i := by omega
        rw [this]
        simp [show i < b.length by omega]
      · rw [List.getElem?_append_right (by omega), List.getElem?_drop, hl]
        have q : 64 * j + 64 + (i - 64 * j - 64) = i := by omega
        rw [q]
        by_cases hi : i < 256
        · simp only [tornK, List.getElem?_map, List.getElem?_range hi, Option.map_some]
          have q1 : ¬ i < 64 * j := by omega
          have q2 : ¬ i < 64 * (j + 1) := by omega
          simp only [q1, q2]
        · rw [List.getElem?_eq_none (by omega), List.getElem?_eq_none (by rw [length_tornK]; omega)]
  rw [← e]
  simp [splice, List.map_append, List.map_take, List.map_drop]
theorem tornK_keep (a b : List UInt8) (s j : Nat) (h : newAt s j = false) : tornK a b s (64 * j) = tornK a b s (64 * (j + 1)) := by
  unfold tornK
  apply List.map_congr_left
  intro i _
  by_cases e : i / 64 = j
  · rw [e]; simp [h]
  · have : i < 64 * j ↔ i < 64 * (j + 1) := by omega
    simp only [this]
theorem bit_tab : ((List.range 256).all fun s => (List.range 4).all fun j => decide (s &&& 2 ^ j ≠ 0) == newAt s j) = true := by kernel_rfl
theorem and_bit (s j : Nat) (hs : s < 256) (hj : j < 4) : (bits .and .u8 (s : Int) ((2 ^ j : Nat) : Int) != 0) = newAt s j := by
  have h1 := bit_tab
  rw [List.all_eq_true] at h1
  have h2 := h1 s (List.mem_range.2 hs)
  rw [List.all_eq_true] at h2
  have h3 := h2 j (List.mem_range.2 hj)
  rw [beq_iff_eq] at h3
  have hp : 2 ^ j < 256 := Nat.lt_of_lt_of_le (Nat.pow_lt_pow_right (by decide) hj) (by decide)
  rw [u8_and_nat s (2 ^ j) hs hp, ← h3]
  by_cases h : s &&& 2 ^ j = 0 <;> simp [h]
section
variable {P : Program} {ops : Array Oper} {C : World → Prop} {o : Oper} {a : Act} {rest : List Oper}
/-- b[lo:hi] of an array in a block of its own. -/
theorem wk_slice_arr2 {Q : Act → Prop} (lo hi N : Nat) (k k' : IntKind) (t e : TypeId) (x l h' : Operand) (g : Nat) (hw : Region.wanted o (yielded ops a.tmps) = true) (ho : o.op = .slice t x (some l) (some h') none) (ht : P.underlying t = some (.array N e))
    (hs : (P.info? e).map (·.size) = some 1) (hx : a.eval x = .pointer (some ⟨g, 0, none⟩)) (hl : a.eval l = .int k (lo : Int)) (hh : a.eval h' = .int k' (hi : Int)) (h1 : lo ≤ hi) (h2 : hi ≤ N) (h3 : lo < N)
    (h : WQ P ops C Q rest (a.put o.dst (.slice (some ⟨g, lo, none⟩) (hi - lo) (N - lo)))) : WQ P ops C Q (o :: rest) a :=
  wk_val _ hw (fun w _ => by
    obtain ⟨f, hf, hf1⟩ : ∃ f, P.info? e = some f ∧ f.size = 1 := by
      cases hq : P.info? e with
      | none => simp [hq] at hs
      | some f => exact ⟨f, rfl, by simpa [hq] using hs⟩
    have h0 : ¬ N = lo := by omega
    unfold execOp
    simp only [ho, hx, Option.map_some, hl, hh]
    simp [Instr.sliceAt, Instr.slice, run_underlying ht, Instr.sliceBounds, Instr.sliceBound, asIntOf, h1, h2, sizeOf, typeInfo, hf, hf1, Addr.add_lit, h0, Instr.sureAddr]) h
theorem wpList_copy_at {w : World} {Q : Exit → Act → World → Prop} (hgd : o.guard = none) (d s : Operand) (dT sT : TypeId)
    (ho : o.op = .call { callee := .builtin .copy, args := #[d, s], argTypes := #[dT, sT] }) (elem : TypeId) (hu : P.underlying dT = some (.slice elem)) (hsz : (P.info? elem).map (·.size) = some 1)
    (g off dLen dCap sLen sCap : Nat) (ad : Addr) (hd : a.eval d = .slice (some ⟨g, off, none⟩) dLen dCap) (hs : a.eval s = .slice (some ad) sLen sCap)
    (cur : List Value) (t : TypeId) (hg : w.heap[g]? = some (.cells cur.toArray t (0, 0))) (cs : List Value) (hn : cs.length = Nat.min sLen dLen)
    (hsrc : ∀ j v, cs[j]? = some v → w.cell? (ad.add j) = some v)
    (hfit : off + cs.length ≤ cur.length) (h1 : ∀ v ∈ cs, v.oneCell' = true)
    (h : wpList P ops Q rest (a.put o.dst (goInt cs.length)) (w.setRow g (splice cur off cs).toArray)) : wpList P ops Q (o :: rest) a w :=
  wpList_plain hgd fun _ hK => by
    have hrun := run_copy_row (P := P) w dT sT o.type elem g off dLen dCap ad sLen sCap cur.toArray t cs hu hsz hg hn hsrc (by simpa using hfit) h1
    unfold Oper.wp
    have h' := h
    simp [splice] at h'
    simp [execOp, ho, resolve, invoke, builtin, hd, hs, hrun, Result.andThen]
    exact hK _ _ h'
end
set_option maxHeartbeats 1000000 in
theorem torn_any (a b : List UInt8) (ha : a.length = 256) (hb : b.length = 256) (s : Nat) (hs : s < 256) (w : World) :
    Calls Tryd.prog 34 #[.agg (blk a), .agg (blk b), .int .u8 (s : Int)] w fun e w' => e = .returned (.agg (blk (tornB a b s))) ∧ Below w.heap.size w w' := by
  obtain ⟨W, hW⟩ : ∃ W, W = ((w.alloc (.cells (blk a) 33)).alloc (.cells (blk b) 33)).alloc (.cells (zeros 256 (.int .u8 0)) 33) := ⟨_, rfl⟩
  have hsz : ((w.alloc (.cells (blk a) 33)).alloc (.cells (blk b) 33)).heap.size = w.heap.size + 2 := by simp
  have h0 : W.heap[w.heap.size]? = some (.cells (blk (tornK a b s 0)) 33 (0, 0)) := by rw [tornK_zero a b ha, hW, Go.heap_alloc_old _ _ (by rw [hsz]; omega)]; exact heap_alloc2_old _ _ _
  have h1 : W.heap[w.heap.size + 1]? = some (.cells (blk b) 33 (0, 0)) := by rw [hW, Go.heap_alloc_old _ _ (by rw [hsz]; omega)]; exact heap_alloc2_new _ _ _
  have h2 : W.heap[w.heap.size + 2]? = some (.cells (zeros 256 (.int .u8 0)) 33 (0, 0)) := by rw [hW, ← hsz]; exact heap_alloc_new _ _
  have hB : Below w.heap.size w W := by rw [hW]; exact (((Below.refl _ _).alloc (Nat.le_refl _) _).alloc (by simp) _).alloc (by simp; omega) _
  have HW := Lib.hid hW
  have H0 := Lib.hid h0
  have H1 := Lib.hid h1
  have H2 := Lib.hid h2
  have HB := Lib.hid hB
  have HLB := Lib.hid hb
  clear hW hsz h0 h1 h2 hB ha hb
  go_enter Tryd.func34, Tryd.ntmps34
  go_wp2_with (first
   | refine wpList_alloc_row rfl 33 rfl _ zeroB ?_)
  rw [← HW.out]
  go_loopw [9] (fun i wr => ∃ (k : Nat) (z : Int), z = (k : Int) ∧ k ≤ 4 ∧ i = .int .i64 z ∧ wr.heap[w.heap.size]? = some (.cells (blk (tornK a b s (64 * k))) 33 (0, 0)) ∧ wr.heap[w.heap.size + 1]? = some (.cells (blk b) 33 (0, 0)) ∧ wr.heap[w.heap.size + 2]? = some (.cells (zeros 256 (.int .u8 0)) 33 (0, 0)) ∧ Below w.heap.size w wr) (fun i _ => 4 - (intOf i).toNat)
  case atStart => exact ⟨0, 0, rfl, by omega, rfl, H0.out, H1.out, H2.out, HB.out⟩
  case round =>
    obtain ⟨k, z, hz, hk, rfl, g0, g1, g2, gB⟩ := hrel
    have G0 := Lib.hid g0
    have G1 := Lib.hid g1
    have G2 := Lib.hid g2
    have GB := Lib.hid gB
    clear g0 g1 g2 gB H0 H1 H2 HB HW
    rcases (show (k = 0 ∧ z = 0) ∨ (k = 1 ∧ z = 1) ∨ (k = 2 ∧ z = 2) ∨ (k = 3 ∧ z = 3) ∨ (k = 4 ∧ z = 4) by omega) with ⟨rfl, rfl⟩ | ⟨rfl, rfl⟩ | ⟨rfl, rfl⟩ | ⟨rfl, rfl⟩ | ⟨rfl, rfl⟩
    · have hbit := and_bit s 0 hs (by omega)
      rw [show ((2 ^ 0 : Nat) : Int) = 1 from rfl] at hbit
      clear hz hk
      cases hn : newAt s 0 with
      | true =>
        rw [hn] at hbit
        have HT := Lib.hid (tornK_sector a b HLB.out s 0 (by omega) hn)
        have HLS : Hid (((sector b 0).map vu8).length = Nat.min 64 64) := Lib.hid (by have := HLB.out; simp [sector]; omega)
        have HLT : Hid ((0 : Nat) + ((sector b 0).map vu8).length ≤ ((tornK a b s (64 * 0)).map vu8).length) := Lib.hid (by rw [HLS.out, List.length_map, length_tornK]; decide)
        have HON : Hid (∀ v ∈ (sector b 0).map vu8, v.oneCell' = true) := Lib.hid (by intro u hu; simp only [List.mem_map] at hu; obtain ⟨i, _, rfl⟩ := hu; rfl)
        have ew : IntKind.i64.wrap 64 = 64 := by rw [IntKind.wrap_i64]; rfl
        clear hn
        go_upto_region 6 with (fail)
        refine wk_region_tail 8 (by kernel_rfl) (by kernel_rfl) ?_
        simp only [List.take_succ_cons, List.take_zero, List.drop_succ_cons, List.drop_zero]
        repeat (first
          | (refine wk_move _ (by first | exact wanted_none rfl | exact wanted_yes _ _ rfl rfl) rfl ?_; simp only [Act.put, Act.eval, Array.getD_eq_getD_getElem?, List.getElem?_toArray, List.getElem?_cons_succ, List.getElem?_cons_zero, Option.getD_some, List.setIfInBounds_toArray, List.set_cons_zero, List.set_cons_succ])
          | (refine wk_assign _ (by first | exact wanted_none rfl | exact wanted_yes _ _ rfl rfl) rfl ?_; simp only [Act.put, Act.eval, Array.getD_eq_getD_getElem?, List.getElem?_toArray, List.getElem?_cons_succ, List.getElem?_cons_zero, Option.getD_some, List.setIfInBounds_toArray, List.set_cons_zero, List.set_cons_succ])
          | (refine wk_pickt _ _ _ _ (by first | exact wanted_none rfl | exact wanted_yes _ _ rfl rfl) rfl rfl rfl ?_; simp only [Act.put, Act.eval, Array.getD_eq_getD_getElem?, List.getElem?_toArray, List.getElem?_cons_succ, List.getElem?_cons_zero, Option.getD_some, List.setIfInBounds_toArray, List.set_cons_zero, List.set_cons_succ])
          | (refine wk_pickf _ _ _ _ (by first | exact wanted_none rfl | exact wanted_yes _ _ rfl rfl) rfl rfl rfl ?_; simp only [Act.put, Act.eval, Array.getD_eq_getD_getElem?, List.getElem?_toArray, List.getElem?_cons_succ, List.getElem?_cons_zero, Option.getD_some, List.setIfInBounds_toArray, List.set_cons_zero, List.set_cons_succ])
          | (refine wk_skip (wanted_not _ true false rfl rfl rfl) ?_; simp only [Act.put, List.setIfInBounds_toArray, List.set_cons_zero, List.set_cons_succ])
          | (refine wk_skip (wanted_not _ false true rfl rfl rfl) ?_; simp only [Act.put, List.setIfInBounds_toArray, List.set_cons_zero, List.set_cons_succ])
          | (refine wk_skip (wanted_undef _ _ rfl rfl) ?_; simp only [Act.put, List.setIfInBounds_toArray, List.set_cons_zero, List.set_cons_succ])
          | (refine wk_not true _ _ (by first | exact wanted_none rfl | exact wanted_yes _ _ rfl rfl) rfl rfl ?_; simp only [Act.put, List.setIfInBounds_toArray, List.set_cons_zero, List.set_cons_succ])
          | (refine wk_not false _ _ (by first | exact wanted_none rfl | exact wanted_yes _ _ rfl rfl) rfl rfl ?_; simp only [Act.put, List.setIfInBounds_toArray, List.set_cons_zero, List.set_cons_succ]))
        refine wk_add _ _ _ _ _ _ _ (by kernel_rfl) rfl rfl rfl ew ?_
        simp only [Act.put, List.setIfInBounds_toArray, List.set_cons_zero, List.set_cons_succ]
        refine wk_slice_arr2 0 64 256 .i64 .i64 _ _ _ _ _ _ (by kernel_rfl) rfl Tryd.underlying33 sizeU8 rfl rfl rfl (by omega) (by omega) (by omega) ?_
        simp only [Act.put, List.setIfInBounds_toArray, List.set_cons_zero, List.set_cons_succ]
        repeat (first
          | (refine wk_move _ (by first | exact wanted_none rfl | exact wanted_yes _ _ rfl rfl) rfl ?_; simp only [Act.put, Act.eval, Array.getD_eq_getD_getElem?, List.getElem?_toArray, List.getElem?_cons_succ, List.getElem?_cons_zero, Option.getD_some, List.setIfInBounds_toArray, List.set_cons_zero, List.set_cons_succ])
          | (refine wk_assign _ (by first | exact wanted_none rfl | exact wanted_yes _ _ rfl rfl) rfl ?_; simp only [Act.put, Act.eval, Array.getD_eq_getD_getElem?, List.getElem?_toArray, List.getElem?_cons_succ, List.getElem?_cons_zero, Option.getD_some, List.setIfInBounds_toArray, List.set_cons_zero, List.set_cons_succ])
          | (refine wk_pickt _ _ _ _ (by first | exact wanted_none rfl | exact wanted_yes _ _ rfl rfl) rfl rfl rfl ?_; simp only [Act.put, Act.eval, Array.getD_eq_getD_getElem?, List.getElem?_toArray, List.getElem?_cons_succ, List.getElem?_cons_zero, Option.getD_some, List.setIfInBounds_toArray, List.set_cons_zero, List.set_cons_succ])
          | (refine wk_pickf _ _ _ _ (by first | exact wanted_none rfl | exact wanted_yes _ _ rfl rfl) rfl rfl rfl ?_; simp only [Act.put, Act.eval, Array.getD_eq_getD_getElem?, List.getElem?_toArray, List.getElem?_cons_succ, List.getElem?_cons_zero, Option.getD_some, List.setIfInBounds_toArray, List.set_cons_zero, List.set_cons_succ])
          | (refine wk_skip (wanted_not _ true false rfl rfl rfl) ?_; simp only [Act.put, List.setIfInBounds_toArray, List.set_cons_zero, List.set_cons_succ])
          | (refine wk_skip (wanted_not _ false true rfl rfl rfl) ?_; simp only [Act.put, List.setIfInBounds_toArray, List.set_cons_zero, List.set_cons_succ])
          | (refine wk_skip (wanted_undef _ _ rfl rfl) ?_; simp only [Act.put, List.setIfInBounds_toArray, List.set_cons_zero, List.set_cons_succ])
          | (refine wk_not true _ _ (by first | exact wanted_none rfl | exact wanted_yes _ _ rfl rfl) rfl rfl ?_; simp only [Act.put, List.setIfInBounds_toArray, List.set_cons_zero, List.set_cons_succ])
          | (refine wk_not false _ _ (by first | exact wanted_none rfl | exact wanted_yes _ _ rfl rfl) rfl rfl ?_; simp only [Act.put, List.setIfInBounds_toArray, List.set_cons_zero, List.set_cons_succ]))
        refine wk_add _ _ _ _ _ _ _ (by kernel_rfl) rfl rfl rfl ew ?_
        simp only [Act.put, List.setIfInBounds_toArray, List.set_cons_zero, List.set_cons_succ]
        refine wk_slice_arr2 0 64 256 .i64 .i64 _ _ _ _ _ _ (by kernel_rfl) rfl Tryd.underlying33 sizeU8 rfl rfl rfl (by omega) (by omega) (by omega) ?_
        simp only [Act.put, List.setIfInBounds_toArray, List.set_cons_zero, List.set_cons_succ]
        refine wk_nil ?_
        intro w' hC
        have S0 := Lib.hid (hC.row G0.out)
        have S1 := Lib.hid (hC.row G1.out)
        have S2 := Lib.hid (hC.row G2.out)
        have SB := Lib.hid (GB.out.trans (Below.mono hC GB.out.size))
        clear hC ew
        have HSR : Hid (∀ j v, ((sector b 0).map vu8)[j]? = some v → w'.cell? ((⟨w.heap.size + 1, 0, none⟩ : Addr).add j) = some v) := Lib.hid (by
          intro j v hv
          rw [Addr.add_lit, cell_of_row w' _ _ _ _ _ S1.out, ← hv]
          have hj : j < 64 := by
            have := (List.getElem?_eq_some_iff.1 hv).1
            rw [HLS.out] at this
            exact this
          have := HLB.out
          simp only [blk, sector, List.getElem?_map, List.getElem?_toArray]
          rw [List.getElem?_take_of_lt hj, List.getElem?_drop])
        refine wpList_copy_at rfl (.tmp 22) (.tmp 26) 37 37 rfl 5 Tryd.underlying37 sizeU8 w.heap.size 0 _ _ _ _ ⟨w.heap.size + 1, 0, none⟩ rfl rfl ((tornK a b s (64 * 0)).map vu8) 33 S0.out ((sector b 0).map vu8) HLS.out HSR.out HLT.out HON.out ?_
        go_wp2_with fail
        refine ⟨⟨0 + 1, _, by rfl, by omega, rfl, ?_, ?_, ?_, ?_⟩, by simp [intOf]⟩
        · rw [setRow_heap _ _ _ _ _ _ S0.out]; exact congrArg (fun r : List Value => some (Obj.cells r.toArray 33 (0, 0))) HT.out
        · rw [setRow_other _ _ _ _ (by omega)]; exact S1.out
        · rw [setRow_other _ _ _ _ (by omega)]; exact S2.out
        · exact below_setRow SB.out (Nat.le_refl _) _
      | false =>
        rw [hn] at hbit
        have HT := Lib.hid (tornK_keep a b s 0 hn)
        clear hn
        go_wp2_with fail
        exact ⟨⟨0 + 1, _, by rfl, by omega, rfl, by rw [← HT.out]; exact G0.out, G1.out, G2.out, GB.out⟩, by simp [intOf]⟩
    · have hbit := and_bit s 1 hs (by omega)
      rw [show ((2 ^ 1 : Nat) : Int) = 2 from rfl] at hbit
      clear hz hk
      cases hn : newAt s 1 with
      | true =>
        rw [hn] at hbit
        have HT := Lib.hid (tornK_sector a b HLB.out s 1 (by omega) hn)
        have HLS : Hid (((sector b 1).map vu8).length = Nat.min 64 64) := Lib.hid (by have := HLB.out; simp [sector]; omega)
        have HLT : Hid ((64 : Nat) + ((sector b 1).map vu8).length ≤ ((tornK a b s (64 * 1)).map vu8).length) := Lib.hid (by rw [HLS.out, List.length_map, length_tornK]; decide)
        have HON : Hid (∀ v ∈ (sector b 1).map vu8, v.oneCell' = true) := Lib.hid (by intro u hu; simp only [List.mem_map] at hu; obtain ⟨i, _, rfl⟩ := hu; rfl)
        have ew : IntKind.i64.wrap 128 = 128 := by rw [IntKind.wrap_i64]; rfl
        clear hn
        go_upto_region 6 with (fail)
        refine wk_region_tail 8 (by kernel_rfl) (by kernel_rfl) ?_
        simp only [List.take_succ_cons, List.take_zero, List.drop_succ_cons, List.drop_zero]
        repeat (first
          | (refine wk_move _ (by first | exact wanted_none rfl | exact wanted_yes _ _ rfl rfl) rfl ?_; simp only [Act.put, Act.eval, Array.getD_eq_getD_getElem?, List.getElem?_toArray, List.getElem?_cons_succ, List.getElem?_cons_zero, Option.getD_some, List.setIfInBounds_toArray, List.set_cons_zero, List.set_cons_succ])
          | (refine wk_assign _ (by first | exact wanted_none rfl | exact wanted_yes _ _ rfl rfl) rfl ?_; simp only [Act.put, Act.eval, Array.getD_eq_getD_getElem?, List.getElem?_toArray, List.getElem?_cons_succ, List.getElem?_cons_zero, Option.getD_some, List.setIfInBounds_toArray, List.set_cons_zero, List.set_cons_succ])
          | (refine wk_pickt _ _ _ _ (by first | exact wanted_none rfl | exact wanted_yes _ _ rfl rfl) rfl rfl rfl ?_; simp only [Act.put, Act.eval, Array.getD_eq_getD_getElem?, List.getElem?_toArray, List.getElem?_cons_succ, List.getElem?_cons_zero, Option.getD_some, List.setIfInBounds_toArray, List.set_cons_zero, List.set_cons_succ])
          | (refine wk_pickf _ _ _ _ (by first | exact wanted_none rfl | exact wanted_yes _ _ rfl rfl) rfl rfl rfl ?_; simp only [Act.put, Act.eval, Array.getD_eq_getD_getElem?, List.getElem?_toArray, List.getElem?_cons_succ, List.getElem?_cons_zero, Option.getD_some, List.setIfInBounds_toArray, List.set_cons_zero, List.set_cons_succ])
          | (refine wk_skip (wanted_not _ true false rfl rfl rfl) ?_; simp only [Act.put, List.setIfInBounds_toArray, List.set_cons_zero, List.set_cons_succ])
          | (refine wk_skip (wanted_not _ false true rfl rfl rfl) ?_; simp only [Act.put, List.setIfInBounds_toArray, List.set_cons_zero, List.set_cons_succ])
          | (refine wk_skip (wanted_undef _ _ rfl rfl) ?_; simp only [Act.put, List.setIfInBounds_toArray, List.set_cons_zero, List.set_cons_succ])
          | (refine wk_not true _ _ (by first | exact wanted_none rfl | exact wanted_yes _ _ rfl rfl) rfl rfl ?_; simp only [Act.put, List.setIfInBounds_toArray, List.set_cons_zero, List.set_cons_succ])
          | (refine wk_not false _ _ (by first | exact wanted_none rfl | exact wanted_yes _ _ rfl rfl) rfl rfl ?_; simp only [Act.put, List.setIfInBounds_toArray, List.set_cons_zero, List.set_cons_succ]))
        refine wk_add _ _ _ _ _ _ _ (by kernel_rfl) rfl rfl rfl ew ?_
        simp only [Act.put, List.setIfInBounds_toArray, List.set_cons_zero, List.set_cons_succ]
        refine wk_slice_arr2 64 128 256 .i64 .i64 _ _ _ _ _ _ (by kernel_rfl) rfl Tryd.underlying33 sizeU8 rfl rfl rfl (by omega) (by omega) (by omega) ?_
        simp only [Act.put, List.setIfInBounds_toArray, List.set_cons_zero, List.set_cons_succ]
        repeat (first
          | (refine wk_move _ (by first | exact wanted_none rfl | exact wanted_yes _ _ rfl rfl) rfl ?_; simp only [Act.put, Act.eval, Array.getD_eq_getD_getElem?, List.getElem?_toArray, List.getElem?_cons_succ, List.getElem?_cons_zero, Option.getD_some, List.setIfInBounds_toArray, List.set_cons_zero, List.set_cons_succ])
          | (refine wk_assign _ (by first | exact wanted_none rfl | exact wanted_yes _ _ rfl rfl) rfl ?_; simp only [Act.put, Act.eval, Array.getD_eq_getD_getElem?, List.getElem?_toArray, List.getElem?_cons_succ, List.getElem?_cons_zero, Option.getD_some, List.setIfInBounds_toArray, List.set_cons_zero, List.set_cons_succ])
          | (refine wk_pickt _ _ _ _ (by first | exact wanted_none rfl | exact wanted_yes _ _ rfl rfl) rfl rfl rfl ?_; simp only [Act.put, Act.eval, Array.getD_eq_getD_getElem?, List.getElem?_toArray, List.getElem?_cons_succ, List.getElem?_cons_zero, Option.getD_some, List.setIfInBounds_toArray, List.set_cons_zero, List.set_cons_succ])
          | (refine wk_pickf _ _ _ _ (by first | exact wanted_none rfl | exact wanted_yes _ _ rfl rfl) rfl rfl rfl ?_; simp only [Act.put, Act.eval, Array.getD_eq_getD_getElem?, List.getElem?_toArray, List.getElem?_cons_succ, List.getElem?_cons_zero, Option.getD_some, List.setIfInBounds_toArray, List.set_cons_zero, List.set_cons_succ])
          | (refine wk_skip (wanted_not _ true false rfl rfl rfl) ?_; simp only [Act.put, List.setIfInBounds_toArray, List.set_cons_zero, List.set_cons_succ])
          | (refine wk_skip (wanted_not _ false true rfl rfl rfl) ?_; simp only [Act.put, List.setIfInBounds_toArray, List.set_cons_zero, List.set_cons_succ])
          | (refine wk_skip (wanted_undef _ _ rfl rfl) ?_; simp only [Act.put, List.setIfInBounds_toArray, List.set_cons_zero, List.set_cons_succ])
          | (refine wk_not true _ _ (by first | exact wanted_none rfl | exact wanted_yes _ _ rfl rfl) rfl rfl ?_; simp only [Act.put, List.setIfInBounds_toArray, List.set_cons_zero, List.set_cons_succ])
          | (refine wk_not false _ _ (by first | exact wanted_none rfl | exact wanted_yes _ _ rfl rfl) rfl rfl ?_; simp only [Act.put, List.setIfInBounds_toArray, List.set_cons_zero, List.set_cons_succ]))
        refine wk_add _ _ _ _ _ _ _ (by kernel_rfl) rfl rfl rfl ew ?_
        simp only [Act.put, List.setIfInBounds_toArray, List.set_cons_zero, List.set_cons_succ]
        refine wk_slice_arr2 64 128 256 .i64 .i64 _ _ _ _ _ _ (by kernel_rfl) rfl Tryd.underlying33 sizeU8 rfl rfl rfl (by omega) (by omega) (by omega) ?_
        simp only [Act.put, List.setIfInBounds_toArray, List.set_cons_zero, List.set_cons_succ]
        refine wk_nil ?_
        intro w' hC
        have S0 := Lib.hid (hC.row G0.out)
        have S1 := Lib.hid (hC.row G1.out)
        have S2 := Lib.hid (hC.row G2.out)
        have SB := Lib.hid (GB.out.trans (Below.mono hC GB.out.size))
        clear hC ew
        have HSR : Hid (∀ j v, ((sector b 1).map vu8)[j]? = some v → w'.cell? ((⟨w.heap.size + 1, 64, none⟩ : Addr).add j) = some v) := Lib.hid (by
          intro j v hv
          rw [Addr.add_lit, cell_of_row w' _ _ _ _ _ S1.out, ← hv]
          have hj : j < 64 := by
            have := (List.getElem?_eq_some_iff.1 hv).1
            rw [HLS.out] at this
            exact this
          have := HLB.out
          simp only [blk, sector, List.getElem?_map, List.getElem?_toArray]
          rw [List.getElem?_take_of_lt hj, List.getElem?_drop])
        refine wpList_copy_at rfl (.tmp 22) (.tmp 26) 37 37 rfl 5 Tryd.underlying37 sizeU8 w.heap.size 64 _ _ _ _ ⟨w.heap.size + 1, 64, none⟩ rfl rfl ((tornK a b s (64 * 1)).map vu8) 33 S0.out ((sector b 1).map vu8) HLS.out HSR.out HLT.out HON.out ?_
        go_wp2_with fail
        refine ⟨⟨1 + 1, _, by rfl, by omega, rfl, ?_, ?_, ?_, ?_⟩, by simp [intOf]⟩
        · rw [setRow_heap _ _ _ _ _ _ S0.out]; exact congrArg (fun r : List Value => some (Obj.cells r.toArray 33 (0, 0))) HT.out
        · rw [setRow_other _ _ _ _ (by omega)]; exact S1.out
        · rw [setRow_other _ _ _ _ (by omega)]; exact S2.out
        · exact below_setRow SB.out (Nat.le_refl _) _
      | false =>
        rw [hn] at hbit
        have HT := Lib.hid (tornK_keep a b s 1 hn)
        clear hn
        go_wp2_with fail
        exact ⟨⟨1 + 1, _, by rfl, by omega, rfl, by rw [← HT.out]; exact G0.out, G1.out, G2.out, GB.out⟩, by simp [intOf]⟩
    · have hbit := and_bit s 2 hs (by omega)
      rw [show ((2 ^ 2 : Nat) : Int) = 4 from rfl] at hbit
      clear hz hk
      cases hn : newAt s 2 with
      | true =>
        rw [hn] at hbit
        have HT := Lib.hid (tornK_sector a b HLB.out s 2 (by omega) hn)
        have HLS : Hid (((sector b 2).map vu8).length = Nat.min 64 64) := Lib.hid (by have := HLB.out; simp [sector]; omega)
        have HLT : Hid ((128 : Nat) + ((sector b 2).map vu8).length ≤ ((tornK a b s (64 * 2)).map vu8).length) := Lib.hid (by rw [HLS.out, List.length_map, length_tornK]; decide)
        have HON : Hid (∀ v ∈ (sector b 2).map vu8, v.oneCell' = true) := Lib.hid (by intro u hu; simp only [List.mem_map] at hu; obtain ⟨i, _, rfl⟩ := hu; rfl)
        have ew : IntKind.i64.wrap 192 = 192 := by rw [IntKind.wrap_i64]; rfl
        clear hn
        go_upto_region 6 with (fail)
        refine wk_region_tail 8 (by kernel_rfl) (by kernel_rfl) ?_
        simp only [List.take_succ_cons, List.take_zero, List.drop_succ_cons, List.drop_zero]
        repeat (first
          | (refine wk_move _ (by first | exact wanted_none rfl | exact wanted_yes _ _ rfl rfl) rfl ?_; simp only [Act.put, Act.eval, Array.getD_eq_getD_getElem?, List.getElem?_toArray, List.getElem?_cons_succ, List.getElem?_cons_zero, Option.getD_some, List.setIfInBounds_toArray, List.set_cons_zero, List.set_cons_succ])
          | (refine wk_assign _ (by first | exact wanted_none rfl | exact wanted_yes _ _ rfl rfl) rfl ?_; simp only [Act.put, Act.eval, Array.getD_eq_getD_getElem?, List.getElem?_toArray, List.getElem?_cons_succ, List.getElem?_cons_zero, Option.getD_some, List.setIfInBounds_toArray, List.set_cons_zero, List.set_cons_succ])
          | (refine wk_pickt _ _ _ _ (by first | exact wanted_none rfl | exact wanted_yes _ _ rfl rfl) rfl rfl rfl ?_; simp only [Act.put, Act.eval, Array.getD_eq_getD_getElem?, List.getElem?_toArray, List.getElem?_cons_succ, List.getElem?_cons_zero, Option.getD_some, List.setIfInBounds_toArray, List.set_cons_zero, List.set_cons_succ])
          | (refine wk_pickf _ _ _ _ (by first | exact wanted_none rfl | exact wanted_yes _ _ rfl rfl) rfl rfl rfl ?_; simp only [Act.put, Act.eval, Array.getD_eq_getD_getElem?, List.getElem?_toArray, List.getElem?_cons_succ, List.getElem?_cons_zero, Option.getD_some, List.setIfInBounds_toArray, List.set_cons_zero, List.set_cons_succ])
          | (refine wk_skip (wanted_not _ true false rfl rfl rfl) ?_; simp only [Act.put, List.setIfInBounds_toArray, List.set_cons_zero, List.set_cons_succ])
          | (refine wk_skip (wanted_not _ false true rfl rfl rfl) ?_; simp only [Act.put, List.setIfInBounds_toArray, List.set_cons_zero, List.set_cons_succ])
          | (refine wk_skip (wanted_undef _ _ rfl rfl) ?_; simp only [Act.put, List.setIfInBounds_toArray, List.set_cons_zero, List.set_cons_succ])
          | (refine wk_not true _ _ (by first | exact wanted_none rfl | exact wanted_yes _ _ rfl rfl) rfl rfl ?_; simp only [Act.put, List.setIfInBounds_toArray, List.set_cons_zero, List.set_cons_succ])
          | (refine wk_not false _ _ (by first | exact wanted_none rfl | exact wanted_yes _ _ rfl rfl) rfl rfl ?_; simp only [Act.put, List.setIfInBounds_toArray, List.set_cons_zero, List.set_cons_succ]))
        refine wk_add _ _ _ _ _ _ _ (by kernel_rfl) rfl rfl rfl ew ?_
        simp only [Act.put, List.setIfInBounds_toArray, List.set_cons_zero, List.set_cons_succ]
        refine wk_slice_arr2 128 192 256 .i64 .i64 _ _ _ _ _ _ (by kernel_rfl) rfl Tryd.underlying33 sizeU8 rfl rfl rfl (by omega) (by omega) (by omega) ?_
        simp only [Act.put, List.setIfInBounds_toArray, List.set_cons_zero, List.set_cons_succ]
        repeat (first
          | (refine wk_move _ (by first | exact wanted_none rfl | exact wanted_yes _ _ rfl rfl) rfl ?_; simp only [Act.put, Act.eval, Array.getD_eq_getD_getElem?, List.getElem?_toArray, List.getElem?_cons_succ, List.getElem?_cons_zero, Option.getD_some, List.setIfInBounds_toArray, List.set_cons_zero, List.set_cons_succ])
          | (refine wk_assign _ (by first | exact wanted_none rfl | exact wanted_yes _ _ rfl rfl) rfl ?_; simp only [Act.put, Act.eval, Array.getD_eq_getD_getElem?, List.getElem?_toArray, List.getElem?_cons_succ, List.getElem?_cons_zero, Option.getD_some, List.setIfInBounds_toArray, List.set_cons_zero, List.set_cons_succ])
          | (refine wk_pickt _ _ _ _ (by first | exact wanted_none rfl | exact wanted_yes _ _ rfl rfl) rfl rfl rfl ?_; simp only [Act.put, Act.eval, Array.getD_eq_getD_getElem?, List.getElem?_toArray, List.getElem?_cons_succ, List.getElem?_cons_zero, Option.getD_some, List.setIfInBounds_toArray, List.set_cons_zero, List.set_cons_succ])
          | (refine wk_pickf _ _ _ _ (by first | exact wanted_none rfl | exact wanted_yes _ _ rfl rfl) rfl rfl rfl ?_; simp only [Act.put, Act.eval, Array.getD_eq_getD_getElem?, List.getElem?_toArray, List.getElem?_cons_succ, List.getElem?_cons_zero, Option.getD_some, List.setIfInBounds_toArray, List.set_cons_zero, List.set_cons_succ])
          | (refine wk_skip (wanted_not _ true false rfl rfl rfl) ?_; simp only [Act.put, List.setIfInBounds_toArray, List.set_cons_zero, List.set_cons_succ])
          | (refine wk_skip (wanted_not _ false true rfl rfl rfl) ?_; simp only [Act.put, List.setIfInBounds_toArray, List.set_cons_zero, List.set_cons_succ])
          | (refine wk_skip (wanted_undef _ _ rfl rfl) ?_; simp only [Act.put, List.setIfInBounds_toArray, List.set_cons_zero, List.set_cons_succ])
          | (refine wk_not true _ _ (by first | exact wanted_none rfl | exact wanted_yes _ _ rfl rfl) rfl rfl ?_; simp only [Act.put, List.setIfInBounds_toArray, List.set_cons_zero, List.set_cons_succ])
          | (refine wk_not false _ _ (by first | exact wanted_none rfl | exact wanted_yes _ _ rfl rfl) rfl rfl ?_; simp only [Act.put, List.setIfInBounds_toArray, List.set_cons_zero, List.set_cons_succ]))
        refine wk_add _ _ _ _ _ _ _ (by kernel_rfl) rfl rfl rfl ew ?_
        simp only [Act.put, List.setIfInBounds_toArray, List.set_cons_zero, List.set_cons_succ]
        refine wk_slice_arr2 128 192 256 .i64 .i64 _ _ _ _ _ _ (by kernel_rfl) rfl Tryd.underlying33 sizeU8 rfl rfl rfl (by omega) (by omega) (by omega) ?_
        simp only [Act.put, List.setIfInBounds_toArray, List.set_cons_zero, List.set_cons_succ]
        refine wk_nil ?_
        intro w' hC
        have S0 := Lib.hid (hC.row G0.out)
        have S1 := Lib.hid (hC.row G1.out)
        have S2 := Lib.hid (hC.row G2.out)
        have SB := Lib.hid (GB.out.trans (Below.mono hC GB.out.size))
        clear hC ew
        have HSR : Hid (∀ j v, ((sector b 2).map vu8)[j]? = some v → w'.cell? ((⟨w.heap.size + 1, 128, none⟩ : Addr).add j) = some v) := Lib.hid (by
          intro j v hv
          rw [Addr.add_lit, cell_of_row w' _ _ _ _ _ S1.out, ← hv]
          have hj : j < 64 := by
            have := (List.getElem?_eq_some_iff.1 hv).1
            rw [HLS.out] at this
            exact this
          have := HLB.out
          simp only [blk, sector, List.getElem?_map, List.getElem?_toArray]
          rw [List.getElem?_take_of_lt hj, List.getElem?_drop])
        refine wpList_copy_at rfl (.tmp 22) (.tmp 26) 37 37 rfl 5 Tryd.underlying37 sizeU8 w.heap.size 128 _ _ _ _ ⟨w.heap.size + 1, 128, none⟩ rfl rfl ((tornK a b s (64 * 2)).map vu8) 33 S0.out ((sector b 2).map vu8) HLS.out HSR.out HLT.out HON.out ?_
        go_wp2_with fail
        refine ⟨⟨2 + 1, _, by rfl, by omega, rfl, ?_, ?_, ?_, ?_⟩, by simp [intOf]⟩
        · rw [setRow_heap _ _ _ _ _ _ S0.out]; exact congrArg (fun r : List Value => some (Obj.cells r.toArray 33 (0, 0))) HT.out
        · rw [setRow_other _ _ _ _ (by omega)]; exact S1.out
        · rw [setRow_other _ _ _ _ (by omega)]; exact S2.out
        · exact below_setRow SB.out (Nat.le_refl _) _
      | false =>
        rw [hn] at hbit
        have HT := Lib.hid (tornK_keep a b s 2 hn)
        clear hn
        go_wp2_with fail
        exact ⟨⟨2 + 1, _, by rfl, by omega, rfl, by rw [← HT.out]; exact G0.out, G1.out, G2.out, GB.out⟩, by simp [intOf]⟩
    · have hbit := and_bit s 3 hs (by omega)
      rw [show ((2 ^ 3 : Nat) : Int) = 8 from rfl] at hbit
      clear hz hk
      cases hn : newAt s 3 with
      | true =>
        rw [hn] at hbit
        have HT := Lib.hid (tornK_sector a b HLB.out s 3 (by omega) hn)
        have HLS : Hid (((sector b 3).map vu8).length = Nat.min 64 64) := Lib.hid (by have := HLB.out; simp [sector]; omega)
        have HLT : Hid ((192 : Nat) + ((sector b 3).map vu8).length ≤ ((tornK a b s (64 * 3)).map vu8).length) := Lib.hid (by rw [HLS.out, List.length_map, length_tornK]; decide)
        have HON : Hid (∀ v ∈ (sector b 3).map vu8, v.oneCell' = true) := Lib.hid (by intro u hu; simp only [List.mem_map] at hu; obtain ⟨i, _, rfl⟩ := hu; rfl)
        have ew : IntKind.i64.wrap 256 = 256 := by rw [IntKind.wrap_i64]; rfl
        clear hn
        go_upto_region 6 with (fail)
        refine wk_region_tail 8 (by kernel_rfl) (by kernel_rfl) ?_
        simp only [List.take_succ_cons, List.take_zero, List.drop_succ_cons, List.drop_zero]
        repeat (first
          | (refine wk_move _ (by first | exact wanted_none rfl | exact wanted_yes _ _ rfl rfl) rfl ?_; simp only [Act.put, Act.eval, Array.getD_eq_getD_getElem?, List.getElem?_toArray, List.getElem?_cons_succ, List.getElem?_cons_zero, Option.getD_some, List.setIfInBounds_toArray, List.set_cons_zero, List.set_cons_succ])
          | (refine wk_assign _ (by first | exact wanted_none rfl | exact wanted_yes _ _ rfl rfl) rfl ?_; simp only [Act.put, Act.eval, Array.getD_eq_getD_getElem?, List.getElem?_toArray, List.getElem?_cons_succ, List.getElem?_cons_zero, Option.getD_some, List.setIfInBounds_toArray, List.set_cons_zero, List.set_cons_succ])
          | (refine wk_pickt _ _ _ _ (by first | exact wanted_none rfl | exact wanted_yes _ _ rfl rfl) rfl rfl rfl ?_; simp only [Act.put, Act.eval, Array.getD_eq_getD_getElem?, List.getElem?_toArray, List.getElem?_cons_succ, List.getElem?_cons_zero, Option.getD_some, List.setIfInBounds_toArray, List.set_cons_zero, List.set_cons_succ])
          | (refine wk_pickf _ _ _ _ (by first | exact wanted_none rfl | exact wanted_yes _ _ rfl rfl) rfl rfl rfl ?_; simp only [Act.put, Act.eval, Array.getD_eq_getD_getElem?, List.getElem?_toArray, List.getElem?_cons_succ, List.getElem?_cons_zero, Option.getD_some, List.setIfInBounds_toArray, List.set_cons_zero, List.set_cons_succ])
          | (refine wk_skip (wanted_not _ true false rfl rfl rfl) ?_; simp only [Act.put, List.setIfInBounds_toArray, List.set_cons_zero, List.set_cons_succ])
          | (refine wk_skip (wanted_not _ false true rfl rfl rfl) ?_; simp only [Act.put, List.setIfInBounds_toArray, List.set_cons_zero, List.set_cons_succ])
          | (refine wk_skip (wanted_undef _ _ rfl rfl) ?_; simp only [Act.put, List.setIfInBounds_toArray, List.set_cons_zero, List.set_cons_succ])
          | (refine wk_not true _ _ (by first | exact wanted_none rfl | exact wanted_yes _ _ rfl rfl) rfl rfl ?_; simp only [Act.put, List.setIfInBounds_toArray, List.set_cons_zero, List.set_cons_succ])
          | (refine wk_not false _ _ (by first | exact wanted_none rfl | exact wanted_yes _ _ rfl rfl) rfl rfl ?_; simp only [Act.put, List.setIfInBounds_toArray, List.set_cons_zero, List.set_cons_succ]))
        refine wk_add _ _ _ _ _ _ _ (by kernel_rfl) rfl rfl rfl ew ?_
        simp only [Act.put, List.setIfInBounds_toArray, List.set_cons_zero, List.set_cons_succ]
        refine wk_slice_arr2 192 256 256 .i64 .i64 _ _ _ _ _ _ (by kernel_rfl) rfl Tryd.underlying33 sizeU8 rfl rfl rfl (by omega) (by omega) (by omega) ?_
        simp only [Act.put, List.setIfInBounds_toArray, List.set_cons_zero, List.set_cons_succ]
        repeat (first
          | (refine wk_move _ (by first | exact wanted_none rfl | exact wanted_yes _ _ rfl rfl) rfl ?_; simp only [Act.put, Act.eval, Array.getD_eq_getD_getElem?, List.getElem?_toArray, List.getElem?_cons_succ, List.getElem?_cons_zero, Option.getD_some, List.setIfInBounds_toArray, List.set_cons_zero, List.set_cons_succ])
          | (refine wk_assign _ (by first | exact wanted_none rfl | exact wanted_yes _ _ rfl rfl) rfl ?_; simp only [Act.put, Act.eval, Array.getD_eq_getD_getElem?, List.getElem?_toArray, List.getElem?_cons_succ, List.getElem?_cons_zero, Option.getD_some, List.setIfInBounds_toArray, List.set_cons_zero, List.set_cons_succ])
          | (refine wk_pickt _ _ _ _ (by first | exact wanted_none rfl | exact wanted_yes _ _ rfl rfl) rfl rfl rfl ?_; simp only [Act.put, Act.eval, Array.getD_eq_getD_getElem?, List.getElem?_toArray, List.getElem?_cons_succ, List.getElem?_cons_zero, Option.getD_some, List.setIfInBounds_toArray, List.set_cons_zero, List.set_cons_succ])
          | (refine wk_pickf _ _ _ _ (by first | exact wanted_none rfl | exact wanted_yes _ _ rfl rfl) rfl rfl rfl ?_; simp only [Act.put, Act.eval, Array.getD_eq_getD_getElem?, List.getElem?_toArray, List.getElem?_cons_succ, List.getElem?_cons_zero, Option.getD_some, List.setIfInBounds_toArray, List.set_cons_zero, List.set_cons_succ])
          | (refine wk_skip (wanted_not _ true false rfl rfl rfl) ?_; simp only [Act.put, List.setIfInBounds_toArray, List.set_cons_zero, List.set_cons_succ])
          | (refine wk_skip (wanted_not _ false true rfl rfl rfl) ?_; simp only [Act.put, List.setIfInBounds_toArray, List.set_cons_zero, List.set_cons_succ])
          | (refine wk_skip (wanted_undef _ _ rfl rfl) ?_; simp only [Act.put, List.setIfInBounds_toArray, List.set_cons_zero, List.set_cons_succ])
          | (refine wk_not true _ _ (by first | exact wanted_none rfl | exact wanted_yes _ _ rfl rfl) rfl rfl ?_; simp only [Act.put, List.setIfInBounds_toArray, List.set_cons_zero, List.set_cons_succ])
          | (refine wk_not false _ _ (by first | exact wanted_none rfl | exact wanted_yes _ _ rfl rfl) rfl rfl ?_; simp only [Act.put, List.setIfInBounds_toArray, List.set_cons_zero, List.set_cons_succ]))
        refine wk_add _ _ _ _ _ _ _ (by kernel_rfl) rfl rfl rfl ew ?_
        simp only [Act.put, List.setIfInBounds_toArray, List.set_cons_zero, List.set_cons_succ]
        refine wk_slice_arr2 192 256 256 .i64 .i64 _ _ _ _ _ _ (by kernel_rfl) rfl Tryd.underlying33 sizeU8 rfl rfl rfl (by omega) (by omega) (by omega) ?_
        simp only [Act.put, List.setIfInBounds_toArray, List.set_cons_zero, List.set_cons_succ]
        refine wk_nil ?_
        intro w' hC
        have S0 := Lib.hid (hC.row G0.out)
        have S1 := Lib.hid (hC.row G1.out)
        have S2 := Lib.hid (hC.row G2.out)
        have SB := Lib.hid (GB.out.trans (Below.mono hC GB.out.size))
        clear hC ew
        have HSR : Hid (∀ j v, ((sector b 3).map vu8)[j]? = some v → w'.cell? ((⟨w.heap.size + 1, 192, none⟩ : Addr).add j) = some v) := Lib.hid (by
          intro j v hv
          rw [Addr.add_lit, cell_of_row w' _ _ _ _ _ S1.out, ← hv]
          have hj : j < 64 := by
            have := (List.getElem?_eq_some_iff.1 hv).1
            rw [HLS.out] at this
            exact this
          have := HLB.out
          simp only [blk, sector, List.getElem?_map, List.getElem?_toArray]
          rw [List.getElem?_take_of_lt hj, List.getElem?_drop])
        refine wpList_copy_at rfl (.tmp 22) (.tmp 26) 37 37 rfl 5 Tryd.underlying37 sizeU8 w.heap.size 192 _ _ _ _ ⟨w.heap.size + 1, 192, none⟩ rfl rfl ((tornK a b s (64 * 3)).map vu8) 33 S0.out ((sector b 3).map vu8) HLS.out HSR.out HLT.out HON.out ?_
        go_wp2_with fail
        refine ⟨⟨3 + 1, _, by rfl, by omega, rfl, ?_, ?_, ?_, ?_⟩, by simp [intOf]⟩
        · rw [setRow_heap _ _ _ _ _ _ S0.out]; exact congrArg (fun r : List Value => some (Obj.cells r.toArray 33 (0, 0))) HT.out
        · rw [setRow_other _ _ _ _ (by omega)]; exact S1.out
        · rw [setRow_other _ _ _ _ (by omega)]; exact S2.out
        · exact below_setRow SB.out (Nat.le_refl _) _
      | false =>
        rw [hn] at hbit
        have HT := Lib.hid (tornK_keep a b s 3 hn)
        clear hn
        go_wp2_with fail
        exact ⟨⟨3 + 1, _, by rfl, by omega, rfl, by rw [← HT.out]; exact G0.out, G1.out, G2.out, GB.out⟩, by simp [intOf]⟩
    · clear hz hk
      have HS : Hid ((blk (tornK a b s (64 * 4))).size = 256) := Lib.hid (by rw [size_blk, length_tornK])
      obtain ⟨T, hT⟩ : ∃ T, T = tornK a b s (64 * 4) := ⟨_, rfl⟩
      rw [← hT] at G0 HS
      have HT := Lib.hid hT
      clear hT
      go_wp2_with (first
       | refine wpList_load_row rfl 33 _ rfl w.heap.size rfl 33 (blk T) (0, 0) _ G0.out Tryd.underlying33 rfl (by rw [HS.out]; exact sizeB) ?_
       | refine wpList_store_row rfl 33 _ _ rfl (w.heap.size + 2) (blk T) rfl rfl 33 _ G2.out (by rw [HS.out]; exact sizeB) (by rw [HS.out, size_zeros]) (blk_one _) ?_)
      refine bodyPost_ret (v := .agg (blk (tornB a b s))) (results_cell_row rfl _ _ (w.heap.size + 2) 33 _ (0, 0) _ rfl (by rw [show tornB a b s = T from HT.out.symm]; exact setRow_heap _ _ _ _ _ _ G2.out) Tryd.underlying33 rfl (by rw [show tornB a b s = T from HT.out.symm, HS.out]; exact sizeB)) rfl ⟨rfl, ?_⟩
      exact below_setRow GB.out (by omega) _
end Go.Proofs.YtnhfkmfmmgaecaaDoor
