/- CardTurns: true for every input. -/
import Derived.Test.YtnbdnnlomgjlmaaCardHead
import Derived.Test.YtnbdnnlomgjlmaaCardEq
namespace Go.Proofs.Ytnbdnnlomgjlmaa
open Go.RowKit
set_option linter.unusedSimpArgs false
def Card.tail (c : Card) : List UInt8 := lows c.id 4 ++ (lows c.parent 4 ++ (lows c.root 4 ++ (lows c.used 4 ++ (lows c.quota 4 ++ lows c.only.toNat 1))))
theorem bytes_mid (c : Card) : c.bytes = textB c.name.data.toList 24 ++ ((lows c.left 4 ++ lows c.right 4) ++ c.tail) := by
  simp [Card.bytes, Card.upto, Card.nums, Card.tail, List.flatMap_cons]
theorem mid_get {α : Type} (p m n s : List α) (hl : m.length = n.length) (k : Nat) (hk : k < p.length ∨ p.length + m.length ≤ k) : (p ++ (m ++ s))[k]? = (p ++ (n ++ s))[k]? := by
  rcases hk with h | h
  · rw [List.getElem?_append_left h, List.getElem?_append_left h]
  · rw [List.getElem?_append_right (by omega), List.getElem?_append_right (by omega), List.getElem?_append_right (by omega), List.getElem?_append_right (by omega), hl]
theorem done_get (m : UInt8) (L M : List UInt8) (hL : L.length = 54) (hM : M.length = 54) (i : Nat) (hi : i < 252) (h : ∀ k, i = k + 1 → k < 54 → L[k]? = M[k]?) : (doneB m L)[i]? = (doneB m M)[i]? := by
  rw [get_doneB m L (by omega) i hi, get_doneB m M (by omega) i hi]
  cases i with
  | zero => rfl
  | succ k =>
    rw [get_inside m L k (by omega) (by omega), get_inside m M k (by omega) (by omega), hL, hM]
    split
    · exact h k rfl (by omega)
    · rfl
/-- Another left, another right. -/
def Card.turn (c : Card) (l r : Nat) : Card := { c with left := l, right := r }
theorem turn_get (c : Card) (l r : Nat) (hn : c.name.size ≤ 24) (i : Nat) (hi : i < 252) (h : i < 26 ∨ 34 ≤ i) : (doneB 67 c.bytes)[i]? = (doneB 67 (c.turn l r).bytes)[i]? := by
  refine done_get 67 _ _ (c.length_bytes hn) ((c.turn l r).length_bytes hn) i hi (fun k hk hk2 => ?_)
  rw [bytes_mid, bytes_mid]
  refine mid_get _ _ _ _ (by simp [length_lows]) k ?_
  rw [length_textB _ _ (by simpa using hn)]
  simp [length_lows]
  omega
theorem turn_same (c : Card) (hc : c.Ok) (l r : Nat) (hl : l < 4294967296) (hr : r < 4294967296) (hn : c.name.size ≤ 24) : decide (doneB 67 c.bytes = doneB 67 (c.turn l r).bytes) = c.same (c.turn l r) := by
  rw [Bool.eq_iff_iff, same_iff, decide_eq_true_iff]
  constructor
  · intro h
    have h1 := done_inj 67 _ _ (by rw [c.length_bytes hn, (c.turn l r).length_bytes hn]) (by rw [c.length_bytes hn]; omega) h
    rw [bytes_mid, bytes_mid] at h1
    have h2 := (List.append_inj h1 (by rfl)).2
    have h3 := (List.append_inj h2 (by simp [length_lows])).1
    have h4 := List.append_inj h3 (by simp [length_lows])
    have e1 := lows_inj 4 _ _ hc.left hl h4.1
    have e2 := lows_inj 4 _ _ hc.right hr h4.2
    cases c
    simp only [Card.turn] at e1 e2 ⊢
    rw [← e1, ← e2]
  · intro h; rw [← h]
def Card.flip (c : Card) : Card := { c with only := !c.only }
theorem flip_upto (c : Card) : c.flip.upto 7 = c.upto 7 := rfl
theorem at54 (c : Card) (hn : c.name.size ≤ 24) : (doneB 67 c.bytes)[54]? = some (UInt8.ofNat c.only.toNat) := by
  have hl := c.length_upto 7 (by omega) hn
  rw [get_doneB 67 _ (by rw [c.length_bytes hn]; omega) 54 (by omega), get_inside 67 c.bytes 53 (by omega) (by rw [c.length_bytes hn]; omega), c.length_bytes hn, if_pos (by omega),
    Card.bytes, List.getElem?_append_right (by omega), hl]
  rfl
theorem flip_get (c : Card) (hn : c.name.size ≤ 24) (i : Nat) (hi : i < 252) : decide ((doneB 67 c.bytes)[i]? = (doneB 67 c.flip.bytes)[i]?) = !decide (i = 54) := by
  by_cases h : i = 54
  · subst h
    have e1 := at54 c hn
    have e2 := at54 c.flip hn
    rw [Bool.eq_iff_iff]
    simp only [decide_eq_true_iff, e1, e2, decide_true, Bool.not_true, Bool.false_eq_true, iff_false]
    cases c
    rename_i o
    cases o <;> (simp only [Card.flip]; decide)
  · have := done_get 67 c.bytes c.flip.bytes (c.length_bytes hn) (c.flip.length_bytes hn) i hi (fun k hk hk2 => by
      simp only [Card.bytes, flip_upto]
      have : k < (c.upto 7).length := by rw [c.length_upto 7 (by omega) hn]; omega
      rw [List.getElem?_append_left this, List.getElem?_append_left this])
    simp [this, h]
/-- What Put answers. -/
def Card.putB (c : Card) : List UInt8 := if c.may then doneB 67 c.bytes else List.replicate 256 0
def Card.putE (c : Card) : Int := if c.may then 0 else 5
theorem length_putB (c : Card) : c.putB.length = 256 := by
  unfold Card.putB
  split
  · rename_i h; exact length_doneB _ _ (by rw [c.length_bytes (may_name h)]; omega)
  · exact List.length_replicate
theorem put_all (c : Card) (hc : c.Ok) (w : World) : Calls Try.prog 36 #[.agg c.cells] w fun e w' => e = .returned (.tuple #[.agg (blk c.putB), .int .i64 c.putE]) ∧ Below w.heap.size w w' := by
  unfold Card.putB Card.putE
  cases hm : c.may with
  | true => simp only [if_true]; exact put_any c hc hm w
  | false => simp only [Bool.false_eq_true, if_false, ← zeros_blk]; exact put_no c hc hm w
set_option maxRecDepth 100000 in
set_option maxHeartbeats 2000000 in
theorem cardturns_any (c : Card) (l r : Nat) (hc : c.Ok) (hl : l < 4294967296) (hr : r < 4294967296) (w : World) :
    Calls Try.prog 11 #[.agg c.cells, .int .u32 (l : Int), .int .u32 (r : Int)] w fun e w' => e = .returned (.bool true) ∧ Below w.heap.size w w' := by
  obtain ⟨C, hC⟩ : ∃ C, C = c.cells := ⟨_, rfl⟩
  rw [← hC]
  have HC := Lib.hid hC
  have hC1 : C.all (·.oneCell') = true := hC ▸ cells_one _
  have hCs : C.size = 9 := by rw [hC]; rfl
  have HC1 := Lib.hid hC1
  have HCS := Lib.hid hCs
  have hg0 : ((w.alloc (.cells C 51)).alloc (.cells C 51)).heap[w.heap.size]? = some (.cells C 51 (0, 0)) := heap_alloc2_old _ _ _
  have HG0 := Lib.hid hg0
  have hg1 : (w.alloc (.cells C 51)).heap[w.heap.size]? = some (.cells C 51 (0, 0)) := heap_alloc_new _ _
  have HG1 := Lib.hid hg1
  clear hC hC1 hCs hg0 hg1
  go_enter Try.func11, Try.ntmps11
  go_upto_region 2 with (first
    | refine wpList_alloc_row rfl 51 rfl _ zeroC ?_
    | (refine wpList_store_new rfl 51 _ _ rfl _ C _ rfl rfl (by rw [HCS.out]; exact sizeC) (by rw [HCS.out]; rfl) HC1.out ?_)
    | (refine wpList_load_row rfl 51 _ rfl w.heap.size rfl 51 C (0, 0) _ HG1.out Try.underlying51 rfl (by rw [HCS.out]; exact sizeC) ?_))
  obtain ⟨W, hW⟩ : ∃ W, W = (w.alloc (.cells C 51)).alloc (.cells C 51) := ⟨_, rfl⟩
  rw [← hW]
  have hB : Below w.heap.size w W := by rw [hW]; exact ((Below.refl _ _).alloc (Nat.le_refl _) _).alloc (by simp) _
  have hr0 : W.heap[w.heap.size]? = some (.cells C 51 (0, 0)) := by rw [hW]; exact heap_alloc2_old _ _ _
  have hr1 : W.heap[w.heap.size + 1]? = some (.cells C 51 (0, 0)) := by rw [hW]; exact heap_alloc2_new _ _ _
  have hs : W.heap.size = w.heap.size + 2 := by rw [hW]; simp
  have q1 : W.cell? ⟨w.heap.size + 1, 1, none⟩ = some (cu c.left) := by rw [cell_of_row W _ 1 _ _ _ hr1, HC.out]; rfl
  have f1 := frozen_of_row W (w.heap.size + 1) 1 _ _ hr1
  obtain ⟨V1, hV1⟩ : ∃ V, V = W.setCell ⟨w.heap.size + 1, 1, none⟩ (.int .u32 (l : Int)) := ⟨_, rfl⟩
  have hv1 : V1.heap[w.heap.size + 1]? = some (.cells (C.setIfInBounds 1 (.int .u32 (l : Int))) 51 (0, 0)) := by rw [hV1]; exact heap_setCell_same _ _ _ _ _ _ hr1
  have q2 : V1.cell? ⟨w.heap.size + 1, 2, none⟩ = some (cu c.right) := by rw [cell_of_row V1 _ 2 _ _ _ hv1, HC.out]; rfl
  have f2 := frozen_of_row V1 (w.heap.size + 1) 2 _ _ hv1
  obtain ⟨V2, hV2⟩ : ∃ V, V = V1.setCell ⟨w.heap.size + 1, 2, none⟩ (.int .u32 (r : Int)) := ⟨_, rfl⟩
  have hv2 : V2.heap[w.heap.size + 1]? = some (.cells (c.turn l r).cells 51 (0, 0)) := by
    rw [hV2, heap_setCell_same _ _ _ _ _ _ hv1, HC.out]; rfl
  have hv0 : V2.heap[w.heap.size]? = some (.cells C 51 (0, 0)) := by rw [hV2, heap_setCell_other _ _ _ _ (by simp), hV1, heap_setCell_other _ _ _ _ (by simp)]; exact hr0
  have hBV : Below w.heap.size w V2 := by rw [hV2, hV1]; exact (hB.setCell (by simp) _).setCell (by simp) _
  have hs2 : V2.heap.size = w.heap.size + 2 := by rw [hV2, hV1]; simpa [World.setCell] using hs
  have HV1 := Lib.hid hV1
  have HV2 := Lib.hid hV2
  have HR1 := Lib.hid hv2
  have HR0 := Lib.hid hv0
  have HBV := Lib.hid hBV
  have HS2 := Lib.hid hs2
  clear hW hB hr0 hr1 hs hV1 hv1 hV2 hv2 hv0 hBV hs2 HG0 HG1
  go_upto_region 3 with (fail)
  rw [← HV1.out]
  clear q1 f1
  go_upto_region 4 with (fail)
  rw [← HV2.out]
  clear q2 f2
  have hP1 := put_all c hc V2
  rw [← HC.out] at hP1
  have HP1 := Lib.hid hP1
  clear hP1
  go_wp2_with (refine wpList_load_row rfl 51 _ rfl w.heap.size rfl 51 C (0, 0) _ HR0.out Try.underlying51 rfl (by rw [HCS.out]; exact sizeC) ?_)
  refine HP1.out.mono ?_
  rintro e w3 ⟨rfl, hb3⟩
  obtain ⟨A, hA⟩ : ∃ A, A = c.putB := ⟨_, rfl⟩
  have hAl : A.length = 256 := hA ▸ length_putB c
  obtain ⟨pe, hpe⟩ : ∃ pe, pe = c.putE := ⟨_, rfl⟩
  rw [← hA, ← hpe]
  have HA := Lib.hid hA
  have HPE := Lib.hid hpe
  have HAS : Hid ((blk A).size = 256) := Lib.hid (by rw [size_blk, hAl])
  have HAL := Lib.hid hAl
  have hs3 : w.heap.size + 2 ≤ w3.heap.size := by have := hb3.size; rw [HS2.out] at this; exact this
  have hr30 : w3.heap[w.heap.size]? = some (.cells C 51 (0, 0)) := (hb3.block _ (by rw [HS2.out]; omega)).trans HR0.out
  have hr31 : w3.heap[w.heap.size + 1]? = some (.cells (c.turn l r).cells 51 (0, 0)) := (hb3.block _ (by rw [HS2.out]; omega)).trans HR1.out
  have HB3 : Hid (Below w.heap.size w w3) := Lib.hid (HBV.out.trans (hb3.mono (by rw [HS2.out]; omega)))
  obtain ⟨W3, hW3⟩ : ∃ W3, W3 = w3.alloc (.cells (blk A) 23) := ⟨_, rfl⟩
  have HW3 := Lib.hid hW3
  have hq0 : W3.heap[w.heap.size]? = some (.cells C 51 (0, 0)) := by rw [hW3, Go.heap_alloc_old _ _ (by omega)]; exact hr30
  have hq1 : W3.heap[w.heap.size + 1]? = some (.cells (c.turn l r).cells 51 (0, 0)) := by rw [hW3, Go.heap_alloc_old _ _ (by omega)]; exact hr31
  have hq2 : W3.heap[w3.heap.size]? = some (.cells (blk A) 23 (0, 0)) := by rw [hW3]; exact heap_alloc_new _ _
  have hs4 : W3.heap.size = w3.heap.size + 1 := by rw [hW3]; simp
  have HQ0 := Lib.hid hq0
  have HQ1 := Lib.hid hq1
  have HQ2 := Lib.hid hq2
  have HS4 := Lib.hid hs4
  have HB4 : Hid (Below w.heap.size w W3) := Lib.hid (by rw [hW3]; exact HB3.out.alloc (by omega) _)
  have HP2 := Lib.hid (put_all (c.turn l r) (show (c.turn l r).Ok from ⟨hc.name, hl, hr, hc.id, hc.parent, hc.root, hc.used, hc.quota⟩) W3)
  clear hA hAl hpe hW3 hq0 hq1 hq2 hs4 hr30 hr31 hb3
  go_wp2_with (first
    | refine wpList_alloc_row rfl 23 rfl _ zeroB ?_
    | (refine wpList_store_new rfl 23 _ _ rfl _ (blk A) _ rfl rfl (by rw [HAS.out]; exact sizeB) (by rw [HAS.out, size_zeros]) (blk_one _) ?_)
    | (rw [← HW3.out]; refine wpList_load_row rfl 51 _ rfl (w.heap.size + 1) rfl 51 (c.turn l r).cells (0, 0) _ HQ1.out Try.underlying51 rfl sizeC ?_))
  refine HP2.out.mono ?_
  rintro e w5 ⟨rfl, hb5⟩
  obtain ⟨B, hB⟩ : ∃ B, B = (c.turn l r).putB := ⟨_, rfl⟩
  have hBl : B.length = 256 := hB ▸ length_putB _
  obtain ⟨pf, hpf⟩ : ∃ pe, pe = (c.turn l r).putE := ⟨_, rfl⟩
  rw [← hB, ← hpf]
  have HBB := Lib.hid hB
  have HPF := Lib.hid hpf
  have HBS : Hid ((blk B).size = 256) := Lib.hid (by rw [size_blk, hBl])
  have HBL := Lib.hid hBl
  have hs5 : w3.heap.size + 1 ≤ w5.heap.size := by have := hb5.size; rw [HS4.out] at this; exact this
  have HB5 : Hid (Below w.heap.size w w5) := Lib.hid (HB4.out.trans (hb5.mono (by rw [HS4.out]; omega)))
  have c0 := (hb5.block _ (by rw [HS4.out]; omega)).trans HQ0.out
  have c1 := (hb5.block _ (by rw [HS4.out]; omega)).trans HQ1.out
  have c2 := (hb5.block _ (by rw [HS4.out]; omega)).trans HQ2.out
  obtain ⟨W5, hW5⟩ : ∃ W5, W5 = w5.alloc (.cells (blk B) 23) := ⟨_, rfl⟩
  have HW5 := Lib.hid hW5
  have d0 : W5.heap[w.heap.size]? = some (.cells C 51 (0, 0)) := by rw [hW5, Go.heap_alloc_old _ _ (by omega)]; exact c0
  have d1 : W5.heap[w.heap.size + 1]? = some (.cells (c.turn l r).cells 51 (0, 0)) := by rw [hW5, Go.heap_alloc_old _ _ (by omega)]; exact c1
  have d2 : W5.heap[w3.heap.size]? = some (.cells (blk A) 23 (0, 0)) := by rw [hW5, Go.heap_alloc_old _ _ (by omega)]; exact c2
  have d3 : W5.heap[w5.heap.size]? = some (.cells (blk B) 23 (0, 0)) := by rw [hW5]; exact heap_alloc_new _ _
  have h50 : W5.cell? ⟨w.heap.size, 0, none⟩ = some (.string c.name) := by rw [cell_of_row W5 _ 0 _ _ _ d0, HC.out]; rfl
  have D0 := Lib.hid d0
  have D1 := Lib.hid d1
  have D2 := Lib.hid d2
  have D3 := Lib.hid d3
  have HB6 : Hid (Below w.heap.size w W5) := Lib.hid (by rw [hW5]; exact HB5.out.alloc (by omega) _)
  have hs6 : W5.heap.size = w5.heap.size + 1 := by rw [hW5]; simp
  have HS6 := Lib.hid hs6
  have hns := hc.name
  clear hB hBl hpf hW5 d0 d1 d2 d3 c0 c1 c2 hb5 hs6
  go_upto_region 6 with (first
    | refine wpList_alloc_row rfl 23 rfl _ zeroB ?_
    | (refine wpList_store_new rfl 23 _ _ rfl _ (blk B) _ rfl rfl (by rw [HBS.out]; exact sizeB) (by rw [HBS.out, size_zeros]) (blk_one _) ?_))
  rw [← HW5.out]
  have HBW : Hid (∀ w', Below W5.heap.size W5 w' → Below w.heap.size w w') := Lib.hid (fun w' h => HB6.out.trans (h.mono HB6.out.size))
  by_cases hmc : c.may = true
  · have hn := may_name hmc
    have hpe : pe = 0 := by rw [HPE.out]; simp [Card.putE, hmc]
    subst hpe
    have HA2 : Hid (A = doneB 67 c.bytes) := Lib.hid (by rw [HA.out]; simp [Card.putB, hmc])
    have HMC := Lib.hid hmc
    clear hmc
    by_cases hmd : (c.turn l r).may = true
    · have hpf : pf = 0 := by rw [HPF.out]; simp [Card.putE, hmd]
      subst hpf
      have HB2 : Hid (B = doneB 67 (c.turn l r).bytes) := Lib.hid (by rw [HBB.out]; simp [Card.putB, hmd])
      clear hmd
      go_wp2_with fail
      go_loopw [12] (fun i wr => ∃ k : Nat, k ≤ 252 ∧ i = .int .i64 k ∧ Below W5.heap.size W5 wr) (fun i _ => 252 - (intOf i).toNat)
      case atStart => exact ⟨0, by omega, rfl, Below.refl _ _⟩
      case round =>
        obtain ⟨k, hk, rfl, hbr⟩ := hrel
        have HBR := Lib.hid hbr
        clear hbr
        by_cases hlt : k < 252
        · have hkA : k < A.length := by rw [HAL.out]; omega
          have hkB : k < B.length := by rw [HBL.out]; omega
          have ka : wr.cell? ⟨w3.heap.size, k, none⟩ = some (.int .u8 (A[k].toNat : Int)) := by
            rw [cell_of_row wr _ k _ _ _ ((HBR.out.block _ (Array.getElem?_eq_some_iff.1 D2.out).1).trans D2.out), blk_get _ _ hkA]; rfl
          have kb : wr.cell? ⟨w5.heap.size, k, none⟩ = some (.int .u8 (B[k].toNat : Int)) := by
            rw [cell_of_row wr _ k _ _ _ ((HBR.out.block _ (Array.getElem?_eq_some_iff.1 D3.out).1).trans D3.out), blk_get _ _ hkB]; rfl
          have hab : k < 26 ∨ 34 ≤ k → A[k] = B[k] := fun h => by
            have := turn_get c l r hn k hlt h
            rw [← HA2.out, ← HB2.out, List.getElem?_eq_getElem hkA, List.getElem?_eq_getElem hkB] at this
            exact Option.some.inj this
          obtain ⟨x, hx⟩ : ∃ x, x = A[k] := ⟨_, rfl⟩
          obtain ⟨y, hy⟩ : ∃ y, y = B[k] := ⟨_, rfl⟩
          rw [← hx] at ka hab
          rw [← hy] at kb hab
          have KA := Lib.hid ka
          have KB := Lib.hid kb
          clear hx hy ka kb
          by_cases hxy : x = y
          · subst hxy
            clear hab
            go_wp2_with fail
            refine wk_region_since (by kernel_rfl) (by kernel_rfl) ?_
            repeat (first
              | (refine wk_move _ (by first | exact wanted_none rfl | exact wanted_yes _ _ rfl rfl) rfl ?_; simp only [Act.put, Act.eval, Array.getD_eq_getD_getElem?, List.getElem?_toArray, List.getElem?_cons_succ, List.getElem?_cons_zero, Option.getD_some, List.setIfInBounds_toArray, List.set_cons_zero, List.set_cons_succ])
              | (refine wk_assign _ (by first | exact wanted_none rfl | exact wanted_yes _ _ rfl rfl) rfl ?_; simp only [Act.put, Act.eval, Array.getD_eq_getD_getElem?, List.getElem?_toArray, List.getElem?_cons_succ, List.getElem?_cons_zero, Option.getD_some, List.setIfInBounds_toArray, List.set_cons_zero, List.set_cons_succ])
              | (refine wk_pickt _ _ _ _ (by first | exact wanted_none rfl | exact wanted_yes _ _ rfl rfl) rfl rfl rfl ?_; simp only [Act.put, Act.eval, Array.getD_eq_getD_getElem?, List.getElem?_toArray, List.getElem?_cons_succ, List.getElem?_cons_zero, Option.getD_some, List.setIfInBounds_toArray, List.set_cons_zero, List.set_cons_succ])
              | (refine wk_pickf _ _ _ _ (by first | exact wanted_none rfl | exact wanted_yes _ _ rfl rfl) rfl rfl rfl ?_; simp only [Act.put, Act.eval, Array.getD_eq_getD_getElem?, List.getElem?_toArray, List.getElem?_cons_succ, List.getElem?_cons_zero, Option.getD_some, List.setIfInBounds_toArray, List.set_cons_zero, List.set_cons_succ])
              | (refine wk_skip (wanted_not _ true false rfl rfl rfl) ?_; simp only [Act.put, List.setIfInBounds_toArray, List.set_cons_zero, List.set_cons_succ])
              | (refine wk_skip (wanted_not _ false true rfl rfl rfl) ?_; simp only [Act.put, List.setIfInBounds_toArray, List.set_cons_zero, List.set_cons_succ])
              | (refine wk_skip (wanted_undef _ _ rfl rfl) ?_; simp only [Act.put, List.setIfInBounds_toArray, List.set_cons_zero, List.set_cons_succ])
              | (refine wk_not true _ _ (by first | exact wanted_none rfl | exact wanted_yes _ _ rfl rfl) rfl rfl ?_; simp only [Act.put, List.setIfInBounds_toArray, List.set_cons_zero, List.set_cons_succ])
              | (refine wk_not false _ _ (by first | exact wanted_none rfl | exact wanted_yes _ _ rfl rfl) rfl rfl ?_; simp only [Act.put, List.setIfInBounds_toArray, List.set_cons_zero, List.set_cons_succ]))
            refine wk_index_arr _ _ _ _ _ (k) (256) .i64 (by kernel_rfl) rfl Try.underlying23 sizeU8 rfl rfl (by omega) ?_
            simp only [Act.put, List.setIfInBounds_toArray, List.set_cons_zero, List.set_cons_succ]
            refine wk_load1 _ _ _ _ _ rfl (by kernel_rfl) rfl rfl (fun w' hC => hC.cell KA.out) Try.underlying5 ?_
            simp only [Act.put, List.setIfInBounds_toArray, List.set_cons_zero, List.set_cons_succ]
            repeat (first
              | (refine wk_move _ (by first | exact wanted_none rfl | exact wanted_yes _ _ rfl rfl) rfl ?_; simp only [Act.put, Act.eval, Array.getD_eq_getD_getElem?, List.getElem?_toArray, List.getElem?_cons_succ, List.getElem?_cons_zero, Option.getD_some, List.setIfInBounds_toArray, List.set_cons_zero, List.set_cons_succ])
              | (refine wk_assign _ (by first | exact wanted_none rfl | exact wanted_yes _ _ rfl rfl) rfl ?_; simp only [Act.put, Act.eval, Array.getD_eq_getD_getElem?, List.getElem?_toArray, List.getElem?_cons_succ, List.getElem?_cons_zero, Option.getD_some, List.setIfInBounds_toArray, List.set_cons_zero, List.set_cons_succ])
              | (refine wk_pickt _ _ _ _ (by first | exact wanted_none rfl | exact wanted_yes _ _ rfl rfl) rfl rfl rfl ?_; simp only [Act.put, Act.eval, Array.getD_eq_getD_getElem?, List.getElem?_toArray, List.getElem?_cons_succ, List.getElem?_cons_zero, Option.getD_some, List.setIfInBounds_toArray, List.set_cons_zero, List.set_cons_succ])
              | (refine wk_pickf _ _ _ _ (by first | exact wanted_none rfl | exact wanted_yes _ _ rfl rfl) rfl rfl rfl ?_; simp only [Act.put, Act.eval, Array.getD_eq_getD_getElem?, List.getElem?_toArray, List.getElem?_cons_succ, List.getElem?_cons_zero, Option.getD_some, List.setIfInBounds_toArray, List.set_cons_zero, List.set_cons_succ])
              | (refine wk_skip (wanted_not _ true false rfl rfl rfl) ?_; simp only [Act.put, List.setIfInBounds_toArray, List.set_cons_zero, List.set_cons_succ])
              | (refine wk_skip (wanted_not _ false true rfl rfl rfl) ?_; simp only [Act.put, List.setIfInBounds_toArray, List.set_cons_zero, List.set_cons_succ])
              | (refine wk_skip (wanted_undef _ _ rfl rfl) ?_; simp only [Act.put, List.setIfInBounds_toArray, List.set_cons_zero, List.set_cons_succ])
              | (refine wk_not true _ _ (by first | exact wanted_none rfl | exact wanted_yes _ _ rfl rfl) rfl rfl ?_; simp only [Act.put, List.setIfInBounds_toArray, List.set_cons_zero, List.set_cons_succ])
              | (refine wk_not false _ _ (by first | exact wanted_none rfl | exact wanted_yes _ _ rfl rfl) rfl rfl ?_; simp only [Act.put, List.setIfInBounds_toArray, List.set_cons_zero, List.set_cons_succ]))
            refine wk_index_arr _ _ _ _ _ (k) (256) .i64 (by kernel_rfl) rfl Try.underlying23 sizeU8 rfl rfl (by omega) ?_
            simp only [Act.put, List.setIfInBounds_toArray, List.set_cons_zero, List.set_cons_succ]
            refine wk_load1 _ _ _ _ _ rfl (by kernel_rfl) rfl rfl (fun w' hC => hC.cell KB.out) Try.underlying5 ?_
            simp only [Act.put, List.setIfInBounds_toArray, List.set_cons_zero, List.set_cons_succ]
            refine wk_cmp_int .neq (false) _ _ _ _ _ _ _ (by kernel_rfl) rfl rfl rfl (by simp [cmpInt]) ?_
            simp only [Act.put, List.setIfInBounds_toArray, List.set_cons_zero, List.set_cons_succ]
            repeat (first
              | (refine wk_move _ (by first | exact wanted_none rfl | exact wanted_yes _ _ rfl rfl) rfl ?_; simp only [Act.put, Act.eval, Array.getD_eq_getD_getElem?, List.getElem?_toArray, List.getElem?_cons_succ, List.getElem?_cons_zero, Option.getD_some, List.setIfInBounds_toArray, List.set_cons_zero, List.set_cons_succ])
              | (refine wk_assign _ (by first | exact wanted_none rfl | exact wanted_yes _ _ rfl rfl) rfl ?_; simp only [Act.put, Act.eval, Array.getD_eq_getD_getElem?, List.getElem?_toArray, List.getElem?_cons_succ, List.getElem?_cons_zero, Option.getD_some, List.setIfInBounds_toArray, List.set_cons_zero, List.set_cons_succ])
              | (refine wk_pickt _ _ _ _ (by first | exact wanted_none rfl | exact wanted_yes _ _ rfl rfl) rfl rfl rfl ?_; simp only [Act.put, Act.eval, Array.getD_eq_getD_getElem?, List.getElem?_toArray, List.getElem?_cons_succ, List.getElem?_cons_zero, Option.getD_some, List.setIfInBounds_toArray, List.set_cons_zero, List.set_cons_succ])
              | (refine wk_pickf _ _ _ _ (by first | exact wanted_none rfl | exact wanted_yes _ _ rfl rfl) rfl rfl rfl ?_; simp only [Act.put, Act.eval, Array.getD_eq_getD_getElem?, List.getElem?_toArray, List.getElem?_cons_succ, List.getElem?_cons_zero, Option.getD_some, List.setIfInBounds_toArray, List.set_cons_zero, List.set_cons_succ])
              | (refine wk_skip (wanted_not _ true false rfl rfl rfl) ?_; simp only [Act.put, List.setIfInBounds_toArray, List.set_cons_zero, List.set_cons_succ])
              | (refine wk_skip (wanted_not _ false true rfl rfl rfl) ?_; simp only [Act.put, List.setIfInBounds_toArray, List.set_cons_zero, List.set_cons_succ])
              | (refine wk_skip (wanted_undef _ _ rfl rfl) ?_; simp only [Act.put, List.setIfInBounds_toArray, List.set_cons_zero, List.set_cons_succ])
              | (refine wk_not true _ _ (by first | exact wanted_none rfl | exact wanted_yes _ _ rfl rfl) rfl rfl ?_; simp only [Act.put, List.setIfInBounds_toArray, List.set_cons_zero, List.set_cons_succ])
              | (refine wk_not false _ _ (by first | exact wanted_none rfl | exact wanted_yes _ _ rfl rfl) rfl rfl ?_; simp only [Act.put, List.setIfInBounds_toArray, List.set_cons_zero, List.set_cons_succ]))
            repeat (first
              | (refine wk_move _ (by first | exact wanted_none rfl | exact wanted_yes _ _ rfl rfl) rfl ?_; simp only [Act.put, Act.eval, Array.getD_eq_getD_getElem?, List.getElem?_toArray, List.getElem?_cons_succ, List.getElem?_cons_zero, Option.getD_some, List.setIfInBounds_toArray, List.set_cons_zero, List.set_cons_succ])
              | (refine wk_assign _ (by first | exact wanted_none rfl | exact wanted_yes _ _ rfl rfl) rfl ?_; simp only [Act.put, Act.eval, Array.getD_eq_getD_getElem?, List.getElem?_toArray, List.getElem?_cons_succ, List.getElem?_cons_zero, Option.getD_some, List.setIfInBounds_toArray, List.set_cons_zero, List.set_cons_succ])
              | (refine wk_pickt _ _ _ _ (by first | exact wanted_none rfl | exact wanted_yes _ _ rfl rfl) rfl rfl rfl ?_; simp only [Act.put, Act.eval, Array.getD_eq_getD_getElem?, List.getElem?_toArray, List.getElem?_cons_succ, List.getElem?_cons_zero, Option.getD_some, List.setIfInBounds_toArray, List.set_cons_zero, List.set_cons_succ])
              | (refine wk_pickf _ _ _ _ (by first | exact wanted_none rfl | exact wanted_yes _ _ rfl rfl) rfl rfl rfl ?_; simp only [Act.put, Act.eval, Array.getD_eq_getD_getElem?, List.getElem?_toArray, List.getElem?_cons_succ, List.getElem?_cons_zero, Option.getD_some, List.setIfInBounds_toArray, List.set_cons_zero, List.set_cons_succ])
              | (refine wk_skip (wanted_not _ true false rfl rfl rfl) ?_; simp only [Act.put, List.setIfInBounds_toArray, List.set_cons_zero, List.set_cons_succ])
              | (refine wk_skip (wanted_not _ false true rfl rfl rfl) ?_; simp only [Act.put, List.setIfInBounds_toArray, List.set_cons_zero, List.set_cons_succ])
              | (refine wk_skip (wanted_undef _ _ rfl rfl) ?_; simp only [Act.put, List.setIfInBounds_toArray, List.set_cons_zero, List.set_cons_succ])
              | (refine wk_not true _ _ (by first | exact wanted_none rfl | exact wanted_yes _ _ rfl rfl) rfl rfl ?_; simp only [Act.put, List.setIfInBounds_toArray, List.set_cons_zero, List.set_cons_succ])
              | (refine wk_not false _ _ (by first | exact wanted_none rfl | exact wanted_yes _ _ rfl rfl) rfl rfl ?_; simp only [Act.put, List.setIfInBounds_toArray, List.set_cons_zero, List.set_cons_succ]))
            refine wk_nil ?_
            intro w' hC
            have HC2 : Hid (Below W5.heap.size W5 w') := Lib.hid (HBR.out.trans (Below.mono hC HBR.out.size))
            clear hC
            go_wp2_with fail
            go_roundw
            case rel => exact ⟨k + 1, by omega, by go_num, HC2.out⟩
            case measure => simp [intOf]; omega
          · have h26 : ¬ k < 26 := fun h => hxy (hab (.inl h))
            have h34 : ¬ 34 ≤ k := fun h => hxy (hab (.inr h))
            have hne : cmpInt .neq (x.toNat : Int) (y.toNat : Int) = some true := by
              have : ¬ (x.toNat : Int) = (y.toNat : Int) := fun e => hxy (UInt8.toNat_inj.1 (by omega))
              simp [cmpInt, this]
            have HNE := Lib.hid hne
            have h1 : cmpInt .lss (k : Int) 26 = some false := by simp [cmpInt]; omega
            have h2 : cmpInt .geq (k : Int) 34 = some false := by simp [cmpInt]; omega
            have H1 := Lib.hid h1
            have H2 := Lib.hid h2
            clear hab hxy hne h26 h34 h1 h2
            go_wp2_with fail
            refine wk_region_since (by kernel_rfl) (by kernel_rfl) ?_
            repeat (first
              | (refine wk_move _ (by first | exact wanted_none rfl | exact wanted_yes _ _ rfl rfl) rfl ?_; simp only [Act.put, Act.eval, Array.getD_eq_getD_getElem?, List.getElem?_toArray, List.getElem?_cons_succ, List.getElem?_cons_zero, Option.getD_some, List.setIfInBounds_toArray, List.set_cons_zero, List.set_cons_succ])
              | (refine wk_assign _ (by first | exact wanted_none rfl | exact wanted_yes _ _ rfl rfl) rfl ?_; simp only [Act.put, Act.eval, Array.getD_eq_getD_getElem?, List.getElem?_toArray, List.getElem?_cons_succ, List.getElem?_cons_zero, Option.getD_some, List.setIfInBounds_toArray, List.set_cons_zero, List.set_cons_succ])
              | (refine wk_pickt _ _ _ _ (by first | exact wanted_none rfl | exact wanted_yes _ _ rfl rfl) rfl rfl rfl ?_; simp only [Act.put, Act.eval, Array.getD_eq_getD_getElem?, List.getElem?_toArray, List.getElem?_cons_succ, List.getElem?_cons_zero, Option.getD_some, List.setIfInBounds_toArray, List.set_cons_zero, List.set_cons_succ])
              | (refine wk_pickf _ _ _ _ (by first | exact wanted_none rfl | exact wanted_yes _ _ rfl rfl) rfl rfl rfl ?_; simp only [Act.put, Act.eval, Array.getD_eq_getD_getElem?, List.getElem?_toArray, List.getElem?_cons_succ, List.getElem?_cons_zero, Option.getD_some, List.setIfInBounds_toArray, List.set_cons_zero, List.set_cons_succ])
              | (refine wk_skip (wanted_not _ true false rfl rfl rfl) ?_; simp only [Act.put, List.setIfInBounds_toArray, List.set_cons_zero, List.set_cons_succ])
              | (refine wk_skip (wanted_not _ false true rfl rfl rfl) ?_; simp only [Act.put, List.setIfInBounds_toArray, List.set_cons_zero, List.set_cons_succ])
              | (refine wk_skip (wanted_undef _ _ rfl rfl) ?_; simp only [Act.put, List.setIfInBounds_toArray, List.set_cons_zero, List.set_cons_succ])
              | (refine wk_not true _ _ (by first | exact wanted_none rfl | exact wanted_yes _ _ rfl rfl) rfl rfl ?_; simp only [Act.put, List.setIfInBounds_toArray, List.set_cons_zero, List.set_cons_succ])
              | (refine wk_not false _ _ (by first | exact wanted_none rfl | exact wanted_yes _ _ rfl rfl) rfl rfl ?_; simp only [Act.put, List.setIfInBounds_toArray, List.set_cons_zero, List.set_cons_succ]))
            refine wk_index_arr _ _ _ _ _ (k) (256) .i64 (by kernel_rfl) rfl Try.underlying23 sizeU8 rfl rfl (by omega) ?_
            simp only [Act.put, List.setIfInBounds_toArray, List.set_cons_zero, List.set_cons_succ]
            refine wk_load1 _ _ _ _ _ rfl (by kernel_rfl) rfl rfl (fun w' hC => hC.cell KA.out) Try.underlying5 ?_
            simp only [Act.put, List.setIfInBounds_toArray, List.set_cons_zero, List.set_cons_succ]
            repeat (first
              | (refine wk_move _ (by first | exact wanted_none rfl | exact wanted_yes _ _ rfl rfl) rfl ?_; simp only [Act.put, Act.eval, Array.getD_eq_getD_getElem?, List.getElem?_toArray, List.getElem?_cons_succ, List.getElem?_cons_zero, Option.getD_some, List.setIfInBounds_toArray, List.set_cons_zero, List.set_cons_succ])
              | (refine wk_assign _ (by first | exact wanted_none rfl | exact wanted_yes _ _ rfl rfl) rfl ?_; simp only [Act.put, Act.eval, Array.getD_eq_getD_getElem?, List.getElem?_toArray, List.getElem?_cons_succ, List.getElem?_cons_zero, Option.getD_some, List.setIfInBounds_toArray, List.set_cons_zero, List.set_cons_succ])
              | (refine wk_pickt _ _ _ _ (by first | exact wanted_none rfl | exact wanted_yes _ _ rfl rfl) rfl rfl rfl ?_; simp only [Act.put, Act.eval, Array.getD_eq_getD_getElem?, List.getElem?_toArray, List.getElem?_cons_succ, List.getElem?_cons_zero, Option.getD_some, List.setIfInBounds_toArray, List.set_cons_zero, List.set_cons_succ])
              | (refine wk_pickf _ _ _ _ (by first | exact wanted_none rfl | exact wanted_yes _ _ rfl rfl) rfl rfl rfl ?_; simp only [Act.put, Act.eval, Array.getD_eq_getD_getElem?, List.getElem?_toArray, List.getElem?_cons_succ, List.getElem?_cons_zero, Option.getD_some, List.setIfInBounds_toArray, List.set_cons_zero, List.set_cons_succ])
              | (refine wk_skip (wanted_not _ true false rfl rfl rfl) ?_; simp only [Act.put, List.setIfInBounds_toArray, List.set_cons_zero, List.set_cons_succ])
              | (refine wk_skip (wanted_not _ false true rfl rfl rfl) ?_; simp only [Act.put, List.setIfInBounds_toArray, List.set_cons_zero, List.set_cons_succ])
              | (refine wk_skip (wanted_undef _ _ rfl rfl) ?_; simp only [Act.put, List.setIfInBounds_toArray, List.set_cons_zero, List.set_cons_succ])
              | (refine wk_not true _ _ (by first | exact wanted_none rfl | exact wanted_yes _ _ rfl rfl) rfl rfl ?_; simp only [Act.put, List.setIfInBounds_toArray, List.set_cons_zero, List.set_cons_succ])
              | (refine wk_not false _ _ (by first | exact wanted_none rfl | exact wanted_yes _ _ rfl rfl) rfl rfl ?_; simp only [Act.put, List.setIfInBounds_toArray, List.set_cons_zero, List.set_cons_succ]))
            refine wk_index_arr _ _ _ _ _ (k) (256) .i64 (by kernel_rfl) rfl Try.underlying23 sizeU8 rfl rfl (by omega) ?_
            simp only [Act.put, List.setIfInBounds_toArray, List.set_cons_zero, List.set_cons_succ]
            refine wk_load1 _ _ _ _ _ rfl (by kernel_rfl) rfl rfl (fun w' hC => hC.cell KB.out) Try.underlying5 ?_
            simp only [Act.put, List.setIfInBounds_toArray, List.set_cons_zero, List.set_cons_succ]
            refine wk_cmp_int .neq (true) _ _ _ _ _ _ _ (by kernel_rfl) rfl rfl rfl (HNE.out) ?_
            simp only [Act.put, List.setIfInBounds_toArray, List.set_cons_zero, List.set_cons_succ]
            repeat (first
              | (refine wk_move _ (by first | exact wanted_none rfl | exact wanted_yes _ _ rfl rfl) rfl ?_; simp only [Act.put, Act.eval, Array.getD_eq_getD_getElem?, List.getElem?_toArray, List.getElem?_cons_succ, List.getElem?_cons_zero, Option.getD_some, List.setIfInBounds_toArray, List.set_cons_zero, List.set_cons_succ])
              | (refine wk_assign _ (by first | exact wanted_none rfl | exact wanted_yes _ _ rfl rfl) rfl ?_; simp only [Act.put, Act.eval, Array.getD_eq_getD_getElem?, List.getElem?_toArray, List.getElem?_cons_succ, List.getElem?_cons_zero, Option.getD_some, List.setIfInBounds_toArray, List.set_cons_zero, List.set_cons_succ])
              | (refine wk_pickt _ _ _ _ (by first | exact wanted_none rfl | exact wanted_yes _ _ rfl rfl) rfl rfl rfl ?_; simp only [Act.put, Act.eval, Array.getD_eq_getD_getElem?, List.getElem?_toArray, List.getElem?_cons_succ, List.getElem?_cons_zero, Option.getD_some, List.setIfInBounds_toArray, List.set_cons_zero, List.set_cons_succ])
              | (refine wk_pickf _ _ _ _ (by first | exact wanted_none rfl | exact wanted_yes _ _ rfl rfl) rfl rfl rfl ?_; simp only [Act.put, Act.eval, Array.getD_eq_getD_getElem?, List.getElem?_toArray, List.getElem?_cons_succ, List.getElem?_cons_zero, Option.getD_some, List.setIfInBounds_toArray, List.set_cons_zero, List.set_cons_succ])
              | (refine wk_skip (wanted_not _ true false rfl rfl rfl) ?_; simp only [Act.put, List.setIfInBounds_toArray, List.set_cons_zero, List.set_cons_succ])
              | (refine wk_skip (wanted_not _ false true rfl rfl rfl) ?_; simp only [Act.put, List.setIfInBounds_toArray, List.set_cons_zero, List.set_cons_succ])
              | (refine wk_skip (wanted_undef _ _ rfl rfl) ?_; simp only [Act.put, List.setIfInBounds_toArray, List.set_cons_zero, List.set_cons_succ])
              | (refine wk_not true _ _ (by first | exact wanted_none rfl | exact wanted_yes _ _ rfl rfl) rfl rfl ?_; simp only [Act.put, List.setIfInBounds_toArray, List.set_cons_zero, List.set_cons_succ])
              | (refine wk_not false _ _ (by first | exact wanted_none rfl | exact wanted_yes _ _ rfl rfl) rfl rfl ?_; simp only [Act.put, List.setIfInBounds_toArray, List.set_cons_zero, List.set_cons_succ]))
            refine wk_cmp_int .lss (false) _ _ _ _ _ _ _ (by kernel_rfl) rfl rfl rfl (H1.out) ?_
            simp only [Act.put, List.setIfInBounds_toArray, List.set_cons_zero, List.set_cons_succ]
            repeat (first
              | (refine wk_move _ (by first | exact wanted_none rfl | exact wanted_yes _ _ rfl rfl) rfl ?_; simp only [Act.put, Act.eval, Array.getD_eq_getD_getElem?, List.getElem?_toArray, List.getElem?_cons_succ, List.getElem?_cons_zero, Option.getD_some, List.setIfInBounds_toArray, List.set_cons_zero, List.set_cons_succ])
              | (refine wk_assign _ (by first | exact wanted_none rfl | exact wanted_yes _ _ rfl rfl) rfl ?_; simp only [Act.put, Act.eval, Array.getD_eq_getD_getElem?, List.getElem?_toArray, List.getElem?_cons_succ, List.getElem?_cons_zero, Option.getD_some, List.setIfInBounds_toArray, List.set_cons_zero, List.set_cons_succ])
              | (refine wk_pickt _ _ _ _ (by first | exact wanted_none rfl | exact wanted_yes _ _ rfl rfl) rfl rfl rfl ?_; simp only [Act.put, Act.eval, Array.getD_eq_getD_getElem?, List.getElem?_toArray, List.getElem?_cons_succ, List.getElem?_cons_zero, Option.getD_some, List.setIfInBounds_toArray, List.set_cons_zero, List.set_cons_succ])
              | (refine wk_pickf _ _ _ _ (by first | exact wanted_none rfl | exact wanted_yes _ _ rfl rfl) rfl rfl rfl ?_; simp only [Act.put, Act.eval, Array.getD_eq_getD_getElem?, List.getElem?_toArray, List.getElem?_cons_succ, List.getElem?_cons_zero, Option.getD_some, List.setIfInBounds_toArray, List.set_cons_zero, List.set_cons_succ])
              | (refine wk_skip (wanted_not _ true false rfl rfl rfl) ?_; simp only [Act.put, List.setIfInBounds_toArray, List.set_cons_zero, List.set_cons_succ])
              | (refine wk_skip (wanted_not _ false true rfl rfl rfl) ?_; simp only [Act.put, List.setIfInBounds_toArray, List.set_cons_zero, List.set_cons_succ])
              | (refine wk_skip (wanted_undef _ _ rfl rfl) ?_; simp only [Act.put, List.setIfInBounds_toArray, List.set_cons_zero, List.set_cons_succ])
              | (refine wk_not true _ _ (by first | exact wanted_none rfl | exact wanted_yes _ _ rfl rfl) rfl rfl ?_; simp only [Act.put, List.setIfInBounds_toArray, List.set_cons_zero, List.set_cons_succ])
              | (refine wk_not false _ _ (by first | exact wanted_none rfl | exact wanted_yes _ _ rfl rfl) rfl rfl ?_; simp only [Act.put, List.setIfInBounds_toArray, List.set_cons_zero, List.set_cons_succ]))
            refine wk_cmp_int .geq (false) _ _ _ _ _ _ _ (by kernel_rfl) rfl rfl rfl (H2.out) ?_
            simp only [Act.put, List.setIfInBounds_toArray, List.set_cons_zero, List.set_cons_succ]
            repeat (first
              | (refine wk_move _ (by first | exact wanted_none rfl | exact wanted_yes _ _ rfl rfl) rfl ?_; simp only [Act.put, Act.eval, Array.getD_eq_getD_getElem?, List.getElem?_toArray, List.getElem?_cons_succ, List.getElem?_cons_zero, Option.getD_some, List.setIfInBounds_toArray, List.set_cons_zero, List.set_cons_succ])
              | (refine wk_assign _ (by first | exact wanted_none rfl | exact wanted_yes _ _ rfl rfl) rfl ?_; simp only [Act.put, Act.eval, Array.getD_eq_getD_getElem?, List.getElem?_toArray, List.getElem?_cons_succ, List.getElem?_cons_zero, Option.getD_some, List.setIfInBounds_toArray, List.set_cons_zero, List.set_cons_succ])
              | (refine wk_pickt _ _ _ _ (by first | exact wanted_none rfl | exact wanted_yes _ _ rfl rfl) rfl rfl rfl ?_; simp only [Act.put, Act.eval, Array.getD_eq_getD_getElem?, List.getElem?_toArray, List.getElem?_cons_succ, List.getElem?_cons_zero, Option.getD_some, List.setIfInBounds_toArray, List.set_cons_zero, List.set_cons_succ])
              | (refine wk_pickf _ _ _ _ (by first | exact wanted_none rfl | exact wanted_yes _ _ rfl rfl) rfl rfl rfl ?_; simp only [Act.put, Act.eval, Array.getD_eq_getD_getElem?, List.getElem?_toArray, List.getElem?_cons_succ, List.getElem?_cons_zero, Option.getD_some, List.setIfInBounds_toArray, List.set_cons_zero, List.set_cons_succ])
              | (refine wk_skip (wanted_not _ true false rfl rfl rfl) ?_; simp only [Act.put, List.setIfInBounds_toArray, List.set_cons_zero, List.set_cons_succ])
              | (refine wk_skip (wanted_not _ false true rfl rfl rfl) ?_; simp only [Act.put, List.setIfInBounds_toArray, List.set_cons_zero, List.set_cons_succ])
              | (refine wk_skip (wanted_undef _ _ rfl rfl) ?_; simp only [Act.put, List.setIfInBounds_toArray, List.set_cons_zero, List.set_cons_succ])
              | (refine wk_not true _ _ (by first | exact wanted_none rfl | exact wanted_yes _ _ rfl rfl) rfl rfl ?_; simp only [Act.put, List.setIfInBounds_toArray, List.set_cons_zero, List.set_cons_succ])
              | (refine wk_not false _ _ (by first | exact wanted_none rfl | exact wanted_yes _ _ rfl rfl) rfl rfl ?_; simp only [Act.put, List.setIfInBounds_toArray, List.set_cons_zero, List.set_cons_succ]))
            refine wk_nil ?_
            intro w' hC
            have HC2 : Hid (Below W5.heap.size W5 w') := Lib.hid (HBR.out.trans (Below.mono hC HBR.out.size))
            clear hC
            go_wp2_with fail
            go_roundw
            case rel => exact ⟨k + 1, by omega, by go_num, HC2.out⟩
            case measure => simp [intOf]; omega
        · obtain rfl : k = 252 := by omega
          obtain ⟨wo, rfl⟩ : ∃ wo : World, wo = wr := ⟨_, rfl⟩
          obtain ⟨gx, hgx⟩ : ∃ gx, gx = wo.heap.size := ⟨_, rfl⟩
          have D0r : wo.heap[w.heap.size]? = some (.cells C 51 (0, 0)) := (HBR.out.block _ (Array.getElem?_eq_some_iff.1 D0.out).1).trans D0.out
          have E0 := Lib.hid D0r
          have E1 : Hid (wo.heap[w.heap.size + 1]? = _) := Lib.hid ((HBR.out.block _ (Array.getElem?_eq_some_iff.1 D1.out).1).trans D1.out)
          have E2 : Hid (wo.heap[w3.heap.size]? = _) := Lib.hid ((HBR.out.block _ (Array.getElem?_eq_some_iff.1 D2.out).1).trans D2.out)
          have E3 : Hid (wo.heap[w5.heap.size]? = _) := Lib.hid ((HBR.out.block _ (Array.getElem?_eq_some_iff.1 D3.out).1).trans D3.out)
          obtain ⟨W6, hW6⟩ : ∃ W6, W6 = wo.alloc (.cells C 51) := ⟨_, rfl⟩
          have hx6 : W6.heap[wo.heap.size]? = some (.cells C 51 (0, 0)) := by rw [hW6]; exact heap_alloc_new _ _
          have h60 : W6.heap[w.heap.size]? = some (.cells C 51 (0, 0)) := by rw [hW6, Go.heap_alloc_old _ _ (Array.getElem?_eq_some_iff.1 E0.out).1]; exact E0.out
          have h61 : W6.heap[w.heap.size + 1]? = some (.cells (c.turn l r).cells 51 (0, 0)) := by rw [hW6, Go.heap_alloc_old _ _ (Array.getElem?_eq_some_iff.1 E1.out).1]; exact E1.out
          have h62 : W6.heap[w3.heap.size]? = some (.cells (blk A) 23 (0, 0)) := by rw [hW6, Go.heap_alloc_old _ _ (Array.getElem?_eq_some_iff.1 E2.out).1]; exact E2.out
          have h63 : W6.heap[w5.heap.size]? = some (.cells (blk B) 23 (0, 0)) := by rw [hW6, Go.heap_alloc_old _ _ (Array.getElem?_eq_some_iff.1 E3.out).1]; exact E3.out
          have l0 := (Array.getElem?_eq_some_iff.1 E0.out).1
          have l1 := (Array.getElem?_eq_some_iff.1 E1.out).1
          have l2 := (Array.getElem?_eq_some_iff.1 E2.out).1
          have l3 := (Array.getElem?_eq_some_iff.1 E3.out).1
          have hB6 : Below W5.heap.size W5 W6 := by rw [hW6]; exact HBR.out.alloc HBR.out.size _
          have hs6 : W6.heap.size = wo.heap.size + 1 := by rw [hW6]; simp
          have q8 : W6.cell? ⟨wo.heap.size, 8, none⟩ = some (.bool c.only) := by rw [cell_of_row W6 _ 8 _ _ _ hx6, HC.out]; rfl
          have q80 : W6.cell? ⟨w.heap.size, 8, none⟩ = some (.bool c.only) := by rw [cell_of_row W6 _ 8 _ _ _ h60, HC.out]; rfl
          have f8 := frozen_of_row W6 wo.heap.size 8 _ _ hx6
          obtain ⟨W7, hW7⟩ : ∃ W7, W7 = W6.setCell ⟨wo.heap.size, 8, none⟩ (.bool (!c.only)) := ⟨_, rfl⟩
          have h7x : W7.heap[wo.heap.size]? = some (.cells c.flip.cells 51 (0, 0)) := by rw [hW7, heap_setCell_same _ _ _ _ _ _ hx6, HC.out]; rfl
          have h70 : W7.heap[w.heap.size]? = some (.cells C 51 (0, 0)) := by rw [hW7, heap_setCell_other _ _ _ _ (Nat.ne_of_lt l0)]; exact h60
          have h71 : W7.heap[w.heap.size + 1]? = some (.cells (c.turn l r).cells 51 (0, 0)) := by rw [hW7, heap_setCell_other _ _ _ _ (Nat.ne_of_lt l1)]; exact h61
          have h72 : W7.heap[w3.heap.size]? = some (.cells (blk A) 23 (0, 0)) := by rw [hW7, heap_setCell_other _ _ _ _ (Nat.ne_of_lt l2)]; exact h62
          have h73 : W7.heap[w5.heap.size]? = some (.cells (blk B) 23 (0, 0)) := by rw [hW7, heap_setCell_other _ _ _ _ (Nat.ne_of_lt l3)]; exact h63
          have hB7 : Below W5.heap.size W5 W7 := by rw [hW7]; exact hB6.setCell HBR.out.size _
          have hs7 : W7.heap.size = wo.heap.size + 1 := by rw [hW7]; simpa [World.setCell] using hs6
          have HW6 := Lib.hid hW6
          have HW7 := Lib.hid hW7
          have F0 := Lib.hid h70
          have F1 := Lib.hid h71
          have F2 := Lib.hid h72
          have F3 := Lib.hid h73
          have FX := Lib.hid h7x
          have HB7 := Lib.hid hB7
          have HS7 := Lib.hid hs7
          have HPX := Lib.hid (put_all c.flip ⟨hc.name, hc.left, hc.right, hc.id, hc.parent, hc.root, hc.used, hc.quota⟩ W7)
          clear D0r hW6 hx6 h60 h61 h62 h63 hB6 hs6 hW7 h7x h70 h71 h72 h73 hB7 hs7 hgx h50
          go_upto_region 14 with (first
            | refine wpList_alloc_row rfl 51 rfl _ zeroC ?_
            | (refine wpList_store_new rfl 51 _ _ rfl _ C _ rfl rfl (by rw [HCS.out]; exact sizeC) (by rw [HCS.out]; rfl) HC1.out ?_)
            | (refine wpList_load_row rfl 51 _ rfl w.heap.size rfl 51 C (0, 0) _ E0.out Try.underlying51 rfl (by rw [HCS.out]; exact sizeC) ?_))
          rw [← HW6.out]
          go_upto_region 15 with (fail)
          rw [← HW7.out]
          clear q8 q80 f8
          go_wp2_with (refine wpList_load_row rfl 51 _ rfl wo.heap.size rfl 51 c.flip.cells (0, 0) _ FX.out Try.underlying51 rfl sizeC ?_)
          refine HPX.out.mono ?_
          rintro e w8 ⟨rfl, hb8⟩
          obtain ⟨Y, hY⟩ : ∃ Y, Y = c.flip.putB := ⟨_, rfl⟩
          have hYl : Y.length = 256 := hY ▸ length_putB _
          obtain ⟨px, hpx⟩ : ∃ pe, pe = c.flip.putE := ⟨_, rfl⟩
          rw [← hY, ← hpx]
          have HY := Lib.hid hY
          have HPXE := Lib.hid hpx
          have HYS : Hid ((blk Y).size = 256) := Lib.hid (by rw [size_blk, hYl])
          have HYL := Lib.hid hYl
          have k0 := (hb8.block _ (Array.getElem?_eq_some_iff.1 F0.out).1).trans F0.out
          have k1 := (hb8.block _ (Array.getElem?_eq_some_iff.1 F1.out).1).trans F1.out
          have k2 := (hb8.block _ (Array.getElem?_eq_some_iff.1 F2.out).1).trans F2.out
          have k3 := (hb8.block _ (Array.getElem?_eq_some_iff.1 F3.out).1).trans F3.out
          have hB8 : Below W5.heap.size W5 w8 := HB7.out.trans (hb8.mono HB7.out.size)
          obtain ⟨W9, hW9⟩ : ∃ W9, W9 = w8.alloc (.cells (blk Y) 23) := ⟨_, rfl⟩
          have G0 : Hid (W9.heap[w.heap.size]? = some (.cells C 51 (0, 0))) := Lib.hid (by rw [hW9, Go.heap_alloc_old _ _ (Array.getElem?_eq_some_iff.1 k0).1]; exact k0)
          have G1 : Hid (W9.heap[w.heap.size + 1]? = some (.cells (c.turn l r).cells 51 (0, 0))) := Lib.hid (by rw [hW9, Go.heap_alloc_old _ _ (Array.getElem?_eq_some_iff.1 k1).1]; exact k1)
          have G2 : Hid (W9.heap[w3.heap.size]? = some (.cells (blk A) 23 (0, 0))) := Lib.hid (by rw [hW9, Go.heap_alloc_old _ _ (Array.getElem?_eq_some_iff.1 k2).1]; exact k2)
          have G3 : Hid (W9.heap[w5.heap.size]? = some (.cells (blk B) 23 (0, 0))) := Lib.hid (by rw [hW9, Go.heap_alloc_old _ _ (Array.getElem?_eq_some_iff.1 k3).1]; exact k3)
          have GY : Hid (W9.heap[w8.heap.size]? = some (.cells (blk Y) 23 (0, 0))) := Lib.hid (by rw [hW9]; exact heap_alloc_new _ _)
          have HB9 : Hid (Below W5.heap.size W5 W9) := Lib.hid (by rw [hW9]; exact hB8.alloc hB8.size _)
          have HW9 := Lib.hid hW9
          clear hY hYl hpx k0 k1 k2 k3 hB8 hW9 hb8 l0 l1 l2 l3
          go_upto_region 16 with (first
            | refine wpList_alloc_row rfl 23 rfl _ zeroB ?_
            | (refine wpList_store_new rfl 23 _ _ rfl _ (blk Y) _ rfl rfl (by rw [HYS.out]; exact sizeB) (by rw [HYS.out, size_zeros]) (blk_one _) ?_))
          rw [← HW9.out]
          by_cases hmx : c.flip.may = true
          · have hpx : px = 0 := by rw [HPXE.out]; simp [Card.putE, hmx]
            subst hpx
            have HY2 : Hid (Y = doneB 67 c.flip.bytes) := Lib.hid (by rw [HY.out]; simp [Card.putB, hmx])
            clear hmx
            go_wp2_with fail
            go_loopw [16] (fun i wq => ∃ j : Nat, j ≤ 252 ∧ i = .int .i64 j ∧ Below W9.heap.size W9 wq) (fun i _ => 252 - (intOf i).toNat)
            case atStart => exact ⟨0, by omega, rfl, Below.refl _ _⟩
            case round =>
              obtain ⟨j, hj, rfl, hbq⟩ := hrel
              have HBQ := Lib.hid hbq
              clear hbq
              by_cases hlt2 : j < 252
              · have hjA : j < A.length := by rw [HAL.out]; omega
                have hjY : j < Y.length := by rw [HYL.out]; omega
                have ja : wr.cell? ⟨w3.heap.size, j, none⟩ = some (.int .u8 (A[j].toNat : Int)) := by
                  rw [cell_of_row wr _ j _ _ _ ((HBQ.out.block _ (Array.getElem?_eq_some_iff.1 G2.out).1).trans G2.out), blk_get _ _ hjA]; rfl
                have jy : wr.cell? ⟨w8.heap.size, j, none⟩ = some (.int .u8 (Y[j].toNat : Int)) := by
                  rw [cell_of_row wr _ j _ _ _ ((HBQ.out.block _ (Array.getElem?_eq_some_iff.1 GY.out).1).trans GY.out), blk_get _ _ hjY]; rfl
                have hay : decide (A[j] = Y[j]) = !decide (j = 54) := by
                  have := flip_get c hn j hlt2
                  rw [Bool.eq_iff_iff] at this ⊢
                  rw [← HA2.out, ← HY2.out, List.getElem?_eq_getElem hjA, List.getElem?_eq_getElem hjY] at this
                  simpa using this
                obtain ⟨x, hx⟩ : ∃ x, x = A[j] := ⟨_, rfl⟩
                obtain ⟨y, hy⟩ : ∃ y, y = Y[j] := ⟨_, rfl⟩
                rw [← hx] at ja hay
                rw [← hy] at jy hay
                have KA := Lib.hid ja
                have KY := Lib.hid jy
                clear hx hy ja jy
                by_cases h54 : j = 54
                · have hxy : ¬ x = y := by simpa [h54] using hay
                  have hne : cmpInt .neq (x.toNat : Int) (y.toNat : Int) = some true := by
                    have : ¬ (x.toNat : Int) = (y.toNat : Int) := fun e => hxy (UInt8.toNat_inj.1 (by omega))
                    simp [cmpInt, this]
                  have HNE := Lib.hid hne
                  have H54 := Lib.hid h54
                  clear hay hxy hne h54
                  go_wp2_with fail
                  refine wk_region_since (by kernel_rfl) (by kernel_rfl) ?_
                  repeat (first
                    | (refine wk_move _ (by first | exact wanted_none rfl | exact wanted_yes _ _ rfl rfl) rfl ?_; simp only [Act.put, Act.eval, Array.getD_eq_getD_getElem?, List.getElem?_toArray, List.getElem?_cons_succ, List.getElem?_cons_zero, Option.getD_some, List.setIfInBounds_toArray, List.set_cons_zero, List.set_cons_succ])
                    | (refine wk_assign _ (by first | exact wanted_none rfl | exact wanted_yes _ _ rfl rfl) rfl ?_; simp only [Act.put, Act.eval, Array.getD_eq_getD_getElem?, List.getElem?_toArray, List.getElem?_cons_succ, List.getElem?_cons_zero, Option.getD_some, List.setIfInBounds_toArray, List.set_cons_zero, List.set_cons_succ])
                    | (refine wk_pickt _ _ _ _ (by first | exact wanted_none rfl | exact wanted_yes _ _ rfl rfl) rfl rfl rfl ?_; simp only [Act.put, Act.eval, Array.getD_eq_getD_getElem?, List.getElem?_toArray, List.getElem?_cons_succ, List.getElem?_cons_zero, Option.getD_some, List.setIfInBounds_toArray, List.set_cons_zero, List.set_cons_succ])
                    | (refine wk_pickf _ _ _ _ (by first | exact wanted_none rfl | exact wanted_yes _ _ rfl rfl) rfl rfl rfl ?_; simp only [Act.put, Act.eval, Array.getD_eq_getD_getElem?, List.getElem?_toArray, List.getElem?_cons_succ, List.getElem?_cons_zero, Option.getD_some, List.setIfInBounds_toArray, List.set_cons_zero, List.set_cons_succ])
                    | (refine wk_skip (wanted_not _ true false rfl rfl rfl) ?_; simp only [Act.put, List.setIfInBounds_toArray, List.set_cons_zero, List.set_cons_succ])
                    | (refine wk_skip (wanted_not _ false true rfl rfl rfl) ?_; simp only [Act.put, List.setIfInBounds_toArray, List.set_cons_zero, List.set_cons_succ])
                    | (refine wk_skip (wanted_undef _ _ rfl rfl) ?_; simp only [Act.put, List.setIfInBounds_toArray, List.set_cons_zero, List.set_cons_succ])
                    | (refine wk_not true _ _ (by first | exact wanted_none rfl | exact wanted_yes _ _ rfl rfl) rfl rfl ?_; simp only [Act.put, List.setIfInBounds_toArray, List.set_cons_zero, List.set_cons_succ])
                    | (refine wk_not false _ _ (by first | exact wanted_none rfl | exact wanted_yes _ _ rfl rfl) rfl rfl ?_; simp only [Act.put, List.setIfInBounds_toArray, List.set_cons_zero, List.set_cons_succ]))
                  refine wk_index_arr _ _ _ _ _ (j) (256) .i64 (by kernel_rfl) rfl Try.underlying23 sizeU8 rfl rfl (by omega) ?_
                  simp only [Act.put, List.setIfInBounds_toArray, List.set_cons_zero, List.set_cons_succ]
                  refine wk_load1 _ _ _ _ _ rfl (by kernel_rfl) rfl rfl (fun w' hC => hC.cell KA.out) Try.underlying5 ?_
                  simp only [Act.put, List.setIfInBounds_toArray, List.set_cons_zero, List.set_cons_succ]
                  repeat (first
                    | (refine wk_move _ (by first | exact wanted_none rfl | exact wanted_yes _ _ rfl rfl) rfl ?_; simp only [Act.put, Act.eval, Array.getD_eq_getD_getElem?, List.getElem?_toArray, List.getElem?_cons_succ, List.getElem?_cons_zero, Option.getD_some, List.setIfInBounds_toArray, List.set_cons_zero, List.set_cons_succ])
                    | (refine wk_assign _ (by first | exact wanted_none rfl | exact wanted_yes _ _ rfl rfl) rfl ?_; simp only [Act.put, Act.eval, Array.getD_eq_getD_getElem?, List.getElem?_toArray, List.getElem?_cons_succ, List.getElem?_cons_zero, Option.getD_some, List.setIfInBounds_toArray, List.set_cons_zero, List.set_cons_succ])
                    | (refine wk_pickt _ _ _ _ (by first | exact wanted_none rfl | exact wanted_yes _ _ rfl rfl) rfl rfl rfl ?_; simp only [Act.put, Act.eval, Array.getD_eq_getD_getElem?, List.getElem?_toArray, List.getElem?_cons_succ, List.getElem?_cons_zero, Option.getD_some, List.setIfInBounds_toArray, List.set_cons_zero, List.set_cons_succ])
                    | (refine wk_pickf _ _ _ _ (by first | exact wanted_none rfl | exact wanted_yes _ _ rfl rfl) rfl rfl rfl ?_; simp only [Act.put, Act.eval, Array.getD_eq_getD_getElem?, List.getElem?_toArray, List.getElem?_cons_succ, List.getElem?_cons_zero, Option.getD_some, List.setIfInBounds_toArray, List.set_cons_zero, List.set_cons_succ])
                    | (refine wk_skip (wanted_not _ true false rfl rfl rfl) ?_; simp only [Act.put, List.setIfInBounds_toArray, List.set_cons_zero, List.set_cons_succ])
                    | (refine wk_skip (wanted_not _ false true rfl rfl rfl) ?_; simp only [Act.put, List.setIfInBounds_toArray, List.set_cons_zero, List.set_cons_succ])
                    | (refine wk_skip (wanted_undef _ _ rfl rfl) ?_; simp only [Act.put, List.setIfInBounds_toArray, List.set_cons_zero, List.set_cons_succ])
                    | (refine wk_not true _ _ (by first | exact wanted_none rfl | exact wanted_yes _ _ rfl rfl) rfl rfl ?_; simp only [Act.put, List.setIfInBounds_toArray, List.set_cons_zero, List.set_cons_succ])
                    | (refine wk_not false _ _ (by first | exact wanted_none rfl | exact wanted_yes _ _ rfl rfl) rfl rfl ?_; simp only [Act.put, List.setIfInBounds_toArray, List.set_cons_zero, List.set_cons_succ]))
                  refine wk_index_arr _ _ _ _ _ (j) (256) .i64 (by kernel_rfl) rfl Try.underlying23 sizeU8 rfl rfl (by omega) ?_
                  simp only [Act.put, List.setIfInBounds_toArray, List.set_cons_zero, List.set_cons_succ]
                  refine wk_load1 _ _ _ _ _ rfl (by kernel_rfl) rfl rfl (fun w' hC => hC.cell KY.out) Try.underlying5 ?_
                  simp only [Act.put, List.setIfInBounds_toArray, List.set_cons_zero, List.set_cons_succ]
                  refine wk_cmp_int .neq (true) _ _ _ _ _ _ _ (by kernel_rfl) rfl rfl rfl (HNE.out) ?_
                  simp only [Act.put, List.setIfInBounds_toArray, List.set_cons_zero, List.set_cons_succ]
                  repeat (first
                    | (refine wk_move _ (by first | exact wanted_none rfl | exact wanted_yes _ _ rfl rfl) rfl ?_; simp only [Act.put, Act.eval, Array.getD_eq_getD_getElem?, List.getElem?_toArray, List.getElem?_cons_succ, List.getElem?_cons_zero, Option.getD_some, List.setIfInBounds_toArray, List.set_cons_zero, List.set_cons_succ])
                    | (refine wk_assign _ (by first | exact wanted_none rfl | exact wanted_yes _ _ rfl rfl) rfl ?_; simp only [Act.put, Act.eval, Array.getD_eq_getD_getElem?, List.getElem?_toArray, List.getElem?_cons_succ, List.getElem?_cons_zero, Option.getD_some, List.setIfInBounds_toArray, List.set_cons_zero, List.set_cons_succ])
                    | (refine wk_pickt _ _ _ _ (by first | exact wanted_none rfl | exact wanted_yes _ _ rfl rfl) rfl rfl rfl ?_; simp only [Act.put, Act.eval, Array.getD_eq_getD_getElem?, List.getElem?_toArray, List.getElem?_cons_succ, List.getElem?_cons_zero, Option.getD_some, List.setIfInBounds_toArray, List.set_cons_zero, List.set_cons_succ])
                    | (refine wk_pickf _ _ _ _ (by first | exact wanted_none rfl | exact wanted_yes _ _ rfl rfl) rfl rfl rfl ?_; simp only [Act.put, Act.eval, Array.getD_eq_getD_getElem?, List.getElem?_toArray, List.getElem?_cons_succ, List.getElem?_cons_zero, Option.getD_some, List.setIfInBounds_toArray, List.set_cons_zero, List.set_cons_succ])
                    | (refine wk_skip (wanted_not _ true false rfl rfl rfl) ?_; simp only [Act.put, List.setIfInBounds_toArray, List.set_cons_zero, List.set_cons_succ])
                    | (refine wk_skip (wanted_not _ false true rfl rfl rfl) ?_; simp only [Act.put, List.setIfInBounds_toArray, List.set_cons_zero, List.set_cons_succ])
                    | (refine wk_skip (wanted_undef _ _ rfl rfl) ?_; simp only [Act.put, List.setIfInBounds_toArray, List.set_cons_zero, List.set_cons_succ])
                    | (refine wk_not true _ _ (by first | exact wanted_none rfl | exact wanted_yes _ _ rfl rfl) rfl rfl ?_; simp only [Act.put, List.setIfInBounds_toArray, List.set_cons_zero, List.set_cons_succ])
                    | (refine wk_not false _ _ (by first | exact wanted_none rfl | exact wanted_yes _ _ rfl rfl) rfl rfl ?_; simp only [Act.put, List.setIfInBounds_toArray, List.set_cons_zero, List.set_cons_succ]))
                  refine wk_eql_int true _ _ _ _ _ _ _ (by kernel_rfl) rfl rfl rfl (by rw [H54.out]; rfl) ?_
                  simp only [Act.put, List.setIfInBounds_toArray, List.set_cons_zero, List.set_cons_succ]
                  refine wk_neq_bool false _ _ _ _ _ _ (by kernel_rfl) rfl Try.underlying4 rfl rfl rfl ?_
                  simp only [Act.put, List.setIfInBounds_toArray, List.set_cons_zero, List.set_cons_succ]
                  refine wk_nil ?_
                  intro w' hC
                  have HC2 : Hid (Below W9.heap.size W9 w') := Lib.hid (HBQ.out.trans (Below.mono hC HBQ.out.size))
                  clear hC
                  go_wp2_with fail
                  go_roundw
                  case rel => exact ⟨j + 1, by omega, by go_num, HC2.out⟩
                  case measure => simp [intOf]; omega
                · have hxy : x = y := by simpa [h54] using hay
                  subst hxy
                  have h54' : ((j : Int) == 54) = false := by
                    have : ¬ (j : Int) = 54 := by omega
                    simp [this]
                  have H54 := Lib.hid h54'
                  clear hay h54 h54'
                  go_wp2_with fail
                  refine wk_region_since (by kernel_rfl) (by kernel_rfl) ?_
                  repeat (first
                    | (refine wk_move _ (by first | exact wanted_none rfl | exact wanted_yes _ _ rfl rfl) rfl ?_; simp only [Act.put, Act.eval, Array.getD_eq_getD_getElem?, List.getElem?_toArray, List.getElem?_cons_succ, List.getElem?_cons_zero, Option.getD_some, List.setIfInBounds_toArray, List.set_cons_zero, List.set_cons_succ])
                    | (refine wk_assign _ (by first | exact wanted_none rfl | exact wanted_yes _ _ rfl rfl) rfl ?_; simp only [Act.put, Act.eval, Array.getD_eq_getD_getElem?, List.getElem?_toArray, List.getElem?_cons_succ, List.getElem?_cons_zero, Option.getD_some, List.setIfInBounds_toArray, List.set_cons_zero, List.set_cons_succ])
                    | (refine wk_pickt _ _ _ _ (by first | exact wanted_none rfl | exact wanted_yes _ _ rfl rfl) rfl rfl rfl ?_; simp only [Act.put, Act.eval, Array.getD_eq_getD_getElem?, List.getElem?_toArray, List.getElem?_cons_succ, List.getElem?_cons_zero, Option.getD_some, List.setIfInBounds_toArray, List.set_cons_zero, List.set_cons_succ])
                    | (refine wk_pickf _ _ _ _ (by first | exact wanted_none rfl | exact wanted_yes _ _ rfl rfl) rfl rfl rfl ?_; simp only [Act.put, Act.eval, Array.getD_eq_getD_getElem?, List.getElem?_toArray, List.getElem?_cons_succ, List.getElem?_cons_zero, Option.getD_some, List.setIfInBounds_toArray, List.set_cons_zero, List.set_cons_succ])
                    | (refine wk_skip (wanted_not _ true false rfl rfl rfl) ?_; simp only [Act.put, List.setIfInBounds_toArray, List.set_cons_zero, List.set_cons_succ])
                    | (refine wk_skip (wanted_not _ false true rfl rfl rfl) ?_; simp only [Act.put, List.setIfInBounds_toArray, List.set_cons_zero, List.set_cons_succ])
                    | (refine wk_skip (wanted_undef _ _ rfl rfl) ?_; simp only [Act.put, List.setIfInBounds_toArray, List.set_cons_zero, List.set_cons_succ])
                    | (refine wk_not true _ _ (by first | exact wanted_none rfl | exact wanted_yes _ _ rfl rfl) rfl rfl ?_; simp only [Act.put, List.setIfInBounds_toArray, List.set_cons_zero, List.set_cons_succ])
                    | (refine wk_not false _ _ (by first | exact wanted_none rfl | exact wanted_yes _ _ rfl rfl) rfl rfl ?_; simp only [Act.put, List.setIfInBounds_toArray, List.set_cons_zero, List.set_cons_succ]))
                  refine wk_index_arr _ _ _ _ _ (j) (256) .i64 (by kernel_rfl) rfl Try.underlying23 sizeU8 rfl rfl (by omega) ?_
                  simp only [Act.put, List.setIfInBounds_toArray, List.set_cons_zero, List.set_cons_succ]
                  refine wk_load1 _ _ _ _ _ rfl (by kernel_rfl) rfl rfl (fun w' hC => hC.cell KA.out) Try.underlying5 ?_
                  simp only [Act.put, List.setIfInBounds_toArray, List.set_cons_zero, List.set_cons_succ]
                  repeat (first
                    | (refine wk_move _ (by first | exact wanted_none rfl | exact wanted_yes _ _ rfl rfl) rfl ?_; simp only [Act.put, Act.eval, Array.getD_eq_getD_getElem?, List.getElem?_toArray, List.getElem?_cons_succ, List.getElem?_cons_zero, Option.getD_some, List.setIfInBounds_toArray, List.set_cons_zero, List.set_cons_succ])
                    | (refine wk_assign _ (by first | exact wanted_none rfl | exact wanted_yes _ _ rfl rfl) rfl ?_; simp only [Act.put, Act.eval, Array.getD_eq_getD_getElem?, List.getElem?_toArray, List.getElem?_cons_succ, List.getElem?_cons_zero, Option.getD_some, List.setIfInBounds_toArray, List.set_cons_zero, List.set_cons_succ])
                    | (refine wk_pickt _ _ _ _ (by first | exact wanted_none rfl | exact wanted_yes _ _ rfl rfl) rfl rfl rfl ?_; simp only [Act.put, Act.eval, Array.getD_eq_getD_getElem?, List.getElem?_toArray, List.getElem?_cons_succ, List.getElem?_cons_zero, Option.getD_some, List.setIfInBounds_toArray, List.set_cons_zero, List.set_cons_succ])
                    | (refine wk_pickf _ _ _ _ (by first | exact wanted_none rfl | exact wanted_yes _ _ rfl rfl) rfl rfl rfl ?_; simp only [Act.put, Act.eval, Array.getD_eq_getD_getElem?, List.getElem?_toArray, List.getElem?_cons_succ, List.getElem?_cons_zero, Option.getD_some, List.setIfInBounds_toArray, List.set_cons_zero, List.set_cons_succ])
                    | (refine wk_skip (wanted_not _ true false rfl rfl rfl) ?_; simp only [Act.put, List.setIfInBounds_toArray, List.set_cons_zero, List.set_cons_succ])
                    | (refine wk_skip (wanted_not _ false true rfl rfl rfl) ?_; simp only [Act.put, List.setIfInBounds_toArray, List.set_cons_zero, List.set_cons_succ])
                    | (refine wk_skip (wanted_undef _ _ rfl rfl) ?_; simp only [Act.put, List.setIfInBounds_toArray, List.set_cons_zero, List.set_cons_succ])
                    | (refine wk_not true _ _ (by first | exact wanted_none rfl | exact wanted_yes _ _ rfl rfl) rfl rfl ?_; simp only [Act.put, List.setIfInBounds_toArray, List.set_cons_zero, List.set_cons_succ])
                    | (refine wk_not false _ _ (by first | exact wanted_none rfl | exact wanted_yes _ _ rfl rfl) rfl rfl ?_; simp only [Act.put, List.setIfInBounds_toArray, List.set_cons_zero, List.set_cons_succ]))
                  refine wk_index_arr _ _ _ _ _ (j) (256) .i64 (by kernel_rfl) rfl Try.underlying23 sizeU8 rfl rfl (by omega) ?_
                  simp only [Act.put, List.setIfInBounds_toArray, List.set_cons_zero, List.set_cons_succ]
                  refine wk_load1 _ _ _ _ _ rfl (by kernel_rfl) rfl rfl (fun w' hC => hC.cell KY.out) Try.underlying5 ?_
                  simp only [Act.put, List.setIfInBounds_toArray, List.set_cons_zero, List.set_cons_succ]
                  refine wk_cmp_int .neq (false) _ _ _ _ _ _ _ (by kernel_rfl) rfl rfl rfl (by simp [cmpInt]) ?_
                  simp only [Act.put, List.setIfInBounds_toArray, List.set_cons_zero, List.set_cons_succ]
                  repeat (first
                    | (refine wk_move _ (by first | exact wanted_none rfl | exact wanted_yes _ _ rfl rfl) rfl ?_; simp only [Act.put, Act.eval, Array.getD_eq_getD_getElem?, List.getElem?_toArray, List.getElem?_cons_succ, List.getElem?_cons_zero, Option.getD_some, List.setIfInBounds_toArray, List.set_cons_zero, List.set_cons_succ])
                    | (refine wk_assign _ (by first | exact wanted_none rfl | exact wanted_yes _ _ rfl rfl) rfl ?_; simp only [Act.put, Act.eval, Array.getD_eq_getD_getElem?, List.getElem?_toArray, List.getElem?_cons_succ, List.getElem?_cons_zero, Option.getD_some, List.setIfInBounds_toArray, List.set_cons_zero, List.set_cons_succ])
                    | (refine wk_pickt _ _ _ _ (by first | exact wanted_none rfl | exact wanted_yes _ _ rfl rfl) rfl rfl rfl ?_; simp only [Act.put, Act.eval, Array.getD_eq_getD_getElem?, List.getElem?_toArray, List.getElem?_cons_succ, List.getElem?_cons_zero, Option.getD_some, List.setIfInBounds_toArray, List.set_cons_zero, List.set_cons_succ])
                    | (refine wk_pickf _ _ _ _ (by first | exact wanted_none rfl | exact wanted_yes _ _ rfl rfl) rfl rfl rfl ?_; simp only [Act.put, Act.eval, Array.getD_eq_getD_getElem?, List.getElem?_toArray, List.getElem?_cons_succ, List.getElem?_cons_zero, Option.getD_some, List.setIfInBounds_toArray, List.set_cons_zero, List.set_cons_succ])
                    | (refine wk_skip (wanted_not _ true false rfl rfl rfl) ?_; simp only [Act.put, List.setIfInBounds_toArray, List.set_cons_zero, List.set_cons_succ])
                    | (refine wk_skip (wanted_not _ false true rfl rfl rfl) ?_; simp only [Act.put, List.setIfInBounds_toArray, List.set_cons_zero, List.set_cons_succ])
                    | (refine wk_skip (wanted_undef _ _ rfl rfl) ?_; simp only [Act.put, List.setIfInBounds_toArray, List.set_cons_zero, List.set_cons_succ])
                    | (refine wk_not true _ _ (by first | exact wanted_none rfl | exact wanted_yes _ _ rfl rfl) rfl rfl ?_; simp only [Act.put, List.setIfInBounds_toArray, List.set_cons_zero, List.set_cons_succ])
                    | (refine wk_not false _ _ (by first | exact wanted_none rfl | exact wanted_yes _ _ rfl rfl) rfl rfl ?_; simp only [Act.put, List.setIfInBounds_toArray, List.set_cons_zero, List.set_cons_succ]))
                  refine wk_eql_int false _ _ _ _ _ _ _ (by kernel_rfl) rfl rfl rfl (H54.out) ?_
                  simp only [Act.put, List.setIfInBounds_toArray, List.set_cons_zero, List.set_cons_succ]
                  refine wk_neq_bool false _ _ _ _ _ _ (by kernel_rfl) rfl Try.underlying4 rfl rfl rfl ?_
                  simp only [Act.put, List.setIfInBounds_toArray, List.set_cons_zero, List.set_cons_succ]
                  refine wk_nil ?_
                  intro w' hC
                  have HC2 : Hid (Below W9.heap.size W9 w') := Lib.hid (HBQ.out.trans (Below.mono hC HBQ.out.size))
                  clear hC
                  go_wp2_with fail
                  go_roundw
                  case rel => exact ⟨j + 1, by omega, by go_num, HC2.out⟩
                  case measure => simp [intOf]; omega
              · obtain rfl : j = 252 := by omega
                have M0 := Lib.hid ((HBQ.out.block _ (Array.getElem?_eq_some_iff.1 G0.out).1).trans G0.out)
                have M1 := Lib.hid ((HBQ.out.block _ (Array.getElem?_eq_some_iff.1 G1.out).1).trans G1.out)
                have M2 := Lib.hid ((HBQ.out.block _ (Array.getElem?_eq_some_iff.1 G2.out).1).trans G2.out)
                have M3 := Lib.hid ((HBQ.out.block _ (Array.getElem?_eq_some_iff.1 G3.out).1).trans G3.out)
                obtain ⟨t, ht⟩ : ∃ t, t = c.same (c.turn l r) := ⟨_, rfl⟩
                have HAB : Hid (decide (A = B) = t) := Lib.hid (by rw [HA2.out, HB2.out, ht]; exact turn_same c hc l r hl hr hn)
                have HCD : Hid (∀ w, (binOp .eql 51 (.agg C) (.agg (c.turn l r).cells)).run Try.prog w = .ok (.bool t) w) := Lib.hid (fun w => by rw [HC.out, ht]; exact run_eql_card w c (c.turn l r))
                clear ht
                go_wp2_with fail
                refine wk_region_since (by kernel_rfl) (by kernel_rfl) ?_
                refine wk_load_row 23 _ w3.heap.size 23 (blk A) (0, 0) _ (by kernel_rfl) rfl rfl (fun w' hC => hC.row M2.out) Try.underlying23 rfl (by rw [HAS.out]; exact sizeB) ?_
                simp only [Act.put, List.setIfInBounds_toArray, List.set_cons_zero, List.set_cons_succ]
                refine wk_load_row 23 _ w5.heap.size 23 (blk B) (0, 0) _ (by kernel_rfl) rfl rfl (fun w' hC => hC.row M3.out) Try.underlying23 rfl (by rw [HBS.out]; exact sizeB) ?_
                simp only [Act.put, List.setIfInBounds_toArray, List.set_cons_zero, List.set_cons_succ]
                refine wk_eql .eql t 23 _ _ _ (by kernel_rfl) rfl _ _ rfl rfl (by kernel_rfl) (fun w => by rw [run_eql_blk w 23 5 256 Try.underlying23 Try.underlying5 sizeU8 A B HAL.out HBL.out, HAB.out]) ?_
                simp only [Act.put, List.setIfInBounds_toArray, List.set_cons_zero, List.set_cons_succ]
                refine wk_load_row 51 _ w.heap.size 51 C (0, 0) _ (by kernel_rfl) rfl rfl (fun w' hC => hC.row M0.out) Try.underlying51 rfl (by rw [HCS.out]; exact sizeC) ?_
                simp only [Act.put, List.setIfInBounds_toArray, List.set_cons_zero, List.set_cons_succ]
                refine wk_load_row 51 _ (w.heap.size + 1) 51 (c.turn l r).cells (0, 0) _ (by kernel_rfl) rfl rfl (fun w' hC => hC.row M1.out) Try.underlying51 rfl sizeC ?_
                simp only [Act.put, List.setIfInBounds_toArray, List.set_cons_zero, List.set_cons_succ]
                refine wk_eql .eql t 51 _ _ _ (by kernel_rfl) rfl _ _ rfl rfl (by kernel_rfl) (fun w => HCD.out w) ?_
                simp only [Act.put, List.setIfInBounds_toArray, List.set_cons_zero, List.set_cons_succ]
                refine wk_eql_bool true _ _ _ _ _ _ (by kernel_rfl) rfl Try.underlying4 rfl rfl (by simp) ?_
                simp only [Act.put, List.setIfInBounds_toArray, List.set_cons_zero, List.set_cons_succ]
                repeat (first
                  | (refine wk_move _ (by first | exact wanted_none rfl | exact wanted_yes _ _ rfl rfl) rfl ?_; simp only [Act.put, Act.eval, Array.getD_eq_getD_getElem?, List.getElem?_toArray, List.getElem?_cons_succ, List.getElem?_cons_zero, Option.getD_some, List.setIfInBounds_toArray, List.set_cons_zero, List.set_cons_succ])
                  | (refine wk_assign _ (by first | exact wanted_none rfl | exact wanted_yes _ _ rfl rfl) rfl ?_; simp only [Act.put, Act.eval, Array.getD_eq_getD_getElem?, List.getElem?_toArray, List.getElem?_cons_succ, List.getElem?_cons_zero, Option.getD_some, List.setIfInBounds_toArray, List.set_cons_zero, List.set_cons_succ])
                  | (refine wk_pickt _ _ _ _ (by first | exact wanted_none rfl | exact wanted_yes _ _ rfl rfl) rfl rfl rfl ?_; simp only [Act.put, Act.eval, Array.getD_eq_getD_getElem?, List.getElem?_toArray, List.getElem?_cons_succ, List.getElem?_cons_zero, Option.getD_some, List.setIfInBounds_toArray, List.set_cons_zero, List.set_cons_succ])
                  | (refine wk_pickf _ _ _ _ (by first | exact wanted_none rfl | exact wanted_yes _ _ rfl rfl) rfl rfl rfl ?_; simp only [Act.put, Act.eval, Array.getD_eq_getD_getElem?, List.getElem?_toArray, List.getElem?_cons_succ, List.getElem?_cons_zero, Option.getD_some, List.setIfInBounds_toArray, List.set_cons_zero, List.set_cons_succ])
                  | (refine wk_skip (wanted_not _ true false rfl rfl rfl) ?_; simp only [Act.put, List.setIfInBounds_toArray, List.set_cons_zero, List.set_cons_succ])
                  | (refine wk_skip (wanted_not _ false true rfl rfl rfl) ?_; simp only [Act.put, List.setIfInBounds_toArray, List.set_cons_zero, List.set_cons_succ])
                  | (refine wk_skip (wanted_undef _ _ rfl rfl) ?_; simp only [Act.put, List.setIfInBounds_toArray, List.set_cons_zero, List.set_cons_succ])
                  | (refine wk_not true _ _ (by first | exact wanted_none rfl | exact wanted_yes _ _ rfl rfl) rfl rfl ?_; simp only [Act.put, List.setIfInBounds_toArray, List.set_cons_zero, List.set_cons_succ])
                  | (refine wk_not false _ _ (by first | exact wanted_none rfl | exact wanted_yes _ _ rfl rfl) rfl rfl ?_; simp only [Act.put, List.setIfInBounds_toArray, List.set_cons_zero, List.set_cons_succ]))
                refine wk_call 37 _ _ _ _ _ (by kernel_rfl) rfl Try.func37 rfl (by kernel_rfl) (fun w' hC => hC.call (cardhead_any w')) ?_
                simp only [Act.put, List.setIfInBounds_toArray, List.set_cons_zero, List.set_cons_succ]
                repeat (first
                  | (refine wk_move _ (by first | exact wanted_none rfl | exact wanted_yes _ _ rfl rfl) rfl ?_; simp only [Act.put, Act.eval, Array.getD_eq_getD_getElem?, List.getElem?_toArray, List.getElem?_cons_succ, List.getElem?_cons_zero, Option.getD_some, List.setIfInBounds_toArray, List.set_cons_zero, List.set_cons_succ])
                  | (refine wk_assign _ (by first | exact wanted_none rfl | exact wanted_yes _ _ rfl rfl) rfl ?_; simp only [Act.put, Act.eval, Array.getD_eq_getD_getElem?, List.getElem?_toArray, List.getElem?_cons_succ, List.getElem?_cons_zero, Option.getD_some, List.setIfInBounds_toArray, List.set_cons_zero, List.set_cons_succ])
                  | (refine wk_pickt _ _ _ _ (by first | exact wanted_none rfl | exact wanted_yes _ _ rfl rfl) rfl rfl rfl ?_; simp only [Act.put, Act.eval, Array.getD_eq_getD_getElem?, List.getElem?_toArray, List.getElem?_cons_succ, List.getElem?_cons_zero, Option.getD_some, List.setIfInBounds_toArray, List.set_cons_zero, List.set_cons_succ])
                  | (refine wk_pickf _ _ _ _ (by first | exact wanted_none rfl | exact wanted_yes _ _ rfl rfl) rfl rfl rfl ?_; simp only [Act.put, Act.eval, Array.getD_eq_getD_getElem?, List.getElem?_toArray, List.getElem?_cons_succ, List.getElem?_cons_zero, Option.getD_some, List.setIfInBounds_toArray, List.set_cons_zero, List.set_cons_succ])
                  | (refine wk_skip (wanted_not _ true false rfl rfl rfl) ?_; simp only [Act.put, List.setIfInBounds_toArray, List.set_cons_zero, List.set_cons_succ])
                  | (refine wk_skip (wanted_not _ false true rfl rfl rfl) ?_; simp only [Act.put, List.setIfInBounds_toArray, List.set_cons_zero, List.set_cons_succ])
                  | (refine wk_skip (wanted_undef _ _ rfl rfl) ?_; simp only [Act.put, List.setIfInBounds_toArray, List.set_cons_zero, List.set_cons_succ])
                  | (refine wk_not true _ _ (by first | exact wanted_none rfl | exact wanted_yes _ _ rfl rfl) rfl rfl ?_; simp only [Act.put, List.setIfInBounds_toArray, List.set_cons_zero, List.set_cons_succ])
                  | (refine wk_not false _ _ (by first | exact wanted_none rfl | exact wanted_yes _ _ rfl rfl) rfl rfl ?_; simp only [Act.put, List.setIfInBounds_toArray, List.set_cons_zero, List.set_cons_succ]))
                refine wk_nil ?_
                intro w' hC
                have HF := Lib.hid (HBW.out _ (HB9.out.trans ((HBQ.out.trans (Below.mono hC HBQ.out.size)).mono HB9.out.size)))
                clear hC
                go_wp2_with fail
                go_ret
                exact ⟨rfl, HF.out⟩
          · have hmx' : c.flip.may = false := by simpa using hmx
            have hpx : px = 5 := by rw [HPXE.out]; simp [Card.putE, hmx']
            subst hpx
            clear hmx hmx'
            go_wp2_with fail
            refine (cardhead_any _).mono ?_
            rintro e w' ⟨rfl, hb⟩
            have HF := Lib.hid (HBW.out _ (HB9.out.trans (hb.mono HB9.out.size)))
            clear hb
            go_wp2_with fail
            go_ret
            exact ⟨rfl, HF.out⟩
    · have hmd' : (c.turn l r).may = false := by simpa using hmd
      have hpf : pf = 5 := by rw [HPF.out]; simp [Card.putE, hmd']
      subst hpf
      clear hmd hmd'
      go_wp2_with fail
      refine (cardhead_any _).mono ?_
      rintro e w' ⟨rfl, hb⟩
      have HF := Lib.hid (HBW.out _ hb)
      clear hb
      go_wp2_with fail
      go_ret
      exact ⟨rfl, HF.out⟩
  · have hmc' : c.may = false := by simpa using hmc
    have hpe : pe = 5 := by rw [HPE.out]; simp [Card.putE, hmc']
    subst hpe
    clear hmc hmc'
    unfold maxLen at hns
    by_cases hsz : 200 < c.name.size
    all_goals
      go_wp2_with fail
      refine (cardhead_any _).mono ?_
      rintro e w' ⟨rfl, hb⟩
      have HF := Lib.hid (HBW.out _ hb)
      clear hb
      go_wp2_with fail
      go_ret
      exact ⟨rfl, HF.out⟩
end Go.Proofs.Ytnbdnnlomgjlmaa
