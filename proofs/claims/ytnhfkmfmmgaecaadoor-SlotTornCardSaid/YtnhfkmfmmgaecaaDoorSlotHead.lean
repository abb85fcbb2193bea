/- The slot layer's law: its head holds. -/
import Derived.Test.YtnhfkmfmmgaecaaDoorTorn
import Derived.Test.YtnhfkmfmmgaecaaDoorRef07G
import Derived.Test.YtnhfkmfmmgaecaaDoorKeep
namespace Go.Proofs.YtnhfkmfmmgaecaaDoor
open Go.RowKit
set_option linter.unusedSimpArgs false
set_option maxRecDepth 100000
def rOne : Root := ⟨1, 64, 0, 0, 58, 1, 6, 0⟩
def rThree : Root := { rOne with gen := 3 }
def rNone : Root := { rOne with gen := 0 }
def rVols : Root := { rOne with vols := 1 }
def rFar : Root := { rOne with names := 64 }
theorem rOne_ok : rOne.Ok := ⟨by decide, by decide, by decide, by decide, by decide, by decide, by decide, by decide⟩
theorem rThree_ok : rThree.Ok := ⟨by decide, by decide, by decide, by decide, by decide, by decide, by decide, by decide⟩
theorem rput_is (r : Root) (hr : r.Ok) (hm : r.may = true) (C : Array Value) (hC : C = r.cells) (D : List UInt8) (hD : D = doneB 82 r.bytes) (w : World) :
    Calls Tryd.prog 26 #[.agg C] w fun e w' => e = .returned (.tuple #[.agg (blk D), .int .i64 0]) ∧ Below w.heap.size w w' := by
  rw [hC, hD]; exact rput_any r hr hm w
theorem rmay_is (r : Root) (C : Array Value) (hC : C = r.cells) (m : Bool) (hm : r.may = m) (w : World) : Calls Tryd.prog 28 #[.agg C] w fun e w' => e = .returned (.bool m) ∧ Below w.heap.size w w' := by
  rw [hC, ← hm]; exact rmay_any r w
theorem torn_is0 (a b x : List UInt8) (ha : a.length = 256) (hb : b.length = 256) (s : Nat) (hs : s < 256) (hx : tornB a b s = x) (w : World) :
    Calls Tryd.prog 34 #[.agg (blk a), .agg (blk b), .int .u8 (s : Int)] w fun e w' => e = .returned (.agg (blk x)) ∧ Below w.heap.size w w' := hx ▸ torn_any a b ha hb s hs w
theorem rget_is (b : List UInt8) (hb : b.length = 256) (C : Array Value) (E : Int) (hC : getC b = C) (hE : getE b = E) (w : World) :
    Calls Tryd.prog 31 #[.agg (blk b)] w fun e w' => e = .returned (.tuple #[.agg C, .int .i64 E]) ∧ Below w.heap.size w w' := by
  rw [← hC, ← hE]; exact rget_any b hb w
theorem four (j : Nat) (h : j < 4) : j = 0 ∨ j = 1 ∨ j = 2 ∨ j = 3 := by omega
def dOne : List UInt8 := doneB 82 rOne.bytes
def dThree : List UInt8 := doneB 82 rThree.bytes
theorem len_dOne : dOne.length = 256 := length_doneB _ _ (by rw [rOne.length_bytes]; omega)
theorem len_dThree : dThree.length = 256 := length_doneB _ _ (by rw [rThree.length_bytes]; omega)
theorem dOne_str : decide ((⟨(dOne.take 34).toArray⟩ : ByteArray) = ⟨#[82, 1, 0, 0, 0, 0, 0, 0, 0, 64, 0, 0, 0, 0, 0, 0, 0, 0, 0, 0, 0, 58, 0, 0, 0, 1, 0, 0, 0, 6, 0, 0, 0, 0]⟩) = true := by
  have : dOne.take 34 = [82, 1, 0, 0, 0, 0, 0, 0, 0, 64, 0, 0, 0, 0, 0, 0, 0, 0, 0, 0, 0, 58, 0, 0, 0, 1, 0, 0, 0, 6, 0, 0, 0, 0] := by
    have h := congrArg (List.take 34) (take_doneB 82 rOne.bytes (by rw [rOne.length_bytes]; omega))
    rw [List.take_take, List.take_take] at h
    unfold dOne
    rw [show (34 : Nat) = min 34 252 from rfl, h]
    decide +kernel
  rw [this]; decide
/-- The block whose first sector alone is new is none's. -/
theorem torn_one0 : isRoot (tornB dOne dThree 1) = false := by decide +kernel
theorem torn_one : getE (tornB dOne dThree 1) = 250 ∧ getC (tornB dOne dThree 1) = zeroRoot := by
  unfold getE getC
  rw [torn_one0]
  exact ⟨rfl, rfl⟩
theorem torn_full : tornB dOne dThree 15 = dThree := by
  apply List.ext_getElem?
  intro i
  by_cases hi : i < 256
  · rw [get_tornB _ _ _ i hi]
    have : newAt 15 (i / 64) = true := by
      have : i / 64 = 0 ∨ i / 64 = 1 ∨ i / 64 = 2 ∨ i / 64 = 3 := by omega
      rcases this with h | h | h | h <;> rw [h] <;> decide
    simp [this, len_dThree, hi]
  · rw [List.getElem?_eq_none (by rw [length_tornB]; omega), List.getElem?_eq_none (by rw [len_dThree]; omega)]
set_option maxHeartbeats 2000000 in
theorem slothead_any (w : World) : Calls Tryd.prog 30 #[] w fun e w' => e = .returned (.bool true) ∧ Below w.heap.size w w' := by
  obtain ⟨C, hC⟩ : ∃ C, C = rOne.cells := ⟨_, rfl⟩
  obtain ⟨D, hD⟩ : ∃ D, D = dOne := ⟨_, rfl⟩
  obtain ⟨D3, hD3⟩ : ∃ D, D = dThree := ⟨_, rfl⟩
  have HDL : Hid (D.length = 256) := Lib.hid (by rw [hD]; exact len_dOne)
  have HDS : Hid ((blk D).size = 256) := Lib.hid (by rw [size_blk, HDL.out])
  have HDL3 : Hid (D3.length = 256) := Lib.hid (by rw [hD3]; exact len_dThree)
  have HDS3 : Hid ((blk D3).size = 256) := Lib.hid (by rw [size_blk, HDL3.out])
  have HPUT := Lib.hid (rput_is rOne rOne_ok rfl C hC D hD)
  have HC1 : Hid (C.all (·.oneCell') = true) := Lib.hid (by rw [hC]; exact rcells_one _)
  have HCS : Hid (C.size = 8) := Lib.hid (by rw [hC]; rfl)
  have HMAY := Lib.hid (rmay_is rOne C hC true rfl)
  have HCC := Lib.hid hC
  have HD := Lib.hid hD
  have HD3 := Lib.hid hD3
  go_enter Tryd.func30, Tryd.ntmps30
  go_upto_region 2 with (first
    | refine wpList_alloc_row rfl 54 rfl _ zeroR ?_
    | refine wpList_store_new rfl 54 _ _ rfl _ rOne.cells _ rfl rfl sizeR rfl (rcells_one _) ?_)
  rw [← hC]
  have q1 := (Rows.start w).alloc C 54
  obtain ⟨W1, hW⟩ : ∃ W, W = w.alloc (.cells C 54) := ⟨_, rfl⟩
  rw [← hW] at q1 ⊢
  clear hW
  obtain ⟨g1, hg⟩ : ∃ g, g = w.heap.size := ⟨_, rfl⟩
  rw [← hg] at q1 ⊢
  clear hg
  have R1 := Lib.hid q1
  clear q1
  clear hC hD hD3
  go_wp2_with (refine wpList_load_row rfl 54 _ rfl g1 rfl 54 C (0, 0) _ (R1.out.get 0 rfl) Tryd.underlying54 rfl (by rw [HCS.out]; exact sizeR) ?_)
  refine (HPUT.out _).mono ?_
  rintro e w2 ⟨rfl, hb⟩
  have q1 := (R1.out.call hb).alloc (blk D) 33
  clear hb
  go_upto_region 3 with (first | refine wpList_alloc_row rfl 33 rfl _ zeroB ?_ | refine wpList_store_new rfl 33 _ _ rfl _ (blk D) _ rfl rfl (by rw [HDS.out]; exact sizeB) (by rw [HDS.out, size_zeros]) (blk_one _) ?_)
  obtain ⟨W2, hW⟩ : ∃ W, W = w2.alloc (.cells (blk D) 33) := ⟨_, rfl⟩
  rw [← hW] at q1 ⊢
  clear hW
  obtain ⟨g2, hg⟩ : ∃ g, g = w2.heap.size := ⟨_, rfl⟩
  rw [← hg] at q1 ⊢
  clear hg
  have R2 := Lib.hid q1
  clear q1
  refine wp_region_copies (by kernel_rfl) 4 (fun j => 21 + j) (fun j => 4 + j) 1 54 ?hl C zeroRoot _ Tryd.underlying54 rfl (by rw [HCS.out]; exact sizeR) zeroR (by rw [HCS.out]; rfl) HC1.out g1 rfl (R2.out.get 1 rfl) ?hlt ?_
  case hl =>
    refine ⟨rfl, ?_, ?_, ?_, by decide +kernel, ?_, ?_, ?_, ?_⟩
    · intro j hj
      rcases four j hj with rfl | rfl | rfl | rfl <;> exact ⟨_, rfl, rfl, rfl, rfl⟩
    · intro j hj
      rcases four j hj with rfl | rfl | rfl | rfl <;> exact ⟨_, rfl, rfl, rfl, rfl⟩
    · intro j hj
      rcases four j hj with rfl | rfl | rfl | rfl <;> exact ⟨_, rfl, rfl, rfl, rfl, by decide +kernel, by decide +kernel⟩
    · intro j k _ _ h; simp at h; omega
    · intro j k _ _ h; simp at h; omega
    · intro j k hj hk; simp; omega
    · intro j hj; simp; omega
  case hlt => intro j hj; simp; omega
  intro b W3 hbs hne hb3
  simp only [copied, Nat.reduceAdd, List.setIfInBounds_toArray, List.set_cons_zero, List.set_cons_succ]
  have q1 := R2.out.copies 4 b C 54 hbs hne hb3
  clear hbs hne hb3
  have hr4 : (List.range 4).map (fun j => (b j, C, 54)) = [(b 0, C, 54), (b 1, C, 54), (b 2, C, 54), (b 3, C, 54)] := rfl
  rw [hr4] at q1
  clear hr4
  obtain ⟨b0, e0⟩ : ∃ x, x = b 0 := ⟨_, rfl⟩
  obtain ⟨b1, e1⟩ : ∃ x, x = b 1 := ⟨_, rfl⟩
  obtain ⟨b2, e2⟩ : ∃ x, x = b 2 := ⟨_, rfl⟩
  obtain ⟨b3, e3⟩ : ∃ x, x = b 3 := ⟨_, rfl⟩
  rw [← e0, ← e1, ← e2, ← e3] at q1 ⊢
  simp only [List.cons_append, List.nil_append] at q1
  have R3 := Lib.hid q1
  clear q1 e0 e1 e2 e3
  have hc := R3.out.cell 0 0 rfl (show C[0]? = some (.int .u64 1) by rw [HCC.out]; rfl)
  have hf := R3.out.free 0 0 rfl
  have q0 := Lib.hid (R3.out.setCell 0 0 (.int .u64 3) rfl)
  go_upto_region 5 with (fail)
  have q1 := q0.out
  clear q0 hc hf
  obtain ⟨W4, hW⟩ : ∃ W, W = W3.setCell ⟨b0, 0, none⟩ (.int .u64 3) := ⟨_, rfl⟩
  rw [← hW] at q1 ⊢
  clear hW
  simp only [List.set_cons_zero, List.set_cons_succ] at q1
  have R4 := Lib.hid q1
  clear q1
  have hc := R4.out.cell 1 0 rfl (show C[0]? = some (.int .u64 1) by rw [HCC.out]; rfl)
  have hf := R4.out.free 1 0 rfl
  have q0 := Lib.hid (R4.out.setCell 1 0 (.int .u64 0) rfl)
  go_upto_region 6 with (fail)
  have q1 := q0.out
  clear q0 hc hf
  obtain ⟨W5, hW⟩ : ∃ W, W = W4.setCell ⟨b1, 0, none⟩ (.int .u64 0) := ⟨_, rfl⟩
  rw [← hW] at q1 ⊢
  clear hW
  simp only [List.set_cons_zero, List.set_cons_succ] at q1
  have R5 := Lib.hid q1
  clear q1
  have hc := R5.out.cell 2 7 rfl (show C[7]? = some (.int .u8 0) by rw [HCC.out]; rfl)
  have hf := R5.out.free 2 7 rfl
  have q0 := Lib.hid (R5.out.setCell 2 7 (.int .u8 1) rfl)
  go_upto_region 7 with (fail)
  have q1 := q0.out
  clear q0 hc hf
  obtain ⟨W6, hW⟩ : ∃ W, W = W5.setCell ⟨b2, 7, none⟩ (.int .u8 1) := ⟨_, rfl⟩
  rw [← hW] at q1 ⊢
  clear hW
  simp only [List.set_cons_zero, List.set_cons_succ] at q1
  have R6 := Lib.hid q1
  clear q1
  have hc := R6.out.cell 3 3 rfl (show C[3]? = some (.int .u32 0) by rw [HCC.out]; rfl)
  have hf := R6.out.free 3 3 rfl
  have q0 := Lib.hid (R6.out.setCell 3 3 (.int .u32 64) rfl)
  go_upto_region 8 with (fail)
  have q1 := q0.out
  clear q0 hc hf
  obtain ⟨W7, hW⟩ : ∃ W, W = W6.setCell ⟨b3, 3, none⟩ (.int .u32 64) := ⟨_, rfl⟩
  rw [← hW] at q1 ⊢
  clear hW
  simp only [List.set_cons_zero, List.set_cons_succ] at q1
  have R7 := Lib.hid q1
  clear q1
  have q1 := R7.out
  obtain ⟨C3, h3⟩ : ∃ X, X = C.setIfInBounds 0 (.int .u64 3) := ⟨_, rfl⟩
  obtain ⟨CN, hn⟩ : ∃ X, X = C.setIfInBounds 0 (.int .u64 0) := ⟨_, rfl⟩
  obtain ⟨CV, hv⟩ : ∃ X, X = C.setIfInBounds 7 (.int .u8 1) := ⟨_, rfl⟩
  obtain ⟨CF, hf⟩ : ∃ X, X = C.setIfInBounds 3 (.int .u32 64) := ⟨_, rfl⟩
  rw [← h3, ← hn, ← hv, ← hf] at q1
  have e3 : C3 = rThree.cells := by rw [h3, HCC.out]; rfl
  have en : CN = rNone.cells := by rw [hn, HCC.out]; rfl
  have ev : CV = rVols.cells := by rw [hv, HCC.out]; rfl
  have ef : CF = rFar.cells := by rw [hf, HCC.out]; rfl
  have S7 := Lib.hid q1
  have HCS3 : Hid (C3.size = 8) := Lib.hid (by rw [e3]; rfl)
  have HC31 : Hid (C3.all (·.oneCell') = true) := Lib.hid (by rw [e3]; exact rcells_one _)
  have HCSN : Hid (CN.size = 8) := Lib.hid (by rw [en]; rfl)
  have HCSV : Hid (CV.size = 8) := Lib.hid (by rw [ev]; rfl)
  have HCSF : Hid (CF.size = 8) := Lib.hid (by rw [ef]; rfl)
  have HMN := Lib.hid (rmay_is rNone CN en false rfl)
  have HMV := Lib.hid (rmay_is rVols CV ev false rfl)
  have HMF := Lib.hid (rmay_is rFar CF ef false rfl)
  have HPUT3 := Lib.hid (rput_is rThree rThree_ok rfl C3 e3 D3 HD3.out)
  obtain ⟨X, hX⟩ : ∃ X, X = tornB D D3 1 := ⟨_, rfl⟩
  have hXL : X.length = 256 := by rw [hX, length_tornB]
  have HT1 : Hid (∀ w, Calls Tryd.prog 34 #[.agg (blk D), .agg (blk D3), .int .u8 1] w fun e w' => e = .returned (.agg (blk X)) ∧ Below w.heap.size w w') := Lib.hid (fun w => torn_is0 D D3 X HDL.out HDL3.out 1 (by omega) hX.symm w)
  have HG1 : Hid (∀ w, Calls Tryd.prog 31 #[.agg (blk X)] w fun e w' => e = .returned (.tuple #[.agg zeroRoot, .int .i64 250]) ∧ Below w.heap.size w w') :=
    Lib.hid (fun w => rget_is X hXL zeroRoot 250 (by rw [hX, HD.out, HD3.out]; exact torn_one.2) (by rw [hX, HD.out, HD3.out]; exact torn_one.1) w)
  have HT15 : Hid (∀ w, Calls Tryd.prog 34 #[.agg (blk D), .agg (blk D3), .int .u8 15] w fun e w' => e = .returned (.agg (blk D3)) ∧ Below w.heap.size w w') :=
    Lib.hid (fun w => torn_is0 D D3 D3 HDL.out HDL3.out 15 (by omega) (by rw [HD.out, HD3.out]; exact torn_full) w)
  have HG15 : Hid (∀ w, Calls Tryd.prog 31 #[.agg (blk D3)] w fun e w' => e = .returned (.tuple #[.agg C3, .int .i64 0]) ∧ Below w.heap.size w w') :=
    Lib.hid (fun w => rget_is D3 HDL3.out C3 0 (by rw [e3, HD3.out]; exact (getC_put rThree rThree_ok rfl).1) (by rw [HD3.out]; exact (getC_put rThree rThree_ok rfl).2) w)
  have HEQ : Hid (∀ w : World, (binOp .eql 54 (.agg C3) (.agg C3)).run Tryd.prog w = .ok (.bool true) w) := Lib.hid (fun w => by rw [e3, run_eql_root, (rsame_iff _ _).2 rfl])
  have HSTR : Hid (decide ((⟨(D.take 34).toArray⟩ : ByteArray) = ⟨#[82, 1, 0, 0, 0, 0, 0, 0, 0, 64, 0, 0, 0, 0, 0, 0, 0, 0, 0, 0, 0, 58, 0, 0, 0, 1, 0, 0, 0, 6, 0, 0, 0, 0]⟩) = true) := Lib.hid (by rw [HD.out]; exact dOne_str)
  clear q1 h3 hn hv hf e3 en ev ef hX hXL R7 R6 R5 R4 R3 R2 R1 HCC HD HD3
  go_wp2_with (refine wpList_load_row rfl 54 _ rfl b0 rfl 54 C3 (0, 0) _ (S7.out.get 0 rfl) Tryd.underlying54 rfl (by rw [HCS3.out]; exact sizeR) ?_)
  refine (HPUT3.out _).mono ?_
  rintro e w8 ⟨rfl, hb⟩
  have q1 := (S7.out.call hb).alloc (blk D3) 33
  clear hb
  go_upto_region 9 with (first | refine wpList_alloc_row rfl 33 rfl _ zeroB ?_ | refine wpList_store_new rfl 33 _ _ rfl _ (blk D3) _ rfl rfl (by rw [HDS3.out]; exact sizeB) (by rw [HDS3.out, size_zeros]) (blk_one _) ?_)
  obtain ⟨W8, hW⟩ : ∃ W, W = w8.alloc (.cells (blk D3) 33) := ⟨_, rfl⟩
  rw [← hW] at q1 ⊢
  clear hW
  obtain ⟨g3, hg⟩ : ∃ g, g = w8.heap.size := ⟨_, rfl⟩
  rw [← hg] at q1 ⊢
  clear hg
  have R8 := Lib.hid q1
  clear q1
  go_wp2_with (first
    | refine wpList_load_row rfl 33 _ rfl g3 rfl 33 (blk D3) (0, 0) _ (R8.out.get 0 rfl) Tryd.underlying33 rfl (by rw [HDS3.out]; exact sizeB) ?_
    | refine wpList_load_row rfl 33 _ rfl g2 rfl 33 (blk D) (0, 0) _ (R8.out.get 5 rfl) Tryd.underlying33 rfl (by rw [HDS.out]; exact sizeB) ?_)
  refine (HT1.out _).mono ?_
  rintro e w9 ⟨rfl, hb⟩
  have R9 := Lib.hid (R8.out.call hb)
  clear hb
  go_wp2_with fail
  refine (HG1.out _).mono ?_
  rintro e v9 ⟨rfl, hb⟩
  have q1 := (R9.out.call hb).alloc zeroRoot 54
  clear hb
  go_upto_region 10 with (first | refine wpList_alloc_row rfl 54 rfl _ zeroR ?_ | refine wpList_store_new rfl 54 _ _ rfl _ zeroRoot _ rfl rfl sizeR rfl zero_one ?_)
  obtain ⟨W9, hW⟩ : ∃ W, W = v9.alloc (.cells zeroRoot 54) := ⟨_, rfl⟩
  rw [← hW] at q1 ⊢
  clear hW
  obtain ⟨g4, hg⟩ : ∃ g, g = v9.heap.size := ⟨_, rfl⟩
  rw [← hg] at q1 ⊢
  clear hg
  have R10 := Lib.hid q1
  clear q1
  go_wp2_with (first
    | refine wpList_load_row rfl 33 _ rfl g3 rfl 33 (blk D3) (0, 0) _ (R10.out.get 1 rfl) Tryd.underlying33 rfl (by rw [HDS3.out]; exact sizeB) ?_
    | refine wpList_load_row rfl 33 _ rfl g2 rfl 33 (blk D) (0, 0) _ (R10.out.get 6 rfl) Tryd.underlying33 rfl (by rw [HDS.out]; exact sizeB) ?_)
  refine (HT15.out _).mono ?_
  rintro e w10 ⟨rfl, hb⟩
  have R11 := Lib.hid (R10.out.call hb)
  clear hb
  go_wp2_with fail
  refine (HG15.out _).mono ?_
  rintro e v10 ⟨rfl, hb⟩
  have q1 := (R11.out.call hb).alloc C3 54
  clear hb
  go_upto_region 12 with (first | refine wpList_alloc_row rfl 54 rfl _ zeroR ?_ | refine wpList_store_new rfl 54 _ _ rfl _ C3 _ rfl rfl (by rw [HCS3.out]; exact sizeR) (by rw [HCS3.out]; rfl) HC31.out ?_)
  obtain ⟨W10, hW⟩ : ∃ W, W = v10.alloc (.cells C3 54) := ⟨_, rfl⟩
  rw [← hW] at q1 ⊢
  clear hW
  obtain ⟨g5, hg⟩ : ∃ g, g = v10.heap.size := ⟨_, rfl⟩
  rw [← hg] at q1 ⊢
  clear hg
  have R12 := Lib.hid q1
  clear q1
  refine wk_plain_since ?_
  repeat (first
    | (refine wk_move _ (by first | exact wanted_none rfl | exact wanted_yes _ _ rfl rfl) rfl ?_; simp only [Act.put, Act.eval, Array.getD_eq_getD_getElem?, List.getElem?_toArray, List.getElem?_cons_succ, List.getElem?_cons_zero, Option.getD_some, List.setIfInBounds_toArray, List.set_cons_zero, List.set_cons_succ])
    | (refine wk_assign _ (by first | exact wanted_none rfl | exact wanted_yes _ _ rfl rfl) rfl ?_; simp only [Act.put, Act.eval, Array.getD_eq_getD_getElem?, List.getElem?_toArray, List.getElem?_cons_succ, List.getElem?_cons_zero, Option.getD_some, List.setIfInBounds_toArray, List.set_cons_zero, List.set_cons_succ])
    | (refine wk_pickt _ _ _ _ (by first | exact wanted_none rfl | exact wanted_yes _ _ rfl rfl) rfl rfl rfl ?_; simp only [Act.put, Act.eval, Array.getD_eq_getD_getElem?, List.getElem?_toArray, List.getElem?_cons_succ, List.getElem?_cons_zero, Option.getD_some, List.setIfInBounds_toArray, List.set_cons_zero, List.set_cons_succ])
    | (refine wk_pickf _ _ _ _ (by first | exact wanted_none rfl | exact wanted_yes _ _ rfl rfl) rfl rfl rfl ?_; simp only [Act.put, Act.eval, Array.getD_eq_getD_getElem?, List.getElem?_toArray, List.getElem?_cons_succ, List.getElem?_cons_zero, Option.getD_some, List.setIfInBounds_toArray, List.set_cons_zero, List.set_cons_succ])
    | (refine wk_skip (wanted_not _ true false rfl rfl rfl) ?_; simp only [Act.put, List.setIfInBounds_toArray, List.set_cons_zero, List.set_cons_succ])
    | (refine wk_skip (wanted_not _ false true rfl rfl rfl) ?_; simp only [Act.put, List.setIfInBounds_toArray, List.set_cons_zero, List.set_cons_succ])
    | (refine wk_skip (wanted_undef _ _ rfl rfl) ?_; simp only [Act.put, List.setIfInBounds_toArray, List.set_cons_zero, List.set_cons_succ])
    | (refine wk_not true _ _ (by first | exact wanted_none rfl | exact wanted_yes _ _ rfl rfl) rfl rfl ?_; simp only [Act.put, List.setIfInBounds_toArray, List.set_cons_zero, List.set_cons_succ])
    | (refine wk_not false _ _ (by first | exact wanted_none rfl | exact wanted_yes _ _ rfl rfl) rfl rfl ?_; simp only [Act.put, List.setIfInBounds_toArray, List.set_cons_zero, List.set_cons_succ]))
  refine wk_eql_int true _ _ _ _ _ _ _ (by kernel_rfl) rfl rfl rfl (by decide) ?_
  simp only [Act.put, List.setIfInBounds_toArray, List.set_cons_zero, List.set_cons_succ]
  repeat (first
    | (refine wk_move _ (by first | exact wanted_none rfl | exact wanted_yes _ _ rfl rfl) rfl ?_; simp only [Act.put, Act.eval, Array.getD_eq_getD_getElem?, List.getElem?_toArray, List.getElem?_cons_succ, List.getElem?_cons_zero, Option.getD_some, List.setIfInBounds_toArray, List.set_cons_zero, List.set_cons_succ])
    | (refine wk_assign _ (by first | exact wanted_none rfl | exact wanted_yes _ _ rfl rfl) rfl ?_; simp only [Act.put, Act.eval, Array.getD_eq_getD_getElem?, List.getElem?_toArray, List.getElem?_cons_succ, List.getElem?_cons_zero, Option.getD_some, List.setIfInBounds_toArray, List.set_cons_zero, List.set_cons_succ])
    | (refine wk_pickt _ _ _ _ (by first | exact wanted_none rfl | exact wanted_yes _ _ rfl rfl) rfl rfl rfl ?_; simp only [Act.put, Act.eval, Array.getD_eq_getD_getElem?, List.getElem?_toArray, List.getElem?_cons_succ, List.getElem?_cons_zero, Option.getD_some, List.setIfInBounds_toArray, List.set_cons_zero, List.set_cons_succ])
    | (refine wk_pickf _ _ _ _ (by first | exact wanted_none rfl | exact wanted_yes _ _ rfl rfl) rfl rfl rfl ?_; simp only [Act.put, Act.eval, Array.getD_eq_getD_getElem?, List.getElem?_toArray, List.getElem?_cons_succ, List.getElem?_cons_zero, Option.getD_some, List.setIfInBounds_toArray, List.set_cons_zero, List.set_cons_succ])
    | (refine wk_skip (wanted_not _ true false rfl rfl rfl) ?_; simp only [Act.put, List.setIfInBounds_toArray, List.set_cons_zero, List.set_cons_succ])
    | (refine wk_skip (wanted_not _ false true rfl rfl rfl) ?_; simp only [Act.put, List.setIfInBounds_toArray, List.set_cons_zero, List.set_cons_succ])
    | (refine wk_skip (wanted_undef _ _ rfl rfl) ?_; simp only [Act.put, List.setIfInBounds_toArray, List.set_cons_zero, List.set_cons_succ])
    | (refine wk_not true _ _ (by first | exact wanted_none rfl | exact wanted_yes _ _ rfl rfl) rfl rfl ?_; simp only [Act.put, List.setIfInBounds_toArray, List.set_cons_zero, List.set_cons_succ])
    | (refine wk_not false _ _ (by first | exact wanted_none rfl | exact wanted_yes _ _ rfl rfl) rfl rfl ?_; simp only [Act.put, List.setIfInBounds_toArray, List.set_cons_zero, List.set_cons_succ]))
  refine wk_slice_arr 34 256 .i64 _ _ _ _ _ (by kernel_rfl) rfl Tryd.underlying33 sizeU8 rfl rfl (by omega) (by omega) ?_
  simp only [Act.put, List.setIfInBounds_toArray, List.set_cons_zero, List.set_cons_succ]
  refine wk_bytes_pre _ _ _ _ _ _ _ 33 D (by kernel_rfl) rfl rfl Tryd.underlying37 Tryd.underlying5 Tryd.underlying9 (by rw [HDL.out]; omega) (fun w' hC => hC.row (R12.out.get 7 rfl)) ?_
  simp only [Act.put, List.setIfInBounds_toArray, List.set_cons_zero, List.set_cons_succ]
  repeat (first
    | (refine wk_move _ (by first | exact wanted_none rfl | exact wanted_yes _ _ rfl rfl) rfl ?_; simp only [Act.put, Act.eval, Array.getD_eq_getD_getElem?, List.getElem?_toArray, List.getElem?_cons_succ, List.getElem?_cons_zero, Option.getD_some, List.setIfInBounds_toArray, List.set_cons_zero, List.set_cons_succ])
    | (refine wk_assign _ (by first | exact wanted_none rfl | exact wanted_yes _ _ rfl rfl) rfl ?_; simp only [Act.put, Act.eval, Array.getD_eq_getD_getElem?, List.getElem?_toArray, List.getElem?_cons_succ, List.getElem?_cons_zero, Option.getD_some, List.setIfInBounds_toArray, List.set_cons_zero, List.set_cons_succ])
    | (refine wk_pickt _ _ _ _ (by first | exact wanted_none rfl | exact wanted_yes _ _ rfl rfl) rfl rfl rfl ?_; simp only [Act.put, Act.eval, Array.getD_eq_getD_getElem?, List.getElem?_toArray, List.getElem?_cons_succ, List.getElem?_cons_zero, Option.getD_some, List.setIfInBounds_toArray, List.set_cons_zero, List.set_cons_succ])
    | (refine wk_pickf _ _ _ _ (by first | exact wanted_none rfl | exact wanted_yes _ _ rfl rfl) rfl rfl rfl ?_; simp only [Act.put, Act.eval, Array.getD_eq_getD_getElem?, List.getElem?_toArray, List.getElem?_cons_succ, List.getElem?_cons_zero, Option.getD_some, List.setIfInBounds_toArray, List.set_cons_zero, List.set_cons_succ])
    | (refine wk_skip (wanted_not _ true false rfl rfl rfl) ?_; simp only [Act.put, List.setIfInBounds_toArray, List.set_cons_zero, List.set_cons_succ])
    | (refine wk_skip (wanted_not _ false true rfl rfl rfl) ?_; simp only [Act.put, List.setIfInBounds_toArray, List.set_cons_zero, List.set_cons_succ])
    | (refine wk_skip (wanted_undef _ _ rfl rfl) ?_; simp only [Act.put, List.setIfInBounds_toArray, List.set_cons_zero, List.set_cons_succ])
    | (refine wk_not true _ _ (by first | exact wanted_none rfl | exact wanted_yes _ _ rfl rfl) rfl rfl ?_; simp only [Act.put, List.setIfInBounds_toArray, List.set_cons_zero, List.set_cons_succ])
    | (refine wk_not false _ _ (by first | exact wanted_none rfl | exact wanted_yes _ _ rfl rfl) rfl rfl ?_; simp only [Act.put, List.setIfInBounds_toArray, List.set_cons_zero, List.set_cons_succ]))
  refine wk_eql_str (true) _ _ _ _ _ _ (by kernel_rfl) rfl rfl rfl (HSTR.out) ?_
  simp only [Act.put, List.setIfInBounds_toArray, List.set_cons_zero, List.set_cons_succ]
  repeat (first
    | (refine wk_move _ (by first | exact wanted_none rfl | exact wanted_yes _ _ rfl rfl) rfl ?_; simp only [Act.put, Act.eval, Array.getD_eq_getD_getElem?, List.getElem?_toArray, List.getElem?_cons_succ, List.getElem?_cons_zero, Option.getD_some, List.setIfInBounds_toArray, List.set_cons_zero, List.set_cons_succ])
    | (refine wk_assign _ (by first | exact wanted_none rfl | exact wanted_yes _ _ rfl rfl) rfl ?_; simp only [Act.put, Act.eval, Array.getD_eq_getD_getElem?, List.getElem?_toArray, List.getElem?_cons_succ, List.getElem?_cons_zero, Option.getD_some, List.setIfInBounds_toArray, List.set_cons_zero, List.set_cons_succ])
    | (refine wk_pickt _ _ _ _ (by first | exact wanted_none rfl | exact wanted_yes _ _ rfl rfl) rfl rfl rfl ?_; simp only [Act.put, Act.eval, Array.getD_eq_getD_getElem?, List.getElem?_toArray, List.getElem?_cons_succ, List.getElem?_cons_zero, Option.getD_some, List.setIfInBounds_toArray, List.set_cons_zero, List.set_cons_succ])
    | (refine wk_pickf _ _ _ _ (by first | exact wanted_none rfl | exact wanted_yes _ _ rfl rfl) rfl rfl rfl ?_; simp only [Act.put, Act.eval, Array.getD_eq_getD_getElem?, List.getElem?_toArray, List.getElem?_cons_succ, List.getElem?_cons_zero, Option.getD_some, List.setIfInBounds_toArray, List.set_cons_zero, List.set_cons_succ])
    | (refine wk_skip (wanted_not _ true false rfl rfl rfl) ?_; simp only [Act.put, List.setIfInBounds_toArray, List.set_cons_zero, List.set_cons_succ])
    | (refine wk_skip (wanted_not _ false true rfl rfl rfl) ?_; simp only [Act.put, List.setIfInBounds_toArray, List.set_cons_zero, List.set_cons_succ])
    | (refine wk_skip (wanted_undef _ _ rfl rfl) ?_; simp only [Act.put, List.setIfInBounds_toArray, List.set_cons_zero, List.set_cons_succ])
    | (refine wk_not true _ _ (by first | exact wanted_none rfl | exact wanted_yes _ _ rfl rfl) rfl rfl ?_; simp only [Act.put, List.setIfInBounds_toArray, List.set_cons_zero, List.set_cons_succ])
    | (refine wk_not false _ _ (by first | exact wanted_none rfl | exact wanted_yes _ _ rfl rfl) rfl rfl ?_; simp only [Act.put, List.setIfInBounds_toArray, List.set_cons_zero, List.set_cons_succ]))
  refine wk_eql_int true _ _ _ _ _ _ _ (by kernel_rfl) rfl rfl rfl (by decide) ?_
  simp only [Act.put, List.setIfInBounds_toArray, List.set_cons_zero, List.set_cons_succ]
  repeat (first
    | (refine wk_move _ (by first | exact wanted_none rfl | exact wanted_yes _ _ rfl rfl) rfl ?_; simp only [Act.put, Act.eval, Array.getD_eq_getD_getElem?, List.getElem?_toArray, List.getElem?_cons_succ, List.getElem?_cons_zero, Option.getD_some, List.setIfInBounds_toArray, List.set_cons_zero, List.set_cons_succ])
    | (refine wk_assign _ (by first | exact wanted_none rfl | exact wanted_yes _ _ rfl rfl) rfl ?_; simp only [Act.put, Act.eval, Array.getD_eq_getD_getElem?, List.getElem?_toArray, List.getElem?_cons_succ, List.getElem?_cons_zero, Option.getD_some, List.setIfInBounds_toArray, List.set_cons_zero, List.set_cons_succ])
    | (refine wk_pickt _ _ _ _ (by first | exact wanted_none rfl | exact wanted_yes _ _ rfl rfl) rfl rfl rfl ?_; simp only [Act.put, Act.eval, Array.getD_eq_getD_getElem?, List.getElem?_toArray, List.getElem?_cons_succ, List.getElem?_cons_zero, Option.getD_some, List.setIfInBounds_toArray, List.set_cons_zero, List.set_cons_succ])
    | (refine wk_pickf _ _ _ _ (by first | exact wanted_none rfl | exact wanted_yes _ _ rfl rfl) rfl rfl rfl ?_; simp only [Act.put, Act.eval, Array.getD_eq_getD_getElem?, List.getElem?_toArray, List.getElem?_cons_succ, List.getElem?_cons_zero, Option.getD_some, List.setIfInBounds_toArray, List.set_cons_zero, List.set_cons_succ])
    | (refine wk_skip (wanted_not _ true false rfl rfl rfl) ?_; simp only [Act.put, List.setIfInBounds_toArray, List.set_cons_zero, List.set_cons_succ])
    | (refine wk_skip (wanted_not _ false true rfl rfl rfl) ?_; simp only [Act.put, List.setIfInBounds_toArray, List.set_cons_zero, List.set_cons_succ])
    | (refine wk_skip (wanted_undef _ _ rfl rfl) ?_; simp only [Act.put, List.setIfInBounds_toArray, List.set_cons_zero, List.set_cons_succ])
    | (refine wk_not true _ _ (by first | exact wanted_none rfl | exact wanted_yes _ _ rfl rfl) rfl rfl ?_; simp only [Act.put, List.setIfInBounds_toArray, List.set_cons_zero, List.set_cons_succ])
    | (refine wk_not false _ _ (by first | exact wanted_none rfl | exact wanted_yes _ _ rfl rfl) rfl rfl ?_; simp only [Act.put, List.setIfInBounds_toArray, List.set_cons_zero, List.set_cons_succ]))
  refine wk_eql_int true _ _ _ _ _ _ _ (by kernel_rfl) rfl rfl rfl (by decide) ?_
  simp only [Act.put, List.setIfInBounds_toArray, List.set_cons_zero, List.set_cons_succ]
  repeat (first
    | (refine wk_move _ (by first | exact wanted_none rfl | exact wanted_yes _ _ rfl rfl) rfl ?_; simp only [Act.put, Act.eval, Array.getD_eq_getD_getElem?, List.getElem?_toArray, List.getElem?_cons_succ, List.getElem?_cons_zero, Option.getD_some, List.setIfInBounds_toArray, List.set_cons_zero, List.set_cons_succ])
    | (refine wk_assign _ (by first | exact wanted_none rfl | exact wanted_yes _ _ rfl rfl) rfl ?_; simp only [Act.put, Act.eval, Array.getD_eq_getD_getElem?, List.getElem?_toArray, List.getElem?_cons_succ, List.getElem?_cons_zero, Option.getD_some, List.setIfInBounds_toArray, List.set_cons_zero, List.set_cons_succ])
    | (refine wk_pickt _ _ _ _ (by first | exact wanted_none rfl | exact wanted_yes _ _ rfl rfl) rfl rfl rfl ?_; simp only [Act.put, Act.eval, Array.getD_eq_getD_getElem?, List.getElem?_toArray, List.getElem?_cons_succ, List.getElem?_cons_zero, Option.getD_some, List.setIfInBounds_toArray, List.set_cons_zero, List.set_cons_succ])
    | (refine wk_pickf _ _ _ _ (by first | exact wanted_none rfl | exact wanted_yes _ _ rfl rfl) rfl rfl rfl ?_; simp only [Act.put, Act.eval, Array.getD_eq_getD_getElem?, List.getElem?_toArray, List.getElem?_cons_succ, List.getElem?_cons_zero, Option.getD_some, List.setIfInBounds_toArray, List.set_cons_zero, List.set_cons_succ])
    | (refine wk_skip (wanted_not _ true false rfl rfl rfl) ?_; simp only [Act.put, List.setIfInBounds_toArray, List.set_cons_zero, List.set_cons_succ])
    | (refine wk_skip (wanted_not _ false true rfl rfl rfl) ?_; simp only [Act.put, List.setIfInBounds_toArray, List.set_cons_zero, List.set_cons_succ])
    | (refine wk_skip (wanted_undef _ _ rfl rfl) ?_; simp only [Act.put, List.setIfInBounds_toArray, List.set_cons_zero, List.set_cons_succ])
    | (refine wk_not true _ _ (by first | exact wanted_none rfl | exact wanted_yes _ _ rfl rfl) rfl rfl ?_; simp only [Act.put, List.setIfInBounds_toArray, List.set_cons_zero, List.set_cons_succ])
    | (refine wk_not false _ _ (by first | exact wanted_none rfl | exact wanted_yes _ _ rfl rfl) rfl rfl ?_; simp only [Act.put, List.setIfInBounds_toArray, List.set_cons_zero, List.set_cons_succ]))
  refine wk_load_row 54 _ g5 54 C3 (0, 0) _ (by kernel_rfl) rfl rfl (fun w' hC => hC.row (R12.out.get 0 rfl)) Tryd.underlying54 rfl (by rw [HCS3.out]; exact sizeR) ?_
  simp only [Act.put, List.setIfInBounds_toArray, List.set_cons_zero, List.set_cons_succ]
  refine wk_load_row 54 _ b0 54 C3 (0, 0) _ (by kernel_rfl) rfl rfl (fun w' hC => hC.row (R12.out.get 3 rfl)) Tryd.underlying54 rfl (by rw [HCS3.out]; exact sizeR) ?_
  simp only [Act.put, List.setIfInBounds_toArray, List.set_cons_zero, List.set_cons_succ]
  refine wk_eql .eql (true) 54 54 _ _ (by first | exact wanted_none rfl | exact wanted_yes _ _ rfl rfl) rfl _ _ rfl rfl (by kernel_rfl) (fun w => HEQ.out w) ?_
  simp only [Act.put, List.setIfInBounds_toArray, List.set_cons_zero, List.set_cons_succ]
  repeat (first
    | (refine wk_move _ (by first | exact wanted_none rfl | exact wanted_yes _ _ rfl rfl) rfl ?_; simp only [Act.put, Act.eval, Array.getD_eq_getD_getElem?, List.getElem?_toArray, List.getElem?_cons_succ, List.getElem?_cons_zero, Option.getD_some, List.setIfInBounds_toArray, List.set_cons_zero, List.set_cons_succ])
    | (refine wk_assign _ (by first | exact wanted_none rfl | exact wanted_yes _ _ rfl rfl) rfl ?_; simp only [Act.put, Act.eval, Array.getD_eq_getD_getElem?, List.getElem?_toArray, List.getElem?_cons_succ, List.getElem?_cons_zero, Option.getD_some, List.setIfInBounds_toArray, List.set_cons_zero, List.set_cons_succ])
    | (refine wk_pickt _ _ _ _ (by first | exact wanted_none rfl | exact wanted_yes _ _ rfl rfl) rfl rfl rfl ?_; simp only [Act.put, Act.eval, Array.getD_eq_getD_getElem?, List.getElem?_toArray, List.getElem?_cons_succ, List.getElem?_cons_zero, Option.getD_some, List.setIfInBounds_toArray, List.set_cons_zero, List.set_cons_succ])
    | (refine wk_pickf _ _ _ _ (by first | exact wanted_none rfl | exact wanted_yes _ _ rfl rfl) rfl rfl rfl ?_; simp only [Act.put, Act.eval, Array.getD_eq_getD_getElem?, List.getElem?_toArray, List.getElem?_cons_succ, List.getElem?_cons_zero, Option.getD_some, List.setIfInBounds_toArray, List.set_cons_zero, List.set_cons_succ])
    | (refine wk_skip (wanted_not _ true false rfl rfl rfl) ?_; simp only [Act.put, List.setIfInBounds_toArray, List.set_cons_zero, List.set_cons_succ])
    | (refine wk_skip (wanted_not _ false true rfl rfl rfl) ?_; simp only [Act.put, List.setIfInBounds_toArray, List.set_cons_zero, List.set_cons_succ])
    | (refine wk_skip (wanted_undef _ _ rfl rfl) ?_; simp only [Act.put, List.setIfInBounds_toArray, List.set_cons_zero, List.set_cons_succ])
    | (refine wk_not true _ _ (by first | exact wanted_none rfl | exact wanted_yes _ _ rfl rfl) rfl rfl ?_; simp only [Act.put, List.setIfInBounds_toArray, List.set_cons_zero, List.set_cons_succ])
    | (refine wk_not false _ _ (by first | exact wanted_none rfl | exact wanted_yes _ _ rfl rfl) rfl rfl ?_; simp only [Act.put, List.setIfInBounds_toArray, List.set_cons_zero, List.set_cons_succ]))
  refine wk_eql_int true _ _ _ _ _ _ _ (by kernel_rfl) rfl rfl rfl (by decide) ?_
  simp only [Act.put, List.setIfInBounds_toArray, List.set_cons_zero, List.set_cons_succ]
  repeat (first
    | (refine wk_move _ (by first | exact wanted_none rfl | exact wanted_yes _ _ rfl rfl) rfl ?_; simp only [Act.put, Act.eval, Array.getD_eq_getD_getElem?, List.getElem?_toArray, List.getElem?_cons_succ, List.getElem?_cons_zero, Option.getD_some, List.setIfInBounds_toArray, List.set_cons_zero, List.set_cons_succ])
    | (refine wk_assign _ (by first | exact wanted_none rfl | exact wanted_yes _ _ rfl rfl) rfl ?_; simp only [Act.put, Act.eval, Array.getD_eq_getD_getElem?, List.getElem?_toArray, List.getElem?_cons_succ, List.getElem?_cons_zero, Option.getD_some, List.setIfInBounds_toArray, List.set_cons_zero, List.set_cons_succ])
    | (refine wk_pickt _ _ _ _ (by first | exact wanted_none rfl | exact wanted_yes _ _ rfl rfl) rfl rfl rfl ?_; simp only [Act.put, Act.eval, Array.getD_eq_getD_getElem?, List.getElem?_toArray, List.getElem?_cons_succ, List.getElem?_cons_zero, Option.getD_some, List.setIfInBounds_toArray, List.set_cons_zero, List.set_cons_succ])
    | (refine wk_pickf _ _ _ _ (by first | exact wanted_none rfl | exact wanted_yes _ _ rfl rfl) rfl rfl rfl ?_; simp only [Act.put, Act.eval, Array.getD_eq_getD_getElem?, List.getElem?_toArray, List.getElem?_cons_succ, List.getElem?_cons_zero, Option.getD_some, List.setIfInBounds_toArray, List.set_cons_zero, List.set_cons_succ])
    | (refine wk_skip (wanted_not _ true false rfl rfl rfl) ?_; simp only [Act.put, List.setIfInBounds_toArray, List.set_cons_zero, List.set_cons_succ])
    | (refine wk_skip (wanted_not _ false true rfl rfl rfl) ?_; simp only [Act.put, List.setIfInBounds_toArray, List.set_cons_zero, List.set_cons_succ])
    | (refine wk_skip (wanted_undef _ _ rfl rfl) ?_; simp only [Act.put, List.setIfInBounds_toArray, List.set_cons_zero, List.set_cons_succ])
    | (refine wk_not true _ _ (by first | exact wanted_none rfl | exact wanted_yes _ _ rfl rfl) rfl rfl ?_; simp only [Act.put, List.setIfInBounds_toArray, List.set_cons_zero, List.set_cons_succ])
    | (refine wk_not false _ _ (by first | exact wanted_none rfl | exact wanted_yes _ _ rfl rfl) rfl rfl ?_; simp only [Act.put, List.setIfInBounds_toArray, List.set_cons_zero, List.set_cons_succ]))
  refine wk_load_row 54 _ g1 54 C (0, 0) _ (by kernel_rfl) rfl rfl (fun w' hC => hC.row (R12.out.get 8 rfl)) Tryd.underlying54 rfl (by rw [HCS.out]; exact sizeR) ?_
  simp only [Act.put, List.setIfInBounds_toArray, List.set_cons_zero, List.set_cons_succ]
  refine wk_call 28 _ _ _ _ _ (by kernel_rfl) rfl Tryd.func28 rfl (by kernel_rfl) (fun w' hC => hC.call (HMAY.out w')) ?_
  simp only [Act.put, List.setIfInBounds_toArray, List.set_cons_zero, List.set_cons_succ]
  repeat (first
    | (refine wk_move _ (by first | exact wanted_none rfl | exact wanted_yes _ _ rfl rfl) rfl ?_; simp only [Act.put, Act.eval, Array.getD_eq_getD_getElem?, List.getElem?_toArray, List.getElem?_cons_succ, List.getElem?_cons_zero, Option.getD_some, List.setIfInBounds_toArray, List.set_cons_zero, List.set_cons_succ])
    | (refine wk_assign _ (by first | exact wanted_none rfl | exact wanted_yes _ _ rfl rfl) rfl ?_; simp only [Act.put, Act.eval, Array.getD_eq_getD_getElem?, List.getElem?_toArray, List.getElem?_cons_succ, List.getElem?_cons_zero, Option.getD_some, List.setIfInBounds_toArray, List.set_cons_zero, List.set_cons_succ])
    | (refine wk_pickt _ _ _ _ (by first | exact wanted_none rfl | exact wanted_yes _ _ rfl rfl) rfl rfl rfl ?_; simp only [Act.put, Act.eval, Array.getD_eq_getD_getElem?, List.getElem?_toArray, List.getElem?_cons_succ, List.getElem?_cons_zero, Option.getD_some, List.setIfInBounds_toArray, List.set_cons_zero, List.set_cons_succ])
    | (refine wk_pickf _ _ _ _ (by first | exact wanted_none rfl | exact wanted_yes _ _ rfl rfl) rfl rfl rfl ?_; simp only [Act.put, Act.eval, Array.getD_eq_getD_getElem?, List.getElem?_toArray, List.getElem?_cons_succ, List.getElem?_cons_zero, Option.getD_some, List.setIfInBounds_toArray, List.set_cons_zero, List.set_cons_succ])
    | (refine wk_skip (wanted_not _ true false rfl rfl rfl) ?_; simp only [Act.put, List.setIfInBounds_toArray, List.set_cons_zero, List.set_cons_succ])
    | (refine wk_skip (wanted_not _ false true rfl rfl rfl) ?_; simp only [Act.put, List.setIfInBounds_toArray, List.set_cons_zero, List.set_cons_succ])
    | (refine wk_skip (wanted_undef _ _ rfl rfl) ?_; simp only [Act.put, List.setIfInBounds_toArray, List.set_cons_zero, List.set_cons_succ])
    | (refine wk_not true _ _ (by first | exact wanted_none rfl | exact wanted_yes _ _ rfl rfl) rfl rfl ?_; simp only [Act.put, List.setIfInBounds_toArray, List.set_cons_zero, List.set_cons_succ])
    | (refine wk_not false _ _ (by first | exact wanted_none rfl | exact wanted_yes _ _ rfl rfl) rfl rfl ?_; simp only [Act.put, List.setIfInBounds_toArray, List.set_cons_zero, List.set_cons_succ]))
  refine wk_load_row 54 _ b1 54 CN (0, 0) _ (by kernel_rfl) rfl rfl (fun w' hC => hC.row (R12.out.get 4 rfl)) Tryd.underlying54 rfl (by rw [HCSN.out]; exact sizeR) ?_
  simp only [Act.put, List.setIfInBounds_toArray, List.set_cons_zero, List.set_cons_succ]
  refine wk_call 28 _ _ _ _ _ (by kernel_rfl) rfl Tryd.func28 rfl (by kernel_rfl) (fun w' hC => hC.call (HMN.out w')) ?_
  simp only [Act.put, List.setIfInBounds_toArray, List.set_cons_zero, List.set_cons_succ]
  repeat (first
    | (refine wk_move _ (by first | exact wanted_none rfl | exact wanted_yes _ _ rfl rfl) rfl ?_; simp only [Act.put, Act.eval, Array.getD_eq_getD_getElem?, List.getElem?_toArray, List.getElem?_cons_succ, List.getElem?_cons_zero, Option.getD_some, List.setIfInBounds_toArray, List.set_cons_zero, List.set_cons_succ])
    | (refine wk_assign _ (by first | exact wanted_none rfl | exact wanted_yes _ _ rfl rfl) rfl ?_; simp only [Act.put, Act.eval, Array.getD_eq_getD_getElem?, List.getElem?_toArray, List.getElem?_cons_succ, List.getElem?_cons_zero, Option.getD_some, List.setIfInBounds_toArray, List.set_cons_zero, List.set_cons_succ])
    | (refine wk_pickt _ _ _ _ (by first | exact wanted_none rfl | exact wanted_yes _ _ rfl rfl) rfl rfl rfl ?_; simp only [Act.put, Act.eval, Array.getD_eq_getD_getElem?, List.getElem?_toArray, List.getElem?_cons_succ, List.getElem?_cons_zero, Option.getD_some, List.setIfInBounds_toArray, List.set_cons_zero, List.set_cons_succ])
    | (refine wk_pickf _ _ _ _ (by first | exact wanted_none rfl | exact wanted_yes _ _ rfl rfl) rfl rfl rfl ?_; simp only [Act.put, Act.eval, Array.getD_eq_getD_getElem?, List.getElem?_toArray, List.getElem?_cons_succ, List.getElem?_cons_zero, Option.getD_some, List.setIfInBounds_toArray, List.set_cons_zero, List.set_cons_succ])
    | (refine wk_skip (wanted_not _ true false rfl rfl rfl) ?_; simp only [Act.put, List.setIfInBounds_toArray, List.set_cons_zero, List.set_cons_succ])
    | (refine wk_skip (wanted_not _ false true rfl rfl rfl) ?_; simp only [Act.put, List.setIfInBounds_toArray, List.set_cons_zero, List.set_cons_succ])
    | (refine wk_skip (wanted_undef _ _ rfl rfl) ?_; simp only [Act.put, List.setIfInBounds_toArray, List.set_cons_zero, List.set_cons_succ])
    | (refine wk_not true _ _ (by first | exact wanted_none rfl | exact wanted_yes _ _ rfl rfl) rfl rfl ?_; simp only [Act.put, List.setIfInBounds_toArray, List.set_cons_zero, List.set_cons_succ])
    | (refine wk_not false _ _ (by first | exact wanted_none rfl | exact wanted_yes _ _ rfl rfl) rfl rfl ?_; simp only [Act.put, List.setIfInBounds_toArray, List.set_cons_zero, List.set_cons_succ]))
  refine wk_load_row 54 _ b2 54 CV (0, 0) _ (by kernel_rfl) rfl rfl (fun w' hC => hC.row (R12.out.get 5 rfl)) Tryd.underlying54 rfl (by rw [HCSV.out]; exact sizeR) ?_
  simp only [Act.put, List.setIfInBounds_toArray, List.set_cons_zero, List.set_cons_succ]
  refine wk_call 28 _ _ _ _ _ (by kernel_rfl) rfl Tryd.func28 rfl (by kernel_rfl) (fun w' hC => hC.call (HMV.out w')) ?_
  simp only [Act.put, List.setIfInBounds_toArray, List.set_cons_zero, List.set_cons_succ]
  repeat (first
    | (refine wk_move _ (by first | exact wanted_none rfl | exact wanted_yes _ _ rfl rfl) rfl ?_; simp only [Act.put, Act.eval, Array.getD_eq_getD_getElem?, List.getElem?_toArray, List.getElem?_cons_succ, List.getElem?_cons_zero, Option.getD_some, List.setIfInBounds_toArray, List.set_cons_zero, List.set_cons_succ])
    | (refine wk_assign _ (by first | exact wanted_none rfl | exact wanted_yes _ _ rfl rfl) rfl ?_; simp only [Act.put, Act.eval, Array.getD_eq_getD_getElem?, List.getElem?_toArray, List.getElem?_cons_succ, List.getElem?_cons_zero, Option.getD_some, List.setIfInBounds_toArray, List.set_cons_zero, List.set_cons_succ])
    | (refine wk_pickt _ _ _ _ (by first | exact wanted_none rfl | exact wanted_yes _ _ rfl rfl) rfl rfl rfl ?_; simp only [Act.put, Act.eval, Array.getD_eq_getD_getElem?, List.getElem?_toArray, List.getElem?_cons_succ, List.getElem?_cons_zero, Option.getD_some, List.setIfInBounds_toArray, List.set_cons_zero, List.set_cons_succ])
    | (refine wk_pickf _ _ _ _ (by first | exact wanted_none rfl | exact wanted_yes _ _ rfl rfl) rfl rfl rfl ?_; simp only [Act.put, Act.eval, Array.getD_eq_getD_getElem?, List.getElem?_toArray, List.getElem?_cons_succ, List.getElem?_cons_zero, Option.getD_some, List.setIfInBounds_toArray, List.set_cons_zero, List.set_cons_succ])
    | (refine wk_skip (wanted_not _ true false rfl rfl rfl) ?_; simp only [Act.put, List.setIfInBounds_toArray, List.set_cons_zero, List.set_cons_succ])
    | (refine wk_skip (wanted_not _ false true rfl rfl rfl) ?_; simp only [Act.put, List.setIfInBounds_toArray, List.set_cons_zero, List.set_cons_succ])
    | (refine wk_skip (wanted_undef _ _ rfl rfl) ?_; simp only [Act.put, List.setIfInBounds_toArray, List.set_cons_zero, List.set_cons_succ])
    | (refine wk_not true _ _ (by first | exact wanted_none rfl | exact wanted_yes _ _ rfl rfl) rfl rfl ?_; simp only [Act.put, List.setIfInBounds_toArray, List.set_cons_zero, List.set_cons_succ])
    | (refine wk_not false _ _ (by first | exact wanted_none rfl | exact wanted_yes _ _ rfl rfl) rfl rfl ?_; simp only [Act.put, List.setIfInBounds_toArray, List.set_cons_zero, List.set_cons_succ]))
  refine wk_load_row 54 _ b3 54 CF (0, 0) _ (by kernel_rfl) rfl rfl (fun w' hC => hC.row (R12.out.get 6 rfl)) Tryd.underlying54 rfl (by rw [HCSF.out]; exact sizeR) ?_
  simp only [Act.put, List.setIfInBounds_toArray, List.set_cons_zero, List.set_cons_succ]
  refine wk_call 28 _ _ _ _ _ (by kernel_rfl) rfl Tryd.func28 rfl (by kernel_rfl) (fun w' hC => hC.call (HMF.out w')) ?_
  simp only [Act.put, List.setIfInBounds_toArray, List.set_cons_zero, List.set_cons_succ]
  repeat (first
    | (refine wk_move _ (by first | exact wanted_none rfl | exact wanted_yes _ _ rfl rfl) rfl ?_; simp only [Act.put, Act.eval, Array.getD_eq_getD_getElem?, List.getElem?_toArray, List.getElem?_cons_succ, List.getElem?_cons_zero, Option.getD_some, List.setIfInBounds_toArray, List.set_cons_zero, List.set_cons_succ])
    | (refine wk_assign _ (by first | exact wanted_none rfl | exact wanted_yes _ _ rfl rfl) rfl ?_; simp only [Act.put, Act.eval, Array.getD_eq_getD_getElem?, List.getElem?_toArray, List.getElem?_cons_succ, List.getElem?_cons_zero, Option.getD_some, List.setIfInBounds_toArray, List.set_cons_zero, List.set_cons_succ])
    | (refine wk_pickt _ _ _ _ (by first | exact wanted_none rfl | exact wanted_yes _ _ rfl rfl) rfl rfl rfl ?_; simp only [Act.put, Act.eval, Array.getD_eq_getD_getElem?, List.getElem?_toArray, List.getElem?_cons_succ, List.getElem?_cons_zero, Option.getD_some, List.setIfInBounds_toArray, List.set_cons_zero, List.set_cons_succ])
    | (refine wk_pickf _ _ _ _ (by first | exact wanted_none rfl | exact wanted_yes _ _ rfl rfl) rfl rfl rfl ?_; simp only [Act.put, Act.eval, Array.getD_eq_getD_getElem?, List.getElem?_toArray, List.getElem?_cons_succ, List.getElem?_cons_zero, Option.getD_some, List.setIfInBounds_toArray, List.set_cons_zero, List.set_cons_succ])
    | (refine wk_skip (wanted_not _ true false rfl rfl rfl) ?_; simp only [Act.put, List.setIfInBounds_toArray, List.set_cons_zero, List.set_cons_succ])
    | (refine wk_skip (wanted_not _ false true rfl rfl rfl) ?_; simp only [Act.put, List.setIfInBounds_toArray, List.set_cons_zero, List.set_cons_succ])
    | (refine wk_skip (wanted_undef _ _ rfl rfl) ?_; simp only [Act.put, List.setIfInBounds_toArray, List.set_cons_zero, List.set_cons_succ])
    | (refine wk_not true _ _ (by first | exact wanted_none rfl | exact wanted_yes _ _ rfl rfl) rfl rfl ?_; simp only [Act.put, List.setIfInBounds_toArray, List.set_cons_zero, List.set_cons_succ])
    | (refine wk_not false _ _ (by first | exact wanted_none rfl | exact wanted_yes _ _ rfl rfl) rfl rfl ?_; simp only [Act.put, List.setIfInBounds_toArray, List.set_cons_zero, List.set_cons_succ]))
  refine wk_nil ?_
  intro w' hC
  have hfin : Below w.heap.size w w' := (R12.out.since hC).below
  go_wp2_with fail
  go_ret
  exact ⟨rfl, hfin⟩
end Go.Proofs.YtnhfkmfmmgaecaaDoor
