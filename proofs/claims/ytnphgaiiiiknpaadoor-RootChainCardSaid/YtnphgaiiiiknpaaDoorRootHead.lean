/- The root layer's law: its head holds. -/
import Derived.Test.YtnphgaiiiiknpaaDoorRootNo
import Derived.Test.YtnphgaiiiiknpaaDoorDevHead
namespace Go.Proofs.YtnphgaiiiiknpaaDoor
open Go.RowKit
set_option linter.unusedSimpArgs false
set_option linter.unusedVariables false
set_option maxRecDepth 100000
theorem Held.two {w0 W W' : World} {l : List Thing} (R : Held w0 W l) (hb : Below W.heap.size W W') {b c : Nat} {cs ct : Array Value} {T T' : TypeId} (h1 : W'.heap[b]? = some (.cells cs T (0, 0))) (h2 : W'.heap[c]? = some (.cells ct T' (0, 0)))
    (hb1 : W.heap.size ≤ b) (hc1 : W.heap.size ≤ c) (hne : b ≠ c) : Held w0 W' (rowT b cs T :: rowT c ct T' :: l) := by
  obtain ⟨Z, rfl, R⟩ := R
  have R2 := R.more hb (x := rowT c ct T') (F := [c]) ⟨rfl, h2⟩ (by simpa using hc1) (by simp)
  refine ⟨(rowT b cs T, [b]) :: (rowT c ct T', [c]) :: Z, rfl, R2.below, ?_, ?_, ?_⟩
  · intro z hz
    rcases List.mem_cons.1 hz with rfl | hz
    · exact ⟨rfl, h1⟩
    · exact R2.says z hz
  · intro z hz x hx
    rcases List.mem_cons.1 hz with rfl | hz
    · have : x = b := by simpa using hx
      subst this
      exact Nat.le_trans R.below.size hb1
    · exact R2.ge z hz x hx
  · rw [List.flatMap_cons, List.nodup_append]
    refine ⟨by simp, R2.apart, ?_⟩
    intro x hx y hy e
    subst e
    have hxb : x = b := by simpa using hx
    subst hxb
    rw [List.flatMap_cons] at hy
    rcases List.mem_append.1 hy with hy | hy
    · exact hne (by simpa using hy)
    · obtain ⟨z, hz, hz2⟩ := List.mem_flatMap.1 hy
      have := R.lt z hz x hz2
      omega
theorem zeroPl : (Tryd.prog.info? 24).bind (·.zero) = some (.agg (planV 0 0 0)) := by kernel_rfl
theorem planV_one (a b c : Nat) : (planV a b c).all (·.oneCell') = true := by simp [planV, Value.oneCell']
theorem sevenP : (putV 9 zeroBlk).setIfInBounds 1 (.int .u8 7) = putV 9 sevenB := by kernel_rfl
/-- What the head's two refused commits hold. -/
theorem eqlP1 (w : World) : (binOp .eql 24 (.agg #[.int .u32 1, .int .u32 1, .int .u32 6]) (.agg #[.int .u32 1, .int .u32 1, .int .u32 6])).run Tryd.prog w = .ok (.bool true) w := by
  have := run_eql_plan w 1 1 6 1 1 6
  rw [psame_refl] at this
  exact this
theorem eqlP2 (w : World) : (binOp .eql 24 (.agg #[.int .u32 2, .int .u32 1, .int .u32 8]) (.agg #[.int .u32 2, .int .u32 1, .int .u32 8])).run Tryd.prog w = .ok (.bool true) w := by
  have := run_eql_plan w 2 1 8 2 1 8
  rw [psame_refl] at this
  exact this
theorem eqlP3 (w : World) : (binOp .eql 24 (.agg #[.int .u32 16384, .int .u32 16, .int .u32 32802]) (.agg #[.int .u32 16384, .int .u32 16, .int .u32 32802])).run Tryd.prog w = .ok (.bool true) w := by
  have := run_eql_plan w 16384 16 32802 16384 16 32802
  rw [psame_refl] at this
  exact this
theorem builtP (a b c : Int) : Tryd.prog.built 24 [(0, .int .u32 a), (1, .int .u32 b), (2, .int .u32 c)] = some #[.int .u32 a, .int .u32 b, .int .u32 c] := by kernel_rfl
def rhV (g : Nat) (CB CC PO : Array Value) (base : Nat) (t : Tmp) (v : Value) (w : World) : Prop :=
  match t with
  | 92 => v = .pointer (some ⟨g, 0, none⟩)
  | 93 => v = .agg CC
  | 94 => v = .int .i64 2
  | 95 => v = .pointer (some ⟨g, 0, none⟩)
  | 96 => v = .agg PO
  | 97 => ∃ b, v = .slice (some ⟨b, 0, none⟩) 1 1 ∧ w.heap[b]? = some (.cells PO 47 (0, 0))
  | 98 => v = .agg CB
  | 99 => v = .int .i64 2
  | _ => True
theorem rhV_stab (g : Nat) (CB CC PO : Array Value) (base : Nat) : ∀ t v w w', rhV g CB CC PO base t v w → Below w.heap.size w w' → rhV g CB CC PO base t v w' := by
  intro t v w w' h hb
  unfold rhV at h ⊢
  split at h <;> try exact h
  obtain ⟨b, h1, h3⟩ := h
  exact ⟨b, h1, (hb.block b (Array.getElem?_eq_some_iff.1 h3).1).trans h3⟩
set_option maxHeartbeats 4000000 in
theorem roothead_any (w : World) : Calls Tryd.prog 9 #[] w fun e w' => e = .returned (.bool true) ∧ Below w.heap.size w w' := by
  obtain ⟨s1, s2, hf⟩ := head_facts
  have HF := Lib.hid hf
  clear hf
  have HL1 : Hid (∀ w : World, Calls Tryd.prog 7 #[.int .u32 64] w fun e w' => e = .returned (.tuple #[.agg #[.int .u32 1, .int .u32 1, .int .u32 6], .int .i64 0]) ∧ Below w.heap.size w w') := Lib.hid (fun w => by have := layout_is 64 (by decide) w; rw [plan_64.1, plan_64.2] at this; exact this)
  have HL2 : Hid (∀ w : World, Calls Tryd.prog 7 #[.int .u32 65] w fun e w' => e = .returned (.tuple #[.agg #[.int .u32 2, .int .u32 1, .int .u32 8], .int .i64 0]) ∧ Below w.heap.size w w') := Lib.hid (fun w => by have := layout_is 65 (by decide) w; rw [plan_65.1, plan_65.2] at this; exact this)
  have HL3 : Hid (∀ w : World, Calls Tryd.prog 7 #[.int .u32 1048576] w fun e w' => e = .returned (.tuple #[.agg #[.int .u32 16384, .int .u32 16, .int .u32 32802], .int .i64 0]) ∧ Below w.heap.size w w') := Lib.hid (fun w => by have := layout_is 1048576 (by decide) w; rw [plan_big.1, plan_big.2] at this; exact this)
  have HL4 : Hid (∀ w : World, Calls Tryd.prog 7 #[.int .u32 63] w fun e w' => e = .returned (.tuple #[.agg #[.int .u32 0, .int .u32 0, .int .u32 0], .int .i64 2]) ∧ Below w.heap.size w w') := Lib.hid (fun w => by have := layout_is 63 (by decide) w; rw [plan_63.1, plan_63.2] at this; exact this)
  obtain ⟨CZ, hCZ⟩ : ∃ C, C = zeroRt.cells := ⟨_, rfl⟩
  obtain ⟨CA, hCA⟩ : ∃ C, C = rA.cells := ⟨_, rfl⟩
  obtain ⟨CB, hCB⟩ : ∃ C, C = rB.cells := ⟨_, rfl⟩
  obtain ⟨CC, hCC⟩ : ∃ C, C = rC.cells := ⟨_, rfl⟩
  have HCS : Hid (∀ C ∈ [CZ, CA, CB, CC], C.size = 8) := Lib.hid (by rw [hCZ, hCA, hCB, hCC]; intro P hP; simp only [List.mem_cons, List.not_mem_nil, or_false] at hP; rcases hP with rfl | rfl | rfl | rfl <;> rfl)
  have HCO : Hid (∀ C ∈ [CZ, CA, CB, CC], C.all (·.oneCell') = true) := Lib.hid (by rw [hCZ, hCA, hCB, hCC]; intro P hP; simp only [List.mem_cons, List.not_mem_nil, or_false] at hP; rcases hP with rfl | rfl | rfl | rfl <;> exact rcells_one _)
  have HCE : Hid (CZ = zeroRt.cells ∧ CA = rA.cells ∧ CB = rB.cells ∧ CC = rC.cells) := Lib.hid ⟨hCZ, hCA, hCB, hCC⟩
  have HM0 : Hid (∀ (g : Nat) (w : World), (dvT g (newDv 64)).at w → Calls Tryd.prog 15 #[.pointer (some ⟨g, 0, none⟩)] w fun e w' => e = .returned (.tuple #[.agg CZ, .int .i64 80]) ∧ Below w.heap.size w w') := Lib.hid (fun g w h => by have := mount_is h (by decide); rw [HF.out.m0.1, HF.out.m0.2, ← hCZ] at this; exact this)
  have HM1 : Hid (∀ (g : Nat) (w : World), (dvT g s1).at w → Calls Tryd.prog 15 #[.pointer (some ⟨g, 0, none⟩)] w fun e w' => e = .returned (.tuple #[.agg CA, .int .i64 0]) ∧ Below w.heap.size w w') := Lib.hid (fun g w h => by have := mount_is h (by rw [HF.out.z1.1]; decide); rw [HF.out.m1.1, HF.out.m1.2, ← hCA] at this; exact this)
  have HM2 : Hid (∀ (g : Nat) (w : World), (dvT g s2).at w → Calls Tryd.prog 15 #[.pointer (some ⟨g, 0, none⟩)] w fun e w' => e = .returned (.tuple #[.agg CB, .int .i64 0]) ∧ Below w.heap.size w w') := Lib.hid (fun g w h => by have := mount_is h (by rw [HF.out.z2.1]; decide); rw [HF.out.m2.1, HF.out.m2.2, ← hCB] at this; exact this)
  have HMN : Hid (∀ w : World, Calls Tryd.prog 15 #[.pointer none] w fun e w' => e = .returned (.tuple #[.agg CZ, .int .i64 1]) ∧ Below w.heap.size w w') := Lib.hid (fun w => by rw [hCZ]; exact mount_nil w)
  have HFM : Hid (∀ (g : Nat) (W : World) (tl : List Thing), Held w W (dvT g (newDv 64) :: tl) → Calls Tryd.prog 11 #[.pointer (some ⟨g, 0, none⟩)] W fun e w' => e = .returned (.tuple #[.agg CA, .int .i64 0]) ∧ Held w w' (dvT g s1 :: tl)) := Lib.hid (fun g W tl R => by have := format_is R (by decide) (by decide); rw [HF.out.f.1, HF.out.f.2, ← hCA] at this; exact this)
  have hP9 : 9 < 4294967296 := by decide
  obtain ⟨PX, hPX⟩ : ∃ P, P = putV 9 sevenB := ⟨_, rfl⟩
  have HCM : Hid (∀ (g gx : Nat) (W : World) (tl : List Thing), Held w W (dvT g s1 :: rowT gx PX 47 :: tl) → Calls Tryd.prog 13 #[.pointer (some ⟨g, 0, none⟩), .slice (some ⟨gx, 0, none⟩) 1 1, .agg CB] W fun e w' => e = .returned (.int .i64 0) ∧ Held w w' (dvT g s2 :: rowT gx PX 47 :: tl)) := Lib.hid (fun g gx W tl R => by
    have := commit_is rB rB_ok (some ⟨gx, 0, none⟩) 1 1 [(9, sevenB)] (by decide) R (fun W' t h => puts_row1 (by rw [← hPX]; exact h.get 1 rfl) (by decide) (by decide)) (by rw [HF.out.z1.2]; decide) (by rw [HF.out.z1.1]; decide)
    rw [HF.out.c, ← hCB] at this; exact this)
  obtain ⟨PO, hPO⟩ : ∃ P, P = putV 1 zeroBlk := ⟨_, rfl⟩
  have HN1 : Hid (∀ (g : Nat) (W : World), (dvT g s2).at W → Calls Tryd.prog 13 #[.pointer (some ⟨g, 0, none⟩), .slice none 0 0, .agg CC] W fun e w' => e = .returned (.int .i64 2) ∧ Below W.heap.size W w') := Lib.hid (fun g W h => by
    have := commit_no h rC rC_ok none 0 0 [] (by decide) (PutsIn.nil W) (by rw [HF.out.z2.1]; decide) (by rw [HF.out.z2.1, rC_no]; rfl)
    rw [← hCC] at this; exact this)
  have HN2 : Hid (∀ (g gx : Nat) (W : World), (dvT g s2).at W → W.heap[gx]? = some (.cells PO 47 (0, 0)) → Calls Tryd.prog 13 #[.pointer (some ⟨g, 0, none⟩), .slice (some ⟨gx, 0, none⟩) 1 1, .agg CB] W fun e w' => e = .returned (.int .i64 2) ∧ Below W.heap.size W w') := Lib.hid (fun g gx W h hr => by
    have := commit_no (c := 1) h rB rB_ok (some ⟨gx, 0, none⟩) 1 [(1, zeroBlk)] (by decide) (puts_row1 (by rw [← hPO]; exact hr) (by decide) length_zeroBlk) (by rw [HF.out.z2.1]; decide) (by rw [HF.out.z2.1]; decide)
    rw [← hCB] at this; exact this)
  obtain ⟨PU, hPU⟩ : ∃ P, P = putV 9 zeroBlk := ⟨_, rfl⟩
  obtain ⟨B7, hB7⟩ : ∃ P, P = sevenB := ⟨_, rfl⟩
  obtain ⟨E9, hE9⟩ : ∃ P, P = readE s2 9 := ⟨_, rfl⟩
  have H7 : Hid (B7.length = 256) := Lib.hid (by rw [hB7]; decide)
  have HR9 : Hid (readB s2 9 = B7 ∧ readE s2 9 = E9) := Lib.hid ⟨by rw [HF.out.r9, hB7], hE9.symm⟩
  have HPZ : Hid (PU.size = 257 ∧ PX.size = 257 ∧ PO.size = 257 ∧ PU.setIfInBounds 1 (.int .u8 7) = PX ∧ PU[1]? = some (.int .u8 0)) := Lib.hid (by rw [hPU, hPX, hPO]; exact ⟨by kernel_rfl, by kernel_rfl, by kernel_rfl, sevenP, by kernel_rfl⟩)
  have HPU1 : Hid (PU.all (·.oneCell') = true) := Lib.hid (by rw [hPU]; exact putV_one _ _)
  have HBU : Hid (Tryd.prog.built 47 [(0, .int .u32 9)] = some PU) := Lib.hid (by rw [hPU]; exact builtPut1 9)
  have HBO : Hid (Tryd.prog.built 47 [(0, .int .u32 1)] = some PO) := Lib.hid (by rw [hPO]; exact builtPut1 1)
  have HMID : Hid (∀ (V : World) (x : Nat), V.heap[x]? = some (.cells PX 47 (0, 0)) → V.rangeAt x 1 (blk B7).toList) := Lib.hid (fun V x h => by rw [hPX, ← hB7] at h; exact putV_range h)
  have HEB : Hid (∀ w : World, (binOp .eql 45 (.agg (blk B7)) (.agg (blk B7))).run Tryd.prog w = .ok (.bool true) w) := Lib.hid (fun w => by rw [eqlBlk w B7 B7 H7.out H7.out]; simp)
  have HER : Hid (∀ (C : Array Value) (w : World), C ∈ [CA, CB] → (binOp .eql 34 (.agg C) (.agg C)).run Tryd.prog w = .ok (.bool true) w) := Lib.hid (fun C w h => by
    rw [hCA, hCB] at h
    simp only [List.mem_cons, List.not_mem_nil, or_false] at h
    rcases h with rfl | rfl <;> rw [run_eql_root, (rsame_iff _ _).2 rfl])
  have HBA : Hid (Tryd.prog.built 34 [(0, .int .u64 1), (1, .int .u32 64), (4, .int .u32 58), (5, .int .u32 1), (6, .int .u32 6)] = some CA) := Lib.hid (by rw [hCA]; exact builtRoot5 64 58 6)
  obtain ⟨ip, hip, hzp, hsp, hbp⟩ := info_parts Tryd.infoPut
  have HIP := Lib.hid hip
  have HZP := Lib.hid hzp
  have R0 := Lib.hid (Held.start w)
  clear hip hzp hPU hB7 hE9
  clear hCZ hCA hCB hCC hPX hPO hP9
  go_enter Tryd.func9, Tryd.ntmps9
  go_wp2_with fail
  refine (HL1.out _).mono ?_
  rintro e w1 ⟨rfl, hb⟩
  have q1 := (R0.out.call hb).alloc #[.int .u32 1, .int .u32 1, .int .u32 6] 24
  clear hb
  go_upto_region 2 with (fail)
  obtain ⟨W1, hW⟩ : ∃ W, W = w1.alloc (.cells #[.int .u32 1, .int .u32 1, .int .u32 6] 24) := ⟨_, rfl⟩
  rw [← hW] at q1 ⊢
  clear hW
  obtain ⟨g1, hg⟩ : ∃ g, g = w1.heap.size := ⟨_, rfl⟩
  rw [← hg] at q1 ⊢
  clear hg
  have R1 := Lib.hid q1
  clear q1
  go_wp2_with fail
  refine (HL2.out _).mono ?_
  rintro e w2 ⟨rfl, hb⟩
  have q1 := (R1.out.call hb).alloc #[.int .u32 2, .int .u32 1, .int .u32 8] 24
  clear hb
  go_upto_region 3 with (fail)
  obtain ⟨W2, hW⟩ : ∃ W, W = w2.alloc (.cells #[.int .u32 2, .int .u32 1, .int .u32 8] 24) := ⟨_, rfl⟩
  rw [← hW] at q1 ⊢
  clear hW
  obtain ⟨g2, hg⟩ : ∃ g, g = w2.heap.size := ⟨_, rfl⟩
  rw [← hg] at q1 ⊢
  clear hg
  have R2 := Lib.hid q1
  clear q1
  go_wp2_with fail
  refine (HL3.out _).mono ?_
  rintro e w3 ⟨rfl, hb⟩
  have q1 := (R2.out.call hb).alloc #[.int .u32 16384, .int .u32 16, .int .u32 32802] 24
  clear hb
  go_upto_region 4 with (fail)
  obtain ⟨W3, hW⟩ : ∃ W, W = w3.alloc (.cells #[.int .u32 16384, .int .u32 16, .int .u32 32802] 24) := ⟨_, rfl⟩
  rw [← hW] at q1 ⊢
  clear hW
  obtain ⟨g3, hg⟩ : ∃ g, g = w3.heap.size := ⟨_, rfl⟩
  rw [← hg] at q1 ⊢
  clear hg
  have R3 := Lib.hid q1
  clear q1
  go_wp2_with fail
  refine (HL4.out _).mono ?_
  rintro e w4 ⟨rfl, hb⟩
  have q1 := (R3.out.call hb).alloc #[.int .u32 0, .int .u32 0, .int .u32 0] 24
  clear hb
  go_upto_region 5 with (fail)
  obtain ⟨W4, hW⟩ : ∃ W, W = w4.alloc (.cells #[.int .u32 0, .int .u32 0, .int .u32 0] 24) := ⟨_, rfl⟩
  rw [← hW] at q1 ⊢
  clear hW
  obtain ⟨g4, hg⟩ : ∃ g, g = w4.heap.size := ⟨_, rfl⟩
  rw [← hg] at q1 ⊢
  clear hg
  have R4 := Lib.hid q1
  clear q1
  go_upto_region 8 with (go_at_call 10; refine (new_dev _ 64 (by decide) (by decide)).mono ?_; rintro e w5 ⟨g, rfl, hM⟩; have R5 := Lib.hid (R4.out.made hM); clear hM)
  clear R0 R1 R2 R3 R4
  go_wp2_with fail
  refine (HM0.out _ _ (R5.out.thing 0 rfl)).mono ?_
  rintro e w6 ⟨rfl, hb⟩
  have q1 := (R5.out.call hb).alloc2 CZ 34
  clear hb
  go_upto_region 9 with (first | refine wpList_alloc_row rfl 34 rfl _ zeroR ?_ | refine wpList_store_new rfl 34 _ _ rfl _ CZ _ rfl rfl (by rw [HCS.out CZ (by simp)]; exact sizeR) (by rw [HCS.out CZ (by simp)]; rfl) (HCO.out CZ (by simp)) ?_)
  obtain ⟨W6, hW⟩ : ∃ W, W = w6.alloc (.cells CZ 34) := ⟨_, rfl⟩
  rw [← hW] at q1 ⊢
  clear hW
  obtain ⟨g6, hg⟩ : ∃ g, g = w6.heap.size := ⟨_, rfl⟩
  rw [← hg] at q1 ⊢
  clear hg
  have R6 := Lib.hid q1
  clear q1
  go_wp2_with fail
  refine (HFM.out _ _ _ R6.out).mono ?_
  rintro e w7 ⟨rfl, hR⟩
  have q1 := hR.alloc2 CA 34
  clear hR
  go_upto_region 10 with (first | refine wpList_alloc_row rfl 34 rfl _ zeroR ?_ | refine wpList_store_new rfl 34 _ _ rfl _ CA _ rfl rfl (by rw [HCS.out CA (by simp)]; exact sizeR) (by rw [HCS.out CA (by simp)]; rfl) (HCO.out CA (by simp)) ?_)
  obtain ⟨W7, hW⟩ : ∃ W, W = w7.alloc (.cells CA 34) := ⟨_, rfl⟩
  rw [← hW] at q1 ⊢
  clear hW
  obtain ⟨g7, hg⟩ : ∃ g, g = w7.heap.size := ⟨_, rfl⟩
  rw [← hg] at q1 ⊢
  clear hg
  have R7 := Lib.hid q1
  clear q1
  go_wp2_with fail
  refine (HM1.out _ _ (R7.out.thing 0 rfl)).mono ?_
  rintro e w8 ⟨rfl, hb⟩
  have q1 := (R7.out.call hb).alloc2 CA 34
  clear hb
  go_upto_region 11 with (first | refine wpList_alloc_row rfl 34 rfl _ zeroR ?_ | refine wpList_store_new rfl 34 _ _ rfl _ CA _ rfl rfl (by rw [HCS.out CA (by simp)]; exact sizeR) (by rw [HCS.out CA (by simp)]; rfl) (HCO.out CA (by simp)) ?_)
  obtain ⟨W8, hW⟩ : ∃ W, W = w8.alloc (.cells CA 34) := ⟨_, rfl⟩
  rw [← hW] at q1 ⊢
  clear hW
  obtain ⟨g8, hg⟩ : ∃ g, g = w8.heap.size := ⟨_, rfl⟩
  rw [← hg] at q1 ⊢
  clear hg
  have R8 := Lib.hid q1
  clear q1
  clear R5 R6 R7
  refine wp_region_copies (by kernel_rfl) 2 (fun j => 70 + j) (fun j => 17 + j) 13 34 ?hl CA CZ _ Tryd.underlying34 rfl (by rw [HCS.out CA (by simp)]; exact sizeR) (by rw [HCE.out.1]; exact zeroR) (by rw [HCS.out CA (by simp), HCS.out CZ (by simp)]) (HCO.out CA (by simp)) g7 rfl (R8.out.get 2 rfl) ?hlt ?_
  case hl =>
    refine ⟨rfl, ?_, ?_, ?_, by decide +kernel, ?_, ?_, ?_, ?_⟩
    · intro j hj
      rcases (by omega : j = 0 ∨ j = 1) with rfl | rfl <;> exact ⟨_, rfl, rfl, rfl, rfl⟩
    · intro j hj
      rcases (by omega : j = 0 ∨ j = 1) with rfl | rfl <;> exact ⟨_, rfl, rfl, rfl, rfl⟩
    · intro j hj
      rcases (by omega : j = 0 ∨ j = 1) with rfl | rfl <;> exact ⟨_, rfl, rfl, rfl, rfl, by decide +kernel, by decide +kernel⟩
    · intro j k _ _ h; simp at h; omega
    · intro j k _ _ h; simp at h; omega
    · intro j k hj hk; simp; omega
    · intro j hj; simp; omega
  case hlt => intro j hj; simp; omega
  intro b W9 hbs hne hb3
  simp only [copied, Nat.reduceAdd, List.setIfInBounds_toArray, List.set_cons_zero, List.set_cons_succ]
  have q1 := R8.out.two hb3 (hbs 0 (by omega)).2 (hbs 1 (by omega)).2 (hbs 0 (by omega)).1 (hbs 1 (by omega)).1 (hne 0 1 (by omega) (by omega) (by omega))
  obtain ⟨b0, e0⟩ : ∃ x, x = b 0 := ⟨_, rfl⟩
  obtain ⟨b1, e1⟩ : ∃ x, x = b 1 := ⟨_, rfl⟩
  rw [← e0, ← e1] at q1 ⊢
  have R9 := Lib.hid q1
  clear q1 e0 e1 hbs hne hb3
  have hc := R9.out.cell 0 0 rfl (show CA[0]? = some (.int .u64 1) by rw [HCE.out.2.1]; rfl)
  have hf := R9.out.free 0 0 rfl
  have q0 := Lib.hid (R9.out.setCell 0 0 (.int .u64 2) rfl)
  go_upto_region 13 with (fail)
  have q1 := q0.out
  clear q0 hc hf
  obtain ⟨W10, hW⟩ : ∃ W, W = W9.setCell ⟨b0, 0, none⟩ (.int .u64 2) := ⟨_, rfl⟩
  rw [← hW] at q1 ⊢
  clear hW
  simp only [List.set_cons_zero, List.set_cons_succ] at q1
  have R10 := Lib.hid q1
  clear q1
  have hc := R10.out.cell 1 0 rfl (show CA[0]? = some (.int .u64 1) by rw [HCE.out.2.1]; rfl)
  have hf := R10.out.free 1 0 rfl
  have q0 := Lib.hid (R10.out.setCell 1 0 (.int .u64 0) rfl)
  go_upto_region 14 with (fail)
  have q1 := q0.out
  clear q0 hc hf
  obtain ⟨W11, hW⟩ : ∃ W, W = W10.setCell ⟨b1, 0, none⟩ (.int .u64 0) := ⟨_, rfl⟩
  rw [← hW] at q1 ⊢
  clear hW
  simp only [List.set_cons_zero, List.set_cons_succ] at q1
  have R11 := Lib.hid q1
  clear q1
  have q1 := R11.out
  have eb : CA.setIfInBounds 0 (.int .u64 2) = CB := by rw [HCE.out.2.1, HCE.out.2.2.1]; rfl
  have ec : CA.setIfInBounds 0 (.int .u64 0) = CC := by rw [HCE.out.2.1, HCE.out.2.2.2]; rfl
  rw [eb, ec] at q1
  have R12 := Lib.hid q1
  clear q1 eb ec R8 R9 R10 R11
  go_upto_region 15 with (first
    | refine wpList_builtC rfl 47 _ rfl [(0, .int .u32 9)] PU (by simp [Act.eval]) HBU.out ?_
    | refine wpList_alloc_row rfl 47 rfl _ zeroPut ?_
    | refine wpList_store_new rfl 47 _ _ rfl _ PU _ rfl rfl (by rw [HPZ.out.1]; exact sizePut) (by rw [HPZ.out.1]; rfl) HPU1.out ?_)
  have q1 := R12.out.alloc PU 47
  obtain ⟨W12, hW⟩ : ∃ W, W = W11.alloc (.cells PU 47) := ⟨_, rfl⟩
  rw [← hW] at q1 ⊢
  clear hW
  obtain ⟨gx, hg⟩ : ∃ g, g = W11.heap.size := ⟨_, rfl⟩
  rw [← hg] at q1 ⊢
  clear hg
  have R13 := Lib.hid q1
  clear q1
  have hc := R13.out.cell 0 1 rfl (HPZ.out.2.2.2.2)
  have hf := R13.out.free 0 1 rfl
  have q0 := Lib.hid (R13.out.setCell 0 1 (.int .u8 7) rfl)
  go_upto_region 16 with (fail)
  have q1 := q0.out
  clear q0 hc hf
  obtain ⟨W13, hW⟩ : ∃ W, W = W12.setCell ⟨gx, 1, none⟩ (.int .u8 7) := ⟨_, rfl⟩
  rw [← hW] at q1 ⊢
  clear hW
  simp only [List.set_cons_zero, List.set_cons_succ] at q1
  have R14 := Lib.hid q1
  clear q1
  have q1 := R14.out
  rw [HPZ.out.2.2.2.1] at q1
  have R15 := Lib.hid q1
  clear q1 R12 R13 R14
  go_upto_region 17 with (first
    | refine wpList_load_row rfl 47 _ rfl gx rfl 47 PX (0, 0) _ (R15.out.get 0 rfl) Tryd.underlying47 rfl (by rw [HPZ.out.2.1]; exact sizePut) ?_
    | refine wpList_plain rfl fun K hK' => wp_build_one 35 47 _ rfl PX rfl ip _ Tryd.underlying35 HIP.out HZP.out (by rw [hsp]; exact HPZ.out.2.1) (by omega) (by omega) (hK' _ _ ?_)
    | refine wpList_load_row rfl 34 _ rfl b0 rfl 34 CB (0, 0) _ ((R15.out.alloc PX 47).get 2 rfl) Tryd.underlying34 rfl (by rw [HCS.out CB (by simp)]; exact sizeR) ?_
    | (go_at_call 13; refine (HCM.out _ _ _ _ ((R15.out.alloc PX 47).pull 4 rfl)).mono ?_; rintro e w16 ⟨rfl, hR⟩; have R16 := Lib.hid hR; clear hR))
  clear R15
  go_wp2_with fail
  refine (HM2.out _ _ (R16.out.thing 0 rfl)).mono ?_
  rintro e w17 ⟨rfl, hb⟩
  have q1 := (R16.out.call hb).alloc2 CB 34
  clear hb
  go_upto_region 18 with (first | refine wpList_alloc_row rfl 34 rfl _ zeroR ?_ | refine wpList_store_new rfl 34 _ _ rfl _ CB _ rfl rfl (by rw [HCS.out CB (by simp)]; exact sizeR) (by rw [HCS.out CB (by simp)]; rfl) (HCO.out CB (by simp)) ?_)
  obtain ⟨W17, hW⟩ : ∃ W, W = w17.alloc (.cells CB 34) := ⟨_, rfl⟩
  rw [← hW] at q1 ⊢
  clear hW
  obtain ⟨g21, hg⟩ : ∃ g, g = w17.heap.size := ⟨_, rfl⟩
  rw [← hg] at q1 ⊢
  clear hg
  have R17 := Lib.hid q1
  clear q1
  go_wp2_with fail
  refine (read_is (R17.out.thing 0 rfl) 9 (by decide) _ _ HR9.out).mono ?_
  rintro e w18 ⟨rfl, hb⟩
  have q1 := (R17.out.call hb).alloc2 (blk B7) 45
  clear hb
  go_upto_region 19 with (first | refine wpList_alloc_row rfl 45 rfl _ zeroB ?_ | refine wpList_store_new rfl 45 _ _ rfl _ (blk B7) _ rfl rfl (by rw [size_blk, H7.out]; exact sizeB) (by rw [size_blk, H7.out, size_zeros]) (blk_one _) ?_)
  obtain ⟨W18, hW⟩ : ∃ W, W = w18.alloc (.cells (blk B7) 45) := ⟨_, rfl⟩
  rw [← hW] at q1 ⊢
  clear hW
  obtain ⟨g23, hg⟩ : ∃ g, g = w18.heap.size := ⟨_, rfl⟩
  rw [← hg] at q1 ⊢
  clear hg
  have R18 := Lib.hid q1
  clear q1
  clear R16 R17
  have HLT : Hid (∀ v : World, Below W18.heap.size W18 v → v.heap[b0]? = some (.cells CB 34 (0, 0)) ∧ v.heap[b1]? = some (.cells CC 34 (0, 0)) ∧ (dvT g s2).at v) := Lib.hid (fun v hb => ⟨(R18.out.call hb).get 5 rfl, (R18.out.call hb).get 6 rfl, (R18.out.call hb).thing 0 rfl⟩)
  refine wp_region_flow (by kernel_rfl) 8 (rhV g CB CC PO W18.heap.size) (rhV_stab _ _ _ _ _) (by kernel_rfl) (by kernel_rfl) (by kernel_rfl) (by kernel_rfl) ?heads ?tail
  case heads =>
    refine ⟨.inr ⟨rfl, 92, rfl, fun a v hB hO hD K hK => ?_⟩, .inr ⟨rfl, 93, rfl, fun a v hB hO hD K hK => ?_⟩, .inr ⟨rfl, 94, rfl, fun a v hB hO hD K hK => ?_⟩, .inr ⟨rfl, 95, rfl, fun a v hB hO hD K hK => ?_⟩, .inr ⟨rfl, 96, rfl, fun a v hB hO hD K hK => ?_⟩, .inr ⟨rfl, 97, rfl, fun a v hB hO hD K hK => ?_⟩, .inr ⟨rfl, 98, rfl, fun a v hB hO hD K hK => ?_⟩, .inr ⟨rfl, 99, rfl, fun a v hB hO hD K hK => ?_⟩, .inl (by decide), .inl (by decide), trivial⟩
    · skip
      exact wp_move _ _ rfl (eval_of (t := 9) (by rw [hO 9 (not_dst 9 (by kernel_rfl))]; rfl)) (hK _ _ rfl (Below.refl _ _))
    · exact wp_load_all 34 (.tmp 18) b1 34 CC (0, 0) _ rfl (eval_of (t := 18) (by rw [hO 18 (not_dst 18 (by kernel_rfl))]; rfl)) (HLT.out v hB).2.1 Tryd.underlying34 rfl (by rw [HCS.out CC (by simp)]; exact sizeR) (hK _ _ rfl (Below.refl _ _))
    · skip
      obtain ⟨u, hu, hv⟩ := flow_of hD 0 (by kernel_rfl) 92 (by kernel_rfl)
      obtain ⟨u2, hu2, hv2⟩ := flow_of hD 1 (by kernel_rfl) 93 (by kernel_rfl)
      refine wp_call_any 13 [.tmp 92, .const (.slice none 0 0), .tmp 93] _ #[.pointer (some ⟨g, 0, none⟩), .slice none 0 0, .agg CC] (.int .i64 2) _ _ rfl Tryd.func13 rfl (by kernel_rfl) ?_ (HN1.out g v (HLT.out v hB).2.2) (fun w' hb => hK _ _ rfl hb)
      show #[a.eval (.tmp 92), Value.slice none 0 0, a.eval (.tmp 93)] = _
      rw [hu.trans hv, hu2.trans hv2]
    · skip
      exact wp_move _ _ rfl (eval_of (t := 9) (by rw [hO 9 (not_dst 9 (by kernel_rfl))]; rfl)) (hK _ _ rfl (Below.refl _ _))
    · exact wp_built 47 _ [(0, .int .u32 1)] PO rfl (by simp [Act.eval]) HBO.out (hK _ _ rfl (Below.refl _ _))
    · skip
      obtain ⟨u, hu, hv⟩ := flow_of hD 4 (by kernel_rfl) 96 (by kernel_rfl)
      exact wp_build_one 35 47 _ rfl PO (hu.trans hv) ip _ Tryd.underlying35 HIP.out HZP.out (by rw [hsp]; exact HPZ.out.2.2.1) (by omega) (by omega) (hK _ _ ⟨_, rfl, heap_alloc_new _ _⟩ ((Below.refl _ _).alloc (Nat.le_refl _) _))
    · exact wp_load_all 34 (.tmp 17) b0 34 CB (0, 0) _ rfl (eval_of (t := 17) (by rw [hO 17 (not_dst 17 (by kernel_rfl))]; rfl)) (HLT.out v hB).1 Tryd.underlying34 rfl (by rw [HCS.out CB (by simp)]; exact sizeR) (hK _ _ rfl (Below.refl _ _))
    · skip
      obtain ⟨u, hu, hv⟩ := flow_of hD 3 (by kernel_rfl) 95 (by kernel_rfl)
      obtain ⟨u2, hu2, hv2⟩ := flow_of hD 6 (by kernel_rfl) 98 (by kernel_rfl)
      obtain ⟨u3, hu3, b', hv3, hb'⟩ := flow_of hD 5 (by kernel_rfl) 97 (by kernel_rfl)
      refine wp_call_any 13 [.tmp 95, .tmp 97, .tmp 98] _ #[.pointer (some ⟨g, 0, none⟩), .slice (some ⟨b', 0, none⟩) 1 1, .agg CB] (.int .i64 2) _ _ rfl Tryd.func13 rfl (by kernel_rfl) ?_ (HN2.out g b' v (HLT.out v hB).2.2 hb') (fun w' hb => hK _ _ rfl hb)
      show #[a.eval (.tmp 95), a.eval (.tmp 97), a.eval (.tmp 98)] = _
      rw [hu.trans hv, hu2.trans hv2, hu3.trans hv3]
  case tail =>
    intro F v hV hB
    have e94 : F 94 = .int .i64 2 := hV _ (List.mem_of_getElem? (i := 2) rfl) 94 rfl
    have e99 : F 99 = .int .i64 2 := hV _ (List.mem_of_getElem? (i := 7) rfl) 99 rfl
    have R19 := Lib.hid (R18.out.call hB)
    simp only [List.take_succ_cons, List.take_zero, List.drop_succ_cons, List.drop_zero, putAll, List.setIfInBounds_toArray, List.set_cons_zero, List.set_cons_succ]
    rw [e94, e99]
    clear hV e94 e99 hB R18 HLT
    go_wp2_with fail
    refine (HMN.out _).mono ?_
    rintro e w20 ⟨rfl, hb⟩
    have q1 := (R19.out.call hb).alloc2 CZ 34
    clear hb
    go_upto_region 21 with (first | refine wpList_alloc_row rfl 34 rfl _ zeroR ?_ | refine wpList_store_new rfl 34 _ _ rfl _ CZ _ rfl rfl (by rw [HCS.out CZ (by simp)]; exact sizeR) (by rw [HCS.out CZ (by simp)]; rfl) (HCO.out CZ (by simp)) ?_)
    obtain ⟨W20, hW⟩ : ∃ W, W = w20.alloc (.cells CZ 34) := ⟨_, rfl⟩
    rw [← hW] at q1 ⊢
    clear hW
    obtain ⟨g27, hg⟩ : ∃ g, g = w20.heap.size := ⟨_, rfl⟩
    rw [← hg] at q1 ⊢
    clear hg
    have R20 := Lib.hid q1
    clear q1
    clear R19
    refine wk_plain_since ?_
    repeat (first
      | (refine wk_move _ (by first | exact wanted_none rfl | exact wanted_yes _ _ rfl rfl) rfl ?_; simp only [Act.put, Act.eval, Array.getD_eq_getD_getElem?, List.getElem?_toArray, List.getElem?_cons_succ, List.getElem?_cons_zero, Option.getD_some, List.setIfInBounds_toArray, List.set_cons_zero, List.set_cons_succ])
      | (refine wk_assign _ (by first | exact wanted_none rfl | exact wanted_yes _ _ rfl rfl) rfl ?_; simp only [Act.put, Act.eval, Array.getD_eq_getD_getElem?, List.getElem?_toArray, List.getElem?_cons_succ, List.getElem?_cons_zero, Option.getD_some, List.setIfInBounds_toArray, List.set_cons_zero, List.set_cons_succ])
      | (refine wk_pickt _ _ _ _ (by first | exact wanted_none rfl | exact wanted_yes _ _ rfl rfl) rfl rfl rfl ?_; simp only [Act.put, Act.eval, Array.getD_eq_getD_getElem?, List.getElem?_toArray, List.getElem?_cons_succ, List.getElem?_cons_zero, Option.getD_some, List.setIfInBounds_toArray, List.set_cons_zero, List.set_cons_succ])
      | (refine wk_pickf _ _ _ _ (by first | exact wanted_none rfl | exact wanted_yes _ _ rfl rfl) rfl rfl rfl ?_; simp only [Act.put, Act.eval, Array.getD_eq_getD_getElem?, List.getElem?_toArray, List.getElem?_cons_succ, List.getElem?_cons_zero, Option.getD_some, List.setIfInBounds_toArray, List.set_cons_zero, List.set_cons_succ])
      | (refine wk_skip (wanted_not _ true false rfl rfl rfl) ?_; simp only [Act.put, List.setIfInBounds_toArray, List.set_cons_zero, List.set_cons_succ])
      | (refine wk_skip (wanted_not _ false true rfl rfl rfl) ?_; simp only [Act.put, List.setIfInBounds_toArray, List.set_cons_zero, List.set_cons_succ])
      | (refine wk_skip (wanted_undef _ _ rfl rfl) ?_; simp only [Act.put, List.setIfInBounds_toArray, List.set_cons_zero, List.set_cons_succ])
      | (refine wk_not true _ _ (by first | exact wanted_none rfl | exact wanted_yes _ _ rfl rfl) rfl rfl ?_; simp only [Act.put, List.setIfInBounds_toArray, List.set_cons_zero, List.set_cons_succ])
      | (refine wk_not false _ _ (by first | exact wanted_none rfl | exact wanted_yes _ _ rfl rfl) rfl rfl ?_; simp only [Act.put, List.setIfInBounds_toArray, List.set_cons_zero, List.set_cons_succ]))
    refine wk_load_row 24 _ g1 24 #[.int .u32 1, .int .u32 1, .int .u32 6] (0, 0) _ (by kernel_rfl) rfl rfl (fun w' hC => hC.row (R20.out.get 14 rfl)) Tryd.underlying24 rfl sizePlan ?_
    simp only [Act.put, List.setIfInBounds_toArray, List.set_cons_zero, List.set_cons_succ]
    refine wk_build 24 _ [(0, .int .u32 1), (1, .int .u32 1), (2, .int .u32 6)] #[.int .u32 1, .int .u32 1, .int .u32 6] (by first | exact wanted_none rfl | exact wanted_yes _ _ rfl rfl) rfl (by simp [Act.eval]) (builtP _ _ _) ?_
    simp only [Act.put, List.setIfInBounds_toArray, List.set_cons_zero, List.set_cons_succ]
    refine wk_eql .eql (true) 24 24 _ _ (by first | exact wanted_none rfl | exact wanted_yes _ _ rfl rfl) rfl _ _ rfl rfl (by kernel_rfl) (fun w => eqlP1 w) ?_
    simp only [Act.put, List.setIfInBounds_toArray, List.set_cons_zero, List.set_cons_succ]
    repeat (first
      | (refine wk_move _ (by first | exact wanted_none rfl | exact wanted_yes _ _ rfl rfl) rfl ?_; simp only [Act.put, Act.eval, Array.getD_eq_getD_getElem?, List.getElem?_toArray, List.getElem?_cons_succ, List.getElem?_cons_zero, Option.getD_some, List.setIfInBounds_toArray, List.set_cons_zero, List.set_cons_succ])
      | (refine wk_assign _ (by first | exact wanted_none rfl | exact wanted_yes _ _ rfl rfl) rfl ?_; simp only [Act.put, Act.eval, Array.getD_eq_getD_getElem?, List.getElem?_toArray, List.getElem?_cons_succ, List.getElem?_cons_zero, Option.getD_some, List.setIfInBounds_toArray, List.set_cons_zero, List.set_cons_succ])
      | (refine wk_pickt _ _ _ _ (by first | exact wanted_none rfl | exact wanted_yes _ _ rfl rfl) rfl rfl rfl ?_; simp only [Act.put, Act.eval, Array.getD_eq_getD_getElem?, List.getElem?_toArray, List.getElem?_cons_succ, List.getElem?_cons_zero, Option.getD_some, List.setIfInBounds_toArray, List.set_cons_zero, List.set_cons_succ])
      | (refine wk_pickf _ _ _ _ (by first | exact wanted_none rfl | exact wanted_yes _ _ rfl rfl) rfl rfl rfl ?_; simp only [Act.put, Act.eval, Array.getD_eq_getD_getElem?, List.getElem?_toArray, List.getElem?_cons_succ, List.getElem?_cons_zero, Option.getD_some, List.setIfInBounds_toArray, List.set_cons_zero, List.set_cons_succ])
      | (refine wk_skip (wanted_not _ true false rfl rfl rfl) ?_; simp only [Act.put, List.setIfInBounds_toArray, List.set_cons_zero, List.set_cons_succ])
      | (refine wk_skip (wanted_not _ false true rfl rfl rfl) ?_; simp only [Act.put, List.setIfInBounds_toArray, List.set_cons_zero, List.set_cons_succ])
      | (refine wk_skip (wanted_undef _ _ rfl rfl) ?_; simp only [Act.put, List.setIfInBounds_toArray, List.set_cons_zero, List.set_cons_succ])
      | (refine wk_not true _ _ (by first | exact wanted_none rfl | exact wanted_yes _ _ rfl rfl) rfl rfl ?_; simp only [Act.put, List.setIfInBounds_toArray, List.set_cons_zero, List.set_cons_succ])
      | (refine wk_not false _ _ (by first | exact wanted_none rfl | exact wanted_yes _ _ rfl rfl) rfl rfl ?_; simp only [Act.put, List.setIfInBounds_toArray, List.set_cons_zero, List.set_cons_succ]))
    refine wk_eql_int true _ _ _ _ _ _ _ (by kernel_rfl) rfl rfl rfl (by decide) ?_
    simp only [Act.put, List.setIfInBounds_toArray, List.set_cons_zero, List.set_cons_succ]
    repeat (first
      | (refine wk_move _ (by first | exact wanted_none rfl | exact wanted_yes _ _ rfl rfl) rfl ?_; simp only [Act.put, Act.eval, Array.getD_eq_getD_getElem?, List.getElem?_toArray, List.getElem?_cons_succ, List.getElem?_cons_zero, Option.getD_some, List.setIfInBounds_toArray, List.set_cons_zero, List.set_cons_succ])
      | (refine wk_assign _ (by first | exact wanted_none rfl | exact wanted_yes _ _ rfl rfl) rfl ?_; simp only [Act.put, Act.eval, Array.getD_eq_getD_getElem?, List.getElem?_toArray, List.getElem?_cons_succ, List.getElem?_cons_zero, Option.getD_some, List.setIfInBounds_toArray, List.set_cons_zero, List.set_cons_succ])
      | (refine wk_pickt _ _ _ _ (by first | exact wanted_none rfl | exact wanted_yes _ _ rfl rfl) rfl rfl rfl ?_; simp only [Act.put, Act.eval, Array.getD_eq_getD_getElem?, List.getElem?_toArray, List.getElem?_cons_succ, List.getElem?_cons_zero, Option.getD_some, List.setIfInBounds_toArray, List.set_cons_zero, List.set_cons_succ])
      | (refine wk_pickf _ _ _ _ (by first | exact wanted_none rfl | exact wanted_yes _ _ rfl rfl) rfl rfl rfl ?_; simp only [Act.put, Act.eval, Array.getD_eq_getD_getElem?, List.getElem?_toArray, List.getElem?_cons_succ, List.getElem?_cons_zero, Option.getD_some, List.setIfInBounds_toArray, List.set_cons_zero, List.set_cons_succ])
      | (refine wk_skip (wanted_not _ true false rfl rfl rfl) ?_; simp only [Act.put, List.setIfInBounds_toArray, List.set_cons_zero, List.set_cons_succ])
      | (refine wk_skip (wanted_not _ false true rfl rfl rfl) ?_; simp only [Act.put, List.setIfInBounds_toArray, List.set_cons_zero, List.set_cons_succ])
      | (refine wk_skip (wanted_undef _ _ rfl rfl) ?_; simp only [Act.put, List.setIfInBounds_toArray, List.set_cons_zero, List.set_cons_succ])
      | (refine wk_not true _ _ (by first | exact wanted_none rfl | exact wanted_yes _ _ rfl rfl) rfl rfl ?_; simp only [Act.put, List.setIfInBounds_toArray, List.set_cons_zero, List.set_cons_succ])
      | (refine wk_not false _ _ (by first | exact wanted_none rfl | exact wanted_yes _ _ rfl rfl) rfl rfl ?_; simp only [Act.put, List.setIfInBounds_toArray, List.set_cons_zero, List.set_cons_succ]))
    refine wk_load_row 24 _ g2 24 #[.int .u32 2, .int .u32 1, .int .u32 8] (0, 0) _ (by kernel_rfl) rfl rfl (fun w' hC => hC.row (R20.out.get 13 rfl)) Tryd.underlying24 rfl sizePlan ?_
    simp only [Act.put, List.setIfInBounds_toArray, List.set_cons_zero, List.set_cons_succ]
    refine wk_build 24 _ [(0, .int .u32 2), (1, .int .u32 1), (2, .int .u32 8)] #[.int .u32 2, .int .u32 1, .int .u32 8] (by first | exact wanted_none rfl | exact wanted_yes _ _ rfl rfl) rfl (by simp [Act.eval]) (builtP _ _ _) ?_
    simp only [Act.put, List.setIfInBounds_toArray, List.set_cons_zero, List.set_cons_succ]
    refine wk_eql .eql (true) 24 24 _ _ (by first | exact wanted_none rfl | exact wanted_yes _ _ rfl rfl) rfl _ _ rfl rfl (by kernel_rfl) (fun w => eqlP2 w) ?_
    simp only [Act.put, List.setIfInBounds_toArray, List.set_cons_zero, List.set_cons_succ]
    repeat (first
      | (refine wk_move _ (by first | exact wanted_none rfl | exact wanted_yes _ _ rfl rfl) rfl ?_; simp only [Act.put, Act.eval, Array.getD_eq_getD_getElem?, List.getElem?_toArray, List.getElem?_cons_succ, List.getElem?_cons_zero, Option.getD_some, List.setIfInBounds_toArray, List.set_cons_zero, List.set_cons_succ])
      | (refine wk_assign _ (by first | exact wanted_none rfl | exact wanted_yes _ _ rfl rfl) rfl ?_; simp only [Act.put, Act.eval, Array.getD_eq_getD_getElem?, List.getElem?_toArray, List.getElem?_cons_succ, List.getElem?_cons_zero, Option.getD_some, List.setIfInBounds_toArray, List.set_cons_zero, List.set_cons_succ])
      | (refine wk_pickt _ _ _ _ (by first | exact wanted_none rfl | exact wanted_yes _ _ rfl rfl) rfl rfl rfl ?_; simp only [Act.put, Act.eval, Array.getD_eq_getD_getElem?, List.getElem?_toArray, List.getElem?_cons_succ, List.getElem?_cons_zero, Option.getD_some, List.setIfInBounds_toArray, List.set_cons_zero, List.set_cons_succ])
      | (refine wk_pickf _ _ _ _ (by first | exact wanted_none rfl | exact wanted_yes _ _ rfl rfl) rfl rfl rfl ?_; simp only [Act.put, Act.eval, Array.getD_eq_getD_getElem?, List.getElem?_toArray, List.getElem?_cons_succ, List.getElem?_cons_zero, Option.getD_some, List.setIfInBounds_toArray, List.set_cons_zero, List.set_cons_succ])
      | (refine wk_skip (wanted_not _ true false rfl rfl rfl) ?_; simp only [Act.put, List.setIfInBounds_toArray, List.set_cons_zero, List.set_cons_succ])
      | (refine wk_skip (wanted_not _ false true rfl rfl rfl) ?_; simp only [Act.put, List.setIfInBounds_toArray, List.set_cons_zero, List.set_cons_succ])
      | (refine wk_skip (wanted_undef _ _ rfl rfl) ?_; simp only [Act.put, List.setIfInBounds_toArray, List.set_cons_zero, List.set_cons_succ])
      | (refine wk_not true _ _ (by first | exact wanted_none rfl | exact wanted_yes _ _ rfl rfl) rfl rfl ?_; simp only [Act.put, List.setIfInBounds_toArray, List.set_cons_zero, List.set_cons_succ])
      | (refine wk_not false _ _ (by first | exact wanted_none rfl | exact wanted_yes _ _ rfl rfl) rfl rfl ?_; simp only [Act.put, List.setIfInBounds_toArray, List.set_cons_zero, List.set_cons_succ]))
    refine wk_eql_int true _ _ _ _ _ _ _ (by kernel_rfl) rfl rfl rfl (by decide) ?_
    simp only [Act.put, List.setIfInBounds_toArray, List.set_cons_zero, List.set_cons_succ]
    repeat (first
      | (refine wk_move _ (by first | exact wanted_none rfl | exact wanted_yes _ _ rfl rfl) rfl ?_; simp only [Act.put, Act.eval, Array.getD_eq_getD_getElem?, List.getElem?_toArray, List.getElem?_cons_succ, List.getElem?_cons_zero, Option.getD_some, List.setIfInBounds_toArray, List.set_cons_zero, List.set_cons_succ])
      | (refine wk_assign _ (by first | exact wanted_none rfl | exact wanted_yes _ _ rfl rfl) rfl ?_; simp only [Act.put, Act.eval, Array.getD_eq_getD_getElem?, List.getElem?_toArray, List.getElem?_cons_succ, List.getElem?_cons_zero, Option.getD_some, List.setIfInBounds_toArray, List.set_cons_zero, List.set_cons_succ])
      | (refine wk_pickt _ _ _ _ (by first | exact wanted_none rfl | exact wanted_yes _ _ rfl rfl) rfl rfl rfl ?_; simp only [Act.put, Act.eval, Array.getD_eq_getD_getElem?, List.getElem?_toArray, List.getElem?_cons_succ, List.getElem?_cons_zero, Option.getD_some, List.setIfInBounds_toArray, List.set_cons_zero, List.set_cons_succ])
      | (refine wk_pickf _ _ _ _ (by first | exact wanted_none rfl | exact wanted_yes _ _ rfl rfl) rfl rfl rfl ?_; simp only [Act.put, Act.eval, Array.getD_eq_getD_getElem?, List.getElem?_toArray, List.getElem?_cons_succ, List.getElem?_cons_zero, Option.getD_some, List.setIfInBounds_toArray, List.set_cons_zero, List.set_cons_succ])
      | (refine wk_skip (wanted_not _ true false rfl rfl rfl) ?_; simp only [Act.put, List.setIfInBounds_toArray, List.set_cons_zero, List.set_cons_succ])
      | (refine wk_skip (wanted_not _ false true rfl rfl rfl) ?_; simp only [Act.put, List.setIfInBounds_toArray, List.set_cons_zero, List.set_cons_succ])
      | (refine wk_skip (wanted_undef _ _ rfl rfl) ?_; simp only [Act.put, List.setIfInBounds_toArray, List.set_cons_zero, List.set_cons_succ])
      | (refine wk_not true _ _ (by first | exact wanted_none rfl | exact wanted_yes _ _ rfl rfl) rfl rfl ?_; simp only [Act.put, List.setIfInBounds_toArray, List.set_cons_zero, List.set_cons_succ])
      | (refine wk_not false _ _ (by first | exact wanted_none rfl | exact wanted_yes _ _ rfl rfl) rfl rfl ?_; simp only [Act.put, List.setIfInBounds_toArray, List.set_cons_zero, List.set_cons_succ]))
    refine wk_load_row 24 _ g3 24 #[.int .u32 16384, .int .u32 16, .int .u32 32802] (0, 0) _ (by kernel_rfl) rfl rfl (fun w' hC => hC.row (R20.out.get 12 rfl)) Tryd.underlying24 rfl sizePlan ?_
    simp only [Act.put, List.setIfInBounds_toArray, List.set_cons_zero, List.set_cons_succ]
    refine wk_build 24 _ [(0, .int .u32 16384), (1, .int .u32 16), (2, .int .u32 32802)] #[.int .u32 16384, .int .u32 16, .int .u32 32802] (by first | exact wanted_none rfl | exact wanted_yes _ _ rfl rfl) rfl (by simp [Act.eval]) (builtP _ _ _) ?_
    simp only [Act.put, List.setIfInBounds_toArray, List.set_cons_zero, List.set_cons_succ]
    refine wk_eql .eql (true) 24 24 _ _ (by first | exact wanted_none rfl | exact wanted_yes _ _ rfl rfl) rfl _ _ rfl rfl (by kernel_rfl) (fun w => eqlP3 w) ?_
    simp only [Act.put, List.setIfInBounds_toArray, List.set_cons_zero, List.set_cons_succ]
    repeat (first
      | (refine wk_move _ (by first | exact wanted_none rfl | exact wanted_yes _ _ rfl rfl) rfl ?_; simp only [Act.put, Act.eval, Array.getD_eq_getD_getElem?, List.getElem?_toArray, List.getElem?_cons_succ, List.getElem?_cons_zero, Option.getD_some, List.setIfInBounds_toArray, List.set_cons_zero, List.set_cons_succ])
      | (refine wk_assign _ (by first | exact wanted_none rfl | exact wanted_yes _ _ rfl rfl) rfl ?_; simp only [Act.put, Act.eval, Array.getD_eq_getD_getElem?, List.getElem?_toArray, List.getElem?_cons_succ, List.getElem?_cons_zero, Option.getD_some, List.setIfInBounds_toArray, List.set_cons_zero, List.set_cons_succ])
      | (refine wk_pickt _ _ _ _ (by first | exact wanted_none rfl | exact wanted_yes _ _ rfl rfl) rfl rfl rfl ?_; simp only [Act.put, Act.eval, Array.getD_eq_getD_getElem?, List.getElem?_toArray, List.getElem?_cons_succ, List.getElem?_cons_zero, Option.getD_some, List.setIfInBounds_toArray, List.set_cons_zero, List.set_cons_succ])
      | (refine wk_pickf _ _ _ _ (by first | exact wanted_none rfl | exact wanted_yes _ _ rfl rfl) rfl rfl rfl ?_; simp only [Act.put, Act.eval, Array.getD_eq_getD_getElem?, List.getElem?_toArray, List.getElem?_cons_succ, List.getElem?_cons_zero, Option.getD_some, List.setIfInBounds_toArray, List.set_cons_zero, List.set_cons_succ])
      | (refine wk_skip (wanted_not _ true false rfl rfl rfl) ?_; simp only [Act.put, List.setIfInBounds_toArray, List.set_cons_zero, List.set_cons_succ])
      | (refine wk_skip (wanted_not _ false true rfl rfl rfl) ?_; simp only [Act.put, List.setIfInBounds_toArray, List.set_cons_zero, List.set_cons_succ])
      | (refine wk_skip (wanted_undef _ _ rfl rfl) ?_; simp only [Act.put, List.setIfInBounds_toArray, List.set_cons_zero, List.set_cons_succ])
      | (refine wk_not true _ _ (by first | exact wanted_none rfl | exact wanted_yes _ _ rfl rfl) rfl rfl ?_; simp only [Act.put, List.setIfInBounds_toArray, List.set_cons_zero, List.set_cons_succ])
      | (refine wk_not false _ _ (by first | exact wanted_none rfl | exact wanted_yes _ _ rfl rfl) rfl rfl ?_; simp only [Act.put, List.setIfInBounds_toArray, List.set_cons_zero, List.set_cons_succ]))
    refine wk_eql_int true _ _ _ _ _ _ _ (by kernel_rfl) rfl rfl rfl (by decide) ?_
    simp only [Act.put, List.setIfInBounds_toArray, List.set_cons_zero, List.set_cons_succ]
    repeat (first
      | (refine wk_move _ (by first | exact wanted_none rfl | exact wanted_yes _ _ rfl rfl) rfl ?_; simp only [Act.put, Act.eval, Array.getD_eq_getD_getElem?, List.getElem?_toArray, List.getElem?_cons_succ, List.getElem?_cons_zero, Option.getD_some, List.setIfInBounds_toArray, List.set_cons_zero, List.set_cons_succ])
      | (refine wk_assign _ (by first | exact wanted_none rfl | exact wanted_yes _ _ rfl rfl) rfl ?_; simp only [Act.put, Act.eval, Array.getD_eq_getD_getElem?, List.getElem?_toArray, List.getElem?_cons_succ, List.getElem?_cons_zero, Option.getD_some, List.setIfInBounds_toArray, List.set_cons_zero, List.set_cons_succ])
      | (refine wk_pickt _ _ _ _ (by first | exact wanted_none rfl | exact wanted_yes _ _ rfl rfl) rfl rfl rfl ?_; simp only [Act.put, Act.eval, Array.getD_eq_getD_getElem?, List.getElem?_toArray, List.getElem?_cons_succ, List.getElem?_cons_zero, Option.getD_some, List.setIfInBounds_toArray, List.set_cons_zero, List.set_cons_succ])
      | (refine wk_pickf _ _ _ _ (by first | exact wanted_none rfl | exact wanted_yes _ _ rfl rfl) rfl rfl rfl ?_; simp only [Act.put, Act.eval, Array.getD_eq_getD_getElem?, List.getElem?_toArray, List.getElem?_cons_succ, List.getElem?_cons_zero, Option.getD_some, List.setIfInBounds_toArray, List.set_cons_zero, List.set_cons_succ])
      | (refine wk_skip (wanted_not _ true false rfl rfl rfl) ?_; simp only [Act.put, List.setIfInBounds_toArray, List.set_cons_zero, List.set_cons_succ])
      | (refine wk_skip (wanted_not _ false true rfl rfl rfl) ?_; simp only [Act.put, List.setIfInBounds_toArray, List.set_cons_zero, List.set_cons_succ])
      | (refine wk_skip (wanted_undef _ _ rfl rfl) ?_; simp only [Act.put, List.setIfInBounds_toArray, List.set_cons_zero, List.set_cons_succ])
      | (refine wk_not true _ _ (by first | exact wanted_none rfl | exact wanted_yes _ _ rfl rfl) rfl rfl ?_; simp only [Act.put, List.setIfInBounds_toArray, List.set_cons_zero, List.set_cons_succ])
      | (refine wk_not false _ _ (by first | exact wanted_none rfl | exact wanted_yes _ _ rfl rfl) rfl rfl ?_; simp only [Act.put, List.setIfInBounds_toArray, List.set_cons_zero, List.set_cons_succ]))
    refine wk_eql_int true _ _ _ _ _ _ _ (by kernel_rfl) rfl rfl rfl (by decide) ?_
    simp only [Act.put, List.setIfInBounds_toArray, List.set_cons_zero, List.set_cons_succ]
    repeat (first
      | (refine wk_move _ (by first | exact wanted_none rfl | exact wanted_yes _ _ rfl rfl) rfl ?_; simp only [Act.put, Act.eval, Array.getD_eq_getD_getElem?, List.getElem?_toArray, List.getElem?_cons_succ, List.getElem?_cons_zero, Option.getD_some, List.setIfInBounds_toArray, List.set_cons_zero, List.set_cons_succ])
      | (refine wk_assign _ (by first | exact wanted_none rfl | exact wanted_yes _ _ rfl rfl) rfl ?_; simp only [Act.put, Act.eval, Array.getD_eq_getD_getElem?, List.getElem?_toArray, List.getElem?_cons_succ, List.getElem?_cons_zero, Option.getD_some, List.setIfInBounds_toArray, List.set_cons_zero, List.set_cons_succ])
      | (refine wk_pickt _ _ _ _ (by first | exact wanted_none rfl | exact wanted_yes _ _ rfl rfl) rfl rfl rfl ?_; simp only [Act.put, Act.eval, Array.getD_eq_getD_getElem?, List.getElem?_toArray, List.getElem?_cons_succ, List.getElem?_cons_zero, Option.getD_some, List.setIfInBounds_toArray, List.set_cons_zero, List.set_cons_succ])
      | (refine wk_pickf _ _ _ _ (by first | exact wanted_none rfl | exact wanted_yes _ _ rfl rfl) rfl rfl rfl ?_; simp only [Act.put, Act.eval, Array.getD_eq_getD_getElem?, List.getElem?_toArray, List.getElem?_cons_succ, List.getElem?_cons_zero, Option.getD_some, List.setIfInBounds_toArray, List.set_cons_zero, List.set_cons_succ])
      | (refine wk_skip (wanted_not _ true false rfl rfl rfl) ?_; simp only [Act.put, List.setIfInBounds_toArray, List.set_cons_zero, List.set_cons_succ])
      | (refine wk_skip (wanted_not _ false true rfl rfl rfl) ?_; simp only [Act.put, List.setIfInBounds_toArray, List.set_cons_zero, List.set_cons_succ])
      | (refine wk_skip (wanted_undef _ _ rfl rfl) ?_; simp only [Act.put, List.setIfInBounds_toArray, List.set_cons_zero, List.set_cons_succ])
      | (refine wk_not true _ _ (by first | exact wanted_none rfl | exact wanted_yes _ _ rfl rfl) rfl rfl ?_; simp only [Act.put, List.setIfInBounds_toArray, List.set_cons_zero, List.set_cons_succ])
      | (refine wk_not false _ _ (by first | exact wanted_none rfl | exact wanted_yes _ _ rfl rfl) rfl rfl ?_; simp only [Act.put, List.setIfInBounds_toArray, List.set_cons_zero, List.set_cons_succ]))
    refine wk_eql_int true _ _ _ _ _ _ _ (by kernel_rfl) rfl rfl rfl (by decide) ?_
    simp only [Act.put, List.setIfInBounds_toArray, List.set_cons_zero, List.set_cons_succ]
    repeat (first
      | (refine wk_move _ (by first | exact wanted_none rfl | exact wanted_yes _ _ rfl rfl) rfl ?_; simp only [Act.put, Act.eval, Array.getD_eq_getD_getElem?, List.getElem?_toArray, List.getElem?_cons_succ, List.getElem?_cons_zero, Option.getD_some, List.setIfInBounds_toArray, List.set_cons_zero, List.set_cons_succ])
      | (refine wk_assign _ (by first | exact wanted_none rfl | exact wanted_yes _ _ rfl rfl) rfl ?_; simp only [Act.put, Act.eval, Array.getD_eq_getD_getElem?, List.getElem?_toArray, List.getElem?_cons_succ, List.getElem?_cons_zero, Option.getD_some, List.setIfInBounds_toArray, List.set_cons_zero, List.set_cons_succ])
      | (refine wk_pickt _ _ _ _ (by first | exact wanted_none rfl | exact wanted_yes _ _ rfl rfl) rfl rfl rfl ?_; simp only [Act.put, Act.eval, Array.getD_eq_getD_getElem?, List.getElem?_toArray, List.getElem?_cons_succ, List.getElem?_cons_zero, Option.getD_some, List.setIfInBounds_toArray, List.set_cons_zero, List.set_cons_succ])
      | (refine wk_pickf _ _ _ _ (by first | exact wanted_none rfl | exact wanted_yes _ _ rfl rfl) rfl rfl rfl ?_; simp only [Act.put, Act.eval, Array.getD_eq_getD_getElem?, List.getElem?_toArray, List.getElem?_cons_succ, List.getElem?_cons_zero, Option.getD_some, List.setIfInBounds_toArray, List.set_cons_zero, List.set_cons_succ])
      | (refine wk_skip (wanted_not _ true false rfl rfl rfl) ?_; simp only [Act.put, List.setIfInBounds_toArray, List.set_cons_zero, List.set_cons_succ])
      | (refine wk_skip (wanted_not _ false true rfl rfl rfl) ?_; simp only [Act.put, List.setIfInBounds_toArray, List.set_cons_zero, List.set_cons_succ])
      | (refine wk_skip (wanted_undef _ _ rfl rfl) ?_; simp only [Act.put, List.setIfInBounds_toArray, List.set_cons_zero, List.set_cons_succ])
      | (refine wk_not true _ _ (by first | exact wanted_none rfl | exact wanted_yes _ _ rfl rfl) rfl rfl ?_; simp only [Act.put, List.setIfInBounds_toArray, List.set_cons_zero, List.set_cons_succ])
      | (refine wk_not false _ _ (by first | exact wanted_none rfl | exact wanted_yes _ _ rfl rfl) rfl rfl ?_; simp only [Act.put, List.setIfInBounds_toArray, List.set_cons_zero, List.set_cons_succ]))
    refine wk_load_row 34 _ g7 34 CA (0, 0) _ (by kernel_rfl) rfl rfl (fun w' hC => hC.row (R20.out.get 9 rfl)) Tryd.underlying34 rfl (by rw [HCS.out CA (by simp)]; exact sizeR) ?_
    simp only [Act.put, List.setIfInBounds_toArray, List.set_cons_zero, List.set_cons_succ]
    refine wk_build 34 _ [(0, .int .u64 1), (1, .int .u32 64), (4, .int .u32 58), (5, .int .u32 1), (6, .int .u32 6)] CA (by first | exact wanted_none rfl | exact wanted_yes _ _ rfl rfl) rfl (by simp [Act.eval]) HBA.out ?_
    simp only [Act.put, List.setIfInBounds_toArray, List.set_cons_zero, List.set_cons_succ]
    refine wk_eql .eql (true) 34 34 _ _ (by first | exact wanted_none rfl | exact wanted_yes _ _ rfl rfl) rfl _ _ rfl rfl (by kernel_rfl) (fun w => HER.out CA w (by simp)) ?_
    simp only [Act.put, List.setIfInBounds_toArray, List.set_cons_zero, List.set_cons_succ]
    repeat (first
      | (refine wk_move _ (by first | exact wanted_none rfl | exact wanted_yes _ _ rfl rfl) rfl ?_; simp only [Act.put, Act.eval, Array.getD_eq_getD_getElem?, List.getElem?_toArray, List.getElem?_cons_succ, List.getElem?_cons_zero, Option.getD_some, List.setIfInBounds_toArray, List.set_cons_zero, List.set_cons_succ])
      | (refine wk_assign _ (by first | exact wanted_none rfl | exact wanted_yes _ _ rfl rfl) rfl ?_; simp only [Act.put, Act.eval, Array.getD_eq_getD_getElem?, List.getElem?_toArray, List.getElem?_cons_succ, List.getElem?_cons_zero, Option.getD_some, List.setIfInBounds_toArray, List.set_cons_zero, List.set_cons_succ])
      | (refine wk_pickt _ _ _ _ (by first | exact wanted_none rfl | exact wanted_yes _ _ rfl rfl) rfl rfl rfl ?_; simp only [Act.put, Act.eval, Array.getD_eq_getD_getElem?, List.getElem?_toArray, List.getElem?_cons_succ, List.getElem?_cons_zero, Option.getD_some, List.setIfInBounds_toArray, List.set_cons_zero, List.set_cons_succ])
      | (refine wk_pickf _ _ _ _ (by first | exact wanted_none rfl | exact wanted_yes _ _ rfl rfl) rfl rfl rfl ?_; simp only [Act.put, Act.eval, Array.getD_eq_getD_getElem?, List.getElem?_toArray, List.getElem?_cons_succ, List.getElem?_cons_zero, Option.getD_some, List.setIfInBounds_toArray, List.set_cons_zero, List.set_cons_succ])
      | (refine wk_skip (wanted_not _ true false rfl rfl rfl) ?_; simp only [Act.put, List.setIfInBounds_toArray, List.set_cons_zero, List.set_cons_succ])
      | (refine wk_skip (wanted_not _ false true rfl rfl rfl) ?_; simp only [Act.put, List.setIfInBounds_toArray, List.set_cons_zero, List.set_cons_succ])
      | (refine wk_skip (wanted_undef _ _ rfl rfl) ?_; simp only [Act.put, List.setIfInBounds_toArray, List.set_cons_zero, List.set_cons_succ])
      | (refine wk_not true _ _ (by first | exact wanted_none rfl | exact wanted_yes _ _ rfl rfl) rfl rfl ?_; simp only [Act.put, List.setIfInBounds_toArray, List.set_cons_zero, List.set_cons_succ])
      | (refine wk_not false _ _ (by first | exact wanted_none rfl | exact wanted_yes _ _ rfl rfl) rfl rfl ?_; simp only [Act.put, List.setIfInBounds_toArray, List.set_cons_zero, List.set_cons_succ]))
    refine wk_eql_int true _ _ _ _ _ _ _ (by kernel_rfl) rfl rfl rfl (by decide) ?_
    simp only [Act.put, List.setIfInBounds_toArray, List.set_cons_zero, List.set_cons_succ]
    repeat (first
      | (refine wk_move _ (by first | exact wanted_none rfl | exact wanted_yes _ _ rfl rfl) rfl ?_; simp only [Act.put, Act.eval, Array.getD_eq_getD_getElem?, List.getElem?_toArray, List.getElem?_cons_succ, List.getElem?_cons_zero, Option.getD_some, List.setIfInBounds_toArray, List.set_cons_zero, List.set_cons_succ])
      | (refine wk_assign _ (by first | exact wanted_none rfl | exact wanted_yes _ _ rfl rfl) rfl ?_; simp only [Act.put, Act.eval, Array.getD_eq_getD_getElem?, List.getElem?_toArray, List.getElem?_cons_succ, List.getElem?_cons_zero, Option.getD_some, List.setIfInBounds_toArray, List.set_cons_zero, List.set_cons_succ])
      | (refine wk_pickt _ _ _ _ (by first | exact wanted_none rfl | exact wanted_yes _ _ rfl rfl) rfl rfl rfl ?_; simp only [Act.put, Act.eval, Array.getD_eq_getD_getElem?, List.getElem?_toArray, List.getElem?_cons_succ, List.getElem?_cons_zero, Option.getD_some, List.setIfInBounds_toArray, List.set_cons_zero, List.set_cons_succ])
      | (refine wk_pickf _ _ _ _ (by first | exact wanted_none rfl | exact wanted_yes _ _ rfl rfl) rfl rfl rfl ?_; simp only [Act.put, Act.eval, Array.getD_eq_getD_getElem?, List.getElem?_toArray, List.getElem?_cons_succ, List.getElem?_cons_zero, Option.getD_some, List.setIfInBounds_toArray, List.set_cons_zero, List.set_cons_succ])
      | (refine wk_skip (wanted_not _ true false rfl rfl rfl) ?_; simp only [Act.put, List.setIfInBounds_toArray, List.set_cons_zero, List.set_cons_succ])
      | (refine wk_skip (wanted_not _ false true rfl rfl rfl) ?_; simp only [Act.put, List.setIfInBounds_toArray, List.set_cons_zero, List.set_cons_succ])
      | (refine wk_skip (wanted_undef _ _ rfl rfl) ?_; simp only [Act.put, List.setIfInBounds_toArray, List.set_cons_zero, List.set_cons_succ])
      | (refine wk_not true _ _ (by first | exact wanted_none rfl | exact wanted_yes _ _ rfl rfl) rfl rfl ?_; simp only [Act.put, List.setIfInBounds_toArray, List.set_cons_zero, List.set_cons_succ])
      | (refine wk_not false _ _ (by first | exact wanted_none rfl | exact wanted_yes _ _ rfl rfl) rfl rfl ?_; simp only [Act.put, List.setIfInBounds_toArray, List.set_cons_zero, List.set_cons_succ]))
    refine wk_load_row 34 _ g8 34 CA (0, 0) _ (by kernel_rfl) rfl rfl (fun w' hC => hC.row (R20.out.get 8 rfl)) Tryd.underlying34 rfl (by rw [HCS.out CA (by simp)]; exact sizeR) ?_
    simp only [Act.put, List.setIfInBounds_toArray, List.set_cons_zero, List.set_cons_succ]
    refine wk_load_row 34 _ g7 34 CA (0, 0) _ (by kernel_rfl) rfl rfl (fun w' hC => hC.row (R20.out.get 9 rfl)) Tryd.underlying34 rfl (by rw [HCS.out CA (by simp)]; exact sizeR) ?_
    simp only [Act.put, List.setIfInBounds_toArray, List.set_cons_zero, List.set_cons_succ]
    refine wk_eql .eql (true) 34 34 _ _ (by first | exact wanted_none rfl | exact wanted_yes _ _ rfl rfl) rfl _ _ rfl rfl (by kernel_rfl) (fun w => HER.out CA w (by simp)) ?_
    simp only [Act.put, List.setIfInBounds_toArray, List.set_cons_zero, List.set_cons_succ]
    repeat (first
      | (refine wk_move _ (by first | exact wanted_none rfl | exact wanted_yes _ _ rfl rfl) rfl ?_; simp only [Act.put, Act.eval, Array.getD_eq_getD_getElem?, List.getElem?_toArray, List.getElem?_cons_succ, List.getElem?_cons_zero, Option.getD_some, List.setIfInBounds_toArray, List.set_cons_zero, List.set_cons_succ])
      | (refine wk_assign _ (by first | exact wanted_none rfl | exact wanted_yes _ _ rfl rfl) rfl ?_; simp only [Act.put, Act.eval, Array.getD_eq_getD_getElem?, List.getElem?_toArray, List.getElem?_cons_succ, List.getElem?_cons_zero, Option.getD_some, List.setIfInBounds_toArray, List.set_cons_zero, List.set_cons_succ])
      | (refine wk_pickt _ _ _ _ (by first | exact wanted_none rfl | exact wanted_yes _ _ rfl rfl) rfl rfl rfl ?_; simp only [Act.put, Act.eval, Array.getD_eq_getD_getElem?, List.getElem?_toArray, List.getElem?_cons_succ, List.getElem?_cons_zero, Option.getD_some, List.setIfInBounds_toArray, List.set_cons_zero, List.set_cons_succ])
      | (refine wk_pickf _ _ _ _ (by first | exact wanted_none rfl | exact wanted_yes _ _ rfl rfl) rfl rfl rfl ?_; simp only [Act.put, Act.eval, Array.getD_eq_getD_getElem?, List.getElem?_toArray, List.getElem?_cons_succ, List.getElem?_cons_zero, Option.getD_some, List.setIfInBounds_toArray, List.set_cons_zero, List.set_cons_succ])
      | (refine wk_skip (wanted_not _ true false rfl rfl rfl) ?_; simp only [Act.put, List.setIfInBounds_toArray, List.set_cons_zero, List.set_cons_succ])
      | (refine wk_skip (wanted_not _ false true rfl rfl rfl) ?_; simp only [Act.put, List.setIfInBounds_toArray, List.set_cons_zero, List.set_cons_succ])
      | (refine wk_skip (wanted_undef _ _ rfl rfl) ?_; simp only [Act.put, List.setIfInBounds_toArray, List.set_cons_zero, List.set_cons_succ])
      | (refine wk_not true _ _ (by first | exact wanted_none rfl | exact wanted_yes _ _ rfl rfl) rfl rfl ?_; simp only [Act.put, List.setIfInBounds_toArray, List.set_cons_zero, List.set_cons_succ])
      | (refine wk_not false _ _ (by first | exact wanted_none rfl | exact wanted_yes _ _ rfl rfl) rfl rfl ?_; simp only [Act.put, List.setIfInBounds_toArray, List.set_cons_zero, List.set_cons_succ]))
    refine wk_eql_int true _ _ _ _ _ _ _ (by kernel_rfl) rfl rfl rfl (by decide) ?_
    simp only [Act.put, List.setIfInBounds_toArray, List.set_cons_zero, List.set_cons_succ]
    repeat (first
      | (refine wk_move _ (by first | exact wanted_none rfl | exact wanted_yes _ _ rfl rfl) rfl ?_; simp only [Act.put, Act.eval, Array.getD_eq_getD_getElem?, List.getElem?_toArray, List.getElem?_cons_succ, List.getElem?_cons_zero, Option.getD_some, List.setIfInBounds_toArray, List.set_cons_zero, List.set_cons_succ])
      | (refine wk_assign _ (by first | exact wanted_none rfl | exact wanted_yes _ _ rfl rfl) rfl ?_; simp only [Act.put, Act.eval, Array.getD_eq_getD_getElem?, List.getElem?_toArray, List.getElem?_cons_succ, List.getElem?_cons_zero, Option.getD_some, List.setIfInBounds_toArray, List.set_cons_zero, List.set_cons_succ])
      | (refine wk_pickt _ _ _ _ (by first | exact wanted_none rfl | exact wanted_yes _ _ rfl rfl) rfl rfl rfl ?_; simp only [Act.put, Act.eval, Array.getD_eq_getD_getElem?, List.getElem?_toArray, List.getElem?_cons_succ, List.getElem?_cons_zero, Option.getD_some, List.setIfInBounds_toArray, List.set_cons_zero, List.set_cons_succ])
      | (refine wk_pickf _ _ _ _ (by first | exact wanted_none rfl | exact wanted_yes _ _ rfl rfl) rfl rfl rfl ?_; simp only [Act.put, Act.eval, Array.getD_eq_getD_getElem?, List.getElem?_toArray, List.getElem?_cons_succ, List.getElem?_cons_zero, Option.getD_some, List.setIfInBounds_toArray, List.set_cons_zero, List.set_cons_succ])
      | (refine wk_skip (wanted_not _ true false rfl rfl rfl) ?_; simp only [Act.put, List.setIfInBounds_toArray, List.set_cons_zero, List.set_cons_succ])
      | (refine wk_skip (wanted_not _ false true rfl rfl rfl) ?_; simp only [Act.put, List.setIfInBounds_toArray, List.set_cons_zero, List.set_cons_succ])
      | (refine wk_skip (wanted_undef _ _ rfl rfl) ?_; simp only [Act.put, List.setIfInBounds_toArray, List.set_cons_zero, List.set_cons_succ])
      | (refine wk_not true _ _ (by first | exact wanted_none rfl | exact wanted_yes _ _ rfl rfl) rfl rfl ?_; simp only [Act.put, List.setIfInBounds_toArray, List.set_cons_zero, List.set_cons_succ])
      | (refine wk_not false _ _ (by first | exact wanted_none rfl | exact wanted_yes _ _ rfl rfl) rfl rfl ?_; simp only [Act.put, List.setIfInBounds_toArray, List.set_cons_zero, List.set_cons_succ]))
    refine wk_eql_int true _ _ _ _ _ _ _ (by kernel_rfl) rfl rfl rfl (by decide) ?_
    simp only [Act.put, List.setIfInBounds_toArray, List.set_cons_zero, List.set_cons_succ]
    repeat (first
      | (refine wk_move _ (by first | exact wanted_none rfl | exact wanted_yes _ _ rfl rfl) rfl ?_; simp only [Act.put, Act.eval, Array.getD_eq_getD_getElem?, List.getElem?_toArray, List.getElem?_cons_succ, List.getElem?_cons_zero, Option.getD_some, List.setIfInBounds_toArray, List.set_cons_zero, List.set_cons_succ])
      | (refine wk_assign _ (by first | exact wanted_none rfl | exact wanted_yes _ _ rfl rfl) rfl ?_; simp only [Act.put, Act.eval, Array.getD_eq_getD_getElem?, List.getElem?_toArray, List.getElem?_cons_succ, List.getElem?_cons_zero, Option.getD_some, List.setIfInBounds_toArray, List.set_cons_zero, List.set_cons_succ])
      | (refine wk_pickt _ _ _ _ (by first | exact wanted_none rfl | exact wanted_yes _ _ rfl rfl) rfl rfl rfl ?_; simp only [Act.put, Act.eval, Array.getD_eq_getD_getElem?, List.getElem?_toArray, List.getElem?_cons_succ, List.getElem?_cons_zero, Option.getD_some, List.setIfInBounds_toArray, List.set_cons_zero, List.set_cons_succ])
      | (refine wk_pickf _ _ _ _ (by first | exact wanted_none rfl | exact wanted_yes _ _ rfl rfl) rfl rfl rfl ?_; simp only [Act.put, Act.eval, Array.getD_eq_getD_getElem?, List.getElem?_toArray, List.getElem?_cons_succ, List.getElem?_cons_zero, Option.getD_some, List.setIfInBounds_toArray, List.set_cons_zero, List.set_cons_succ])
      | (refine wk_skip (wanted_not _ true false rfl rfl rfl) ?_; simp only [Act.put, List.setIfInBounds_toArray, List.set_cons_zero, List.set_cons_succ])
      | (refine wk_skip (wanted_not _ false true rfl rfl rfl) ?_; simp only [Act.put, List.setIfInBounds_toArray, List.set_cons_zero, List.set_cons_succ])
      | (refine wk_skip (wanted_undef _ _ rfl rfl) ?_; simp only [Act.put, List.setIfInBounds_toArray, List.set_cons_zero, List.set_cons_succ])
      | (refine wk_not true _ _ (by first | exact wanted_none rfl | exact wanted_yes _ _ rfl rfl) rfl rfl ?_; simp only [Act.put, List.setIfInBounds_toArray, List.set_cons_zero, List.set_cons_succ])
      | (refine wk_not false _ _ (by first | exact wanted_none rfl | exact wanted_yes _ _ rfl rfl) rfl rfl ?_; simp only [Act.put, List.setIfInBounds_toArray, List.set_cons_zero, List.set_cons_succ]))
    refine wk_load_row 34 _ g21 34 CB (0, 0) _ (by kernel_rfl) rfl rfl (fun w' hC => hC.row (R20.out.get 3 rfl)) Tryd.underlying34 rfl (by rw [HCS.out CB (by simp)]; exact sizeR) ?_
    simp only [Act.put, List.setIfInBounds_toArray, List.set_cons_zero, List.set_cons_succ]
    refine wk_load_row 34 _ b0 34 CB (0, 0) _ (by kernel_rfl) rfl rfl (fun w' hC => hC.row (R20.out.get 6 rfl)) Tryd.underlying34 rfl (by rw [HCS.out CB (by simp)]; exact sizeR) ?_
    simp only [Act.put, List.setIfInBounds_toArray, List.set_cons_zero, List.set_cons_succ]
    refine wk_eql .eql (true) 34 34 _ _ (by first | exact wanted_none rfl | exact wanted_yes _ _ rfl rfl) rfl _ _ rfl rfl (by kernel_rfl) (fun w => HER.out CB w (by simp)) ?_
    simp only [Act.put, List.setIfInBounds_toArray, List.set_cons_zero, List.set_cons_succ]
    repeat (first
      | (refine wk_move _ (by first | exact wanted_none rfl | exact wanted_yes _ _ rfl rfl) rfl ?_; simp only [Act.put, Act.eval, Array.getD_eq_getD_getElem?, List.getElem?_toArray, List.getElem?_cons_succ, List.getElem?_cons_zero, Option.getD_some, List.setIfInBounds_toArray, List.set_cons_zero, List.set_cons_succ])
      | (refine wk_assign _ (by first | exact wanted_none rfl | exact wanted_yes _ _ rfl rfl) rfl ?_; simp only [Act.put, Act.eval, Array.getD_eq_getD_getElem?, List.getElem?_toArray, List.getElem?_cons_succ, List.getElem?_cons_zero, Option.getD_some, List.setIfInBounds_toArray, List.set_cons_zero, List.set_cons_succ])
      | (refine wk_pickt _ _ _ _ (by first | exact wanted_none rfl | exact wanted_yes _ _ rfl rfl) rfl rfl rfl ?_; simp only [Act.put, Act.eval, Array.getD_eq_getD_getElem?, List.getElem?_toArray, List.getElem?_cons_succ, List.getElem?_cons_zero, Option.getD_some, List.setIfInBounds_toArray, List.set_cons_zero, List.set_cons_succ])
      | (refine wk_pickf _ _ _ _ (by first | exact wanted_none rfl | exact wanted_yes _ _ rfl rfl) rfl rfl rfl ?_; simp only [Act.put, Act.eval, Array.getD_eq_getD_getElem?, List.getElem?_toArray, List.getElem?_cons_succ, List.getElem?_cons_zero, Option.getD_some, List.setIfInBounds_toArray, List.set_cons_zero, List.set_cons_succ])
      | (refine wk_skip (wanted_not _ true false rfl rfl rfl) ?_; simp only [Act.put, List.setIfInBounds_toArray, List.set_cons_zero, List.set_cons_succ])
      | (refine wk_skip (wanted_not _ false true rfl rfl rfl) ?_; simp only [Act.put, List.setIfInBounds_toArray, List.set_cons_zero, List.set_cons_succ])
      | (refine wk_skip (wanted_undef _ _ rfl rfl) ?_; simp only [Act.put, List.setIfInBounds_toArray, List.set_cons_zero, List.set_cons_succ])
      | (refine wk_not true _ _ (by first | exact wanted_none rfl | exact wanted_yes _ _ rfl rfl) rfl rfl ?_; simp only [Act.put, List.setIfInBounds_toArray, List.set_cons_zero, List.set_cons_succ])
      | (refine wk_not false _ _ (by first | exact wanted_none rfl | exact wanted_yes _ _ rfl rfl) rfl rfl ?_; simp only [Act.put, List.setIfInBounds_toArray, List.set_cons_zero, List.set_cons_succ]))
    refine wk_eql_int true _ _ _ _ _ _ _ (by kernel_rfl) rfl rfl rfl (by decide) ?_
    simp only [Act.put, List.setIfInBounds_toArray, List.set_cons_zero, List.set_cons_succ]
    repeat (first
      | (refine wk_move _ (by first | exact wanted_none rfl | exact wanted_yes _ _ rfl rfl) rfl ?_; simp only [Act.put, Act.eval, Array.getD_eq_getD_getElem?, List.getElem?_toArray, List.getElem?_cons_succ, List.getElem?_cons_zero, Option.getD_some, List.setIfInBounds_toArray, List.set_cons_zero, List.set_cons_succ])
      | (refine wk_assign _ (by first | exact wanted_none rfl | exact wanted_yes _ _ rfl rfl) rfl ?_; simp only [Act.put, Act.eval, Array.getD_eq_getD_getElem?, List.getElem?_toArray, List.getElem?_cons_succ, List.getElem?_cons_zero, Option.getD_some, List.setIfInBounds_toArray, List.set_cons_zero, List.set_cons_succ])
      | (refine wk_pickt _ _ _ _ (by first | exact wanted_none rfl | exact wanted_yes _ _ rfl rfl) rfl rfl rfl ?_; simp only [Act.put, Act.eval, Array.getD_eq_getD_getElem?, List.getElem?_toArray, List.getElem?_cons_succ, List.getElem?_cons_zero, Option.getD_some, List.setIfInBounds_toArray, List.set_cons_zero, List.set_cons_succ])
      | (refine wk_pickf _ _ _ _ (by first | exact wanted_none rfl | exact wanted_yes _ _ rfl rfl) rfl rfl rfl ?_; simp only [Act.put, Act.eval, Array.getD_eq_getD_getElem?, List.getElem?_toArray, List.getElem?_cons_succ, List.getElem?_cons_zero, Option.getD_some, List.setIfInBounds_toArray, List.set_cons_zero, List.set_cons_succ])
      | (refine wk_skip (wanted_not _ true false rfl rfl rfl) ?_; simp only [Act.put, List.setIfInBounds_toArray, List.set_cons_zero, List.set_cons_succ])
      | (refine wk_skip (wanted_not _ false true rfl rfl rfl) ?_; simp only [Act.put, List.setIfInBounds_toArray, List.set_cons_zero, List.set_cons_succ])
      | (refine wk_skip (wanted_undef _ _ rfl rfl) ?_; simp only [Act.put, List.setIfInBounds_toArray, List.set_cons_zero, List.set_cons_succ])
      | (refine wk_not true _ _ (by first | exact wanted_none rfl | exact wanted_yes _ _ rfl rfl) rfl rfl ?_; simp only [Act.put, List.setIfInBounds_toArray, List.set_cons_zero, List.set_cons_succ])
      | (refine wk_not false _ _ (by first | exact wanted_none rfl | exact wanted_yes _ _ rfl rfl) rfl rfl ?_; simp only [Act.put, List.setIfInBounds_toArray, List.set_cons_zero, List.set_cons_succ]))
    refine wk_load_row 45 _ g23 45 (blk B7) (0, 0) _ (by kernel_rfl) rfl rfl (fun w' hC => hC.row (R20.out.get 2 rfl)) Tryd.underlying45 rfl (by rw [size_blk, H7.out]; exact sizeB) ?_
    simp only [Act.put, List.setIfInBounds_toArray, List.set_cons_zero, List.set_cons_succ]
    refine wk_field 47 _ 45 1 255 _ _ _ (by first | exact wanted_none rfl | exact wanted_yes _ _ rfl rfl) rfl (by kernel_rfl) (by kernel_rfl) (by kernel_rfl) rfl ?_
    simp only [Act.put, List.setIfInBounds_toArray, List.set_cons_zero, List.set_cons_succ, Nat.zero_add]
    refine wk_load_mid 45 _ gx 1 (blk B7) _ (by first | exact wanted_none rfl | exact wanted_yes _ _ rfl rfl) rfl rfl (fun w' hC => HMID.out _ _ ((R20.out.since hC).get 5 rfl)) Tryd.underlying45 rfl (by rw [size_blk, H7.out]; exact sizeB) ?_
    simp only [Act.put, List.setIfInBounds_toArray, List.set_cons_zero, List.set_cons_succ]
    refine wk_eql .eql (true) 45 45 _ _ (by first | exact wanted_none rfl | exact wanted_yes _ _ rfl rfl) rfl _ _ rfl rfl (by kernel_rfl) (fun w => HEB.out w) ?_
    simp only [Act.put, List.setIfInBounds_toArray, List.set_cons_zero, List.set_cons_succ]
    repeat (first
      | (refine wk_move _ (by first | exact wanted_none rfl | exact wanted_yes _ _ rfl rfl) rfl ?_; simp only [Act.put, Act.eval, Array.getD_eq_getD_getElem?, List.getElem?_toArray, List.getElem?_cons_succ, List.getElem?_cons_zero, Option.getD_some, List.setIfInBounds_toArray, List.set_cons_zero, List.set_cons_succ])
      | (refine wk_assign _ (by first | exact wanted_none rfl | exact wanted_yes _ _ rfl rfl) rfl ?_; simp only [Act.put, Act.eval, Array.getD_eq_getD_getElem?, List.getElem?_toArray, List.getElem?_cons_succ, List.getElem?_cons_zero, Option.getD_some, List.setIfInBounds_toArray, List.set_cons_zero, List.set_cons_succ])
      | (refine wk_pickt _ _ _ _ (by first | exact wanted_none rfl | exact wanted_yes _ _ rfl rfl) rfl rfl rfl ?_; simp only [Act.put, Act.eval, Array.getD_eq_getD_getElem?, List.getElem?_toArray, List.getElem?_cons_succ, List.getElem?_cons_zero, Option.getD_some, List.setIfInBounds_toArray, List.set_cons_zero, List.set_cons_succ])
      | (refine wk_pickf _ _ _ _ (by first | exact wanted_none rfl | exact wanted_yes _ _ rfl rfl) rfl rfl rfl ?_; simp only [Act.put, Act.eval, Array.getD_eq_getD_getElem?, List.getElem?_toArray, List.getElem?_cons_succ, List.getElem?_cons_zero, Option.getD_some, List.setIfInBounds_toArray, List.set_cons_zero, List.set_cons_succ])
      | (refine wk_skip (wanted_not _ true false rfl rfl rfl) ?_; simp only [Act.put, List.setIfInBounds_toArray, List.set_cons_zero, List.set_cons_succ])
      | (refine wk_skip (wanted_not _ false true rfl rfl rfl) ?_; simp only [Act.put, List.setIfInBounds_toArray, List.set_cons_zero, List.set_cons_succ])
      | (refine wk_skip (wanted_undef _ _ rfl rfl) ?_; simp only [Act.put, List.setIfInBounds_toArray, List.set_cons_zero, List.set_cons_succ])
      | (refine wk_not true _ _ (by first | exact wanted_none rfl | exact wanted_yes _ _ rfl rfl) rfl rfl ?_; simp only [Act.put, List.setIfInBounds_toArray, List.set_cons_zero, List.set_cons_succ])
      | (refine wk_not false _ _ (by first | exact wanted_none rfl | exact wanted_yes _ _ rfl rfl) rfl rfl ?_; simp only [Act.put, List.setIfInBounds_toArray, List.set_cons_zero, List.set_cons_succ]))
    refine wk_eql_int true _ _ _ _ _ _ _ (by kernel_rfl) rfl rfl rfl (by decide) ?_
    simp only [Act.put, List.setIfInBounds_toArray, List.set_cons_zero, List.set_cons_succ]
    repeat (first
      | (refine wk_move _ (by first | exact wanted_none rfl | exact wanted_yes _ _ rfl rfl) rfl ?_; simp only [Act.put, Act.eval, Array.getD_eq_getD_getElem?, List.getElem?_toArray, List.getElem?_cons_succ, List.getElem?_cons_zero, Option.getD_some, List.setIfInBounds_toArray, List.set_cons_zero, List.set_cons_succ])
      | (refine wk_assign _ (by first | exact wanted_none rfl | exact wanted_yes _ _ rfl rfl) rfl ?_; simp only [Act.put, Act.eval, Array.getD_eq_getD_getElem?, List.getElem?_toArray, List.getElem?_cons_succ, List.getElem?_cons_zero, Option.getD_some, List.setIfInBounds_toArray, List.set_cons_zero, List.set_cons_succ])
      | (refine wk_pickt _ _ _ _ (by first | exact wanted_none rfl | exact wanted_yes _ _ rfl rfl) rfl rfl rfl ?_; simp only [Act.put, Act.eval, Array.getD_eq_getD_getElem?, List.getElem?_toArray, List.getElem?_cons_succ, List.getElem?_cons_zero, Option.getD_some, List.setIfInBounds_toArray, List.set_cons_zero, List.set_cons_succ])
      | (refine wk_pickf _ _ _ _ (by first | exact wanted_none rfl | exact wanted_yes _ _ rfl rfl) rfl rfl rfl ?_; simp only [Act.put, Act.eval, Array.getD_eq_getD_getElem?, List.getElem?_toArray, List.getElem?_cons_succ, List.getElem?_cons_zero, Option.getD_some, List.setIfInBounds_toArray, List.set_cons_zero, List.set_cons_succ])
      | (refine wk_skip (wanted_not _ true false rfl rfl rfl) ?_; simp only [Act.put, List.setIfInBounds_toArray, List.set_cons_zero, List.set_cons_succ])
      | (refine wk_skip (wanted_not _ false true rfl rfl rfl) ?_; simp only [Act.put, List.setIfInBounds_toArray, List.set_cons_zero, List.set_cons_succ])
      | (refine wk_skip (wanted_undef _ _ rfl rfl) ?_; simp only [Act.put, List.setIfInBounds_toArray, List.set_cons_zero, List.set_cons_succ])
      | (refine wk_not true _ _ (by first | exact wanted_none rfl | exact wanted_yes _ _ rfl rfl) rfl rfl ?_; simp only [Act.put, List.setIfInBounds_toArray, List.set_cons_zero, List.set_cons_succ])
      | (refine wk_not false _ _ (by first | exact wanted_none rfl | exact wanted_yes _ _ rfl rfl) rfl rfl ?_; simp only [Act.put, List.setIfInBounds_toArray, List.set_cons_zero, List.set_cons_succ]))
    refine wk_eql_int true _ _ _ _ _ _ _ (by kernel_rfl) rfl rfl rfl (by decide) ?_
    simp only [Act.put, List.setIfInBounds_toArray, List.set_cons_zero, List.set_cons_succ]
    repeat (first
      | (refine wk_move _ (by first | exact wanted_none rfl | exact wanted_yes _ _ rfl rfl) rfl ?_; simp only [Act.put, Act.eval, Array.getD_eq_getD_getElem?, List.getElem?_toArray, List.getElem?_cons_succ, List.getElem?_cons_zero, Option.getD_some, List.setIfInBounds_toArray, List.set_cons_zero, List.set_cons_succ])
      | (refine wk_assign _ (by first | exact wanted_none rfl | exact wanted_yes _ _ rfl rfl) rfl ?_; simp only [Act.put, Act.eval, Array.getD_eq_getD_getElem?, List.getElem?_toArray, List.getElem?_cons_succ, List.getElem?_cons_zero, Option.getD_some, List.setIfInBounds_toArray, List.set_cons_zero, List.set_cons_succ])
      | (refine wk_pickt _ _ _ _ (by first | exact wanted_none rfl | exact wanted_yes _ _ rfl rfl) rfl rfl rfl ?_; simp only [Act.put, Act.eval, Array.getD_eq_getD_getElem?, List.getElem?_toArray, List.getElem?_cons_succ, List.getElem?_cons_zero, Option.getD_some, List.setIfInBounds_toArray, List.set_cons_zero, List.set_cons_succ])
      | (refine wk_pickf _ _ _ _ (by first | exact wanted_none rfl | exact wanted_yes _ _ rfl rfl) rfl rfl rfl ?_; simp only [Act.put, Act.eval, Array.getD_eq_getD_getElem?, List.getElem?_toArray, List.getElem?_cons_succ, List.getElem?_cons_zero, Option.getD_some, List.setIfInBounds_toArray, List.set_cons_zero, List.set_cons_succ])
      | (refine wk_skip (wanted_not _ true false rfl rfl rfl) ?_; simp only [Act.put, List.setIfInBounds_toArray, List.set_cons_zero, List.set_cons_succ])
      | (refine wk_skip (wanted_not _ false true rfl rfl rfl) ?_; simp only [Act.put, List.setIfInBounds_toArray, List.set_cons_zero, List.set_cons_succ])
      | (refine wk_skip (wanted_undef _ _ rfl rfl) ?_; simp only [Act.put, List.setIfInBounds_toArray, List.set_cons_zero, List.set_cons_succ])
      | (refine wk_not true _ _ (by first | exact wanted_none rfl | exact wanted_yes _ _ rfl rfl) rfl rfl ?_; simp only [Act.put, List.setIfInBounds_toArray, List.set_cons_zero, List.set_cons_succ])
      | (refine wk_not false _ _ (by first | exact wanted_none rfl | exact wanted_yes _ _ rfl rfl) rfl rfl ?_; simp only [Act.put, List.setIfInBounds_toArray, List.set_cons_zero, List.set_cons_succ]))
    refine wk_eql_int true _ _ _ _ _ _ _ (by kernel_rfl) rfl rfl rfl (by decide) ?_
    simp only [Act.put, List.setIfInBounds_toArray, List.set_cons_zero, List.set_cons_succ]
    repeat (first
      | (refine wk_move _ (by first | exact wanted_none rfl | exact wanted_yes _ _ rfl rfl) rfl ?_; simp only [Act.put, Act.eval, Array.getD_eq_getD_getElem?, List.getElem?_toArray, List.getElem?_cons_succ, List.getElem?_cons_zero, Option.getD_some, List.setIfInBounds_toArray, List.set_cons_zero, List.set_cons_succ])
      | (refine wk_assign _ (by first | exact wanted_none rfl | exact wanted_yes _ _ rfl rfl) rfl ?_; simp only [Act.put, Act.eval, Array.getD_eq_getD_getElem?, List.getElem?_toArray, List.getElem?_cons_succ, List.getElem?_cons_zero, Option.getD_some, List.setIfInBounds_toArray, List.set_cons_zero, List.set_cons_succ])
      | (refine wk_pickt _ _ _ _ (by first | exact wanted_none rfl | exact wanted_yes _ _ rfl rfl) rfl rfl rfl ?_; simp only [Act.put, Act.eval, Array.getD_eq_getD_getElem?, List.getElem?_toArray, List.getElem?_cons_succ, List.getElem?_cons_zero, Option.getD_some, List.setIfInBounds_toArray, List.set_cons_zero, List.set_cons_succ])
      | (refine wk_pickf _ _ _ _ (by first | exact wanted_none rfl | exact wanted_yes _ _ rfl rfl) rfl rfl rfl ?_; simp only [Act.put, Act.eval, Array.getD_eq_getD_getElem?, List.getElem?_toArray, List.getElem?_cons_succ, List.getElem?_cons_zero, Option.getD_some, List.setIfInBounds_toArray, List.set_cons_zero, List.set_cons_succ])
      | (refine wk_skip (wanted_not _ true false rfl rfl rfl) ?_; simp only [Act.put, List.setIfInBounds_toArray, List.set_cons_zero, List.set_cons_succ])
      | (refine wk_skip (wanted_not _ false true rfl rfl rfl) ?_; simp only [Act.put, List.setIfInBounds_toArray, List.set_cons_zero, List.set_cons_succ])
      | (refine wk_skip (wanted_undef _ _ rfl rfl) ?_; simp only [Act.put, List.setIfInBounds_toArray, List.set_cons_zero, List.set_cons_succ])
      | (refine wk_not true _ _ (by first | exact wanted_none rfl | exact wanted_yes _ _ rfl rfl) rfl rfl ?_; simp only [Act.put, List.setIfInBounds_toArray, List.set_cons_zero, List.set_cons_succ])
      | (refine wk_not false _ _ (by first | exact wanted_none rfl | exact wanted_yes _ _ rfl rfl) rfl rfl ?_; simp only [Act.put, List.setIfInBounds_toArray, List.set_cons_zero, List.set_cons_succ]))
    refine wk_nil ?_
    intro w' hC
    have hfin : Below w.heap.size w w' := (R20.out.since hC).below
    go_wp2_with fail
    go_ret
    exact ⟨rfl, hfin⟩
end Go.Proofs.YtnphgaiiiiknpaaDoor
