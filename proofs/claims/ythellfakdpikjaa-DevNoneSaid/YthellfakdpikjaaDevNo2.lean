/- The device layer: a device that is none: the methods. -/
import Derived.Test.YthellfakdpikjaaDevNo
namespace Go.Proofs.Ythellfakdpikjaa
open Go.RowKit
set_option linter.unusedSimpArgs false
set_option linter.unusedVariables false
set_option maxRecDepth 100000
section
variable {p : Option Addr} {w : World}
theorem pending_no (h : NoDev p w) : Calls Try.prog 11 #[.pointer p] w fun e w' => e = .returned (.int .i64 0) ∧ w = w' := by
  have HD := Lib.hid h
  clear h
  go_enter Try.func11, Try.ntmps11
  go_wp2_with (go_at_call 17; refine (none_no HD.out).mono ?_; rintro e w1 ⟨rfl, rfl⟩)
  go_ret
  exact ⟨rfl, rfl⟩
theorem down_no (h : NoDev p w) : Calls Try.prog 12 #[.pointer p] w fun e w' => e = .returned (.bool false) ∧ w = w' := by
  have HD := Lib.hid h
  clear h
  go_enter Try.func12, Try.ntmps12
  go_wp2_with (go_at_call 17; refine (none_no HD.out).mono ?_; rintro e w1 ⟨rfl, rfl⟩)
  go_ret
  exact ⟨rfl, rfl⟩
theorem writes_no (h : NoDev p w) : Calls Try.prog 13 #[.pointer p] w fun e w' => e = .returned (.int .u64 0) ∧ w = w' := by
  have HD := Lib.hid h
  clear h
  go_enter Try.func13, Try.ntmps13
  go_wp2_with (go_at_call 17; refine (none_no HD.out).mono ?_; rintro e w1 ⟨rfl, rfl⟩)
  go_ret
  exact ⟨rfl, rfl⟩
theorem crash_no (h : NoDev p w) (A : Option Addr) (n c : Nat) : Calls Try.prog 8 #[.pointer p, .slice A n c] w fun e w' => e = .returned (.int .i64 1) ∧ w = w' := by
  have HD := Lib.hid h
  clear h
  go_enter Try.func8, Try.ntmps8
  go_wp2_with (go_at_call 17; refine (none_no HD.out).mono ?_; rintro e w1 ⟨rfl, rfl⟩)
  go_ret
  exact ⟨rfl, rfl⟩
theorem flush_no (h : NoDev p w) : Calls Try.prog 7 #[.pointer p] w fun e w' => e = .returned (.int .i64 1) ∧ Below w.heap.size w w' := by
  have HD := Lib.hid h
  clear h
  go_enter Try.func7, Try.ntmps7
  go_wp2_with (go_at_call 19; refine (up_no HD.out _ [] (by simp) .none).mono ?_; rintro e w1 ⟨rfl, hb⟩; have HB := Lib.hid hb; clear hb)
  go_ret
  exact ⟨rfl, HB.out⟩
set_option maxHeartbeats 1000000 in
theorem fuse_no (h : NoDev p w) (k : Int) : Calls Try.prog 9 #[.pointer p, .int .i64 k] w fun e w' => e = .returned (.int .i64 1) ∧ Below w.heap.size w w' := by
  have HD := Lib.hid h
  clear h
  obtain ⟨i, hi, hz, hs2, hby⟩ := info_parts Try.infoAsk
  have hI := Lib.hid hi
  have hZ := Lib.hid hz
  clear hi hz
  have hmf : ∀ (fn : Fn) (first cap : Array Value) (w : World), (Instr.makeFunc fn first cap).run Try.prog w = .ok (.func fn first cap) w := fun _ _ _ _ => rfl
  obtain ⟨W0, hW0⟩ : ∃ W, W = w.alloc (.cells #[.int .i64 k] 3) := ⟨_, rfl⟩
  have hb0 : Below w.heap.size w W0 := by rw [hW0]; exact (Below.refl _ _).alloc (Nat.le_refl _) _
  obtain ⟨bk, hbk⟩ : ∃ b, b = w.heap.size := ⟨_, rfl⟩
  have HB0 := Lib.hid hb0
  go_enter Try.func9, Try.ntmps9
  go_upto_region 1 with (fail)
  rw [← hW0, ← hbk]
  clear hW0 hb0 hbk
  go_wp2_with (first
    | refine wpList_plain rfl fun K hK' => wp_build_one 66 52 _ rfl (askV (negQ k bk)) rfl i _ Try.underlying66 hI.out hZ.out (by rw [hs2]; rfl) (by omega) (by omega) (hK' _ _ ?_)
    | (go_at_call 19; refine (up_no (HD.out.since (HB0.out.trans (((Below.refl _ _).alloc (Nat.le_refl _) _).mono HB0.out.size))) _ [negQ k bk] (by simp) (.one _ 1 _ (heap_alloc_new _ _))).mono ?_; rintro e w2 ⟨rfl, hb2⟩; have HB2 := Lib.hid hb2; clear hb2))
  go_ret
  exact ⟨rfl, HB0.out.trans ((((Below.refl _ _).alloc (Nat.le_refl _) _).trans (HB2.out.mono (by simp))).mono HB0.out.size)⟩
set_option maxHeartbeats 1000000 in
theorem write_no (h : NoDev p w) (a : Nat) (b : List UInt8) (hb : b.length = 256) : Calls Try.prog 5 #[.pointer p, .int .u32 (a : Int), .agg (blk b)] w fun e w' => e = .returned (.int .i64 1) ∧ Below w.heap.size w w' := by
  have HD := Lib.hid h
  have HB := Lib.hid hb
  clear h hb
  obtain ⟨i, hi, hz, hs2, hby⟩ := info_parts Try.infoAsk
  have hI := Lib.hid hi
  have hZ := Lib.hid hz
  clear hi hz
  obtain ⟨W0, hW0⟩ : ∃ W, W = w.alloc (.cells (blk b) 35) := ⟨_, rfl⟩
  have hb0 : Below w.heap.size w W0 := by rw [hW0]; exact (Below.refl _ _).alloc (Nat.le_refl _) _
  obtain ⟨bb, hbb⟩ : ∃ b, b = w.heap.size := ⟨_, rfl⟩
  have HB0 := Lib.hid hb0
  go_enter Try.func5, Try.ntmps5
  go_upto_region 1 with (fail)
  rw [← hW0, ← hbb]
  clear hW0 hb0 hbb
  go_wp2_with (first
    | (go_at_call 18; refine (far_no _ p a).mono ?_; rintro e w1 ⟨x, rfl, hb1⟩; have HB1 := Lib.hid hb1; clear hb1)
    | refine wpList_plain rfl fun K hK' => wp_build_one 66 52 _ rfl (askV x) rfl i _ Try.underlying66 hI.out hZ.out (by rw [hs2]; rfl) (by omega) (by omega) (hK' _ _ ?_)
    | (go_at_call 19; refine (up_no (HD.out.since (HB0.out.trans ((HB1.out.trans ((Below.refl _ _).alloc HB1.out.size _)).mono HB0.out.size))) _ [x] (by simp) (.one _ 1 x (heap_alloc_new _ _))).mono ?_; rintro e w2 ⟨rfl, hb2⟩; have HB2 := Lib.hid hb2; clear hb2))
  go_ret
  exact ⟨rfl, HB0.out.trans ((HB1.out.trans (((Below.refl _ _).alloc HB1.out.size _).trans (HB2.out.mono (by have := HB1.out.size; simp; omega)))).mono HB0.out.size)⟩
set_option maxHeartbeats 1000000 in
theorem read_no (h : NoDev p w) (a : Nat) : Calls Try.prog 4 #[.pointer p, .int .u32 (a : Int)] w fun e w' => e = .returned (.tuple #[.agg (blk zeroBlk), .int .i64 1]) ∧ Below w.heap.size w w' := by
  have H := Lib.hid h
  clear h
  obtain ⟨i, hi, hz, hs2, hby⟩ := info_parts Try.infoAsk
  have hI := Lib.hid hi
  have hZ := Lib.hid hz
  clear hi hz
  have hmf : ∀ (fn : Fn) (first cap : Array Value) (w : World), (Instr.makeFunc fn first cap).run Try.prog w = .ok (.func fn first cap) w := fun _ _ _ _ => rfl
  obtain ⟨W0, hW0⟩ : ∃ W, W = w.alloc (.cells (zeros 256 (.int .u8 0)) 35) := ⟨_, rfl⟩
  obtain ⟨g4, hg4⟩ : ∃ b, b = w.heap.size := ⟨_, rfl⟩
  have R0 : Rows w W0 [(g4, blk zeroBlk, 35)] := by rw [hW0, hg4, zero_cells]; exact (Rows.start w).alloc _ _
  have HR0 := Lib.hid R0
  clear R0
  go_enter Try.func4, Try.ntmps4
  go_upto_region 1 with (refine wpList_alloc_row rfl 35 rfl _ zeroB ?_)
  rw [← hW0, ← hg4]
  clear hW0 hg4
  refine wp_scope_straight ?_
  go_upto_region 2 with (first
    | (go_at_call 18; refine (far_no _ p a).mono ?_; rintro e w1 ⟨x, rfl, hb1⟩; have HB1 := Lib.hid hb1; clear hb1)
    | refine wpList_plain rfl fun K hK' => wp_build_two 66 52 _ _ rfl (askV (noQ p)) (askV x) rfl rfl i _ Try.underlying66 hI.out hZ.out (by rw [hs2]; rfl) (by rw [hs2]; rfl) (by omega) (by omega) (hK' _ _ ?_)
    | (go_at_call 16; refine (check_first _ w1.heap.size 2 2 (noQ p) (askV (noQ p) ++ askV x) 52 (by simp) (heap_alloc_new _ _) (by simp [askV, askCells]) (noQ_ok (H.out.since (HR0.out.below.trans ((HB1.out.trans ((Below.refl _ _).alloc HB1.out.size _)).mono HR0.out.below.size)))) rfl).mono ?_; rintro e w2 ⟨rfl, hb2⟩; have HB2 := Lib.hid hb2; clear hb2; rw [show (noQ p).e = 1 from rfl]))
  have HR2 := Lib.hid (HR0.out.call (HB1.out.trans (((Below.refl _ _).alloc HB1.out.size _).trans (HB2.out.mono (by have := HB1.out.size; simp; omega)))))
  clear HB1 HB2 HR0 hI hZ hs2 hby
  go_wp2_with (first
    | refine wpList_build_none rfl 35 rfl _ zeroB Try.underlying35 rfl ?_
    | refine wpList_store_row rfl 35 _ _ rfl g4 (zeros 256 (.int .u8 0)) rfl rfl 35 _ (HR2.out.get 0 rfl) (by rw [size_zeros]; exact sizeB) (by rw [size_zeros, size_blk, length_zeroBlk]) (by rw [zero_cells]; exact blk_one _) ?_)
  have R3 := HR2.out.setRow 0 (zeros 256 (.int .u8 0)) rfl
  simp only [Exit.noGoto]
  refine bodyPost_ret (v := .tuple #[.agg (zeros 256 (.int .u8 0)), .int .i64 1]) (results_cell_slot rfl _ _ g4 35 _ (0, 0) _ _ rfl rfl (R3.get 0 rfl) Try.underlying35 rfl (by rw [size_zeros]; exact sizeB)) rfl ⟨?_, R3.below⟩
  rw [zero_cells]
end
end Go.Proofs.Ythellfakdpikjaa
