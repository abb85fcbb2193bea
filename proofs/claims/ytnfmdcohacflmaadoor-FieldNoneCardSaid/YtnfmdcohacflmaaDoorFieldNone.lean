/- The field layer: the law FieldNone holds of every number, text and size. -/
import Derived.Test.YtnfmdcohacflmaaDoorFieldNo
import Derived.Test.YtnfmdcohacflmaaDoorFieldHead
namespace Go.Proofs.YtnfmdcohacflmaaDoor
open Go.RowKit
set_option linter.unusedSimpArgs false
set_option linter.unusedVariables false
set_option maxRecDepth 100000
theorem neqZB (w : World) : (binOp .neq 33 (.agg (zeros 256 (.int .u8 0))) (.agg (zeros 256 (.int .u8 0)))).run Tryd.prog w = .ok (.bool false) w := by
  have e : zeros 256 (.int .u8 0) = blk (List.replicate 256 0) := by kernel_rfl
  rw [e, run_neq_blk w 33 5 256 Tryd.underlying33 Tryd.underlying5 sizeU8 _ _ (by simp) (by simp)]
  simp
set_option maxHeartbeats 4000000 in
theorem fieldnone_any (x : Int) (s : ByteArray) (n : Int) {p0 p1 p2 : Prop} (_ : p0) (_ : p1) (_ : p2) (w : World) : Calls Tryd.prog 4 #[.int .u64 x, .string s, .int .i64 n] w fun e w' => e = .returned (.bool true) ∧ Below w.heap.size w w' := by
  have q1 := ((((Rows.start w).alloc wrZero 41).alloc #[.pointer none, .pointer (some ⟨w.heap.size, 0, none⟩)] 25).alloc rdZero 44).alloc #[.pointer none, .pointer (some ⟨w.heap.size + 1 + 1, 0, none⟩)] 39
  simp only [World.alloc, Array.size_push] at q1
  go_enter Tryd.func4, Tryd.ntmps4
  go_upto_region 4 with (fail)
  obtain ⟨W, hW⟩ : ∃ W, W = ((((w.alloc (.cells wrZero 41)).alloc (.cells #[.pointer none, .pointer (some ⟨w.heap.size, 0, none⟩)] 25)).alloc (.cells rdZero 44)).alloc (.cells #[.pointer none, .pointer (some ⟨w.heap.size + 1 + 1, 0, none⟩)] 39)) := ⟨_, rfl⟩
  have q2 := Eq.subst (motive := fun X => Rows w X _) hW.symm q1
  clear q1
  have hW' := hW
  unfold wrZero rdZero at hW'
  rw [← hW']
  clear hW hW'
  obtain ⟨g, hg⟩ : ∃ b, b = w.heap.size := ⟨_, rfl⟩
  rw [← hg] at q2 ⊢
  have HR1 := Lib.hid q2
  clear q2 hg
  have hneq := neqZB
  go_wp2_with fail
  go_loopw [11, 12, 13] (fun i _ _ wr => ∃ k : Nat, k ≤ 2 ∧ i = .int .i64 (k : Int) ∧ Rows w wr [(g + 1 + 1 + 1, #[.pointer none, .pointer (some ⟨g + 1 + 1, 0, none⟩)], 39), (g + 1 + 1, rdZero, 44), (g + 1, #[.pointer none, .pointer (some ⟨g, 0, none⟩)], 25), (g, wrZero, 41)]) (fun i _ _ _ => 2 - (intOf i).toNat)
  case atStart => exact ⟨0, by omega, rfl, HR1.out⟩
  case round =>
    obtain ⟨k, hk, rfl, hR⟩ := hrel
    have RR := Lib.hid hR
    clear hR HR1
    by_cases hlt : k < 2
    · have hp : ∃ p, (#[Value.pointer none, .pointer (some ⟨g, 0, none⟩)] : Array Value)[k]? = some (.pointer p) ∧ NoWr p wr := by
        rcases (by omega : k = 0 ∨ k = 1) with rfl | rfl
        · exact ⟨none, rfl, .inl rfl⟩
        · exact ⟨_, rfl, .inr ⟨g, rfl, RR.out.get 3 rfl⟩⟩
      have hr : ∃ p, (#[Value.pointer none, .pointer (some ⟨g + 1 + 1, 0, none⟩)] : Array Value)[k]? = some (.pointer p) ∧ NoRd p [(g + 1 + 1 + 1, #[.pointer none, .pointer (some ⟨g + 1 + 1, 0, none⟩)], 39), (g + 1 + 1, rdZero, 44), (g + 1, #[.pointer none, .pointer (some ⟨g, 0, none⟩)], 25), (g, wrZero, 41)] := by
        rcases (by omega : k = 0 ∨ k = 1) with rfl | rfl
        · exact ⟨none, rfl, .inl rfl⟩
        · exact ⟨_, rfl, .inr ⟨g + 1 + 1, rfl, by simp⟩⟩
      obtain ⟨p, hp1, hnw⟩ := hp
      obtain ⟨r, hr1, hnr⟩ := hr
      have c0 : wr.cell? ⟨g + 1, k, none⟩ = some (.pointer p) := RR.out.cell 2 k rfl hp1
      have HNW := Lib.hid hnw
      have HNR := Lib.hid hnr
      have HR1 := Lib.hid hr1
      clear hnw hp1 hnr hr1
      go_wp2_with (first
        | (go_at_call 10; refine (wnum_no HNW.out _ _).mono ?_; rintro e w1 ⟨rfl, rfl⟩)
        | (go_at_call 11; refine (wtext_no HNW.out _ _).mono ?_; rintro e w1 ⟨rfl, rfl⟩))
      refine (wdone_no HNW.out 1).mono ?_
      rintro e w4 ⟨rfl, hb⟩
      have q1 := (RR.out.call hb).alloc (zeros 256 (.int .u8 0)) 33
      clear hb c0
      go_upto_region 10 with (first | refine wpList_alloc_row rfl 33 rfl _ zeroB ?_ | refine wpList_store_new rfl 33 _ _ rfl _ (zeros 256 (.int .u8 0)) _ rfl rfl (by rw [size_zeros]; exact sizeB) rfl zeros_one ?_)
      obtain ⟨W5, hW⟩ : ∃ W, W = w4.alloc (.cells (zeros 256 (.int .u8 0)) 33) := ⟨_, rfl⟩
      rw [← hW] at q1 ⊢
      clear hW
      obtain ⟨g5, hg⟩ : ∃ g, g = w4.heap.size := ⟨_, rfl⟩
      rw [← hg] at q1 ⊢
      clear hg
      have R5 := Lib.hid q1
      clear q1
      have c1 : W5.cell? ⟨g + 1 + 1 + 1, k, none⟩ = some (.pointer r) := R5.out.cell 1 k rfl HR1.out
      have HNR := Lib.hid (HNR.out.cons (x := (g5, zeros 256 (.int .u8 0), 33)))
      go_wp2_with (first
        | refine wpList_load_row rfl 33 _ rfl g5 rfl 33 (zeros 256 (.int .u8 0)) (0, 0) _ (R5.out.get 0 rfl) Tryd.underlying33 rfl (by rw [size_zeros]; exact sizeB) ?_
        | refine wpList_build_none rfl 33 rfl _ zeroB Tryd.underlying33 rfl ?_)
      refine (rnum_none R5.out HNR.out n).mono ?_
      rintro e w6 ⟨rfl, hR⟩
      have R6 := Lib.hid hR
      clear hR c1 R5
      have c1 : w6.cell? ⟨g + 1 + 1 + 1, k, none⟩ = some (.pointer r) := R6.out.cell 1 k rfl HR1.out
      go_wp2_with fail
      refine (rtext_none R6.out HNR.out n).mono ?_
      rintro e w7 ⟨rfl, hR⟩
      have R7 := Lib.hid hR
      clear hR c1 R6
      have c1 : w7.cell? ⟨g + 1 + 1 + 1, k, none⟩ = some (.pointer r) := R7.out.cell 1 k rfl HR1.out
      go_wp2_with fail
      refine (rfine_no R7.out HNR.out).mono ?_
      rintro e w8 ⟨rfl, rfl⟩
      go_wp2_with fail
      refine (rend_none R7.out HNR.out).mono ?_
      rintro e w8 ⟨rfl, hb⟩
      have R8 := Lib.hid ((R7.out.call hb).drop 1)
      clear hb c1
      go_wp2_with fail
      go_roundw
      case rel => exact ⟨k + 1, by omega, by go_num, R8.out⟩
      case measure => simp [intOf]; omega
    · obtain rfl : k = 2 := by omega
      go_wp2_with (go_at_call 6; refine (fieldhead_any _).mono ?_; rintro e w9 ⟨rfl, hb⟩; have HB := Lib.hid (RR.out.call hb); clear hb)
      go_ret
      exact ⟨rfl, HB.out.below⟩
end Go.Proofs.YtnfmdcohacflmaaDoor
