/- CrcBursts: a sealed block of which a burst of at most 32 bits is turned is not sealed: the law returns true for every block, place and 32 bits. -/
import Derived.Test.YtnbdnnlomgjlmaaCrcHead
import Derived.Test.YtnbdnnlomgjlmaaBurst
namespace Go.Proofs.Ytnbdnnlomgjlmaa
open Go.RowKit
theorem blk_getD (b : List UInt8) (i : Nat) (h : i < b.length) : ∃ c : UInt8, (blk b)[i]? = some (.int .u8 (c.toNat : Int)) ∧ c = b.getD i 0 :=
  ⟨b[i], blk_get b i h, by simp [h]⟩
theorem flip_cells (x : List UInt8) (q : Nat) (c : UInt8) (h : c = x.getD (q / 8) 0) :
    (blk x).setIfInBounds (q / 8) (Value.int .u8 (bits .xor .u8 (c.toNat : Int) ((128 : Int) / 2 ^ (q % 8)))) = blk (flipAt x q) := by
  have hp : 128 / 2 ^ (q % 8) < 256 := Nat.lt_of_le_of_lt (Nat.div_le_self _ _) (by omega)
  have e : ((128 : Int) / 2 ^ (q % 8)) = ((128 / 2 ^ (q % 8) : Nat) : Int) := by rw [Int.natCast_ediv]; congr 1
  rw [e, u8_xor_nat _ _ c.toNat_lt hp, flipAt, ← blk_set, ← h]
  congr 1
  have : c.toNat ^^^ 128 / 2 ^ (q % 8) < 2 ^ 8 := Nat.xor_lt_two_pow c.toNat_lt hp
  simp only [vu8, UInt8.toNat_ofNat', Value.int.injEq, true_and]
  omega
set_option maxRecDepth 100000 in
theorem crcbursts_any (b : List UInt8) (at_ bits_ : Int) (hb : b.length = 256) (h1 : 0 ≤ at_ ∧ at_ ≤ 65535) (h2 : 0 ≤ bits_ ∧ bits_ ≤ 4294967295) (w : World) :
    Calls Try.prog 5 #[.agg (blk b), .int .u16 at_, .int .u32 bits_] w fun e w' => e = .returned (.bool true) ∧ Below w.heap.size w w' := by
  obtain ⟨ha0, ha1⟩ := h1
  obtain ⟨hb0, hb1⟩ := h2
  obtain ⟨at0, rfl⟩ := Int.eq_ofNat_of_zero_le ha0
  obtain ⟨bs, rfl⟩ := Int.eq_ofNat_of_zero_le hb0
  have L := Lib.hid hb
  have LS := Lib.hid (length_sealB b hb)
  have HG := Lib.hid (heap_alloc_new w (.cells (blk b) 23))
  clear hb
  go_enter Try.func5, Try.ntmps5
  go_wp2_with (first
   | refine wpList_load_row rfl 23 _ rfl w.heap.size rfl 23 (blk b) (0, 0) _ HG.out Try.underlying23 rfl (by rw [size_blk, L.out]; exact sizeB) ?_
   | (go_at_call 18; refine (seal_any b L.out _).mono ?_; rintro e w1 ⟨rfl, hb1⟩; have HB1 : Below w.heap.size w w1 := ((Below.refl _ _).alloc (Nat.le_refl _) _).trans (hb1.mono (by simp)); clear hb1)
   | refine wpList_alloc_row rfl 23 rfl _ zeroB ?_
   | refine wpList_store_new rfl 23 _ _ rfl _ _ _ rfl rfl (by rw [size_blk, LS.out]; exact sizeB) (by rw [size_blk, LS.out, size_zeros]) (blk_one _) ?_)
  obtain ⟨X, hX⟩ : ∃ X : List UInt8, X = sealB b := ⟨_, rfl⟩
  rw [← hX] at LS ⊢
  have HX := Lib.hid hX
  clear hX
  have hp : at0 % 2017 < 2017 := Nat.mod_lt _ (by omega)
  rw [show ((at0 : Int) % 2017) = ((at0 % 2017 : Nat) : Int) from by omega]
  generalize at0 % 2017 = p at hp ⊢
  go_loopw [9] (fun i wr => ∃ k : Nat, k ≤ 32 ∧ i = .int .i64 k ∧ wr = w1.alloc (.cells (blk (burst X p bs k)) 23)) (fun i _ => 32 - (intOf i).toNat)
  case atStart => exact ⟨0, by omega, rfl, rfl⟩
  case round =>
    obtain ⟨k, hk, rfl, rfl⟩ := hrel
    by_cases hlt : k < 32
    · have hbit := bit_is bs k
      have hq : (p + k) / 8 < (burst X p bs k).length := by rw [length_burst, LS.out]; omega
      obtain ⟨c, hcell, hcd⟩ := blk_getD (burst X p bs k) ((p + k) / 8) hq
      have HCD := Lib.hid hcd
      clear hq hcd
      have HS := Lib.hid (show burst X p bs (k + 1) = if bs.testBit k then flipAt (burst X p bs k) (p + k) else burst X p bs k from rfl)
      have hq2 : (p + k) / 8 < 256 := by omega
      cases hb : bs.testBit k with
      | true =>
        rw [hb] at hbit HS
        clear hb
        go_wp2_with fail
        go_roundw
        case rel => exact ⟨k + 1, by omega, by go_num, by rw [HS.out, flip_cells _ _ _ HCD.out]; rfl⟩
        case measure => simp [intOf]; omega
      | false =>
        rw [hb] at hbit HS
        clear hb hcell
        go_wp2_with fail
        go_roundw
        case rel => exact ⟨k + 1, by omega, by go_num, by rw [HS.out]; rfl⟩
        case measure => simp [intOf]; omega
    · obtain rfl : k = 32 := by omega
      have hgb := good_burst X LS.out (by rw [HX.out]; exact seal_seal b L.out) p bs (by omega) (by omega)
      have hlb : (burst X p bs 32).length = 256 := by rw [length_burst, LS.out]
      have LB := Lib.hid hlb
      have GB := Lib.hid hgb
      clear hlb hgb
      generalize burst X p bs 32 = Y at LB GB ⊢
      go_upto_region 8 with (fail)
      have HY := Lib.hid (heap_alloc_new w1 (.cells (blk Y) 23))
      refine wp_plain_since ?_
      refine wq_load_row 23 _ w1.heap.size 23 (blk Y) (0, 0) _ rfl rfl rfl (fun w' hC => hC.row HY.out) Try.underlying23 rfl (by rw [size_blk, LB.out]; exact sizeB) ?_
      simp only [Act.put, List.setIfInBounds_toArray, List.set_cons_zero, List.set_cons_succ]
      refine wq_call 20 _ _ _ _ _ rfl rfl Try.func20 rfl (by kernel_rfl) (fun w' hC => hC.call (good_any Y LB.out w')) ?_
      simp only [Act.put, List.setIfInBounds_toArray, List.set_cons_zero, List.set_cons_succ]
      refine wq_move _ rfl rfl ?_
      simp only [Act.put, List.setIfInBounds_toArray, List.set_cons_zero, List.set_cons_succ]
      refine wq_eql_int (decide (bs = 0)) _ _ _ _ _ _ _ rfl rfl rfl rfl (by by_cases h : bs = 0 <;> simp [h]) ?_
      simp only [Act.put, List.setIfInBounds_toArray, List.set_cons_zero, List.set_cons_succ]
      refine wq_eql_bool true _ _ _ _ _ _ rfl rfl Try.underlying4 rfl rfl (by by_cases h : bs = 0 <;> simp [h, GB.out]) ?_
      simp only [Act.put, List.setIfInBounds_toArray, List.set_cons_zero, List.set_cons_succ]
      refine wq_move _ rfl rfl ?_
      simp only [Act.put, List.setIfInBounds_toArray, List.set_cons_zero, List.set_cons_succ]
      refine wq_call 15 _ _ _ _ _ rfl rfl Try.func15 rfl (by kernel_rfl) (fun w' hC => hC.call (crchead_any w')) ?_
      simp only [Act.put, List.setIfInBounds_toArray, List.set_cons_zero, List.set_cons_succ]
      refine wq_pick true _ _ _ rfl rfl rfl ?_
      simp only [Act.put, List.setIfInBounds_toArray, List.set_cons_zero, List.set_cons_succ]
      refine wq_assign _ rfl rfl ?_
      simp only [Act.put, List.setIfInBounds_toArray, List.set_cons_zero, List.set_cons_succ]
      refine wpQuiet_nil ?_
      intro w' hC
      go_wp2_with fail
      go_ret
      exact ⟨rfl, (HB1.alloc HB1.size _).trans (hC.mono (by have := HB1.size; simp; omega))⟩
