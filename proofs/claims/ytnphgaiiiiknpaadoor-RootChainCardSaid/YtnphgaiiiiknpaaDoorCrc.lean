import Derived.Test.YtnphgaiiiiknpaaDoorProg
import Derived.Test.YtnphgaiiiiknpaaDoorLib
import Derived.Test.YtnphgaiiiiknpaaDoorCrcMath
namespace Go.Proofs.YtnphgaiiiiknpaaDoor
open Go.RowKit
set_option maxRecDepth 100000
theorem zeroTab : (Tryd.prog.info? 131).bind (·.zero) = some (.agg (zeros 16 (.int .u32 0))) := by kernel_rfl
theorem sizeTab : (Tryd.prog.info? 131).map (·.size) = some 16 := by kernel_rfl
def tabL (k : Nat) : List Value := (List.range 16).map fun i => if i < k then u32 (Crc.nib (BitVec.ofNat 32 i)) else .int .u32 0
def tabA (k : Nat) : Array Value := (tabL k).toArray
theorem size_tabA (k : Nat) : (tabA k).size = 16 := by simp [tabA, tabL]
theorem tabA_zero : tabA 0 = zeros 16 (.int .u32 0) := rfl
theorem tabA_one (k : Nat) : (tabA k).all (·.oneCell') = true := by
  rw [Array.all_eq_true_iff_forall_mem]
  intro v hv
  simp only [tabA, tabL, List.mem_toArray, List.mem_map] at hv
  obtain ⟨i, _, rfl⟩ := hv
  split <;> rfl
theorem tabA_get (k i : Nat) (hi : i < 16) : (tabA k)[i]? = some (if i < k then u32 (Crc.nib (BitVec.ofNat 32 i)) else .int .u32 0) := by
  simp [tabA, tabL, hi]
theorem tabA_set (k : Nat) (hk : k < 16) : (tabA k).setIfInBounds k (u32 (Crc.nib (BitVec.ofNat 32 k))) = tabA (k + 1) := by
  apply Array.ext_getElem?
  intro i
  rw [Array.getElem?_setIfInBounds, size_tabA]
  by_cases hi : i < 16
  · rw [tabA_get _ _ hi, tabA_get _ _ hi]
    by_cases h : k = i
    · subst h; simp [hk]
    · rw [if_neg h]
      by_cases h2 : i < k
      · rw [if_pos h2, if_pos (by omega)]
      · rw [if_neg h2, if_neg (by omega)]
  · rw [if_neg (by omega), Array.getElem?_eq_none (by rw [size_tabA]; omega), Array.getElem?_eq_none (by rw [size_tabA]; omega)]
theorem shl_one (b : BitVec 32) : (b.toNat : Int) * (2 : Int) % (4294967296 : Int) = ((b <<< 1).toNat : Int) := by
  rw [BitVec.toNat_shiftLeft, Nat.shiftLeft_eq]; omega
theorem xor_u32 (a b : BitVec 32) : bits .xor .u32 (a.toNat : Int) (b.toNat : Int) = ((a ^^^ b).toNat : Int) := by
  rw [u32_xor_nat a.toNat b.toNat a.isLt b.isLt, BitVec.toNat_xor]
theorem and_top (a : BitVec 32) : bits .and .u32 (a.toNat : Int) (2147483648 : Int) = if a.msb then (2147483648 : Int) else 0 := by
  rw [show (2147483648 : Int) = ((2147483648#32).toNat : Int) from rfl, u32_and_nat a.toNat (2147483648#32).toNat a.isLt (BitVec.isLt _), ← BitVec.toNat_and]
  have : a &&& 2147483648#32 = if a.msb then 2147483648#32 else 0#32 := by
    apply BitVec.eq_of_getLsbD_eq
    intro i hi
    rw [BitVec.getLsbD_and, show (2147483648#32) = BitVec.twoPow 32 31 by decide, BitVec.getLsbD_twoPow, BitVec.msb_eq_getLsbD_last]
    by_cases h : i = 31
    · subst h; cases h2 : a.getLsbD 31 <;> simp
    · cases h2 : a.getLsbD 31 <;> simp [Ne.symm h]
  rw [this]; split <;> rfl
theorem feed_zs_succ (w : BitVec 32) (j : Nat) : Crc.feed w (Crc.zs (j + 1)) = Crc.step (Crc.feed w (Crc.zs j)) false := by
  have : Crc.zs (j + 1) = Crc.zs j ++ [false] := by unfold Crc.zs; rw [List.replicate_succ']
  rw [this, Crc.feed_append]; rfl
theorem step_yes (b : BitVec 32) (h : 0 < bits .and .u32 (b.toNat : Int) 2147483648) : bits .xor .u32 ((b.toNat : Int) * (2 : Int) % (4294967296 : Int)) 79764919 = ((Crc.step b false).toNat : Int) := by
  rw [and_top] at h
  have hm : b.msb = true := by cases hb : b.msb <;> simp [hb] at h ⊢
  rw [shl_one, show (79764919 : Int) = (Crc.poly.toNat : Int) from rfl, xor_u32]
  unfold Crc.step; rw [hm]; rfl
theorem step_no (b : BitVec 32) (h : bits .and .u32 (b.toNat : Int) 2147483648 ≤ 0) : (b.toNat : Int) * (2 : Int) % (4294967296 : Int) = ((Crc.step b false).toNat : Int) := by
  rw [and_top] at h
  have hm : b.msb = false := by cases hb : b.msb <;> simp [hb] at h ⊢
  rw [shl_one]
  unfold Crc.step; rw [hm]; simp

theorem table_any (w : World) : Calls Tryd.prog 81 #[] w fun e w' => e = .returned (.agg (tabA 16)) ∧ Below w.heap.size w w' := by
  go_enter Tryd.func81, Tryd.ntmps81
  go_wp2_with (refine wpList_alloc_row rfl 131 rfl _ zeroTab ?_)
  go_loopw [1,2,3,4] (fun _ _ _ i wr => ∃ k : Nat, k ≤ 16 ∧ i = .int .i64 k ∧ wr = w.alloc (.cells (tabA k) 131)) (fun _ _ _ i _ => 16 - (intOf i).toNat)
  case atStart => exact ⟨0, by omega, rfl, by rw [tabA_zero]⟩
  case round =>
    obtain ⟨k, hk, rfl, rfl⟩ := hrel
    by_cases hlt : k < 16
    · go_wp2_with fail
      obtain ⟨b0, hb0⟩ : ∃ b : BitVec 32, b = BitVec.ofNat 32 k <<< 28 := ⟨_, rfl⟩
      have hk28 : (k : Int) * 268435456 = (b0.toNat : Int) := by
        rw [hb0, BitVec.toNat_shiftLeft, Nat.shiftLeft_eq, BitVec.toNat_ofNat]; omega
      rw [hk28]
      have HB := Lib.hid hb0; clear hb0 hk28
      have sz := size_tabA k
      go_loop [2,3,10] (fun x _ i => ∃ k : Nat, k ≤ 4 ∧ i = .int .i64 k ∧ x = .int .u32 ((Crc.feed b0 (Crc.zs k)).toNat : Int)) (fun _ _ i => 4 - (intOf i).toNat)
      case atStart => exact ⟨0, by omega, rfl, rfl⟩
      case round =>
        obtain ⟨j, hj, rfl, rfl⟩ := hrel
        by_cases hlt : j < 4
        · go_wp2_with fail
          all_goals go_round
          case rel => exact ⟨j + 1, by omega, by go_num, by rw [feed_zs_succ, step_yes _ (by assumption)]⟩
          case measure => simp [intOf]; omega
          case rel => exact ⟨j + 1, by omega, by go_num, by rw [feed_zs_succ, step_no _ (by assumption)]⟩
          case measure => simp [intOf]; omega
        · obtain rfl : j = 4 := by omega
          go_wp2_with fail
          go_roundw
          case rel => exact ⟨k + 1, by omega, by go_num, by rw [← tabA_set k (by assumption), HB.out]; rfl⟩
          case measure => simp [intOf]; omega
    · obtain rfl : k = 16 := by omega
      have hu : (w.alloc (.cells (tabA 16) 131)).heap[w.heap.size]? = some (.cells (tabA 16) 131) := heap_alloc_new w _
      have HU := Lib.hid hu; clear hu
      go_wp2_with (first | refine wpList_load_row rfl 131 _ rfl w.heap.size rfl 131 (tabA 16) (0, 0) _ HU.out Tryd.underlying131 rfl (by rw [size_tabA]; exact sizeTab) ?_ | refine wpList_store_row rfl 131 _ _ rfl w.heap.size (tabA 16) rfl rfl 131 (tabA 16) HU.out (by rw [size_tabA]; exact sizeTab) rfl (tabA_one 16) ?_)
      refine bodyPost_ret (v := .agg (tabA 16)) (results_cell_row rfl _ _ w.heap.size 131 (tabA 16) (0, 0) _ rfl (setRow_heap _ _ _ _ _ _ HU.out) Tryd.underlying131 rfl (by rw [size_tabA]; exact sizeTab)) rfl ⟨rfl, ?_⟩
      exact below_setRow ((Below.refl _ _).alloc (Nat.le_refl _) _) (Nat.le_refl _) _
end Go.Proofs.YtnphgaiiiiknpaaDoor
namespace Go.Proofs.YtnphgaiiiiknpaaDoor
open Go.RowKit
set_option maxRecDepth 100000
theorem tab_cell {w : World} {g : Nat} {t : TypeId} (hg : w.heap[g]? = some (.cells (tabA 16) t (0, 0))) (i : Nat) (hi : i < 16) : w.cell? ⟨g, i, none⟩ = some (.int .u32 ((Crc.nib (BitVec.ofNat 32 i)).toNat : Int)) := by
  rw [cell_of_row w g i _ t _ hg, tabA_get _ _ hi, if_pos hi]; rfl
def nb (x : BitVec 32) (y : Nat) : BitVec 32 := (x <<< 4) ^^^ Crc.nib ((x >>> 28) ^^^ BitVec.ofNat 32 y)
theorem nb_eq (x : BitVec 32) (y : Nat) : bits .xor .u32 ((x.toNat : Int) * (16 : Int) % (4294967296 : Int)) ((Crc.nib (BitVec.ofNat 32 (x.toNat / 268435456) ^^^ BitVec.ofNat 32 y)).toNat : Int) = ((nb x y).toNat : Int) := by
  have h1 : (x.toNat : Int) * (16 : Int) % (4294967296 : Int) = ((x <<< 4).toNat : Int) := by
    rw [BitVec.toNat_shiftLeft, Nat.shiftLeft_eq]; omega
  have h2 : BitVec.ofNat 32 (x.toNat / 268435456) = x >>> 28 := by
    apply BitVec.eq_of_toNat_eq
    rw [BitVec.toNat_ofNat, BitVec.toNat_ushiftRight, Nat.shiftRight_eq_div_pow]
    have := x.isLt; omega
  rw [h1, h2, xor_u32]; rfl
theorem raw_succ (l : List UInt8) (k : Nat) (h : k < l.length) : Crc.raw (l.take (k + 1)) = nb (nb (Crc.raw (l.take k)) (l[k].toNat / 16)) (l[k].toNat % 16) := by
  rw [List.take_succ_eq_append_getElem h, Crc.raw_snoc, Crc.feed_byte]; rfl
theorem and15 (n : Nat) (h : n < 256) : bits BinOp.and IntKind.u8 (n : Int) 15 = ((n % 16 : Nat) : Int) := by
  rw [show (15 : Int) = ((15 : Nat) : Int) from rfl, u8_and_nat n 15 h (by omega), show (15 : Nat) = 2 ^ 4 - 1 from rfl, Nat.and_two_pow_sub_one_eq_mod]
theorem idx_u8 (x : BitVec 32) (y : Nat) (hy : y < 16) : bits BinOp.xor IntKind.u8 ((x.toNat : Int) / 268435456) (y : Int) = (((x.toNat / 268435456) ^^^ y : Nat) : Int) := by
  have := x.isLt
  rw [show ((x.toNat : Int) / 268435456) = ((x.toNat / 268435456 : Nat) : Int) from by omega, u8_xor_nat _ _ (by omega) (by omega)]
theorem idx_lt (x : BitVec 32) (y : Nat) (hy : y < 16) : (x.toNat / 268435456) ^^^ y < 16 := by
  have := x.isLt
  exact Nat.xor_lt_two_pow (n := 4) (by omega) (by omega)
theorem not_u32 (x : BitVec 32) : bits .xor .u32 IntKind.u32.max (x.toNat : Int) = ((~~~ x).toNat : Int) := by
  rw [show IntKind.u32.max = (((BitVec.allOnes 32).toNat : Nat) : Int) from by decide, xor_u32]
  congr 2
set_option maxHeartbeats 400000 in
theorem sum_any (s : ByteArray) (w : World) (hs : s.size ≤ maxLen) : Calls Tryd.prog 78 #[.string s] w fun e w' => e = .returned (.int .u32 ((Crc.sum s.data.toList).toNat : Int)) ∧ Below w.heap.size w w' := by
  unfold maxLen at hs
  go_enter Tryd.func78, Tryd.ntmps78
  go_wp2_with (first
   | (go_at_call 81; refine (table_any _).mono ?_; rintro e w1 ⟨rfl, hb1⟩)
   | refine wpList_alloc_row rfl 131 rfl _ zeroTab ?_
   | refine wpList_store_new rfl 131 _ _ rfl _ _ _ rfl rfl (by rw [size_tabA]; exact sizeTab) (by rw [size_tabA, size_zeros]) (tabA_one 16) ?_)
  obtain ⟨W, hW⟩ : ∃ W, W = w1.alloc (.cells (tabA 16) 131) := ⟨_, rfl⟩
  have hcell : ∀ i, i < 16 → W.cell? ⟨w1.heap.size, i, none⟩ = some (.int .u32 ((Crc.nib (BitVec.ofNat 32 i)).toNat : Int)) := tab_cell (by rw [hW]; exact heap_alloc_new w1 _)
  have hB : Below w.heap.size w W := by rw [hW]; exact hb1.alloc hb1.size _
  rw [← hW]
  clear hW
  have HC := Lib.hid hcell
  clear hcell
  have i0 : ∀ (u v : Value) (w : World), (Instr.index 133 (.agg #[u, v]) (.int .i64 0)).run Tryd.prog w = .ok u w := fun _ _ _ => by kernel_rfl
  have i1 : ∀ (u v : Value) (w : World), (Instr.index 133 (.agg #[u, v]) (.int .i64 1)).run Tryd.prog w = .ok v w := fun _ _ _ => by kernel_rfl
  go_loopw [4, 5, 7, 11] (fun x _ _ i wr => ∃ k : Nat, k ≤ s.size ∧ i = .int .i64 k ∧ x = .int .u32 ((Crc.raw (s.data.toList.take k)).toNat : Int) ∧ ∃ n, wr = W.drewN n) (fun _ _ _ i _ => s.size - (intOf i).toNat)
  case atStart => exact ⟨0, by omega, rfl, rfl, 0, rfl⟩
  case round =>
    obtain ⟨k, hk, rfl, rfl, n, rfl⟩ := hrel
    by_cases hlt : k < s.size
    · have hsucc : Crc.raw (s.data.toList.take (k + 1)) = nb (nb (Crc.raw (s.data.toList.take k)) (s[k].toNat / 16)) (s[k].toNat % 16) := raw_succ s.data.toList k (by simpa using hlt)
      have HS := Lib.hid hsucc; clear hsucc
      go_wp2_with fail
      go_quiet (fail)
      rw [and15 _ s[k].toNat_lt, show ((s[k].toNat : Int) / 16) = ((s[k].toNat / 16 : Nat) : Int) from by omega]
      have hz16 : s[k].toNat % 16 < 16 := by omega
      have hy16 : s[k].toNat / 16 < 16 := by have := s[k].toNat_lt; omega
      generalize Crc.raw (s.data.toList.take k) = x at HS ⊢
      generalize s[k].toNat / 16 = y at HS hy16 ⊢
      generalize s[k].toNat % 16 = z at HS hz16 ⊢
      have HX := HC.out _ (idx_lt x y hy16)
      have ex := idx_u8 x y hy16
      have eb := idx_lt x y hy16
      have xl := x.isLt
      go_wp2_with fail
      refine wp_loop_rounds 3 ?_
      rw [rounds_succ]
      go_wp2_with fail
      rw [rounds_succ, nb_eq]
      clear HX ex eb xl
      generalize nb x y = x at HS ⊢
      have HX := HC.out _ (idx_lt x z hz16)
      have ex := idx_u8 x z hz16
      have eb := idx_lt x z hz16
      have xl := x.isLt
      go_wp2_with fail
      rw [rounds_succ, nb_eq]
      clear HX ex eb xl
      go_wp2_with fail
      go_roundw
      case rel => exact ⟨k + 1, by omega, by go_num, by rw [HS.out], _, rfl⟩
      case measure => simp [intOf]; omega
    · obtain rfl : k = s.size := by omega
      rw [List.take_of_length_le (by simp)]
      go_wp2_with fail
      go_ret
      exact ⟨ret_eq (int_eq (not_u32 _)), below_drewN hB _⟩
end Go.Proofs.YtnphgaiiiiknpaaDoor
namespace Go.Proofs.YtnphgaiiiiknpaaDoor
open Go.RowKit
set_option maxRecDepth 100000
theorem step_yes' (x : BitVec 32) (b : Bool) (h : x.msb ≠ b) : bits .xor .u32 ((x.toNat : Int) * (2 : Int) % (4294967296 : Int)) 79764919 = ((Crc.step x b).toNat : Int) := by
  rw [shl_one, show (79764919 : Int) = (Crc.poly.toNat : Int) from rfl, xor_u32]
  unfold Crc.step
  cases hm : x.msb <;> cases b <;> simp_all
theorem step_no' (x : BitVec 32) (b : Bool) (h : x.msb = b) : (x.toNat : Int) * (2 : Int) % (4294967296 : Int) = ((Crc.step x b).toNat : Int) := by
  rw [shl_one]
  unfold Crc.step
  cases hm : x.msb <;> cases b <;> simp_all
theorem step_any (x : BitVec 32) (d : Int) (hd : d = 0 ∨ d = 1) (w : World) : Calls Tryd.prog 77 #[.int .u32 (x.toNat : Int), .int .u8 d] w fun e w' => e = .returned (.int .u32 ((Crc.step x (d == 1)).toNat : Int)) ∧ w = w' := by
  have hm : x.msb = decide (2147483648 ≤ x.toNat) := BitVec.msb_eq_decide x
  have hl := x.isLt
  by_cases hx : 2147483648 ≤ x.toNat
  · have hx' : decide ((2147483648 : Int) ≤ (x.toNat : Int)) = true := by simp; omega
    have hb : x.msb = true := by rw [hm]; simpa using hx
    have HB := Lib.hid hb; clear hb hm
    rcases hd with rfl | rfl
    · go_enter Tryd.func77, Tryd.ntmps77
      go_wp2
      go_ret
      exact ⟨ret_eq (int_eq (step_yes' _ _ (by rw [HB.out]; decide))), rfl⟩
    · go_enter Tryd.func77, Tryd.ntmps77
      go_wp2
      go_ret
      exact ⟨ret_eq (int_eq (step_no' _ _ (by rw [HB.out]; decide))), rfl⟩
  · have hx' : decide ((2147483648 : Int) ≤ (x.toNat : Int)) = false := by simp; omega
    have hb : x.msb = false := by rw [hm]; simpa using hx
    have h2 : (x.toNat : Int) * (2 : Int) = (x.toNat : Int) * (2 : Int) % (4294967296 : Int) := by omega
    have HB := Lib.hid hb; clear hb hm
    have H2 := Lib.hid h2; clear h2
    rcases hd with rfl | rfl
    · go_enter Tryd.func77, Tryd.ntmps77
      go_wp2
      go_ret
      exact ⟨ret_eq (int_eq (H2.out.trans (step_no' _ _ (by rw [HB.out]; decide)))), rfl⟩
    · go_enter Tryd.func77, Tryd.ntmps77
      go_wp2
      go_ret
      exact ⟨ret_eq (int_eq ((congrArg (fun z => bits .xor .u32 z 79764919) H2.out).trans (step_yes' _ _ (by rw [HB.out]; decide)))), rfl⟩
theorem bit_val (c e : Nat) : ((c : Int) / (2 : Int) ^ e).tmod (2 : Int) = ((c / 2 ^ e % 2 : Nat) : Int) := by
  have h : ((c : Int) / (2 : Int) ^ e) = ((c / 2 ^ e : Nat) : Int) := by rw [Int.natCast_ediv]; congr 1
  rw [h, Int.tmod_eq_emod_of_nonneg (Int.natCast_nonneg _)]; omega
theorem bit_01 (c e : Nat) : ((c : Int) / (2 : Int) ^ e).tmod (2 : Int) = 0 ∨ ((c : Int) / (2 : Int) ^ e).tmod (2 : Int) = 1 := by rw [bit_val]; omega
theorem bit_is (c e : Nat) : (((c : Int) / (2 : Int) ^ e).tmod (2 : Int) == 1) = c.testBit e := by
  rw [bit_val, Nat.testBit_eq_decide_div_mod_eq]
  by_cases h : c / 2 ^ e % 2 = 1
  · simp [h]
  · have : c / 2 ^ e % 2 = 0 := by omega
    simp [this]
theorem not_sub (x : BitVec 32) : (4294967295 : Int) - (x.toNat : Int) = ((~~~ x).toNat : Int) := by
  rw [BitVec.toNat_not]; have := x.isLt; omega
theorem raw_bit (l : List UInt8) (k : Nat) (h : k < l.length) (x : BitVec 32) (j : Nat) (hj : j < 8) :
    Crc.feed x ((Crc.byteBits l[k]).take (j + 1)) = Crc.step (Crc.feed x ((Crc.byteBits l[k]).take j)) (l[k].toNat.testBit (7 - j)) := by
  have hl : j < (Crc.byteBits l[k]).length := by rw [Crc.length_byteBits]; omega
  rw [List.take_succ_eq_append_getElem hl, Crc.feed_append]
  simp [Crc.byteBits, Crc.feed]
theorem raw_next (l : List UInt8) (k : Nat) (h : k < l.length) : Crc.raw (l.take (k + 1)) = Crc.feed (Crc.raw (l.take k)) ((Crc.byteBits l[k]).take 8) := by
  have e : (Crc.byteBits l[k]).take 8 = Crc.byteBits l[k] := List.take_of_length_le (by rw [Crc.length_byteBits]; omega)
  rw [e, List.take_succ_eq_append_getElem h, Crc.raw_snoc]
set_option maxHeartbeats 400000 in
theorem refsum_any (s : ByteArray) (w : World) (hs : s.size ≤ maxLen) : Calls Tryd.prog 67 #[.string s] w fun e w' => e = .returned (.int .u32 ((Crc.sum s.data.toList).toNat : Int)) ∧ Below w.heap.size w w' := by
  unfold maxLen at hs
  go_enter Tryd.func67, Tryd.ntmps67
  go_wp2_with fail
  go_loop [3, 4, 5] (fun x i _ => ∃ k : Nat, k ≤ s.size ∧ i = .int .i64 k ∧ x = .int .u32 ((Crc.raw (s.data.toList.take k)).toNat : Int)) (fun _ i _ => s.size - (intOf i).toNat)
  case atStart => exact ⟨0, by omega, rfl, rfl⟩
  case round =>
    obtain ⟨k, hk, rfl, rfl⟩ := hrel
    by_cases hlt : k < s.size
    · have hnext : Crc.raw (s.data.toList.take (k + 1)) = Crc.feed (Crc.raw (s.data.toList.take k)) ((Crc.byteBits s[k]).take 8) := raw_next s.data.toList k (by simpa using hlt)
      have HN := Lib.hid hnext; clear hnext
      go_wp2_with fail
      go_loop [3, 5] (fun x i => ∃ j : Nat, j ≤ 8 ∧ i = .int .i64 (7 - (j : Int)) ∧ x = .int .u32 ((Crc.feed (Crc.raw (s.data.toList.take k)) ((Crc.byteBits s[k]).take j)).toNat : Int)) (fun _ i => (intOf i + 1).toNat)
      case atStart => exact ⟨0, by omega, rfl, rfl⟩
      case round =>
        obtain ⟨j, hj, rfl, rfl⟩ := hrel
        by_cases hj8 : j < 8
        · have hbit : Crc.feed (Crc.raw (s.data.toList.take k)) ((Crc.byteBits s[k]).take (j + 1)) = Crc.step (Crc.feed (Crc.raw (s.data.toList.take k)) ((Crc.byteBits s[k]).take j)) (s[k].toNat.testBit (7 - j)) :=
            raw_bit s.data.toList k (by simpa using hlt) _ j hj8
          have HB := Lib.hid hbit; clear hbit
          go_wp2_with fail
          refine (step_any _ _ (bit_01 _ _) _).mono ?_
          rintro e w' ⟨rfl, rfl⟩
          rw [bit_is]
          go_wp2_with fail
          go_round
          case rel => exact ⟨j + 1, by omega, by go_num, by rw [HB.out]⟩
          case measure => simp [intOf]; omega
        · obtain rfl : j = 8 := by omega
          go_wp2_with fail
          go_round
          case rel => exact ⟨k + 1, by omega, by go_num, by rw [HN.out]⟩
          case measure => simp [intOf]; omega
    · obtain rfl : k = s.size := by omega
      rw [List.take_of_length_le (by simp)]
      go_wp2_with fail
      go_ret
      exact ⟨ret_eq (int_eq (not_sub _)), Below.refl _ _⟩
end Go.Proofs.YtnphgaiiiiknpaaDoor
