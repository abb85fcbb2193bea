import Derived.Test.YtnbdnnlomgjlmaaCrc
namespace Go.Proofs.Ytnbdnnlomgjlmaa
open Go.RowKit
theorem tab_cell {w : World} {g : Nat} {t : TypeId} (hg : w.heap[g]? = some (.cells (tabA 16) t (0, 0))) (i : Nat) (hi : i < 16) : w.cell? ⟨g, i, none⟩ = some (.int .u32 ((Crc.nib (BitVec.ofNat 32 i)).toNat : Int)) := by
  rw [cell_of_row w g i _ t _ hg, tabA_get _ _ hi, if_pos hi]; rfl
def nb (x : BitVec 32) (y : Nat) : BitVec 32 := (x <<< 4) ^^^ Crc.nib ((x >>> 28) ^^^ BitVec.ofNat 32 y)
theorem nb_eq (x : BitVec 32) (y : Nat) : bits .xor .u32 ((x.toNat : Int) * (16 : Int) % (4294967296 : Int)) ((Crc.nib (BitVec.ofNat 32 (x.toNat / 268435456) ^^^ BitVec.ofNat 32 y)).toNat : Int) = ((nb x y).toNat : Int) := by
  have h1 : (x.toNat : Int) * (16 : Int) % (4294967296 : Int) = ((x <<< 4).toNat : Int) := by
    rw [BitVec.toNat_shiftLeft, Nat.shiftLeft_eq]; omega
  have h2 : BitVec.ofNat 32 (x.toNat / 268435456) = x >>> 28 := by
    apply BitVec.eq_of_toNat_eq
    rw [BitVec.toNat_ofNat, BitVec.toNat_ushiftRight, Nat.shiftRight_eq_div_pow]
    have := x.isLt; omega
  rw [h1, h2, xor_u32]; rfl
theorem raw_succ (l : List UInt8) (k : Nat) (h : k < l.length) : Crc.raw (l.take (k + 1)) = nb (nb (Crc.raw (l.take k)) (l[k].toNat / 16)) (l[k].toNat % 16) := by
  rw [List.take_succ_eq_append_getElem h, Crc.raw_snoc, Crc.feed_byte]; rfl
theorem and15 (n : Nat) (h : n < 256) : bits BinOp.and IntKind.u8 (n : Int) 15 = ((n % 16 : Nat) : Int) := by
  rw [show (15 : Int) = ((15 : Nat) : Int) from rfl, u8_and_nat n 15 h (by omega), show (15 : Nat) = 2 ^ 4 - 1 from rfl, Nat.and_two_pow_sub_one_eq_mod]
theorem idx_u8 (x : BitVec 32) (y : Nat) (hy : y < 16) : bits BinOp.xor IntKind.u8 ((x.toNat : Int) / 268435456) (y : Int) = (((x.toNat / 268435456) ^^^ y : Nat) : Int) := by
  have := x.isLt
  rw [show ((x.toNat : Int) / 268435456) = ((x.toNat / 268435456 : Nat) : Int) from by omega, u8_xor_nat _ _ (by omega) (by omega)]
theorem idx_lt (x : BitVec 32) (y : Nat) (hy : y < 16) : (x.toNat / 268435456) ^^^ y < 16 := by
  have := x.isLt
  exact Nat.xor_lt_two_pow (n := 4) (by omega) (by omega)
theorem not_u32 (x : BitVec 32) : bits .xor .u32 IntKind.u32.max (x.toNat : Int) = ((~~~ x).toNat : Int) := by
  rw [show IntKind.u32.max = (((BitVec.allOnes 32).toNat : Nat) : Int) from by decide, xor_u32]
  congr 2
set_option maxHeartbeats 400000 in
theorem sum_any (s : ByteArray) (w : World) (hs : s.size ≤ maxLen) : Calls Try.prog 16 #[.string s] w fun e w' => e = .returned (.int .u32 ((Crc.sum s.data.toList).toNat : Int)) ∧ Below w.heap.size w w' := by
  unfold maxLen at hs
  go_enter Try.func16, Try.ntmps16
  go_wp2_with (first
   | (go_at_call 52; refine (table_any _).mono ?_; rintro e w1 ⟨rfl, hb1⟩)
   | refine wpList_alloc_row rfl 83 rfl _ zeroTab ?_
   | refine wpList_store_new rfl 83 _ _ rfl _ _ _ rfl rfl (by rw [size_tabA]; exact sizeTab) (by rw [size_tabA, size_zeros]) (tabA_one 16) ?_)
  obtain ⟨W, hW⟩ : ∃ W, W = w1.alloc (.cells (tabA 16) 83) := ⟨_, rfl⟩
  have hcell : ∀ i, i < 16 → W.cell? ⟨w1.heap.size, i, none⟩ = some (.int .u32 ((Crc.nib (BitVec.ofNat 32 i)).toNat : Int)) := tab_cell (by rw [hW]; exact heap_alloc_new w1 _)
  have hB : Below w.heap.size w W := by rw [hW]; exact hb1.alloc hb1.size _
  rw [← hW]
  clear hW
  have HC := Lib.hid hcell
  clear hcell
  have i0 : ∀ (u v : Value) (w : World), (Instr.index 85 (.agg #[u, v]) (.int .i64 0)).run Try.prog w = .ok u w := fun _ _ _ => by kernel_rfl
  have i1 : ∀ (u v : Value) (w : World), (Instr.index 85 (.agg #[u, v]) (.int .i64 1)).run Try.prog w = .ok v w := fun _ _ _ => by kernel_rfl
  go_loopw [4, 5, 7, 11] (fun x _ _ i wr => ∃ k : Nat, k ≤ s.size ∧ i = .int .i64 k ∧ x = .int .u32 ((Crc.raw (s.data.toList.take k)).toNat : Int) ∧ ∃ n, wr = W.drewN n) (fun _ _ _ i _ => s.size - (intOf i).toNat)
  case atStart => exact ⟨0, by omega, rfl, rfl, 0, rfl⟩
  case round =>
    obtain ⟨k, hk, rfl, rfl, n, rfl⟩ := hrel
    by_cases hlt : k < s.size
    · have hsucc : Crc.raw (s.data.toList.take (k + 1)) = nb (nb (Crc.raw (s.data.toList.take k)) (s[k].toNat / 16)) (s[k].toNat % 16) := raw_succ s.data.toList k (by simpa using hlt)
      have HS := Lib.hid hsucc; clear hsucc
      go_wp2_with fail
      go_quiet (fail)
      rw [and15 _ s[k].toNat_lt, show ((s[k].toNat : Int) / 16) = ((s[k].toNat / 16 : Nat) : Int) from by omega]
      have hz16 : s[k].toNat % 16 < 16 := by omega
      have hy16 : s[k].toNat / 16 < 16 := by have := s[k].toNat_lt; omega
      generalize Crc.raw (s.data.toList.take k) = x at HS ⊢
      generalize s[k].toNat / 16 = y at HS hy16 ⊢
      generalize s[k].toNat % 16 = z at HS hz16 ⊢
      have HX := HC.out _ (idx_lt x y hy16)
      have ex := idx_u8 x y hy16
      have eb := idx_lt x y hy16
      have xl := x.isLt
      go_wp2_with fail
      refine wp_loop_rounds 3 ?_
      rw [rounds_succ]
      go_wp2_with fail
      rw [rounds_succ, nb_eq]
      clear HX ex eb xl
      generalize nb x y = x at HS ⊢
      have HX := HC.out _ (idx_lt x z hz16)
      have ex := idx_u8 x z hz16
      have eb := idx_lt x z hz16
      have xl := x.isLt
      go_wp2_with fail
      rw [rounds_succ, nb_eq]
      clear HX ex eb xl
      go_wp2_with fail
      go_roundw
      case rel => exact ⟨k + 1, by omega, by go_num, by rw [HS.out], _, rfl⟩
      case measure => simp [intOf]; omega
    · obtain rfl : k = s.size := by omega
      rw [List.take_of_length_le (by simp)]
      go_wp2_with fail
      go_ret
      exact ⟨ret_eq (int_eq (not_u32 _)), below_drewN hB _⟩
