import Derived.Test.YtnbdnnlomgjlmaaCrc2
namespace Go.Proofs.Ytnbdnnlomgjlmaa
open Go.RowKit
theorem step_yes' (x : BitVec 32) (b : Bool) (h : x.msb ≠ b) : bits .xor .u32 ((x.toNat : Int) * (2 : Int) % (4294967296 : Int)) 79764919 = ((Crc.step x b).toNat : Int) := by
  rw [shl_one, show (79764919 : Int) = (Crc.poly.toNat : Int) from rfl, xor_u32]
  unfold Crc.step
  cases hm : x.msb <;> cases b <;> simp_all
theorem step_no' (x : BitVec 32) (b : Bool) (h : x.msb = b) : (x.toNat : Int) * (2 : Int) % (4294967296 : Int) = ((Crc.step x b).toNat : Int) := by
  rw [shl_one]
  unfold Crc.step
  cases hm : x.msb <;> cases b <;> simp_all
theorem step_any (x : BitVec 32) (d : Int) (hd : d = 0 ∨ d = 1) (w : World) : Calls Try.prog 53 #[.int .u32 (x.toNat : Int), .int .u8 d] w fun e w' => e = .returned (.int .u32 ((Crc.step x (d == 1)).toNat : Int)) ∧ w = w' := by
  have hm : x.msb = decide (2147483648 ≤ x.toNat) := BitVec.msb_eq_decide x
  have hl := x.isLt
  by_cases hx : 2147483648 ≤ x.toNat
  · have hx' : decide ((2147483648 : Int) ≤ (x.toNat : Int)) = true := by simp; omega
    have hb : x.msb = true := by rw [hm]; simpa using hx
    have HB := Lib.hid hb; clear hb hm
    rcases hd with rfl | rfl
    · go_enter Try.func53, Try.ntmps53
      go_wp2
      go_ret
      exact ⟨ret_eq (int_eq (step_yes' _ _ (by rw [HB.out]; decide))), rfl⟩
    · go_enter Try.func53, Try.ntmps53
      go_wp2
      go_ret
      exact ⟨ret_eq (int_eq (step_no' _ _ (by rw [HB.out]; decide))), rfl⟩
  · have hx' : decide ((2147483648 : Int) ≤ (x.toNat : Int)) = false := by simp; omega
    have hb : x.msb = false := by rw [hm]; simpa using hx
    have h2 : (x.toNat : Int) * (2 : Int) = (x.toNat : Int) * (2 : Int) % (4294967296 : Int) := by omega
    have HB := Lib.hid hb; clear hb hm
    have H2 := Lib.hid h2; clear h2
    rcases hd with rfl | rfl
    · go_enter Try.func53, Try.ntmps53
      go_wp2
      go_ret
      exact ⟨ret_eq (int_eq (H2.out.trans (step_no' _ _ (by rw [HB.out]; decide)))), rfl⟩
    · go_enter Try.func53, Try.ntmps53
      go_wp2
      go_ret
      exact ⟨ret_eq (int_eq ((congrArg (fun z => bits .xor .u32 z 79764919) H2.out).trans (step_yes' _ _ (by rw [HB.out]; decide)))), rfl⟩
theorem bit_val (c e : Nat) : ((c : Int) / (2 : Int) ^ e).tmod (2 : Int) = ((c / 2 ^ e % 2 : Nat) : Int) := by
  have h : ((c : Int) / (2 : Int) ^ e) = ((c / 2 ^ e : Nat) : Int) := by rw [Int.natCast_ediv]; congr 1
  rw [h, Int.tmod_eq_emod_of_nonneg (Int.natCast_nonneg _)]; omega
theorem bit_01 (c e : Nat) : ((c : Int) / (2 : Int) ^ e).tmod (2 : Int) = 0 ∨ ((c : Int) / (2 : Int) ^ e).tmod (2 : Int) = 1 := by rw [bit_val]; omega
theorem bit_is (c e : Nat) : (((c : Int) / (2 : Int) ^ e).tmod (2 : Int) == 1) = c.testBit e := by
  rw [bit_val, Nat.testBit_eq_decide_div_mod_eq]
  by_cases h : c / 2 ^ e % 2 = 1
  · simp [h]
  · have : c / 2 ^ e % 2 = 0 := by omega
    simp [this]
theorem not_sub (x : BitVec 32) : (4294967295 : Int) - (x.toNat : Int) = ((~~~ x).toNat : Int) := by
  rw [BitVec.toNat_not]; have := x.isLt; omega
theorem raw_bit (l : List UInt8) (k : Nat) (h : k < l.length) (x : BitVec 32) (j : Nat) (hj : j < 8) :
    Crc.feed x ((Crc.byteBits l[k]).take (j + 1)) = Crc.step (Crc.feed x ((Crc.byteBits l[k]).take j)) (l[k].toNat.testBit (7 - j)) := by
  have hl : j < (Crc.byteBits l[k]).length := by rw [Crc.length_byteBits]; omega
  rw [List.take_succ_eq_append_getElem hl, Crc.feed_append]
  simp [Crc.byteBits, Crc.feed]
theorem raw_next (l : List UInt8) (k : Nat) (h : k < l.length) : Crc.raw (l.take (k + 1)) = Crc.feed (Crc.raw (l.take k)) ((Crc.byteBits l[k]).take 8) := by
  have e : (Crc.byteBits l[k]).take 8 = Crc.byteBits l[k] := List.take_of_length_le (by rw [Crc.length_byteBits]; omega)
  rw [e, List.take_succ_eq_append_getElem h, Crc.raw_snoc]
set_option maxHeartbeats 400000 in
theorem refsum_any (s : ByteArray) (w : World) (hs : s.size ≤ maxLen) : Calls Try.prog 17 #[.string s] w fun e w' => e = .returned (.int .u32 ((Crc.sum s.data.toList).toNat : Int)) ∧ Below w.heap.size w w' := by
  unfold maxLen at hs
  go_enter Try.func17, Try.ntmps17
  go_wp2_with fail
  go_loop [3, 4, 5] (fun x i _ => ∃ k : Nat, k ≤ s.size ∧ i = .int .i64 k ∧ x = .int .u32 ((Crc.raw (s.data.toList.take k)).toNat : Int)) (fun _ i _ => s.size - (intOf i).toNat)
  case atStart => exact ⟨0, by omega, rfl, rfl⟩
  case round =>
    obtain ⟨k, hk, rfl, rfl⟩ := hrel
    by_cases hlt : k < s.size
    · have hnext : Crc.raw (s.data.toList.take (k + 1)) = Crc.feed (Crc.raw (s.data.toList.take k)) ((Crc.byteBits s[k]).take 8) := raw_next s.data.toList k (by simpa using hlt)
      have HN := Lib.hid hnext; clear hnext
      go_wp2_with fail
      go_loop [3, 5] (fun x i => ∃ j : Nat, j ≤ 8 ∧ i = .int .i64 (7 - (j : Int)) ∧ x = .int .u32 ((Crc.feed (Crc.raw (s.data.toList.take k)) ((Crc.byteBits s[k]).take j)).toNat : Int)) (fun _ i => (intOf i + 1).toNat)
      case atStart => exact ⟨0, by omega, rfl, rfl⟩
      case round =>
        obtain ⟨j, hj, rfl, rfl⟩ := hrel
        by_cases hj8 : j < 8
        · have hbit : Crc.feed (Crc.raw (s.data.toList.take k)) ((Crc.byteBits s[k]).take (j + 1)) = Crc.step (Crc.feed (Crc.raw (s.data.toList.take k)) ((Crc.byteBits s[k]).take j)) (s[k].toNat.testBit (7 - j)) :=
            raw_bit s.data.toList k (by simpa using hlt) _ j hj8
          have HB := Lib.hid hbit; clear hbit
          go_wp2_with fail
          refine (step_any _ _ (bit_01 _ _) _).mono ?_
          rintro e w' ⟨rfl, rfl⟩
          rw [bit_is]
          go_wp2_with fail
          go_round
          case rel => exact ⟨j + 1, by omega, by go_num, by rw [HB.out]⟩
          case measure => simp [intOf]; omega
        · obtain rfl : j = 8 := by omega
          go_wp2_with fail
          go_round
          case rel => exact ⟨k + 1, by omega, by go_num, by rw [HN.out]⟩
          case measure => simp [intOf]; omega
    · obtain rfl : k = s.size := by omega
      rw [List.take_of_length_le (by simp)]
      go_wp2_with fail
      go_ret
      exact ⟨ret_eq (int_eq (not_sub _)), Below.refl _ _⟩
