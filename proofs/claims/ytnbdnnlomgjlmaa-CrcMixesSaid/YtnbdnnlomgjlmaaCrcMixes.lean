/- CrcMixes: of three texts that are equally long the sum of their exclusive or is that of their sums: the law returns true for every three texts. -/
import Derived.Test.YtnbdnnlomgjlmaaCrcHead
import Derived.StillTailTactics
namespace Go.Proofs.Ytnbdnnlomgjlmaa
open Go.RowKit
theorem blk_getD (b : List UInt8) (i : Nat) (h : i < b.length) : ∃ c : UInt8, (blk b)[i]? = some (.int .u8 (c.toNat : Int)) ∧ c = b.getD i 0 :=
  ⟨b[i], blk_get b i h, by simp [h]⟩
/-- The exclusive or of three texts, of which k bytes are there yet. -/
def mixL (a b c : List UInt8) (n k : Nat) : List UInt8 := (List.range n).map fun j => if j < k then a.getD j 0 ^^^ b.getD j 0 ^^^ c.getD j 0 else 0
theorem length_mixL (a b c : List UInt8) (n k : Nat) : (mixL a b c n k).length = n := by simp [mixL]
theorem mixL_zero (a b c : List UInt8) (n : Nat) : mixL a b c n 0 = List.replicate n 0 := by
  apply List.ext_getElem (by simp [mixL])
  intro i h1 h2
  simp [mixL]
theorem mix_cells (a b c : List UInt8) (n k : Nat) (_hk : k < n) (x y z : UInt8) (hx : a.getD k 0 = x) (hy : b.getD k 0 = y) (hz : c.getD k 0 = z) :
    (blk (mixL a b c n k)).setIfInBounds k (Value.int .u8 (bits .xor .u8 (bits .xor .u8 (x.toNat : Int) (y.toNat : Int)) (z.toNat : Int))) = blk (mixL a b c n (k + 1)) := by
  have hxy : x.toNat ^^^ y.toNat < 256 := Nat.xor_lt_two_pow (n := 8) x.toNat_lt y.toNat_lt
  rw [u8_xor_nat _ _ x.toNat_lt y.toNat_lt, u8_xor_nat _ _ hxy z.toNat_lt]
  have e : Value.int .u8 ((x.toNat ^^^ y.toNat ^^^ z.toNat : Nat) : Int) = vu8 (x ^^^ y ^^^ z) := by
    simp [vu8, UInt8.toNat_xor]
  rw [e, blk_set]
  congr 1
  apply List.ext_getElem (by simp [mixL])
  intro i h1 h2
  rw [List.getElem_set]
  simp only [mixL, List.getElem_map, List.getElem_range]
  by_cases h : k = i
  · subst h
    rw [if_pos rfl, if_pos (by omega), hx, hy, hz]
  · rw [if_neg h]
    by_cases h3 : i < k
    · rw [if_pos h3, if_pos (by omega)]
    · rw [if_neg h3, if_neg (by omega)]
theorem bits_zip : ∀ (s t : List UInt8), Crc.bitsOf (List.zipWith (· ^^^ ·) s t) = List.zipWith (· ^^ ·) (Crc.bitsOf s) (Crc.bitsOf t)
  | [], t => by simp [Crc.bitsOf]
  | s, [] => by cases s <;> simp [Crc.bitsOf]
  | x :: s, y :: t => by
    have e : ∀ (x : UInt8) (l : List UInt8), Crc.bitsOf (x :: l) = Crc.byteBits x ++ Crc.bitsOf l := fun _ _ => rfl
    rw [List.zipWith_cons_cons, e, e, e, bits_zip s t, List.zipWith_append (by rw [Crc.length_byteBits, Crc.length_byteBits])]
    congr 1
    simp only [Crc.byteBits, List.zipWith_map, UInt8.toNat_xor, Nat.testBit_xor]
    rw [List.zipWith_self]
theorem raw_xor3 (s t u : List UInt8) (h1 : s.length = t.length) (h2 : t.length = u.length) :
    Crc.sum (List.zipWith (· ^^^ ·) (List.zipWith (· ^^^ ·) s t) u) = Crc.sum s ^^^ Crc.sum t ^^^ Crc.sum u := by
  unfold Crc.sum Crc.raw
  rw [bits_zip, bits_zip]
  have e : BitVec.allOnes 32 = (BitVec.allOnes 32 ^^^ BitVec.allOnes 32) ^^^ BitVec.allOnes 32 := by decide
  have l1 : (Crc.bitsOf s).length = (Crc.bitsOf t).length := by rw [Crc.length_bitsOf, Crc.length_bitsOf, h1]
  have l2 : (List.zipWith (· ^^ ·) (Crc.bitsOf s) (Crc.bitsOf t)).length = (Crc.bitsOf u).length := by
    rw [List.length_zipWith, Crc.length_bitsOf, Crc.length_bitsOf, Crc.length_bitsOf, h1, h2]; omega
  have f : Crc.feed (BitVec.allOnes 32) (List.zipWith (· ^^ ·) (List.zipWith (· ^^ ·) (Crc.bitsOf s) (Crc.bitsOf t)) (Crc.bitsOf u)) =
      Crc.feed (BitVec.allOnes 32) (Crc.bitsOf s) ^^^ Crc.feed (BitVec.allOnes 32) (Crc.bitsOf t) ^^^ Crc.feed (BitVec.allOnes 32) (Crc.bitsOf u) := by
    conv => lhs; rw [e]
    rw [Crc.feed_xor _ _ _ _ l2, Crc.feed_xor _ _ _ _ l1]
  rw [f]
  generalize Crc.feed (BitVec.allOnes 32) (Crc.bitsOf s) = p
  generalize Crc.feed (BitVec.allOnes 32) (Crc.bitsOf t) = q
  generalize Crc.feed (BitVec.allOnes 32) (Crc.bitsOf u) = r
  apply BitVec.eq_of_getLsbD_eq
  intro i hi
  simp only [BitVec.getLsbD_not, BitVec.getLsbD_xor, hi, decide_true, Bool.true_and]
  cases p.getLsbD i <;> cases q.getLsbD i <;> cases r.getLsbD i <;> rfl
theorem mix_sum (a b c : ByteArray) (n : Nat) (ha : n ≤ a.size) (hb : n ≤ b.size) (hc : n ≤ c.size) :
    Crc.sum (⟨(mixL a.data.toList b.data.toList c.data.toList n n).toArray⟩ : ByteArray).data.toList = Crc.sum (a.extract 0 n).data.toList ^^^ Crc.sum (b.extract 0 n).data.toList ^^^ Crc.sum (c.extract 0 n).data.toList := by
  have e : ∀ x : ByteArray, (x.extract 0 n).data.toList = x.data.toList.take n := fun x => by simp
  rw [e, e, e, ← raw_xor3 _ _ _ (by simp; omega) (by simp; omega)]
  congr 1
  apply List.ext_getElem
  · simp [mixL]; omega
  intro i h1 h2
  have hi : i < n := by simpa [mixL] using h1
  have ha' : i < a.data.size := Nat.lt_of_lt_of_le hi ha
  have hb' : i < b.data.size := Nat.lt_of_lt_of_le hi hb
  have hc' : i < c.data.size := Nat.lt_of_lt_of_le hi hc
  simp only [mixL, List.getElem_map, List.getElem_range, hi, if_true, List.getElem_zipWith, List.getElem_take]
  simp only [List.getD_eq_getElem?_getD]
  rw [List.getElem?_eq_getElem (by simpa using ha'), List.getElem?_eq_getElem (by simpa using hb'), List.getElem?_eq_getElem (by simpa using hc')]
  rfl
section
variable {P : Program}
theorem madeCells_zero (n : Nat) : madeCells #[.int .u8 0] n = blk (List.replicate n 0) := by
  simp only [madeCells, blk]
  apply Array.ext_getElem?
  intro i
  by_cases h : i < n
  · simp [h, vu8, Nat.mod_one]
  · simp [h]
theorem wpList_make_bytes {ops : Array Oper} {rest : List Oper} {o : Oper} {a : Act} {w : World} {Q : Exit → Act → World → Prop} (hgd : o.guard = none) (t e : TypeId) (l c : Operand) (ho : o.op = .makeSlice t l c)
    (n : Nat) (hl : a.eval l = .int .i64 (n : Int)) (hc : a.eval c = .int .i64 (n : Int)) (ht : P.underlying t = some (.slice e)) (hi : (P.info? e).map (fun i => (i.zero, i.size, i.bytes)) = some (some (.int .u8 0), 1, 1))
    (hn : n ≤ 281474976710656)
    (h : wpList P ops Q rest (a.put o.dst (.slice (some ⟨w.heap.size, 0, none⟩) n n)) (w.alloc (.cells (blk (List.replicate n 0)) e))) : wpList P ops Q (o :: rest) a w :=
  wpList_plain hgd fun _ hK => by
    obtain ⟨i, hi, hz, hs, hb⟩ := info_parts hi
    have hr := run_make (P := P) w t e i (.int .u8 0) ht hi hz .i64 .i64 (n : Int) (n : Int) (by omega) (by omega) (by rw [hb]; omega) (by omega)
    unfold Oper.wp execOp
    simp only [Int.toNat_natCast, hs, Nat.mul_one, Value.cells, madeCells_zero] at hr
    simp only [ho, hl, hc, Sem.run_bind, hr, Result.andThen_ok, Sem.run_pure]
    exact hK _ _ h
end
set_option maxRecDepth 100000 in
theorem crcmixes_any (a b c : ByteArray) (ha : a.size ≤ maxLen) (_hb : b.size ≤ maxLen) (_hc : c.size ≤ maxLen) (w : World) :
    Calls Try.prog 6 #[.string a, .string b, .string c] w fun e w' => e = .returned (.bool true) ∧ Below w.heap.size w w' := by
  unfold maxLen at ha _hb _hc
  obtain ⟨n, hn⟩ : ∃ n : Nat, n = min (min a.size b.size) c.size := ⟨_, rfl⟩
  have hna : n ≤ a.size := by omega
  have hnb : n ≤ b.size := by omega
  have hnc : n ≤ c.size := by omega
  have hmin : (if (c.size : Int) < (if b.size < a.size then (b.size : Int) else (a.size : Int)) then (c.size : Int) else if b.size < a.size then (b.size : Int) else (a.size : Int)) = (n : Int) := by
    split <;> split <;> omega
  have HN := Lib.hid hmin
  clear hmin hn
  by_cases h : 3000 < n
  · go_enter Try.func6, Try.ntmps6
    go_upto_region 2 with (fail)
    rw [HN.out]
    go_wp2_with (go_at_call 15; refine (crchead_any _).mono ?_; rintro e w1 ⟨rfl, hb1⟩)
    go_ret
    exact ⟨rfl, hb1⟩
  · have hinfo : (Try.prog.info? 5).map (fun i => (i.zero, i.size, i.bytes)) = some (some (.int .u8 0), 1, 1) := by kernel_rfl
    have HI := Lib.hid hinfo
    clear hinfo
    go_enter Try.func6, Try.ntmps6
    go_upto_region 2 with (fail)
    rw [HN.out]
    go_wp2_with (at_make; refine wpList_make_bytes rfl 35 5 _ _ rfl n rfl rfl Try.underlying35 HI.out (by omega) ?_)
    obtain ⟨D, hD⟩ : ∃ D, D = mixL a.data.toList b.data.toList c.data.toList n := ⟨_, rfl⟩
    have hD0 : blk (List.replicate n 0) = blk (D 0) := by rw [hD, mixL_zero]
    have hDl : ∀ k, (D k).length = n := by rw [hD]; exact length_mixL _ _ _ n
    have HD := Lib.hid hD
    have HL := Lib.hid hDl
    rw [hD0]
    clear hD hD0 hDl
    go_loopw [9] (fun i wr => ∃ k : Nat, k ≤ n ∧ i = .int .i64 k ∧ ∃ m, wr = (w.alloc (.cells (blk (D k)) 5)).drewN m) (fun i _ => n - (intOf i).toNat)
    case atStart => exact ⟨0, by omega, rfl, 0, rfl⟩
    case round =>
      obtain ⟨k, hk, rfl, m, rfl⟩ := hrel
      by_cases hlt : k < n
      · obtain ⟨c0, hcell, _⟩ := blk_getD (D k) k (by rw [HL.out]; exact hlt)
        have hka : k < a.size := by omega
        have hkb : k < b.size := by omega
        have hkc : k < c.size := by omega
        go_wp2_with fail
        go_region
        have hset : ∀ m, ((w.alloc (Obj.cells (blk (D k)) 5)).drewN m).setCell ⟨w.heap.size, k, none⟩ (Value.int IntKind.u8 (bits BinOp.xor IntKind.u8 (bits BinOp.xor IntKind.u8 ↑a[k].toNat ↑b[k].toNat) ↑c[k].toNat)) = (w.alloc (Obj.cells (blk (D (k + 1))) 5)).drewN m := fun m => by
          show ((w.alloc _).setCell _ _).drewN m = _
          rw [World.setCell_alloc_new, HD.out, mix_cells _ _ _ n k hlt a[k] b[k] c[k] (by simp [hka]; rfl) (by simp [hkb]; rfl) (by simp [hkc]; rfl)]
        rw [hset]
        clear hset hcell
        go_wp2_with fail
        go_roundw
        case rel => exact ⟨k + 1, by omega, by go_num, _, rfl⟩
        case measure => simp [intOf]; omega
      · obtain rfl : k = n := by omega
        go_wp2_with fail
        have HM := Lib.hid (heap_alloc_new w (.cells (blk (D k)) 5))
        have za : (a.extract 0 k).size ≤ maxLen := by unfold maxLen; simp; omega
        have zb : (b.extract 0 k).size ≤ maxLen := by unfold maxLen; simp; omega
        have zc : (c.extract 0 k).size ≤ maxLen := by unfold maxLen; simp; omega
        have zd : (⟨(D k).toArray⟩ : ByteArray).size ≤ maxLen := by
          show (D k).toArray.size ≤ maxLen
          unfold maxLen; simp [HL.out]; omega
        refine wp_region_since (by kernel_rfl) (by kernel_rfl) ?_
        refine wq_move _ rfl rfl ?_
        simp only [Act.put, List.setIfInBounds_toArray, List.set_cons_zero, List.set_cons_succ]
        refine wq_bytes_str _ _ 5 _ w.heap.size k k 5 (D k) rfl rfl rfl Try.underlying35 Try.underlying5 Try.underlying9 (HL.out k) (fun w' hC => hC.row HM.out) ?_
        simp only [Act.put, List.setIfInBounds_toArray, List.set_cons_zero, List.set_cons_succ]
        refine wq_call 16 _ _ _ _ _ rfl rfl Try.func16 rfl (by kernel_rfl) (fun w' hC => hC.call (sum_any _ w' zd)) ?_
        simp only [Act.put, List.setIfInBounds_toArray, List.set_cons_zero, List.set_cons_succ]
        refine wq_move _ rfl rfl ?_
        simp only [Act.put, List.setIfInBounds_toArray, List.set_cons_zero, List.set_cons_succ]
        refine wq_move _ rfl rfl ?_
        simp only [Act.put, List.setIfInBounds_toArray, List.set_cons_zero, List.set_cons_succ]
        refine wq_slice_str k a _ _ _ _ rfl rfl Try.underlying9 rfl rfl hna ?_
        simp only [Act.put, List.setIfInBounds_toArray, List.set_cons_zero, List.set_cons_succ]
        refine wq_call 16 _ _ _ _ _ rfl rfl Try.func16 rfl (by kernel_rfl) (fun w' hC => hC.call (sum_any _ w' za)) ?_
        simp only [Act.put, List.setIfInBounds_toArray, List.set_cons_zero, List.set_cons_succ]
        refine wq_move _ rfl rfl ?_
        simp only [Act.put, List.setIfInBounds_toArray, List.set_cons_zero, List.set_cons_succ]
        refine wq_move _ rfl rfl ?_
        simp only [Act.put, List.setIfInBounds_toArray, List.set_cons_zero, List.set_cons_succ]
        refine wq_slice_str k b _ _ _ _ rfl rfl Try.underlying9 rfl rfl hnb ?_
        simp only [Act.put, List.setIfInBounds_toArray, List.set_cons_zero, List.set_cons_succ]
        refine wq_call 16 _ _ _ _ _ rfl rfl Try.func16 rfl (by kernel_rfl) (fun w' hC => hC.call (sum_any _ w' zb)) ?_
        simp only [Act.put, List.setIfInBounds_toArray, List.set_cons_zero, List.set_cons_succ]
        refine wq_xor _ _ _ _ _ _ rfl rfl rfl rfl ?_
        simp only [Act.put, List.setIfInBounds_toArray, List.set_cons_zero, List.set_cons_succ]
        refine wq_move _ rfl rfl ?_
        simp only [Act.put, List.setIfInBounds_toArray, List.set_cons_zero, List.set_cons_succ]
        refine wq_move _ rfl rfl ?_
        simp only [Act.put, List.setIfInBounds_toArray, List.set_cons_zero, List.set_cons_succ]
        refine wq_slice_str k c _ _ _ _ rfl rfl Try.underlying9 rfl rfl hnc ?_
        simp only [Act.put, List.setIfInBounds_toArray, List.set_cons_zero, List.set_cons_succ]
        refine wq_call 16 _ _ _ _ _ rfl rfl Try.func16 rfl (by kernel_rfl) (fun w' hC => hC.call (sum_any _ w' zc)) ?_
        simp only [Act.put, List.setIfInBounds_toArray, List.set_cons_zero, List.set_cons_succ]
        refine wq_xor _ _ _ _ _ _ rfl rfl rfl rfl ?_
        simp only [Act.put, List.setIfInBounds_toArray, List.set_cons_zero, List.set_cons_succ]
        refine wq_eql_int true _ _ _ _ _ _ _ rfl rfl rfl rfl (by rw [HD.out, mix_sum a b c k hna hnb hnc]; exact beq_self_eq_true _) ?_
        simp only [Act.put, List.setIfInBounds_toArray, List.set_cons_zero, List.set_cons_succ]
        refine wq_move _ rfl rfl ?_
        simp only [Act.put, List.setIfInBounds_toArray, List.set_cons_zero, List.set_cons_succ]
        refine wq_call 15 _ _ _ _ _ rfl rfl Try.func15 rfl (by kernel_rfl) (fun w' hC => hC.call (crchead_any w')) ?_
        simp only [Act.put, List.setIfInBounds_toArray, List.set_cons_zero, List.set_cons_succ]
        refine wq_pick true _ _ _ rfl rfl rfl ?_
        simp only [Act.put, List.setIfInBounds_toArray, List.set_cons_zero, List.set_cons_succ]
        refine wq_assign _ rfl rfl ?_
        simp only [Act.put, List.setIfInBounds_toArray, List.set_cons_zero, List.set_cons_succ]
        refine wpQuiet_nil ?_
        intro w' hC
        go_wp2_with fail
        go_ret
        exact ⟨rfl, (below_drewN ((Below.refl _ _).alloc (Nat.le_refl _) _) _).trans (hC.mono (by simp))⟩
