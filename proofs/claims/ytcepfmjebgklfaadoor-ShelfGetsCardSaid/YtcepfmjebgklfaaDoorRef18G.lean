/- The document's Get of a shelf. -/
import Derived.Test.YtcepfmjebgklfaaDoorOwn
import Derived.Test.YtcepfmjebgklfaaDoorRef18P
import Derived.Test.YtcepfmjebgklfaaDoorRefRow
import Derived.Test.YtcepfmjebgklfaaDoorSteps
namespace Go.Proofs.YtcepfmjebgklfaaDoor
open Go.RowKit
set_option linter.unusedSimpArgs false
set_option linter.unusedVariables false
set_option maxRecDepth 100000
theorem size_rowS18 (b : List UInt8) (hb : b.length = 256) (i : Nat) (f : Bool) : (rowS b i f).size = 258 := by
  unfold rowS
  split
  · exact size_rowC b hb _ _
  · exact size_rowC _ length_zeroBlk _ _
theorem rowS18_one (b : List UInt8) (i : Nat) (f : Bool) : (rowS b i f).all (·.oneCell') = true := by
  unfold rowS
  split <;> exact rowC_one _ _ _
theorem rowS_fine (b : List UInt8) (hb : b.length = 256) (i : Nat) (f : Bool) : (rowS b i f)[257]? = some (.bool f) := by
  unfold rowS
  cases f with
  | true => rw [if_pos rfl]; exact rowC_fine b hb i true
  | false => rw [if_neg (by decide)]; exact rowC_fine zeroBlk length_zeroBlk 0 false
theorem infoCellX : ∃ i, Tryd.prog.info? 41 = some i ∧ i.zero = some (.agg #[.int .u64 0, .slice none 0 0]) ∧ i.size = 2 ∧ i.bytes = 32 := by
  have h0 : (Tryd.prog.info? 41).map (fun i => (i.zero, i.size, i.bytes)) = some (some (.agg #[.int .u64 0, .slice none 0 0]), 2, 32) := by kernel_rfl
  obtain ⟨i, h1, h2⟩ := Option.map_eq_some_iff.1 h0
  simp only [Prod.mk.injEq] at h2
  exact ⟨i, h1, h2.1, h2.2.1, h2.2.2⟩
theorem Held.toEnd {w0 W : World} {x : Thing} (l1 l2 : List Thing) (R : Held w0 W (x :: (l1 ++ l2))) : Held w0 W (l2 ++ [x]) := by
  have h : (x :: (l1 ++ l2)).Perm (l1 ++ (l2 ++ [x])) := by
    rw [← List.append_assoc]
    exact (List.perm_append_comm (l₁ := [x]) (l₂ := l1 ++ l2))
  have := (R.perm h).drop l1.length
  simpa using this
section
variable {w : World}
set_option maxHeartbeats 4000000 in
theorem refget18 (b : List UInt8) (hb : b.length = 256) :
    Calls Tryd.prog 24 #[.agg (blk b)] w fun e w' => ∃ v, e = .returned (.tuple #[v, .int .i64 (getE18 b)]) ∧ ShelfIn w' v (getS18 b) ∧ Below w.heap.size w w' := by
  have hR := ((Held.start w).alloc (blk b) 52).alloc #[.int .u8 0, .int .u16 0, .int .u16 0, .slice none 0 0] 25
  obtain ⟨W, hW⟩ : ∃ W, W = (w.alloc (.cells (blk b) 52)).alloc (.cells #[.int .u8 0, .int .u16 0, .int .u16 0, .slice none 0 0] 25) := ⟨_, rfl⟩
  obtain ⟨g1, hg1⟩ : ∃ g, g = w.heap.size := ⟨_, rfl⟩
  rw [← hW, show (w.alloc (.cells (blk b) 52)).heap.size = g1 + 1 by rw [hg1]; simp, ← hg1] at hR
  obtain ⟨g2, hg2⟩ : ∃ g2, g2 = g1 + 1 := ⟨_, rfl⟩
  rw [← hg2] at hR
  have HW := Lib.hid hW
  have HG := Lib.hid hg1
  have HG2 := Lib.hid hg2
  have R0 := Lib.hid hR
  have HB := Lib.hid hb
  have HBs : Hid ((blk b).size = 256) := Lib.hid (by rw [size_blk, hb])
  obtain ⟨f, hf⟩ : ∃ f, f = fineB b 83 := ⟨_, rfl⟩
  have HF := Lib.hid hf
  obtain ⟨RS, hRS⟩ : ∃ R : Nat → Array Value, R = fun i => rowS b i f := ⟨_, rfl⟩
  have HOP : Hid (∀ w, Calls Tryd.prog 51 #[.agg (blk b), .int .u8 83] w fun e w' => e = .returned (.agg (RS 1)) ∧ Below w.heap.size w w') := Lib.hid (fun w => by rw [hRS, hf]; exact refopen_any b hb 83 w)
  have HTN : Hid (∀ (i n : Nat) (w : World), (n = 1 ∨ n = 2 ∨ n = 4 ∨ n = 8) → i + n ≤ 252 → Calls Tryd.prog 50 #[.agg (RS i), .int .i64 (n : Int)] w fun e w' => e = .returned (.tuple #[.int .u64 (readV b i n f : Int), .agg (RS (i + n))]) ∧ Below w.heap.size w w') := Lib.hid (fun i n w h1 h2 => by
    rw [hRS]; exact taken_all b hb i n f h1 h2 w)
  have HSR : Hid (∀ i, (RS i).size = 258) := Lib.hid (fun i => by rw [hRS]; exact size_rowS18 b hb i f)
  have HZR : Hid (∀ i, (RS i).size = (rowC zeroBlk 0 false).size) := Lib.hid (fun i => by rw [hRS, size_rowC zeroBlk length_zeroBlk 0 false]; exact size_rowS18 b hb i f)
  have HOR : Hid (∀ i, (RS i).all (·.oneCell') = true) := Lib.hid (fun i => by rw [hRS]; exact rowS18_one b i f)
  have HFI : Hid (∀ i, (RS i)[257]? = some (.bool f)) := Lib.hid (fun i => by rw [hRS]; exact rowS_fine b hb i f)
  have HSM := Lib.hid (gShL_small b hb f)
  obtain ⟨k, hk⟩ : ∃ k, k = readV b 1 1 f := ⟨_, rfl⟩
  have HK : Hid (k = gK b f) := Lib.hid hk
  have hk256 : k < 256 := by rw [hk]; exact readV_lt b hb _ 1 f (by omega)
  obtain ⟨pv, hpv⟩ : ∃ k, k = readV b 2 2 f := ⟨_, rfl⟩
  have hpv6 : pv < 65536 := by rw [hpv]; exact readV_lt b hb _ 2 f (by omega)
  obtain ⟨nx, hnx⟩ : ∃ k, k = readV b 4 2 f := ⟨_, rfl⟩
  have hnx6 : nx < 65536 := by rw [hnx]; exact readV_lt b hb _ 2 f (by omega)
  have HT1 : Hid (∀ w, Calls Tryd.prog 50 #[.agg (RS 1), .int .i64 1] w fun e w' => e = .returned (.tuple #[.int .u64 (k : Int), .agg (RS 2)]) ∧ Below w.heap.size w w') := Lib.hid (fun w => by rw [hk]; exact HTN.out 1 1 w (by omega) (by omega))
  have HT2 : Hid (∀ w, Calls Tryd.prog 50 #[.agg (RS 2), .int .i64 2] w fun e w' => e = .returned (.tuple #[.int .u64 (pv : Int), .agg (RS 4)]) ∧ Below w.heap.size w w') := Lib.hid (fun w => by rw [hpv]; exact HTN.out 2 2 w (by omega) (by omega))
  have HT4 : Hid (∀ w, Calls Tryd.prog 50 #[.agg (RS 4), .int .i64 2] w fun e w' => e = .returned (.tuple #[.int .u64 (nx : Int), .agg (RS 6)]) ∧ Below w.heap.size w w') := Lib.hid (fun w => by rw [hnx]; exact HTN.out 4 2 w (by omega) (by omega))
  have HSH : Hid (gShL b f = ⟨k, pv, nx, (List.range (placesL k)).map (gCell b f k)⟩) := Lib.hid (by rw [hk, hpv, hnx]; rfl)
  clear hW hg1 hg2 hR hf hRS hk hpv hnx hb
  go_enter Tryd.func24, Tryd.ntmps24
  go_upto_region 1 with (fail)
  rw [← HW.out, ← HG.out, ← HG2.out]
  go_wp2_with (refine wpList_load_row rfl 52 _ rfl g1 rfl 52 (blk b) (0, 0) _ (R0.out.get 1 rfl) Tryd.underlying52 rfl (by rw [HBs.out]; exact sizeB) ?_)
  refine (HOP.out _).mono ?_
  rintro e w2 ⟨rfl, hb⟩
  have R1 := Lib.hid (R0.out.call hb)
  clear hb R0
  go_wp2_with fail
  refine (HT1.out _).mono ?_
  rintro e w3 ⟨rfl, hb⟩
  have q1 := (R1.out.call hb).alloc (RS (2)) 98
  clear hb
  go_upto_region 2 with (first | refine wpList_alloc_row rfl 98 rfl _ zeroRowI ?_ | refine wpList_store_new rfl 98 _ _ rfl _ (RS (2)) _ rfl rfl (by rw [HSR.out]; exact sizeRow) ((HZR.out _).symm) (HOR.out _) ?_)
  obtain ⟨W3, hW⟩ : ∃ W, W = w3.alloc (.cells (RS (2)) 98) := ⟨_, rfl⟩
  rw [← hW] at q1 ⊢
  clear hW
  obtain ⟨g5, hg⟩ : ∃ g, g = w3.heap.size := ⟨_, rfl⟩
  rw [← hg] at q1 ⊢
  clear hg
  have R2 := Lib.hid q1
  clear q1
  go_wp2_with (refine wpList_load_row rfl 98 _ rfl g5 rfl 98 (RS (2)) (0, 0) _ (R2.out.get 0 rfl) Tryd.underlying98 rfl (by rw [HSR.out]; exact sizeRow) ?_)
  refine (HT2.out _).mono ?_
  rintro e w4 ⟨rfl, hb⟩
  have q1 := (R2.out.call hb).alloc (RS (4)) 98
  clear hb
  go_upto_region 3 with (first | refine wpList_alloc_row rfl 98 rfl _ zeroRowI ?_ | refine wpList_store_new rfl 98 _ _ rfl _ (RS (4)) _ rfl rfl (by rw [HSR.out]; exact sizeRow) ((HZR.out _).symm) (HOR.out _) ?_)
  obtain ⟨W4, hW⟩ : ∃ W, W = w4.alloc (.cells (RS (4)) 98) := ⟨_, rfl⟩
  rw [← hW] at q1 ⊢
  clear hW
  obtain ⟨g7, hg⟩ : ∃ g, g = w4.heap.size := ⟨_, rfl⟩
  rw [← hg] at q1 ⊢
  clear hg
  have R3 := Lib.hid q1
  clear q1
  go_wp2_with (refine wpList_load_row rfl 98 _ rfl g7 rfl 98 (RS (4)) (0, 0) _ (R3.out.get 0 rfl) Tryd.underlying98 rfl (by rw [HSR.out]; exact sizeRow) ?_)
  refine (HT4.out _).mono ?_
  rintro e w5 ⟨rfl, hb⟩
  have q1 := (R3.out.call hb).alloc (RS (6)) 98
  clear hb
  go_upto_region 4 with (first | refine wpList_alloc_row rfl 98 rfl _ zeroRowI ?_ | refine wpList_store_new rfl 98 _ _ rfl _ (RS (6)) _ rfl rfl (by rw [HSR.out]; exact sizeRow) ((HZR.out _).symm) (HOR.out _) ?_)
  obtain ⟨W5, hW⟩ : ∃ W, W = w5.alloc (.cells (RS (6)) 98) := ⟨_, rfl⟩
  rw [← hW] at q1 ⊢
  clear hW
  obtain ⟨g9, hg⟩ : ∃ g, g = w5.heap.size := ⟨_, rfl⟩
  rw [← hg] at q1 ⊢
  clear hg
  have R4 := Lib.hid q1
  clear q1
  go_upto_region 5 with (fail)
  have q1 := R4.out.alloc #[.int .u8 (k : Int), .int .u16 (pv : Int), .int .u16 (nx : Int), .slice none 0 0] 25
  obtain ⟨W6, hW⟩ : ∃ W, W = W5.alloc (.cells #[.int .u8 (k : Int), .int .u16 (pv : Int), .int .u16 (nx : Int), .slice none 0 0] 25) := ⟨_, rfl⟩
  rw [← hW] at q1 ⊢
  clear hW
  obtain ⟨g10, hg⟩ : ∃ g, g = W5.heap.size := ⟨_, rfl⟩
  rw [← hg] at q1 ⊢
  clear hg
  have R5 := Lib.hid q1
  clear q1
  have R6 := Lib.hid (R5.out.newOwn 41 2)
  clear HOP HT1 HT2 HT4 R5 R4 R3 R2 R1
  obtain ⟨n, hn⟩ : ∃ n, n = placesL k := ⟨_, rfl⟩
  obtain ⟨rm, hrm⟩ : ∃ n, n = roomL k := ⟨_, rfl⟩
  have hn14 : n ≤ 14 := by rw [hn]; exact placesL_le k
  have hrm237 : rm ≤ 237 := by rw [hrm]; exact roomL_le k
  have HN := Lib.hid hn
  have HRM := Lib.hid hrm
  have HPL : Hid (∀ w : World, Calls Tryd.prog 52 #[.int .u8 (k : Int)] w fun e w' => e = .returned (.int .i64 (n : Int)) ∧ Below w.heap.size w w') := Lib.hid (fun w => by rw [hn]; exact refplaces18 (w := w) k hk256)
  have HROOM : Hid (∀ w : World, Calls Tryd.prog 53 #[.int .u8 (k : Int)] w fun e w' => e = .returned (.int .i64 (rm : Int)) ∧ Below w.heap.size w w') := Lib.hid (fun w => by rw [hrm]; exact refroom18 (w := w) k hk256)
  have HBASE : Hid (∀ j, j < n → gBase k j + 9 + rm ≤ 252 ∧ gBase k (j + 1) = gBase k j + 9 + rm) := Lib.hid (fun j hj => by rw [hrm]; exact ⟨gBase_le (by rw [← hn]; exact hj), gBase_succ k j⟩)
  have hb0 : (6 : Nat) = gBase k 0 := by simp [gBase]
  have R7 := R6.out
  rw [hb0] at R7
  have R8 := Lib.hid R7
  obtain ⟨i0, hi0⟩ := infoU8''
  have HI := Lib.hid hi0
  obtain ⟨ic, hic⟩ := infoCellX
  have HIC := Lib.hid hic
  clear hn hrm R7 R6 hb0 hi0 hic
  go_wp2_with fail
  go_loopw [11] (fun i wr => ∃ (j : Nat) (v : Value) (hs : List CellH), j ≤ n ∧ i = .int .i64 (j : Int) ∧ Held w wr (ownT 41 2 v j (cellVs hs) :: rowT g10 #[.int .u8 (k : Int), .int .u16 (pv : Int), .int .u16 (nx : Int), v] 25 :: rowT g9 (RS (gBase k j)) 98 :: rowT g7 (RS 4) 98 :: rowT g5 (RS 2) 98 :: rowT g2 #[.int .u8 0, .int .u16 0, .int .u16 0, .slice none 0 0] 25 :: rowT g1 (blk b) 52 :: hs.map datT) ∧ hs.map CellH.dat = (List.range j).map (gCell b f k) ∧ (∀ x ∈ hs, x.ser < 18446744073709551616)) (fun i _ => n - (intOf i).toNat)
  case atStart => exact ⟨0, _, [], by omega, rfl, R8.out, rfl, by simp⟩
  case round =>
    obtain ⟨j, v, hs, hj, rfl, hR, hdat, hser⟩ := hrel
    have R1 := Lib.hid hR
    have HDAT := Lib.hid hdat
    have HSER := Lib.hid hser
    clear hR hdat hser R8
    obtain ⟨⟨a0, a1, a2, a3⟩, _, _, _, _⟩ := R1.out.cells4 1 rfl
    go_wp2_with fail
    refine (HPL.out _).mono ?_
    rintro e w7 ⟨rfl, hb⟩
    have R2 := Lib.hid (R1.out.call hb)
    clear hb R1 a0 a1 a2 a3
    by_cases hlt : j < n
    · obtain ⟨hp1, hp2⟩ := HBASE.out j hlt
      have hjp : j < placesL k := by rw [← HN.out]; exact hlt
      have hs64 := gSer_lt b HB.out f k j hjp
      have hn256 := gLen_lt b HB.out f k j hjp
      have HX : Hid (∀ q, q < rm → ((gRow b f k j).getD q 0).toNat = readV b (gBase k j + 9 + q) 1 f) := Lib.hid (fun q hq => gRow_get b HB.out f k j q hjp (by rw [← HRM.out]; exact hq))
      have HDL : Hid ((gRow b f k j).length = rm) := Lib.hid (by rw [HRM.out]; exact length_gRow b HB.out f k j hjp)
      have HT8 : Hid (∀ w, Calls Tryd.prog 50 #[.agg (RS (gBase k j)), .int .i64 8] w fun e w' => e = .returned (.tuple #[.int .u64 (gSer b f k j : Int), .agg (RS (gBase k j + 8))]) ∧ Below w.heap.size w w') := Lib.hid (fun w => HTN.out (gBase k j) 8 w (by omega) (by omega))
      have HT9 : Hid (∀ w, Calls Tryd.prog 50 #[.agg (RS (gBase k j + 8)), .int .i64 1] w fun e w' => e = .returned (.tuple #[.int .u64 (gLen b f k j : Int), .agg (RS (gBase k j + 9))]) ∧ Below w.heap.size w w') := Lib.hid (fun w => HTN.out (gBase k j + 8) 1 w (by omega) (by omega))
      have HTQ : Hid (∀ q w, q < rm → Calls Tryd.prog 50 #[.agg (RS (gBase k j + 9 + q)), .int .i64 1] w fun e w' => e = .returned (.tuple #[.int .u64 (((gRow b f k j).getD q 0).toNat : Int), .agg (RS (gBase k j + 9 + (q + 1)))]) ∧ Below w.heap.size w w') := Lib.hid (fun q w hq => by rw [HX.out q hq]; exact HTN.out (gBase k j + 9 + q) 1 w (by omega) (by omega))
      have HCE : Hid (gCell b f k j = (gSer b f k j, (gRow b f k j).take (gLen b f k j))) := Lib.hid rfl
      have HP2 := Lib.hid hp2
      obtain ⟨p, hp⟩ : ∃ p, p = gBase k j := ⟨_, rfl⟩
      obtain ⟨ser, hsr⟩ : ∃ p, p = gSer b f k j := ⟨_, rfl⟩
      obtain ⟨nn, hnn⟩ : ∃ p, p = gLen b f k j := ⟨_, rfl⟩
      obtain ⟨DD, hDD⟩ : ∃ p, p = gRow b f k j := ⟨_, rfl⟩
      rw [← hp] at R2 HT8 HT9 HTQ HP2
      rw [← hsr] at hs64 HT8 HCE
      rw [← hnn] at hn256 HT9 HCE
      rw [← hDD] at HTQ HDL HCE
      obtain ⟨GX, hGX⟩ : ∃ F : Nat → Nat, F = fun q => (DD.getD q 0).toNat := ⟨_, rfl⟩
      have HGX : Hid (∀ q, GX q = (DD.getD q 0).toNat) := Lib.hid (fun q => by rw [hGX])
      have HTQ : Hid (∀ q w, q < rm → Calls Tryd.prog 50 #[.agg (RS (p + 9 + q)), .int .i64 1] w fun e w' => e = .returned (.tuple #[.int .u64 (GX q : Int), .agg (RS (p + 9 + (q + 1)))]) ∧ Below w.heap.size w w') := Lib.hid (by rw [hGX]; exact HTQ.out)
      clear hGX
      clear hp hsr hnn hDD HX hp1 hp2 hjp
      go_wp2_with (refine wpList_load_row rfl 98 _ rfl g9 rfl 98 (RS (p)) (0, 0) _ (R2.out.get 2 rfl) Tryd.underlying98 rfl (by rw [HSR.out]; exact sizeRow) ?_)
      refine (HT8.out _).mono ?_
      rintro e w8 ⟨rfl, hb⟩
      have q1 := (R2.out.call hb).alloc (RS (p + 8)) 98
      clear hb
      go_upto_region 9 with (first | refine wpList_alloc_row rfl 98 rfl _ zeroRowI ?_ | refine wpList_store_new rfl 98 _ _ rfl _ (RS (p + 8)) _ rfl rfl (by rw [HSR.out]; exact sizeRow) ((HZR.out _).symm) (HOR.out _) ?_)
      obtain ⟨W8, hW⟩ : ∃ W, W = w8.alloc (.cells (RS (p + 8)) 98) := ⟨_, rfl⟩
      rw [← hW] at q1 ⊢
      clear hW
      obtain ⟨g13, hg⟩ : ∃ g, g = w8.heap.size := ⟨_, rfl⟩
      rw [← hg] at q1 ⊢
      clear hg
      have R3 := Lib.hid q1
      clear q1
      go_wp2_with (refine wpList_load_row rfl 98 _ rfl g13 rfl 98 (RS (p + 8)) (0, 0) _ (R3.out.get 0 rfl) Tryd.underlying98 rfl (by rw [HSR.out]; exact sizeRow) ?_)
      refine (HT9.out _).mono ?_
      rintro e w9 ⟨rfl, hb⟩
      have q1 := (R3.out.call hb).alloc (RS (p + 9)) 98
      clear hb
      go_upto_region 10 with (first | refine wpList_alloc_row rfl 98 rfl _ zeroRowI ?_ | refine wpList_store_new rfl 98 _ _ rfl _ (RS (p + 9)) _ rfl rfl (by rw [HSR.out]; exact sizeRow) ((HZR.out _).symm) (HOR.out _) ?_)
      obtain ⟨W9, hW⟩ : ∃ W, W = w9.alloc (.cells (RS (p + 9)) 98) := ⟨_, rfl⟩
      rw [← hW] at q1 ⊢
      clear hW
      obtain ⟨g15, hg⟩ : ∃ g, g = w9.heap.size := ⟨_, rfl⟩
      rw [← hg] at q1 ⊢
      clear hg
      have R4 := Lib.hid q1
      clear q1
      have R5 := Lib.hid (R4.out.newOwn 5 1)
      clear R4 R3 R2 HT8 HT9
      go_wp2_with fail
      go_loopw [16, 17] (fun va i wr => ∃ q m : Nat, q ≤ rm ∧ m = min q nn ∧ i = .int .i64 (q : Int) ∧ Held w wr (ownT 5 1 va m ((DD.take m).map vu8) :: rowT g15 (RS (p + 9 + q)) 98 :: rowT g13 (RS (p + 8)) 98 :: ownT 41 2 v j (cellVs hs) :: rowT g10 #[.int .u8 (k : Int), .int .u16 (pv : Int), .int .u16 (nx : Int), v] 25 :: rowT g9 (RS p) 98 :: rowT g7 (RS 4) 98 :: rowT g5 (RS 2) 98 :: rowT g2 #[.int .u8 0, .int .u16 0, .int .u16 0, .slice none 0 0] 25 :: rowT g1 (blk b) 52 :: hs.map datT)) (fun _ i _ => rm - (intOf i).toNat)
      case atStart => exact ⟨0, 0, by omega, by simp, rfl, by simpa using R5.out⟩
      case round =>
        obtain ⟨q, m, hq, hm, rfl, hR⟩ := hrel
        have R1 := Lib.hid hR
        have HM := Lib.hid hm
        clear hR R5 hm
        obtain ⟨⟨a0, a1, a2, a3⟩, _, _, _, _⟩ := R1.out.cells4 4 rfl
        go_wp2_with fail
        refine (HROOM.out _).mono ?_
        rintro e w10 ⟨rfl, hb⟩
        have R2 := Lib.hid (R1.out.call hb)
        clear hb R1 a0 a1 a2 a3
        by_cases hqr : q < rm
        · skip
          go_wp2_with (refine wpList_load_row rfl 98 _ rfl g15 rfl 98 (RS (p + 9 + q)) (0, 0) _ (R2.out.get 1 rfl) Tryd.underlying98 rfl (by rw [HSR.out]; exact sizeRow) ?_)
          refine (HTQ.out q _ hqr).mono ?_
          rintro e w11 ⟨rfl, hb⟩
          have q1 := (R2.out.call hb).alloc (RS (p + 9 + (q + 1))) 98
          clear hb
          go_upto_region 15 with (first | refine wpList_alloc_row rfl 98 rfl _ zeroRowI ?_ | refine wpList_store_new rfl 98 _ _ rfl _ (RS (p + 9 + (q + 1))) _ rfl rfl (by rw [HSR.out]; exact sizeRow) ((HZR.out _).symm) (HOR.out _) ?_)
          obtain ⟨W11, hW⟩ : ∃ W, W = w11.alloc (.cells (RS (p + 9 + (q + 1))) 98) := ⟨_, rfl⟩
          rw [← hW] at q1 ⊢
          clear hW
          obtain ⟨g19, hg⟩ : ∃ g, g = w11.heap.size := ⟨_, rfl⟩
          rw [← hg] at q1 ⊢
          clear hg
          have R3 := Lib.hid q1
          clear q1
          go_upto_region 16 with (first
            | refine wpList_load_row rfl 98 _ rfl g19 rfl 98 (RS (p + 9 + (q + 1))) (0, 0) _ (R3.out.get 0 rfl) Tryd.underlying98 rfl (by rw [HSR.out]; exact sizeRow) ?_
            | refine wpList_store_row rfl 98 _ _ rfl g15 (RS (p + 9 + (q + 1))) rfl rfl 98 _ (R3.out.get 2 rfl) (by rw [HSR.out]; exact sizeRow) (by rw [HSR.out, HSR.out]) (HOR.out _) ?_)
          have q1 := (R3.out.setRow 2 (RS (p + 9 + (q + 1))) rfl).drop 1
          obtain ⟨W12, hW⟩ : ∃ V, V = W11.setRow g15 (RS (p + 9 + (q + 1))) := ⟨_, rfl⟩
          rw [← hW] at q1 ⊢
          have R4 := Lib.hid q1
          clear q1 hW R3 R2
          have hxl : GX q < 256 := by rw [HGX.out]; exact (DD.getD q 0).toNat_lt
          by_cases hqn : q < nn
          · obtain rfl : m = q := by have := HM.out; omega
            clear HM
            have htk : (DD.take (m + 1)).map vu8 = (DD.take m).map vu8 ++ [.int .u8 (GX m : Int)] := by
              rw [HGX.out]
              have hql : m < DD.length := by rw [HDL.out]; exact hqr
              rw [List.take_succ_eq_append_getElem hql, List.map_append, List.getD_eq_getElem?_getD, List.getElem?_eq_getElem hql]
              rfl
            have HTK := Lib.hid htk
            have HOWN := Lib.hid (R4.out.own 0 rfl)
            obtain ⟨x, hx⟩ : ∃ x, x = GX m := ⟨_, rfl⟩
            rw [← hx] at hxl HTK ⊢
            clear htk hx
            go_wp2_with (at_builtin; refine wpList_append_own_at _ rfl _ _ 27 rfl 0 5 i0 (.int .u8 0) 1 1 Tryd.underlying27 HI.out.1 HI.out.2.1 HI.out.2.2.1 HI.out.2.2.2 rfl (by decide) _ m ((DD.take m).map vu8) rfl (World.ownsRow.alloc HOWN.out _) ⟨W12.heap.size, 0, none⟩ 1 1 [.int .u8 (x : Int)] rfl rfl (news_one _ _ _) (by intro u hu; simp at hu; subst hu; rfl) (by unfold maxLen; omega) (by omega) (by simp) ?_; intro v' w13 hown' hgrow hq' hat; have R5 := Lib.hid (R4.out.appendOne 0 rfl hown' hgrow hat); clear hown' hgrow hq' hat)
            exact ⟨⟨m + 1, m + 1, by omega, by omega, by go_num, by rw [HTK.out]; exact R5.out⟩, by simp [intOf]; omega⟩
          · obtain rfl : m = nn := by have := HM.out; omega
            clear HM
            go_wp2_with fail
            exact ⟨⟨q + 1, m, by omega, by omega, by go_num, R4.out⟩, by simp [intOf]; omega⟩
        · obtain rfl : q = rm := by omega
          have htk : DD.take m = DD.take nn := by
            have := HDL.out
            by_cases h : nn ≤ q
            · rw [HM.out, Nat.min_eq_right h]
            · rw [HM.out, Nat.min_eq_left (by omega), List.take_of_length_le (by omega), List.take_of_length_le (by omega)]
          obtain ⟨A, c, hva⟩ := own_slice (R2.out.own 0 rfl)
          subst hva
          have R3 := Lib.hid (R2.out.weaken (y := datT ⟨ser, A, m, c, DD.take m⟩) (fun F h => own_dat h))
          clear R2
          go_upto_region 19 with (first
            | refine wpList_load_row rfl 98 _ rfl g15 rfl 98 (RS (p + 9 + q)) (0, 0) _ (R3.out.get 1 rfl) Tryd.underlying98 rfl (by rw [HSR.out]; exact sizeRow) ?_
            | refine wpList_store_row rfl 98 _ _ rfl g9 (RS (p + 9 + q)) rfl rfl 98 _ (R3.out.get 5 rfl) (by rw [HSR.out]; exact sizeRow) (by rw [HSR.out, HSR.out]) (HOR.out _) ?_)
          have q1 := (R3.out.setRow 5 (RS (p + 9 + q)) rfl).toEnd [rowT g15 (RS (p + 9 + q)) 98, rowT g13 (RS (p + 8)) 98] _
          obtain ⟨W12, hW⟩ : ∃ V, V = w10.setRow g9 (RS (p + 9 + q)) := ⟨_, rfl⟩
          rw [← hW] at q1 ⊢
          rw [← HP2.out] at q1
          have q2 : Held w W12 (ownT 41 2 v j (cellVs hs) :: rowT g10 #[.int .u8 (k : Int), .int .u16 (pv : Int), .int .u16 (nx : Int), v] 25 :: rowT g9 (RS (gBase k (j + 1))) 98 :: rowT g7 (RS 4) 98 :: rowT g5 (RS 2) 98 :: rowT g2 #[.int .u8 0, .int .u16 0, .int .u16 0, .slice none 0 0] 25 :: rowT g1 (blk b) 52 :: (hs ++ [(⟨ser, A, m, c, DD.take m⟩ : CellH)]).map datT) := by
            rw [List.map_append]
            exact q1
          have R4 := Lib.hid q2
          have HOWN := Lib.hid (R4.out.own 0 rfl)
          clear q1 q2 hW R3
          obtain ⟨Av, cv, hv⟩ := own_slice HOWN.out
          subst hv
          have c3 : W12.cell? ⟨g10, 3, none⟩ = some (.slice Av j cv) := R4.out.cell 1 3 rfl rfl
          go_upto_region 7 with (at_builtin; refine wpList_append_own_at _ rfl _ _ 23 rfl 0 41 ic (.agg #[.int .u64 0, .slice none 0 0]) 2 32 Tryd.underlying23 HIC.out.1 HIC.out.2.1 HIC.out.2.2.1 HIC.out.2.2.2 rfl (by decide) _ j (cellVs hs) rfl (World.ownsRow.alloc HOWN.out _) ⟨W12.heap.size, 0, none⟩ 1 1 [.int .u64 (ser : Int), .slice A m c] rfl rfl (news_row _ _ _) (by intro u hu; simp at hu; rcases hu with rfl | rfl <;> rfl) (by unfold maxLen; omega) (by omega) (by simp) ?_; intro v' w13 hown' hgrow hq' hat; have R5 := Lib.hid (R4.out.appendOne 0 rfl hown' hgrow hat); clear hown' hgrow hq' hat c3; obtain ⟨A5, c5, hv5⟩ := own_slice (R5.out.own 0 rfl); subst hv5; have hc := R5.out.cell 1 3 rfl rfl; have hf := R5.out.free 1 3 rfl)
          have q1 := R5.out.setCell 1 3 (.slice A5 (j + 1) c5) rfl
          obtain ⟨W14, hW⟩ : ∃ V, V = w13.setCell ⟨g10, 3, none⟩ (.slice A5 (j + 1) c5) := ⟨_, rfl⟩
          rw [← hW] at q1 ⊢
          have R6 := Lib.hid q1
          clear q1 hW hc hf R5 R4
          go_wp2_with fail
          go_roundw
          case rel =>
            refine ⟨j + 1, .slice A5 (j + 1) c5, hs ++ [(⟨ser, A, m, c, DD.take m⟩ : CellH)], by omega, by go_num, ?_, ?_, ?_⟩
            · rw [cellVs_snoc]; exact R6.out
            · rw [List.map_append, HDAT.out, List.range_succ, List.map_append, List.map_cons, List.map_nil, List.map_cons, List.map_nil, HCE.out]
              show _ ++ [(ser, DD.take m)] = _
              rw [htk]
            · intro x hx
              rcases List.mem_append.1 hx with h | h
              · exact HSER.out x h
              · obtain rfl : x = _ := by simpa using h
                exact hs64
          case measure => simp [intOf]; omega
    · obtain rfl : j = n := by omega
      obtain ⟨S, hS⟩ : ∃ S, S = gShL b f := ⟨_, rfl⟩
      have HGO : Hid (getOk b (fineB b 83) = (f && decide (putE18 S = 0) && decide (putB18 S = b))) := Lib.hid (by rw [← HF.out, hS]; rfl)
      have HGS : Hid (getOk b (fineB b 83) = true → getS18 b = S ∧ getE18 b = 0) := Lib.hid (fun h => by unfold getS18 getE18; rw [if_pos h, if_pos h, ← HF.out, hS]; exact ⟨rfl, rfl⟩)
      have HGN : Hid (getOk b (fineB b 83) = false → getS18 b = emptySh ∧ getE18 b = 250) := Lib.hid (fun h => by unfold getS18 getE18; rw [if_neg (by rw [h]; decide), if_neg (by rw [h]; decide)]; exact ⟨rfl, rfl⟩)
      have hS2 : S = ⟨k, pv, nx, (List.range (placesL k)).map (gCell b f k)⟩ := hS.trans HSH.out
      have HSM2 : Hid (smallL S) := Lib.hid (by rw [hS]; exact HSM.out)
      have HSC : Hid (hs.map CellH.dat = S.cells) := Lib.hid (by rw [hS2, HDAT.out, HN.out])
      have h1 : S.cl = k := by rw [hS2]
      have h2 : S.prev = pv := by rw [hS2]
      have h3 : S.next = nx := by rw [hS2]
      have HS1 := Lib.hid h1
      have HS2 := Lib.hid h2
      have HS3 := Lib.hid h3
      obtain ⟨A, c, hv, hsf⟩ := R2.out.shelf (s := S) 0 rfl 7 (fun i hi => by
        rw [Nat.add_comm]
        show (hs.map datT)[i]? = _
        rw [List.getElem?_map, List.getElem?_eq_getElem hi]; rfl) HSC.out HSER.out (by rw [h1]; exact hk256) (by rw [h2]; exact hpv6) (by rw [h3]; exact hnx6) HSM2.out
      subst hv
      have hput := refput18 (w := w7) ⟨A, j, c, hs, rfl, hsf⟩
      unfold shV at hput
      rw [h1, h2, h3] at hput
      have hPE : putE18 S = 0 ∨ putE18 S = 5 := by unfold putE18; split <;> simp
      have HPBL := Lib.hid (length_putB18 S)
      obtain ⟨PE, hPE2⟩ : ∃ PE, PE = putE18 S := ⟨_, rfl⟩
      obtain ⟨PB, hPB2⟩ : ∃ PE, PE = putB18 S := ⟨_, rfl⟩
      rw [← hPE2] at hput hPE HGO
      rw [← hPB2] at hput HPBL HGO
      have HPUT := Lib.hid hput
      obtain ⟨fv, hfv⟩ : ∃ fv, fv = f := ⟨_, rfl⟩
      rw [← hfv] at HGO HFI
      have HHS : Hid (7 ≤ 7) := Lib.hid (Nat.le_refl _)
      clear hS hS2 h1 h2 h3 hsf hput hPE2 hPB2 hfv HDAT HSM HSH HF HTN HBASE
      obtain ⟨⟨a0, a1, a2, a3⟩, _, _, _, _⟩ := R2.out.cells4 1 rfl
      go_wp2_with fail
      refine (HPUT.out).mono ?_
      rintro e w8 ⟨rfl, hb⟩
      have q1 := (R2.out.call hb).alloc (blk PB) 52
      clear hb
      go_upto_region 21 with (first | refine wpList_alloc_row rfl 52 rfl _ zeroB ?_ | refine wpList_store_new rfl 52 _ _ rfl _ (blk PB) _ rfl rfl (by rw [size_blk, HPBL.out]; exact sizeB) (by rw [size_blk, HPBL.out, size_zeros]) (blk_one _) ?_)
      obtain ⟨W8, hW⟩ : ∃ W, W = w8.alloc (.cells (blk PB) 52) := ⟨_, rfl⟩
      rw [← hW] at q1 ⊢
      clear hW
      obtain ⟨g20, hg⟩ : ∃ g, g = w8.heap.size := ⟨_, rfl⟩
      rw [← hg] at q1 ⊢
      clear hg
      have R3 := Lib.hid q1
      clear q1
      clear a0 a1 a2 a3 HPUT R2
      have c9 := R3.out.cell 3 257 rfl (HFI.out _)
      cases fv with
      | false =>
        have HNO := Lib.hid (HGN.out (by rw [HGO.out]; rfl))
        refine wk_plain_since ?_
        refine wk_field 98 _ 4 257 0 _ _ _ (by first | exact wanted_none rfl | exact wanted_yes _ _ rfl rfl) rfl (by kernel_rfl) (by kernel_rfl) (by kernel_rfl) rfl ?_
        simp only [Act.put, List.setIfInBounds_toArray, List.set_cons_zero, List.set_cons_succ, Nat.zero_add]
        refine wk_load1 _ _ _ _ _ rfl (by kernel_rfl) rfl rfl (fun w' hC => hC.cell c9) Tryd.underlying4 ?_
        simp only [Act.put, List.setIfInBounds_toArray, List.set_cons_zero, List.set_cons_succ]
        refine wk_not false _ _ (by kernel_rfl) rfl rfl ?_
        simp only [Act.put, List.setIfInBounds_toArray, List.set_cons_zero, List.set_cons_succ]
        repeat (first
          | (refine wk_move _ (by first | exact wanted_none rfl | exact wanted_yes _ _ rfl rfl) rfl ?_; simp only [Act.put, Act.eval, Array.getD_eq_getD_getElem?, List.getElem?_toArray, List.getElem?_cons_succ, List.getElem?_cons_zero, Option.getD_some, List.setIfInBounds_toArray, List.set_cons_zero, List.set_cons_succ])
          | (refine wk_assign _ (by first | exact wanted_none rfl | exact wanted_yes _ _ rfl rfl) rfl ?_; simp only [Act.put, Act.eval, Array.getD_eq_getD_getElem?, List.getElem?_toArray, List.getElem?_cons_succ, List.getElem?_cons_zero, Option.getD_some, List.setIfInBounds_toArray, List.set_cons_zero, List.set_cons_succ])
          | (refine wk_pickt _ _ _ _ (by first | exact wanted_none rfl | exact wanted_yes _ _ rfl rfl) rfl rfl rfl ?_; simp only [Act.put, Act.eval, Array.getD_eq_getD_getElem?, List.getElem?_toArray, List.getElem?_cons_succ, List.getElem?_cons_zero, Option.getD_some, List.setIfInBounds_toArray, List.set_cons_zero, List.set_cons_succ])
          | (refine wk_pickf _ _ _ _ (by first | exact wanted_none rfl | exact wanted_yes _ _ rfl rfl) rfl rfl rfl ?_; simp only [Act.put, Act.eval, Array.getD_eq_getD_getElem?, List.getElem?_toArray, List.getElem?_cons_succ, List.getElem?_cons_zero, Option.getD_some, List.setIfInBounds_toArray, List.set_cons_zero, List.set_cons_succ])
          | (refine wk_skip (wanted_not _ true false rfl rfl rfl) ?_; simp only [Act.put, List.setIfInBounds_toArray, List.set_cons_zero, List.set_cons_succ])
          | (refine wk_skip (wanted_not _ false true rfl rfl rfl) ?_; simp only [Act.put, List.setIfInBounds_toArray, List.set_cons_zero, List.set_cons_succ])
          | (refine wk_skip (wanted_undef _ _ rfl rfl) ?_; simp only [Act.put, List.setIfInBounds_toArray, List.set_cons_zero, List.set_cons_succ])
          | (refine wk_not true _ _ (by first | exact wanted_none rfl | exact wanted_yes _ _ rfl rfl) rfl rfl ?_; simp only [Act.put, List.setIfInBounds_toArray, List.set_cons_zero, List.set_cons_succ])
          | (refine wk_not false _ _ (by first | exact wanted_none rfl | exact wanted_yes _ _ rfl rfl) rfl rfl ?_; simp only [Act.put, List.setIfInBounds_toArray, List.set_cons_zero, List.set_cons_succ]))
        refine wk_nil ?_
        intro w' hC
        have S1 := Lib.hid (R3.out.since hC)
        clear hC R3 c9
        obtain ⟨⟨y0, y1, y2, y3⟩, b0, b1, b2, b3⟩ := S1.out.cells4 6 rfl
        go_wp2_with fail
        have R9 := S1.out.store4 6 rfl (.int .u8 0) (.int .u16 0) (.int .u16 0) (.slice none 0 0)
        refine bodyPost_ret (v := .tuple #[.agg #[.int .u8 0, .int .u16 0, .int .u16 0, .slice none 0 0], .int .i64 250]) (results_cell_slot rfl _ _ g2 25 _ (0, 0) _ _ rfl rfl (R9.get 6 rfl) Tryd.underlying25 rfl sizeShelf) rfl ?_
        exact ⟨_, by rw [HNO.out.2], by rw [HNO.out.1]; exact emptySh_shelf _, R9.below⟩
      | true =>
        rcases hPE with rfl | rfl
        · by_cases hbe : PB = b
          · have HY := Lib.hid (HGS.out (by rw [HGO.out]; simp [hbe]))
            have HRUN : Hid (∀ w : World, (binOp .neq 52 (.agg (blk PB)) (.agg (blk b))).run Tryd.prog w = .ok (.bool false) w) := Lib.hid (fun w => by rw [run_neq_blk w 52 5 256 Tryd.underlying52 Tryd.underlying5 sizeU8 PB b HPBL.out HB.out]; simp [hbe])
            clear hbe
            refine wk_plain_since ?_
            refine wk_field 98 _ 4 257 0 _ _ _ (by first | exact wanted_none rfl | exact wanted_yes _ _ rfl rfl) rfl (by kernel_rfl) (by kernel_rfl) (by kernel_rfl) rfl ?_
            simp only [Act.put, List.setIfInBounds_toArray, List.set_cons_zero, List.set_cons_succ, Nat.zero_add]
            refine wk_load1 _ _ _ _ _ rfl (by kernel_rfl) rfl rfl (fun w' hC => hC.cell c9) Tryd.underlying4 ?_
            simp only [Act.put, List.setIfInBounds_toArray, List.set_cons_zero, List.set_cons_succ]
            refine wk_not true _ _ (by kernel_rfl) rfl rfl ?_
            simp only [Act.put, List.setIfInBounds_toArray, List.set_cons_zero, List.set_cons_succ]
            repeat (first
              | (refine wk_move _ (by first | exact wanted_none rfl | exact wanted_yes _ _ rfl rfl) rfl ?_; simp only [Act.put, Act.eval, Array.getD_eq_getD_getElem?, List.getElem?_toArray, List.getElem?_cons_succ, List.getElem?_cons_zero, Option.getD_some, List.setIfInBounds_toArray, List.set_cons_zero, List.set_cons_succ])
              | (refine wk_assign _ (by first | exact wanted_none rfl | exact wanted_yes _ _ rfl rfl) rfl ?_; simp only [Act.put, Act.eval, Array.getD_eq_getD_getElem?, List.getElem?_toArray, List.getElem?_cons_succ, List.getElem?_cons_zero, Option.getD_some, List.setIfInBounds_toArray, List.set_cons_zero, List.set_cons_succ])
              | (refine wk_pickt _ _ _ _ (by first | exact wanted_none rfl | exact wanted_yes _ _ rfl rfl) rfl rfl rfl ?_; simp only [Act.put, Act.eval, Array.getD_eq_getD_getElem?, List.getElem?_toArray, List.getElem?_cons_succ, List.getElem?_cons_zero, Option.getD_some, List.setIfInBounds_toArray, List.set_cons_zero, List.set_cons_succ])
              | (refine wk_pickf _ _ _ _ (by first | exact wanted_none rfl | exact wanted_yes _ _ rfl rfl) rfl rfl rfl ?_; simp only [Act.put, Act.eval, Array.getD_eq_getD_getElem?, List.getElem?_toArray, List.getElem?_cons_succ, List.getElem?_cons_zero, Option.getD_some, List.setIfInBounds_toArray, List.set_cons_zero, List.set_cons_succ])
              | (refine wk_skip (wanted_not _ true false rfl rfl rfl) ?_; simp only [Act.put, List.setIfInBounds_toArray, List.set_cons_zero, List.set_cons_succ])
              | (refine wk_skip (wanted_not _ false true rfl rfl rfl) ?_; simp only [Act.put, List.setIfInBounds_toArray, List.set_cons_zero, List.set_cons_succ])
              | (refine wk_skip (wanted_undef _ _ rfl rfl) ?_; simp only [Act.put, List.setIfInBounds_toArray, List.set_cons_zero, List.set_cons_succ])
              | (refine wk_not true _ _ (by first | exact wanted_none rfl | exact wanted_yes _ _ rfl rfl) rfl rfl ?_; simp only [Act.put, List.setIfInBounds_toArray, List.set_cons_zero, List.set_cons_succ])
              | (refine wk_not false _ _ (by first | exact wanted_none rfl | exact wanted_yes _ _ rfl rfl) rfl rfl ?_; simp only [Act.put, List.setIfInBounds_toArray, List.set_cons_zero, List.set_cons_succ]))
            refine wk_cmp_int .neq (false) _ _ _ _ _ _ _ (by kernel_rfl) rfl rfl rfl (rfl) ?_
            simp only [Act.put, List.setIfInBounds_toArray, List.set_cons_zero, List.set_cons_succ]
            repeat (first
              | (refine wk_move _ (by first | exact wanted_none rfl | exact wanted_yes _ _ rfl rfl) rfl ?_; simp only [Act.put, Act.eval, Array.getD_eq_getD_getElem?, List.getElem?_toArray, List.getElem?_cons_succ, List.getElem?_cons_zero, Option.getD_some, List.setIfInBounds_toArray, List.set_cons_zero, List.set_cons_succ])
              | (refine wk_assign _ (by first | exact wanted_none rfl | exact wanted_yes _ _ rfl rfl) rfl ?_; simp only [Act.put, Act.eval, Array.getD_eq_getD_getElem?, List.getElem?_toArray, List.getElem?_cons_succ, List.getElem?_cons_zero, Option.getD_some, List.setIfInBounds_toArray, List.set_cons_zero, List.set_cons_succ])
              | (refine wk_pickt _ _ _ _ (by first | exact wanted_none rfl | exact wanted_yes _ _ rfl rfl) rfl rfl rfl ?_; simp only [Act.put, Act.eval, Array.getD_eq_getD_getElem?, List.getElem?_toArray, List.getElem?_cons_succ, List.getElem?_cons_zero, Option.getD_some, List.setIfInBounds_toArray, List.set_cons_zero, List.set_cons_succ])
              | (refine wk_pickf _ _ _ _ (by first | exact wanted_none rfl | exact wanted_yes _ _ rfl rfl) rfl rfl rfl ?_; simp only [Act.put, Act.eval, Array.getD_eq_getD_getElem?, List.getElem?_toArray, List.getElem?_cons_succ, List.getElem?_cons_zero, Option.getD_some, List.setIfInBounds_toArray, List.set_cons_zero, List.set_cons_succ])
              | (refine wk_skip (wanted_not _ true false rfl rfl rfl) ?_; simp only [Act.put, List.setIfInBounds_toArray, List.set_cons_zero, List.set_cons_succ])
              | (refine wk_skip (wanted_not _ false true rfl rfl rfl) ?_; simp only [Act.put, List.setIfInBounds_toArray, List.set_cons_zero, List.set_cons_succ])
              | (refine wk_skip (wanted_undef _ _ rfl rfl) ?_; simp only [Act.put, List.setIfInBounds_toArray, List.set_cons_zero, List.set_cons_succ])
              | (refine wk_not true _ _ (by first | exact wanted_none rfl | exact wanted_yes _ _ rfl rfl) rfl rfl ?_; simp only [Act.put, List.setIfInBounds_toArray, List.set_cons_zero, List.set_cons_succ])
              | (refine wk_not false _ _ (by first | exact wanted_none rfl | exact wanted_yes _ _ rfl rfl) rfl rfl ?_; simp only [Act.put, List.setIfInBounds_toArray, List.set_cons_zero, List.set_cons_succ]))
            refine wk_load_row 52 _ g20 52 (blk PB) (0, 0) _ (by kernel_rfl) rfl rfl (fun w' hC => hC.row (R3.out.get 0 rfl)) Tryd.underlying52 rfl (by rw [size_blk, HPBL.out]; exact sizeB) ?_
            simp only [Act.put, List.setIfInBounds_toArray, List.set_cons_zero, List.set_cons_succ]
            refine wk_load_row 52 _ g1 52 (blk b) (0, 0) _ (by kernel_rfl) rfl rfl (fun w' hC => hC.row (R3.out.get 7 rfl)) Tryd.underlying52 rfl (by rw [HBs.out]; exact sizeB) ?_
            simp only [Act.put, List.setIfInBounds_toArray, List.set_cons_zero, List.set_cons_succ]
            refine wk_eql .neq (false) 52 52 _ _ (by first | exact wanted_none rfl | exact wanted_yes _ _ rfl rfl) rfl _ _ rfl rfl (by kernel_rfl) (fun w => HRUN.out w) ?_
            simp only [Act.put, List.setIfInBounds_toArray, List.set_cons_zero, List.set_cons_succ]
            repeat (first
              | (refine wk_move _ (by first | exact wanted_none rfl | exact wanted_yes _ _ rfl rfl) rfl ?_; simp only [Act.put, Act.eval, Array.getD_eq_getD_getElem?, List.getElem?_toArray, List.getElem?_cons_succ, List.getElem?_cons_zero, Option.getD_some, List.setIfInBounds_toArray, List.set_cons_zero, List.set_cons_succ])
              | (refine wk_assign _ (by first | exact wanted_none rfl | exact wanted_yes _ _ rfl rfl) rfl ?_; simp only [Act.put, Act.eval, Array.getD_eq_getD_getElem?, List.getElem?_toArray, List.getElem?_cons_succ, List.getElem?_cons_zero, Option.getD_some, List.setIfInBounds_toArray, List.set_cons_zero, List.set_cons_succ])
              | (refine wk_pickt _ _ _ _ (by first | exact wanted_none rfl | exact wanted_yes _ _ rfl rfl) rfl rfl rfl ?_; simp only [Act.put, Act.eval, Array.getD_eq_getD_getElem?, List.getElem?_toArray, List.getElem?_cons_succ, List.getElem?_cons_zero, Option.getD_some, List.setIfInBounds_toArray, List.set_cons_zero, List.set_cons_succ])
              | (refine wk_pickf _ _ _ _ (by first | exact wanted_none rfl | exact wanted_yes _ _ rfl rfl) rfl rfl rfl ?_; simp only [Act.put, Act.eval, Array.getD_eq_getD_getElem?, List.getElem?_toArray, List.getElem?_cons_succ, List.getElem?_cons_zero, Option.getD_some, List.setIfInBounds_toArray, List.set_cons_zero, List.set_cons_succ])
              | (refine wk_skip (wanted_not _ true false rfl rfl rfl) ?_; simp only [Act.put, List.setIfInBounds_toArray, List.set_cons_zero, List.set_cons_succ])
              | (refine wk_skip (wanted_not _ false true rfl rfl rfl) ?_; simp only [Act.put, List.setIfInBounds_toArray, List.set_cons_zero, List.set_cons_succ])
              | (refine wk_skip (wanted_undef _ _ rfl rfl) ?_; simp only [Act.put, List.setIfInBounds_toArray, List.set_cons_zero, List.set_cons_succ])
              | (refine wk_not true _ _ (by first | exact wanted_none rfl | exact wanted_yes _ _ rfl rfl) rfl rfl ?_; simp only [Act.put, List.setIfInBounds_toArray, List.set_cons_zero, List.set_cons_succ])
              | (refine wk_not false _ _ (by first | exact wanted_none rfl | exact wanted_yes _ _ rfl rfl) rfl rfl ?_; simp only [Act.put, List.setIfInBounds_toArray, List.set_cons_zero, List.set_cons_succ]))
            refine wk_nil ?_
            intro w' hC
            have S1 := Lib.hid (R3.out.since hC)
            clear hC R3 c9
            obtain ⟨⟨y0, y1, y2, y3⟩, b0, b1, b2, b3⟩ := S1.out.cells4 6 rfl
            obtain ⟨⟨a0, a1, a2, a3⟩, _, _, _, _⟩ := S1.out.cells4 2 rfl
            go_wp2_with fail
            have R9 := S1.out.store4 6 rfl (.int .u8 (k : Int)) (.int .u16 (pv : Int)) (.int .u16 (nx : Int)) (.slice A j c)
            refine bodyPost_ret (v := .tuple #[.agg #[.int .u8 (k : Int), .int .u16 (pv : Int), .int .u16 (nx : Int), .slice A j c], .int .i64 0]) (results_cell_slot rfl _ _ g2 25 _ (0, 0) _ _ rfl rfl (R9.get 6 rfl) Tryd.underlying25 rfl sizeShelf) rfl ?_
            refine ⟨_, by rw [HY.out.2], ?_, R9.below⟩
            rw [HY.out.1]
            obtain ⟨A', c', hv, hsf⟩ := R9.shelf (s := S) 1 rfl 8 (fun i hi => by
              rw [Nat.add_comm]
              show (hs.map datT)[i]? = _
              rw [List.getElem?_map, List.getElem?_eq_getElem hi]; rfl) HSC.out HSER.out (by rw [HS1.out]; exact hk256) (by rw [HS2.out]; exact hpv6) (by rw [HS3.out]; exact hnx6) HSM2.out
            cases hv
            refine ⟨A, j, c, hs, ?_, hsf⟩
            unfold shV
            rw [HS1.out, HS2.out, HS3.out]
          · have HNO := Lib.hid (HGN.out (by rw [HGO.out]; simp [hbe]))
            have HRUN : Hid (∀ w : World, (binOp .neq 52 (.agg (blk PB)) (.agg (blk b))).run Tryd.prog w = .ok (.bool true) w) := Lib.hid (fun w => by rw [run_neq_blk w 52 5 256 Tryd.underlying52 Tryd.underlying5 sizeU8 PB b HPBL.out HB.out]; simp [hbe])
            clear hbe
            refine wk_plain_since ?_
            refine wk_field 98 _ 4 257 0 _ _ _ (by first | exact wanted_none rfl | exact wanted_yes _ _ rfl rfl) rfl (by kernel_rfl) (by kernel_rfl) (by kernel_rfl) rfl ?_
            simp only [Act.put, List.setIfInBounds_toArray, List.set_cons_zero, List.set_cons_succ, Nat.zero_add]
            refine wk_load1 _ _ _ _ _ rfl (by kernel_rfl) rfl rfl (fun w' hC => hC.cell c9) Tryd.underlying4 ?_
            simp only [Act.put, List.setIfInBounds_toArray, List.set_cons_zero, List.set_cons_succ]
            refine wk_not true _ _ (by kernel_rfl) rfl rfl ?_
            simp only [Act.put, List.setIfInBounds_toArray, List.set_cons_zero, List.set_cons_succ]
            repeat (first
              | (refine wk_move _ (by first | exact wanted_none rfl | exact wanted_yes _ _ rfl rfl) rfl ?_; simp only [Act.put, Act.eval, Array.getD_eq_getD_getElem?, List.getElem?_toArray, List.getElem?_cons_succ, List.getElem?_cons_zero, Option.getD_some, List.setIfInBounds_toArray, List.set_cons_zero, List.set_cons_succ])
              | (refine wk_assign _ (by first | exact wanted_none rfl | exact wanted_yes _ _ rfl rfl) rfl ?_; simp only [Act.put, Act.eval, Array.getD_eq_getD_getElem?, List.getElem?_toArray, List.getElem?_cons_succ, List.getElem?_cons_zero, Option.getD_some, List.setIfInBounds_toArray, List.set_cons_zero, List.set_cons_succ])
              | (refine wk_pickt _ _ _ _ (by first | exact wanted_none rfl | exact wanted_yes _ _ rfl rfl) rfl rfl rfl ?_; simp only [Act.put, Act.eval, Array.getD_eq_getD_getElem?, List.getElem?_toArray, List.getElem?_cons_succ, List.getElem?_cons_zero, Option.getD_some, List.setIfInBounds_toArray, List.set_cons_zero, List.set_cons_succ])
              | (refine wk_pickf _ _ _ _ (by first | exact wanted_none rfl | exact wanted_yes _ _ rfl rfl) rfl rfl rfl ?_; simp only [Act.put, Act.eval, Array.getD_eq_getD_getElem?, List.getElem?_toArray, List.getElem?_cons_succ, List.getElem?_cons_zero, Option.getD_some, List.setIfInBounds_toArray, List.set_cons_zero, List.set_cons_succ])
              | (refine wk_skip (wanted_not _ true false rfl rfl rfl) ?_; simp only [Act.put, List.setIfInBounds_toArray, List.set_cons_zero, List.set_cons_succ])
              | (refine wk_skip (wanted_not _ false true rfl rfl rfl) ?_; simp only [Act.put, List.setIfInBounds_toArray, List.set_cons_zero, List.set_cons_succ])
              | (refine wk_skip (wanted_undef _ _ rfl rfl) ?_; simp only [Act.put, List.setIfInBounds_toArray, List.set_cons_zero, List.set_cons_succ])
              | (refine wk_not true _ _ (by first | exact wanted_none rfl | exact wanted_yes _ _ rfl rfl) rfl rfl ?_; simp only [Act.put, List.setIfInBounds_toArray, List.set_cons_zero, List.set_cons_succ])
              | (refine wk_not false _ _ (by first | exact wanted_none rfl | exact wanted_yes _ _ rfl rfl) rfl rfl ?_; simp only [Act.put, List.setIfInBounds_toArray, List.set_cons_zero, List.set_cons_succ]))
            refine wk_cmp_int .neq (false) _ _ _ _ _ _ _ (by kernel_rfl) rfl rfl rfl (rfl) ?_
            simp only [Act.put, List.setIfInBounds_toArray, List.set_cons_zero, List.set_cons_succ]
            repeat (first
              | (refine wk_move _ (by first | exact wanted_none rfl | exact wanted_yes _ _ rfl rfl) rfl ?_; simp only [Act.put, Act.eval, Array.getD_eq_getD_getElem?, List.getElem?_toArray, List.getElem?_cons_succ, List.getElem?_cons_zero, Option.getD_some, List.setIfInBounds_toArray, List.set_cons_zero, List.set_cons_succ])
              | (refine wk_assign _ (by first | exact wanted_none rfl | exact wanted_yes _ _ rfl rfl) rfl ?_; simp only [Act.put, Act.eval, Array.getD_eq_getD_getElem?, List.getElem?_toArray, List.getElem?_cons_succ, List.getElem?_cons_zero, Option.getD_some, List.setIfInBounds_toArray, List.set_cons_zero, List.set_cons_succ])
              | (refine wk_pickt _ _ _ _ (by first | exact wanted_none rfl | exact wanted_yes _ _ rfl rfl) rfl rfl rfl ?_; simp only [Act.put, Act.eval, Array.getD_eq_getD_getElem?, List.getElem?_toArray, List.getElem?_cons_succ, List.getElem?_cons_zero, Option.getD_some, List.setIfInBounds_toArray, List.set_cons_zero, List.set_cons_succ])
              | (refine wk_pickf _ _ _ _ (by first | exact wanted_none rfl | exact wanted_yes _ _ rfl rfl) rfl rfl rfl ?_; simp only [Act.put, Act.eval, Array.getD_eq_getD_getElem?, List.getElem?_toArray, List.getElem?_cons_succ, List.getElem?_cons_zero, Option.getD_some, List.setIfInBounds_toArray, List.set_cons_zero, List.set_cons_succ])
              | (refine wk_skip (wanted_not _ true false rfl rfl rfl) ?_; simp only [Act.put, List.setIfInBounds_toArray, List.set_cons_zero, List.set_cons_succ])
              | (refine wk_skip (wanted_not _ false true rfl rfl rfl) ?_; simp only [Act.put, List.setIfInBounds_toArray, List.set_cons_zero, List.set_cons_succ])
              | (refine wk_skip (wanted_undef _ _ rfl rfl) ?_; simp only [Act.put, List.setIfInBounds_toArray, List.set_cons_zero, List.set_cons_succ])
              | (refine wk_not true _ _ (by first | exact wanted_none rfl | exact wanted_yes _ _ rfl rfl) rfl rfl ?_; simp only [Act.put, List.setIfInBounds_toArray, List.set_cons_zero, List.set_cons_succ])
              | (refine wk_not false _ _ (by first | exact wanted_none rfl | exact wanted_yes _ _ rfl rfl) rfl rfl ?_; simp only [Act.put, List.setIfInBounds_toArray, List.set_cons_zero, List.set_cons_succ]))
            refine wk_load_row 52 _ g20 52 (blk PB) (0, 0) _ (by kernel_rfl) rfl rfl (fun w' hC => hC.row (R3.out.get 0 rfl)) Tryd.underlying52 rfl (by rw [size_blk, HPBL.out]; exact sizeB) ?_
            simp only [Act.put, List.setIfInBounds_toArray, List.set_cons_zero, List.set_cons_succ]
            refine wk_load_row 52 _ g1 52 (blk b) (0, 0) _ (by kernel_rfl) rfl rfl (fun w' hC => hC.row (R3.out.get 7 rfl)) Tryd.underlying52 rfl (by rw [HBs.out]; exact sizeB) ?_
            simp only [Act.put, List.setIfInBounds_toArray, List.set_cons_zero, List.set_cons_succ]
            refine wk_eql .neq (true) 52 52 _ _ (by first | exact wanted_none rfl | exact wanted_yes _ _ rfl rfl) rfl _ _ rfl rfl (by kernel_rfl) (fun w => HRUN.out w) ?_
            simp only [Act.put, List.setIfInBounds_toArray, List.set_cons_zero, List.set_cons_succ]
            repeat (first
              | (refine wk_move _ (by first | exact wanted_none rfl | exact wanted_yes _ _ rfl rfl) rfl ?_; simp only [Act.put, Act.eval, Array.getD_eq_getD_getElem?, List.getElem?_toArray, List.getElem?_cons_succ, List.getElem?_cons_zero, Option.getD_some, List.setIfInBounds_toArray, List.set_cons_zero, List.set_cons_succ])
              | (refine wk_assign _ (by first | exact wanted_none rfl | exact wanted_yes _ _ rfl rfl) rfl ?_; simp only [Act.put, Act.eval, Array.getD_eq_getD_getElem?, List.getElem?_toArray, List.getElem?_cons_succ, List.getElem?_cons_zero, Option.getD_some, List.setIfInBounds_toArray, List.set_cons_zero, List.set_cons_succ])
              | (refine wk_pickt _ _ _ _ (by first | exact wanted_none rfl | exact wanted_yes _ _ rfl rfl) rfl rfl rfl ?_; simp only [Act.put, Act.eval, Array.getD_eq_getD_getElem?, List.getElem?_toArray, List.getElem?_cons_succ, List.getElem?_cons_zero, Option.getD_some, List.setIfInBounds_toArray, List.set_cons_zero, List.set_cons_succ])
              | (refine wk_pickf _ _ _ _ (by first | exact wanted_none rfl | exact wanted_yes _ _ rfl rfl) rfl rfl rfl ?_; simp only [Act.put, Act.eval, Array.getD_eq_getD_getElem?, List.getElem?_toArray, List.getElem?_cons_succ, List.getElem?_cons_zero, Option.getD_some, List.setIfInBounds_toArray, List.set_cons_zero, List.set_cons_succ])
              | (refine wk_skip (wanted_not _ true false rfl rfl rfl) ?_; simp only [Act.put, List.setIfInBounds_toArray, List.set_cons_zero, List.set_cons_succ])
              | (refine wk_skip (wanted_not _ false true rfl rfl rfl) ?_; simp only [Act.put, List.setIfInBounds_toArray, List.set_cons_zero, List.set_cons_succ])
              | (refine wk_skip (wanted_undef _ _ rfl rfl) ?_; simp only [Act.put, List.setIfInBounds_toArray, List.set_cons_zero, List.set_cons_succ])
              | (refine wk_not true _ _ (by first | exact wanted_none rfl | exact wanted_yes _ _ rfl rfl) rfl rfl ?_; simp only [Act.put, List.setIfInBounds_toArray, List.set_cons_zero, List.set_cons_succ])
              | (refine wk_not false _ _ (by first | exact wanted_none rfl | exact wanted_yes _ _ rfl rfl) rfl rfl ?_; simp only [Act.put, List.setIfInBounds_toArray, List.set_cons_zero, List.set_cons_succ]))
            refine wk_nil ?_
            intro w' hC
            have S1 := Lib.hid (R3.out.since hC)
            clear hC R3 c9
            obtain ⟨⟨y0, y1, y2, y3⟩, b0, b1, b2, b3⟩ := S1.out.cells4 6 rfl
            go_wp2_with fail
            have R9 := S1.out.store4 6 rfl (.int .u8 0) (.int .u16 0) (.int .u16 0) (.slice none 0 0)
            refine bodyPost_ret (v := .tuple #[.agg #[.int .u8 0, .int .u16 0, .int .u16 0, .slice none 0 0], .int .i64 250]) (results_cell_slot rfl _ _ g2 25 _ (0, 0) _ _ rfl rfl (R9.get 6 rfl) Tryd.underlying25 rfl sizeShelf) rfl ?_
            exact ⟨_, by rw [HNO.out.2], by rw [HNO.out.1]; exact emptySh_shelf _, R9.below⟩
        · have HNO := Lib.hid (HGN.out (by rw [HGO.out]; rfl))
          refine wk_plain_since ?_
          refine wk_field 98 _ 4 257 0 _ _ _ (by first | exact wanted_none rfl | exact wanted_yes _ _ rfl rfl) rfl (by kernel_rfl) (by kernel_rfl) (by kernel_rfl) rfl ?_
          simp only [Act.put, List.setIfInBounds_toArray, List.set_cons_zero, List.set_cons_succ, Nat.zero_add]
          refine wk_load1 _ _ _ _ _ rfl (by kernel_rfl) rfl rfl (fun w' hC => hC.cell c9) Tryd.underlying4 ?_
          simp only [Act.put, List.setIfInBounds_toArray, List.set_cons_zero, List.set_cons_succ]
          refine wk_not true _ _ (by kernel_rfl) rfl rfl ?_
          simp only [Act.put, List.setIfInBounds_toArray, List.set_cons_zero, List.set_cons_succ]
          repeat (first
            | (refine wk_move _ (by first | exact wanted_none rfl | exact wanted_yes _ _ rfl rfl) rfl ?_; simp only [Act.put, Act.eval, Array.getD_eq_getD_getElem?, List.getElem?_toArray, List.getElem?_cons_succ, List.getElem?_cons_zero, Option.getD_some, List.setIfInBounds_toArray, List.set_cons_zero, List.set_cons_succ])
            | (refine wk_assign _ (by first | exact wanted_none rfl | exact wanted_yes _ _ rfl rfl) rfl ?_; simp only [Act.put, Act.eval, Array.getD_eq_getD_getElem?, List.getElem?_toArray, List.getElem?_cons_succ, List.getElem?_cons_zero, Option.getD_some, List.setIfInBounds_toArray, List.set_cons_zero, List.set_cons_succ])
            | (refine wk_pickt _ _ _ _ (by first | exact wanted_none rfl | exact wanted_yes _ _ rfl rfl) rfl rfl rfl ?_; simp only [Act.put, Act.eval, Array.getD_eq_getD_getElem?, List.getElem?_toArray, List.getElem?_cons_succ, List.getElem?_cons_zero, Option.getD_some, List.setIfInBounds_toArray, List.set_cons_zero, List.set_cons_succ])
            | (refine wk_pickf _ _ _ _ (by first | exact wanted_none rfl | exact wanted_yes _ _ rfl rfl) rfl rfl rfl ?_; simp only [Act.put, Act.eval, Array.getD_eq_getD_getElem?, List.getElem?_toArray, List.getElem?_cons_succ, List.getElem?_cons_zero, Option.getD_some, List.setIfInBounds_toArray, List.set_cons_zero, List.set_cons_succ])
            | (refine wk_skip (wanted_not _ true false rfl rfl rfl) ?_; simp only [Act.put, List.setIfInBounds_toArray, List.set_cons_zero, List.set_cons_succ])
            | (refine wk_skip (wanted_not _ false true rfl rfl rfl) ?_; simp only [Act.put, List.setIfInBounds_toArray, List.set_cons_zero, List.set_cons_succ])
            | (refine wk_skip (wanted_undef _ _ rfl rfl) ?_; simp only [Act.put, List.setIfInBounds_toArray, List.set_cons_zero, List.set_cons_succ])
            | (refine wk_not true _ _ (by first | exact wanted_none rfl | exact wanted_yes _ _ rfl rfl) rfl rfl ?_; simp only [Act.put, List.setIfInBounds_toArray, List.set_cons_zero, List.set_cons_succ])
            | (refine wk_not false _ _ (by first | exact wanted_none rfl | exact wanted_yes _ _ rfl rfl) rfl rfl ?_; simp only [Act.put, List.setIfInBounds_toArray, List.set_cons_zero, List.set_cons_succ]))
          refine wk_cmp_int .neq (true) _ _ _ _ _ _ _ (by kernel_rfl) rfl rfl rfl (rfl) ?_
          simp only [Act.put, List.setIfInBounds_toArray, List.set_cons_zero, List.set_cons_succ]
          repeat (first
            | (refine wk_move _ (by first | exact wanted_none rfl | exact wanted_yes _ _ rfl rfl) rfl ?_; simp only [Act.put, Act.eval, Array.getD_eq_getD_getElem?, List.getElem?_toArray, List.getElem?_cons_succ, List.getElem?_cons_zero, Option.getD_some, List.setIfInBounds_toArray, List.set_cons_zero, List.set_cons_succ])
            | (refine wk_assign _ (by first | exact wanted_none rfl | exact wanted_yes _ _ rfl rfl) rfl ?_; simp only [Act.put, Act.eval, Array.getD_eq_getD_getElem?, List.getElem?_toArray, List.getElem?_cons_succ, List.getElem?_cons_zero, Option.getD_some, List.setIfInBounds_toArray, List.set_cons_zero, List.set_cons_succ])
            | (refine wk_pickt _ _ _ _ (by first | exact wanted_none rfl | exact wanted_yes _ _ rfl rfl) rfl rfl rfl ?_; simp only [Act.put, Act.eval, Array.getD_eq_getD_getElem?, List.getElem?_toArray, List.getElem?_cons_succ, List.getElem?_cons_zero, Option.getD_some, List.setIfInBounds_toArray, List.set_cons_zero, List.set_cons_succ])
            | (refine wk_pickf _ _ _ _ (by first | exact wanted_none rfl | exact wanted_yes _ _ rfl rfl) rfl rfl rfl ?_; simp only [Act.put, Act.eval, Array.getD_eq_getD_getElem?, List.getElem?_toArray, List.getElem?_cons_succ, List.getElem?_cons_zero, Option.getD_some, List.setIfInBounds_toArray, List.set_cons_zero, List.set_cons_succ])
            | (refine wk_skip (wanted_not _ true false rfl rfl rfl) ?_; simp only [Act.put, List.setIfInBounds_toArray, List.set_cons_zero, List.set_cons_succ])
            | (refine wk_skip (wanted_not _ false true rfl rfl rfl) ?_; simp only [Act.put, List.setIfInBounds_toArray, List.set_cons_zero, List.set_cons_succ])
            | (refine wk_skip (wanted_undef _ _ rfl rfl) ?_; simp only [Act.put, List.setIfInBounds_toArray, List.set_cons_zero, List.set_cons_succ])
            | (refine wk_not true _ _ (by first | exact wanted_none rfl | exact wanted_yes _ _ rfl rfl) rfl rfl ?_; simp only [Act.put, List.setIfInBounds_toArray, List.set_cons_zero, List.set_cons_succ])
            | (refine wk_not false _ _ (by first | exact wanted_none rfl | exact wanted_yes _ _ rfl rfl) rfl rfl ?_; simp only [Act.put, List.setIfInBounds_toArray, List.set_cons_zero, List.set_cons_succ]))
          refine wk_nil ?_
          intro w' hC
          have S1 := Lib.hid (R3.out.since hC)
          clear hC R3 c9
          obtain ⟨⟨y0, y1, y2, y3⟩, b0, b1, b2, b3⟩ := S1.out.cells4 6 rfl
          go_wp2_with fail
          have R9 := S1.out.store4 6 rfl (.int .u8 0) (.int .u16 0) (.int .u16 0) (.slice none 0 0)
          refine bodyPost_ret (v := .tuple #[.agg #[.int .u8 0, .int .u16 0, .int .u16 0, .slice none 0 0], .int .i64 250]) (results_cell_slot rfl _ _ g2 25 _ (0, 0) _ _ rfl rfl (R9.get 6 rfl) Tryd.underlying25 rfl sizeShelf) rfl ?_
          exact ⟨_, by rw [HNO.out.2], by rw [HNO.out.1]; exact emptySh_shelf _, R9.below⟩
end
end Go.Proofs.YtcepfmjebgklfaaDoor
