/- The field layer: the law FieldPrefix holds of every row of items. -/
import Derived.Test.YtnfmdcohacflmaaDoorFieldPut
import Derived.Test.YtnfmdcohacflmaaDoorFieldHead
import Derived.Test.YtnfmdcohacflmaaDoorPair
namespace Go.Proofs.YtnfmdcohacflmaaDoor
open Go.RowKit
set_option linter.unusedSimpArgs false
set_option linter.unusedVariables false
set_option maxRecDepth 100000
def catB (l : List ItemL) : List UInt8 := l.flatMap itemB
def badB (l : List ItemL) : Bool := l.any (fun x => !itemOk x)
theorem length_catB (l : List ItemL) : (catB l).length ≤ 201 * l.length := by
  induction l with
  | nil => simp [catB]
  | cons x l ih =>
    have := length_itemB x
    unfold catB at ih ⊢
    rw [List.flatMap_cons, List.length_append, List.length_cons]
    omega
theorem catB_take (l : List ItemL) (j : Nat) (h : j < l.length) : catB (l.take (j + 1)) = catB (l.take j) ++ itemB l[j] := by
  unfold catB
  rw [List.take_succ_eq_append_getElem h, List.flatMap_append]
  simp only [List.flatMap_cons, List.flatMap_nil, List.append_nil]
theorem badB_take (l : List ItemL) (j : Nat) (h : j < l.length) : badB (l.take (j + 1)) = (badB (l.take j) || !itemOk l[j]) := by
  unfold badB
  rw [List.take_succ_eq_append_getElem h, List.any_append]
  simp only [List.any_cons, List.any_nil, Bool.or_false]
theorem catB_split (l : List ItemL) (k : Nat) : catB l = catB (l.take k) ++ catB (l.drop k) := by
  unfold catB
  rw [← List.flatMap_append, List.take_append_drop]
theorem badB_split (l : List ItemL) (k : Nat) (h : badB l = false) : badB (l.take k) = false := by
  conv at h => lhs; rw [← List.take_append_drop k l]
  unfold badB at h ⊢
  rw [List.any_append, Bool.or_eq_false_iff] at h
  exact h.1
/-- What Done answers. -/
def doneOk (bad : Bool) (L : List UInt8) : Bool := !bad && decide (L.length ≤ 251)
def doneV (m : UInt8) (bad : Bool) (L : List UInt8) : List UInt8 := if doneOk bad L then doneB m L else List.replicate 256 0
def doneN (bad : Bool) (L : List UInt8) : Int := if doneOk bad L then 0 else 3
theorem length_doneV (m : UInt8) (bad : Bool) (L : List UInt8) : (doneV m bad L).length = 256 := by
  unfold doneV
  split
  · rename_i h
    simp only [doneOk, Bool.and_eq_true, decide_eq_true_eq] at h
    exact length_doneB m L h.2
  · simp
theorem zerosB256 : zeros 256 (.int .u8 0) = blk (List.replicate 256 0) := by kernel_rfl
theorem wrdone_all {w0 W : World} {g : Nat} {bad : Bool} {L : List UInt8} {l : List Thing} (R : Held w0 W (wrT g bad L :: l)) (m : UInt8) :
    Calls Tryd.prog 9 #[.pointer (some ⟨g, 0, none⟩), .int .u8 (m.toNat : Int)] W fun e w' => e = .returned (.tuple #[.agg (blk (doneV m bad L)), .int .i64 (doneN bad L)]) ∧ Below W.heap.size W w' := by
  unfold doneV doneN
  cases h : doneOk bad L with
  | true =>
    simp only [doneOk, Bool.and_eq_true, decide_eq_true_eq, Bool.not_eq_true'] at h
    obtain ⟨h1, h2⟩ := h
    subst h1
    exact wrdone_is R m h2
  | false =>
    have h' : bad = true ∨ 251 < L.length := by
      cases bad with
      | true => exact .inl rfl
      | false => exact .inr (by simp [doneOk] at h; omega)
    have := wrdone_long R m h'
    rw [zerosB256] at this
    exact this
theorem take_prefix (m : UInt8) (L M : List UInt8) (h : (L ++ M).length ≤ 251) : (doneB m (L ++ M)).take (1 + L.length) = m :: L := by
  have h1 := congrArg (List.take (1 + L.length)) (take_doneB m (L ++ M) h)
  rw [List.length_append] at h
  rw [List.take_take, List.take_take, Nat.min_eq_left (by omega)] at h1
  rw [h1, Nat.add_comm]
  unfold insideB
  rw [List.take_succ_cons, List.append_assoc, List.take_left]
theorem zero_behind (m : UInt8) (L : List UInt8) (h : L.length ≤ 251) (i : Nat) (h1 : 1 + L.length ≤ i) (h2 : i < 252) : (doneB m L)[i]? = some 0 := by
  obtain ⟨j, rfl⟩ : ∃ j, i = j + 1 := ⟨i - 1, by omega⟩
  rw [get_doneB m L h _ h2, get_inside m L j (by omega) (by omega), if_neg (by omega)]
theorem take_at {w : World} {g : Nat} {b : List UInt8} {T : TypeId} (h : w.heap[g]? = some (.cells (blk b) T (0, 0))) (k : Nat) : BytesAt w g 0 (b.take k) := by
  intro j hj
  rw [Nat.zero_add, cell_of_row w g j _ _ _ h, blk, List.getElem?_toArray, List.getElem?_map, List.getElem?_take, if_pos (by rw [List.length_take] at hj; omega)]
theorem sizeItem : (Tryd.prog.info? 31).map (·.size) = some 4 := by kernel_rfl
theorem Held.swap2 {w0 W : World} {l : List Thing} {x y : Thing} (R : Held w0 W (x :: y :: l)) : Held w0 W (y :: x :: l) := R.perm (.swap y x l)
/-- The end of the law: the blocks are as they should be. -/
structure PreEnd (m : UInt8) (LW LV : List UInt8) (bw bv : Bool) (z : Nat) : Prop where
  size : z = LV.length
  ok : doneOk bw LW = true → doneOk bv LV = true ∧ (doneV m bw LW).take (1 + z) = (doneV m bv LV).take (1 + z) ∧ 1 + z ≤ 252 ∧ ∀ i, 1 + z ≤ i → i < 252 → (doneV m bv LV)[i]? = some 0
theorem preEnd (m : UInt8) (l : List ItemL) (k : Nat) (hk : k ≤ l.length) : PreEnd m (catB l) (catB (l.take k)) (badB l) (badB (l.take k)) (catB (l.take k)).length := by
  refine ⟨rfl, fun h => ?_⟩
  have h0 := h
  simp only [doneOk, Bool.and_eq_true, decide_eq_true_eq, Bool.not_eq_true'] at h
  obtain ⟨h1, h2⟩ := h
  have e := catB_split l k
  have hl : (catB (l.take k)).length ≤ 251 := by
    have := congrArg List.length e
    rw [List.length_append] at this
    omega
  have hv : doneOk (badB (l.take k)) (catB (l.take k)) = true := by
    simp only [doneOk, Bool.and_eq_true, decide_eq_true_eq, Bool.not_eq_true']
    exact ⟨badB_split l k h1, hl⟩
  refine ⟨hv, ?_, by omega, fun i hi1 hi2 => ?_⟩
  · unfold doneV
    rw [if_pos h0, if_pos hv]
    rw [e] at h2 ⊢
    rw [take_prefix m _ _ h2]
    have := take_prefix m (catB (l.take k)) [] (by simpa using hl)
    rw [List.append_nil] at this
    rw [this]
  · unfold doneV
    rw [if_pos hv]
    exact zero_behind m _ hl i hi1 hi2
set_option maxHeartbeats 8000000 in
theorem fieldprefix_any (A : Option Addr) (n c : Nat) (l : List ItemL) (m k0 : Nat) (hn : n ≤ 9223372036854775807) (hm : m < 256) (hk : k0 < 256) (w : World) (hl : ItemsIn w A n l) :
    Calls Tryd.prog 3 #[.slice A n c, .int .u8 (m : Int), .int .u8 (k0 : Int)] w fun e w' => e = .returned (.bool true) ∧ Below w.heap.size w w' := by
  have HL := Lib.hid hl
  have HM : Hid ((m : Int) = (((UInt8.ofNat m).toNat : Nat) : Int)) := Lib.hid (by rw [UInt8.toNat_ofNat']; omega)
  generalize UInt8.ofNat m = mm at HM
  clear hl
  go_enter Tryd.func3, Tryd.ntmps3
  go_wp2_with fail
  refine (fgreat_any _ A n c hn l HL.out).mono ?_
  rintro e w2 ⟨r, rfl, hr, rfl⟩
  cases r with
  | true =>
    clear hr
    go_wp2_with (go_at_call 6; refine (fieldhead_any _).mono ?_; rintro e w3 ⟨rfl, hb⟩; have HB := Lib.hid hb; clear hb)
    go_ret
    exact ⟨rfl, HB.out⟩
  | false =>
    have h100 : n ≤ 100 := hr rfl
    clear hr hn
    obtain ⟨k, hkk⟩ : ∃ k, k = k0 % (n + 1) := ⟨_, rfl⟩
    have hkn : k ≤ n := by rw [hkk]; have := Nat.mod_lt k0 (show 0 < n + 1 by omega); omega
    have hrem : ((k0 : Int) % ((n : Int) + 1)) = (k : Int) := by rw [hkk]; push_cast; rfl
    have HREM := Lib.hid hrem
    have HCV : Hid (∀ w : World, (convert 5 3 (.int .u8 (k0 : Int))).run Tryd.prog w = .ok (.int .i64 (k0 : Int)) w) := Lib.hid (fun w => run_conv_int _ _ .u8 .i64 Tryd.underlying5 Tryd.underlying3 _ (by rw [IntKind.wrap_i64]; omega) w)
    have hconv := HCV.out
    clear hkk hrem hk hm
    go_upto_region 4 with (fail)
    rw [HREM.out]
    clear hconv
    go_upto_region 5 with (first
      | (go_at_call 7; refine (wrnew_is (Held.start w)).mono ?_; rintro e w3 ⟨g1, rfl, hR⟩; have R1 := Lib.hid hR; clear hR)
      | (go_at_call 7; refine (wrnew_is R1.out).mono ?_; rintro e w4 ⟨g2, rfl, hR⟩; have R2 := Lib.hid hR.swap2; clear hR R1))
    go_wp2_with fail
    go_loopw [10, 11, 12, 13] (fun z i _ _ wr => ∃ j : Nat, j ≤ n ∧ i = .int .i64 (j : Int) ∧ z = .int .i64 ((catB (l.take (min j k))).length : Int) ∧ Held w wr [wrT g1 (badB (l.take j)) (catB (l.take j)), wrT g2 (badB (l.take (min j k))) (catB (l.take (min j k)))]) (fun _ i _ _ _ => n - (intOf i).toNat)
    case atStart => exact ⟨0, by omega, rfl, by simp [catB], by simpa [catB, badB] using R2.out⟩
    case round =>
      obtain ⟨j, hj, rfl, rfl, hR⟩ := hrel
      have R3 := Lib.hid hR
      clear hR R2
      by_cases hlt : j < n
      · have hjl : j < l.length := by rw [HL.out.len]; exact hlt
        obtain ⟨b, off, hA, hb, hr⟩ := HL.out.cells j hjl
        subst hA
        have hx := HL.out.ok _ (List.getElem_mem hjl)
        have e1 := catB_take l j hjl
        have e2 := badB_take l j hjl
        have e3 : j < k → catB (l.take (min (j + 1) k)) = catB (l.take (min j k)) ++ itemB l[j] := fun h => by rw [Nat.min_eq_left (by omega), Nat.min_eq_left (by omega)]; exact e1
        have e4 : j < k → badB (l.take (min (j + 1) k)) = (badB (l.take (min j k)) || !itemOk l[j]) := fun h => by rw [Nat.min_eq_left (by omega), Nat.min_eq_left (by omega)]; exact e2
        have e5 : ¬ j < k → min (j + 1) k = min j k := fun h => by omega
        have l1 := length_catB (l.take j)
        have l2 := length_catB (l.take (min j k))
        have l3 := length_itemB l[j]
        rw [List.length_take] at l1 l2
        generalize l[j] = x at hr hx e1 e2 e3 e4 l3
        obtain ⟨LW, hLW⟩ : ∃ LW, LW = catB (l.take j) := ⟨_, rfl⟩
        obtain ⟨LV, hLV⟩ : ∃ LV, LV = catB (l.take (min j k)) := ⟨_, rfl⟩
        rw [← hLW] at R3 e1 l1
        rw [← hLV] at R3 e3 l2 ⊢
        have l1' : LW.length ≤ 20100 := by omega
        have l2' : LV.length ≤ 20100 := by omega
        have HX := Lib.hid hx
        have HRG : Hid (∀ w', Below w.heap.size w w' → w'.rangeAt b (off + j * 4) (itemV x).toList) := Lib.hid (fun w' hw' i v hv => (hw'.cell hb).trans (hr i v hv))
        have E1 := Lib.hid e1
        have E2 := Lib.hid e2
        have E3 := Lib.hid e3
        have E4 := Lib.hid e4
        have E5 := Lib.hid e5
        have HLV := Lib.hid hLV
        obtain ⟨S, hS⟩ : ∃ S : ByteArray, S = ⟨(itemB x).toArray⟩ := ⟨_, rfl⟩
        have HSZ : Hid (S.size = (itemB x).length) := Lib.hid (by rw [hS]; simp [ByteArray.size])
        have HS := Lib.hid hS
        clear l1 l2 hr hb hx e1 e2 e3 e4 e5 hLW hLV hS
        go_wp2_with (refine wpList_load_arr rfl 31 _ rfl b (off + j * 4) rfl (itemV x) _ (HRG.out _ R3.out.below) Tryd.underlying31 rfl sizeItem ?_)
        refine (put_is R3.out x HX.out (by omega)).mono ?_
        rintro e w5 ⟨rfl, hR⟩
        rw [← HS.out]
        rw [← E1.out, ← E2.out] at hR
        have R4 := Lib.hid hR
        clear hR R3
        by_cases hjk : j < k
        · have HJK : Hid (j < k) := Lib.hid hjk
          go_wp2_with (refine wpList_load_arr rfl 31 _ rfl b (off + j * 4) rfl (itemV x) _ (HRG.out _ R4.out.below) Tryd.underlying31 rfl sizeItem ?_)
          refine (put_is R4.out.swap2 x HX.out (by omega)).mono ?_
          rintro e w6 ⟨rfl, hR⟩
          rw [← HS.out]
          rw [← E3.out hjk, ← E4.out hjk] at hR
          have R5 := Lib.hid hR.swap2
          have HZ : Hid ((LV.length : Int) + (S.size : Int) = ((catB (l.take (min (j + 1) k))).length : Int)) := Lib.hid (by rw [E3.out hjk, List.length_append, HSZ.out]; push_cast; rfl)
          have HWR : Hid (wrap64 ((catB (l.take (min (j + 1) k))).length : Int) = ((catB (l.take (min (j + 1) k))).length : Int)) := Lib.hid (by rw [← HZ.out]; have := HSZ.out; unfold wrap64; omega)
          clear hR R4
          go_wp2_with fail
          rw [HZ.out]
          go_roundw
          case rel => exact ⟨j + 1, by omega, by go_num, by rw [HWR.out], R5.out⟩
          case measure => simp [intOf]; omega
        · have e6 := E5.out hjk
          have R5 := Lib.hid R4.out
          clear R4
          go_wp2_with fail
          go_roundw
          case rel => exact ⟨j + 1, by omega, by go_num, by rw [e6, ← HLV.out], by rw [e6, ← HLV.out]; exact R5.out⟩
          case measure => simp [intOf]; omega
      · obtain rfl : j = n := by omega
        have hll := HL.out.len
        have e1 : l.take j = l := List.take_of_length_le (by omega)
        have e2 : min j k = k := by omega
        rw [e1, e2] at R3
        rw [e2]
        have HP := Lib.hid (preEnd mm l k (by omega))
        obtain ⟨z, hz⟩ : ∃ z, z = (catB (l.take k)).length := ⟨_, rfl⟩
        rw [← hz] at HP ⊢
        have hzl : z ≤ 201 * 100 := by
          have := length_catB (l.take k)
          rw [List.length_take] at this
          omega
        generalize catB l = LW at R3 HP
        generalize badB l = bw at R3 HP
        generalize catB (l.take k) = LV at R3 HP
        generalize badB (l.take k) = bv at R3 HP
        obtain ⟨BW, hBW⟩ : ∃ BW, BW = doneV mm bw LW := ⟨_, rfl⟩
        obtain ⟨BV, hBV⟩ : ∃ BV, BV = doneV mm bv LV := ⟨_, rfl⟩
        have hlw : BW.length = 256 := by rw [hBW]; exact length_doneV _ _ _
        have hlv : BV.length = 256 := by rw [hBV]; exact length_doneV _ _ _
        have HBWS : Hid ((blk BW).size = 256) := Lib.hid (by rw [size_blk, hlw])
        have HBVS : Hid ((blk BV).size = 256) := Lib.hid (by rw [size_blk, hlv])
        have HD1 : Hid (∀ w1 l1, Held w w1 (wrT g1 bw LW :: l1) → Calls Tryd.prog 9 #[.pointer (some ⟨g1, 0, none⟩), .int .u8 (m : Int)] w1 fun e w' => e = .returned (.tuple #[.agg (blk BW), .int .i64 (doneN bw LW)]) ∧ Below w1.heap.size w1 w') := Lib.hid (fun w1 l1 R => by rw [hBW, HM.out]; exact wrdone_all R mm)
        have HD2 : Hid (∀ w1 l1, Held w w1 (wrT g2 bv LV :: l1) → Calls Tryd.prog 9 #[.pointer (some ⟨g2, 0, none⟩), .int .u8 (m : Int)] w1 fun e w' => e = .returned (.tuple #[.agg (blk BV), .int .i64 (doneN bv LV)]) ∧ Below w1.heap.size w1 w') := Lib.hid (fun w1 l1 R => by rw [hBV, HM.out]; exact wrdone_all R mm)
        have hok := HP.out.ok
        rw [← hBW, ← hBV] at hok
        obtain ⟨ow, how⟩ : ∃ ow, ow = doneOk bw LW := ⟨_, rfl⟩
        obtain ⟨ov, hov⟩ : ∃ ov, ov = doneOk bv LV := ⟨_, rfl⟩
        obtain ⟨nw, hnw⟩ : ∃ nw, nw = doneN bw LW := ⟨_, rfl⟩
        obtain ⟨nv, hnv⟩ : ∃ nv, nv = doneN bv LV := ⟨_, rfl⟩
        rw [← how, ← hov] at hok
        rw [← hnw] at HD1
        rw [← hnv] at HD2
        have HNW : Hid (nw = if ow then 0 else 3) := Lib.hid (by rw [hnw, how]; rfl)
        have HNV : Hid (nv = if ov then 0 else 3) := Lib.hid (by rw [hnv, hov]; rfl)
        have HOK := Lib.hid hok
        have HLWL := Lib.hid hlw
        have HLVL := Lib.hid hlv
        clear hll e1 e2 HP hz hBW hBV hlw hlv hok how hov hnw hnv HL
        go_wp2_with fail
        refine (HD1.out _ _ R3.out).mono ?_
        rintro e w5 ⟨rfl, hb⟩
        have q1 := (R3.out.call hb).alloc (blk BW) 33
        clear hb R3
        go_upto_region 16 with (first | refine wpList_alloc_row rfl 33 rfl _ zeroB ?_ | refine wpList_store_new rfl 33 _ _ rfl _ (blk BW) _ rfl rfl (by rw [HBWS.out]; exact sizeB) (by rw [HBWS.out, size_zeros]) (blk_one _) ?_)
        obtain ⟨W5, hW⟩ : ∃ W, W = w5.alloc (.cells (blk BW) 33) := ⟨_, rfl⟩
        rw [← hW] at q1 ⊢
        clear hW
        obtain ⟨ga, hg⟩ : ∃ g, g = w5.heap.size := ⟨_, rfl⟩
        rw [← hg] at q1 ⊢
        clear hg
        have R5 := Lib.hid q1
        clear q1
        go_wp2_with fail
        refine (HD2.out _ _ (R5.out.pull 2 rfl)).mono ?_
        rintro e w6 ⟨rfl, hb⟩
        have q1 := (R5.out.call hb).alloc (blk BV) 33
        clear hb R5
        go_upto_region 17 with (first | refine wpList_alloc_row rfl 33 rfl _ zeroB ?_ | refine wpList_store_new rfl 33 _ _ rfl _ (blk BV) _ rfl rfl (by rw [HBVS.out]; exact sizeB) (by rw [HBVS.out, size_zeros]) (blk_one _) ?_)
        obtain ⟨W6, hW⟩ : ∃ W, W = w6.alloc (.cells (blk BV) 33) := ⟨_, rfl⟩
        rw [← hW] at q1 ⊢
        clear hW
        obtain ⟨gb, hg⟩ : ∃ g, g = w6.heap.size := ⟨_, rfl⟩
        rw [← hg] at q1 ⊢
        clear hg
        have R6 := Lib.hid q1
        clear q1
        cases ow with
        | false =>
          have hnw := HNW.out
          rw [if_neg (by simp)] at hnw
          subst hnw
          go_wp2_with (go_at_call 6; refine (fieldhead_any _).mono ?_; rintro e w7 ⟨rfl, hb⟩; have HB := Lib.hid (R6.out.call hb); clear hb)
          go_ret
          exact ⟨rfl, HB.out.below⟩
        | true =>
          have hnw := HNW.out
          rw [if_pos rfl] at hnw
          subst hnw
          obtain ⟨rfl, h2, h3, h4⟩ := HOK.out rfl
          have hnv := HNV.out
          rw [if_pos rfl] at hnv
          subst hnv
          have H4 := Lib.hid h4
          have HT : Hid (BW.take (1 + z) = BV.take (1 + z)) := Lib.hid h2
          have HLT : Hid ((BW.take (1 + z)).length = 1 + z) := Lib.hid (by rw [List.length_take, HLWL.out]; omega)
          have HLT2 : Hid ((BV.take (1 + z)).length = 1 + z) := Lib.hid (by rw [← h2]; exact HLT.out)
          have HA1 : Hid (IntKind.i64.wrap ((1 : Int) + (z : Int)) = ((1 + z : Nat) : Int)) := Lib.hid (by rw [IntKind.wrap_i64]; omega)
          clear h2 h4
          go_upto_region 19 with (fail)
          refine wk_region_since (by kernel_rfl) (by kernel_rfl) ?_
          repeat (first
            | (refine wk_move _ (by first | exact wanted_none rfl | exact wanted_yes _ _ rfl rfl) rfl ?_; simp only [Act.put, Act.eval, Array.getD_eq_getD_getElem?, List.getElem?_toArray, List.getElem?_cons_succ, List.getElem?_cons_zero, Option.getD_some, List.setIfInBounds_toArray, List.set_cons_zero, List.set_cons_succ])
            | (refine wk_assign _ (by first | exact wanted_none rfl | exact wanted_yes _ _ rfl rfl) rfl ?_; simp only [Act.put, Act.eval, Array.getD_eq_getD_getElem?, List.getElem?_toArray, List.getElem?_cons_succ, List.getElem?_cons_zero, Option.getD_some, List.setIfInBounds_toArray, List.set_cons_zero, List.set_cons_succ])
            | (refine wk_pickt _ _ _ _ (by first | exact wanted_none rfl | exact wanted_yes _ _ rfl rfl) rfl rfl rfl ?_; simp only [Act.put, Act.eval, Array.getD_eq_getD_getElem?, List.getElem?_toArray, List.getElem?_cons_succ, List.getElem?_cons_zero, Option.getD_some, List.setIfInBounds_toArray, List.set_cons_zero, List.set_cons_succ])
            | (refine wk_pickf _ _ _ _ (by first | exact wanted_none rfl | exact wanted_yes _ _ rfl rfl) rfl rfl rfl ?_; simp only [Act.put, Act.eval, Array.getD_eq_getD_getElem?, List.getElem?_toArray, List.getElem?_cons_succ, List.getElem?_cons_zero, Option.getD_some, List.setIfInBounds_toArray, List.set_cons_zero, List.set_cons_succ])
            | (refine wk_skip (wanted_not _ true false rfl rfl rfl) ?_; simp only [Act.put, List.setIfInBounds_toArray, List.set_cons_zero, List.set_cons_succ])
            | (refine wk_skip (wanted_not _ false true rfl rfl rfl) ?_; simp only [Act.put, List.setIfInBounds_toArray, List.set_cons_zero, List.set_cons_succ])
            | (refine wk_skip (wanted_undef _ _ rfl rfl) ?_; simp only [Act.put, List.setIfInBounds_toArray, List.set_cons_zero, List.set_cons_succ])
            | (refine wk_not true _ _ (by first | exact wanted_none rfl | exact wanted_yes _ _ rfl rfl) rfl rfl ?_; simp only [Act.put, List.setIfInBounds_toArray, List.set_cons_zero, List.set_cons_succ])
            | (refine wk_not false _ _ (by first | exact wanted_none rfl | exact wanted_yes _ _ rfl rfl) rfl rfl ?_; simp only [Act.put, List.setIfInBounds_toArray, List.set_cons_zero, List.set_cons_succ]))
          refine wk_cmp_int .neq (false) _ _ _ _ _ _ _ (by kernel_rfl) rfl rfl rfl (by simp [cmpInt]) ?_
          simp only [Act.put, List.setIfInBounds_toArray, List.set_cons_zero, List.set_cons_succ]
          repeat (first
            | (refine wk_move _ (by first | exact wanted_none rfl | exact wanted_yes _ _ rfl rfl) rfl ?_; simp only [Act.put, Act.eval, Array.getD_eq_getD_getElem?, List.getElem?_toArray, List.getElem?_cons_succ, List.getElem?_cons_zero, Option.getD_some, List.setIfInBounds_toArray, List.set_cons_zero, List.set_cons_succ])
            | (refine wk_assign _ (by first | exact wanted_none rfl | exact wanted_yes _ _ rfl rfl) rfl ?_; simp only [Act.put, Act.eval, Array.getD_eq_getD_getElem?, List.getElem?_toArray, List.getElem?_cons_succ, List.getElem?_cons_zero, Option.getD_some, List.setIfInBounds_toArray, List.set_cons_zero, List.set_cons_succ])
            | (refine wk_pickt _ _ _ _ (by first | exact wanted_none rfl | exact wanted_yes _ _ rfl rfl) rfl rfl rfl ?_; simp only [Act.put, Act.eval, Array.getD_eq_getD_getElem?, List.getElem?_toArray, List.getElem?_cons_succ, List.getElem?_cons_zero, Option.getD_some, List.setIfInBounds_toArray, List.set_cons_zero, List.set_cons_succ])
            | (refine wk_pickf _ _ _ _ (by first | exact wanted_none rfl | exact wanted_yes _ _ rfl rfl) rfl rfl rfl ?_; simp only [Act.put, Act.eval, Array.getD_eq_getD_getElem?, List.getElem?_toArray, List.getElem?_cons_succ, List.getElem?_cons_zero, Option.getD_some, List.setIfInBounds_toArray, List.set_cons_zero, List.set_cons_succ])
            | (refine wk_skip (wanted_not _ true false rfl rfl rfl) ?_; simp only [Act.put, List.setIfInBounds_toArray, List.set_cons_zero, List.set_cons_succ])
            | (refine wk_skip (wanted_not _ false true rfl rfl rfl) ?_; simp only [Act.put, List.setIfInBounds_toArray, List.set_cons_zero, List.set_cons_succ])
            | (refine wk_skip (wanted_undef _ _ rfl rfl) ?_; simp only [Act.put, List.setIfInBounds_toArray, List.set_cons_zero, List.set_cons_succ])
            | (refine wk_not true _ _ (by first | exact wanted_none rfl | exact wanted_yes _ _ rfl rfl) rfl rfl ?_; simp only [Act.put, List.setIfInBounds_toArray, List.set_cons_zero, List.set_cons_succ])
            | (refine wk_not false _ _ (by first | exact wanted_none rfl | exact wanted_yes _ _ rfl rfl) rfl rfl ?_; simp only [Act.put, List.setIfInBounds_toArray, List.set_cons_zero, List.set_cons_succ]))
          refine wk_addk .i64 _ _ _ _ _ _ _ (by first | exact wanted_none rfl | exact wanted_yes _ _ rfl rfl) rfl rfl rfl (HA1.out) ?_
          simp only [Act.put, List.setIfInBounds_toArray, List.set_cons_zero, List.set_cons_succ]
          refine wk_slice_arr (1 + z) 256 .i64 _ _ _ _ ga (by first | exact wanted_none rfl | exact wanted_yes _ _ rfl rfl) rfl Tryd.underlying33 sizeU8 rfl rfl (by omega) (by omega) ?_
          simp only [Act.put, List.setIfInBounds_toArray, List.set_cons_zero, List.set_cons_succ]
          refine wk_bytes_at _ _ _ _ ga 0 (1 + z) 256 (BW.take (1 + z)) (by first | exact wanted_none rfl | exact wanted_yes _ _ rfl rfl) rfl rfl Tryd.underlying37 Tryd.underlying5 Tryd.underlying9 HLT.out (fun w' hC => take_at ((R6.out.since hC).get 1 rfl) (1 + z)) ?_
          simp only [Act.put, List.setIfInBounds_toArray, List.set_cons_zero, List.set_cons_succ]
          repeat (first
            | (refine wk_move _ (by first | exact wanted_none rfl | exact wanted_yes _ _ rfl rfl) rfl ?_; simp only [Act.put, Act.eval, Array.getD_eq_getD_getElem?, List.getElem?_toArray, List.getElem?_cons_succ, List.getElem?_cons_zero, Option.getD_some, List.setIfInBounds_toArray, List.set_cons_zero, List.set_cons_succ])
            | (refine wk_assign _ (by first | exact wanted_none rfl | exact wanted_yes _ _ rfl rfl) rfl ?_; simp only [Act.put, Act.eval, Array.getD_eq_getD_getElem?, List.getElem?_toArray, List.getElem?_cons_succ, List.getElem?_cons_zero, Option.getD_some, List.setIfInBounds_toArray, List.set_cons_zero, List.set_cons_succ])
            | (refine wk_pickt _ _ _ _ (by first | exact wanted_none rfl | exact wanted_yes _ _ rfl rfl) rfl rfl rfl ?_; simp only [Act.put, Act.eval, Array.getD_eq_getD_getElem?, List.getElem?_toArray, List.getElem?_cons_succ, List.getElem?_cons_zero, Option.getD_some, List.setIfInBounds_toArray, List.set_cons_zero, List.set_cons_succ])
            | (refine wk_pickf _ _ _ _ (by first | exact wanted_none rfl | exact wanted_yes _ _ rfl rfl) rfl rfl rfl ?_; simp only [Act.put, Act.eval, Array.getD_eq_getD_getElem?, List.getElem?_toArray, List.getElem?_cons_succ, List.getElem?_cons_zero, Option.getD_some, List.setIfInBounds_toArray, List.set_cons_zero, List.set_cons_succ])
            | (refine wk_skip (wanted_not _ true false rfl rfl rfl) ?_; simp only [Act.put, List.setIfInBounds_toArray, List.set_cons_zero, List.set_cons_succ])
            | (refine wk_skip (wanted_not _ false true rfl rfl rfl) ?_; simp only [Act.put, List.setIfInBounds_toArray, List.set_cons_zero, List.set_cons_succ])
            | (refine wk_skip (wanted_undef _ _ rfl rfl) ?_; simp only [Act.put, List.setIfInBounds_toArray, List.set_cons_zero, List.set_cons_succ])
            | (refine wk_not true _ _ (by first | exact wanted_none rfl | exact wanted_yes _ _ rfl rfl) rfl rfl ?_; simp only [Act.put, List.setIfInBounds_toArray, List.set_cons_zero, List.set_cons_succ])
            | (refine wk_not false _ _ (by first | exact wanted_none rfl | exact wanted_yes _ _ rfl rfl) rfl rfl ?_; simp only [Act.put, List.setIfInBounds_toArray, List.set_cons_zero, List.set_cons_succ]))
          refine wk_addk .i64 _ _ _ _ _ _ _ (by first | exact wanted_none rfl | exact wanted_yes _ _ rfl rfl) rfl rfl rfl (HA1.out) ?_
          simp only [Act.put, List.setIfInBounds_toArray, List.set_cons_zero, List.set_cons_succ]
          refine wk_slice_arr (1 + z) 256 .i64 _ _ _ _ gb (by first | exact wanted_none rfl | exact wanted_yes _ _ rfl rfl) rfl Tryd.underlying33 sizeU8 rfl rfl (by omega) (by omega) ?_
          simp only [Act.put, List.setIfInBounds_toArray, List.set_cons_zero, List.set_cons_succ]
          refine wk_bytes_at _ _ _ _ gb 0 (1 + z) 256 (BV.take (1 + z)) (by first | exact wanted_none rfl | exact wanted_yes _ _ rfl rfl) rfl rfl Tryd.underlying37 Tryd.underlying5 Tryd.underlying9 HLT2.out (fun w' hC => take_at ((R6.out.since hC).get 0 rfl) (1 + z)) ?_
          simp only [Act.put, List.setIfInBounds_toArray, List.set_cons_zero, List.set_cons_succ]
          refine wk_neq_str false _ _ _ _ _ _ (by first | exact wanted_none rfl | exact wanted_yes _ _ rfl rfl) rfl rfl rfl (by rw [HT.out]; simp) ?_
          simp only [Act.put, List.setIfInBounds_toArray, List.set_cons_zero, List.set_cons_succ]
          repeat (first
            | (refine wk_move _ (by first | exact wanted_none rfl | exact wanted_yes _ _ rfl rfl) rfl ?_; simp only [Act.put, Act.eval, Array.getD_eq_getD_getElem?, List.getElem?_toArray, List.getElem?_cons_succ, List.getElem?_cons_zero, Option.getD_some, List.setIfInBounds_toArray, List.set_cons_zero, List.set_cons_succ])
            | (refine wk_assign _ (by first | exact wanted_none rfl | exact wanted_yes _ _ rfl rfl) rfl ?_; simp only [Act.put, Act.eval, Array.getD_eq_getD_getElem?, List.getElem?_toArray, List.getElem?_cons_succ, List.getElem?_cons_zero, Option.getD_some, List.setIfInBounds_toArray, List.set_cons_zero, List.set_cons_succ])
            | (refine wk_pickt _ _ _ _ (by first | exact wanted_none rfl | exact wanted_yes _ _ rfl rfl) rfl rfl rfl ?_; simp only [Act.put, Act.eval, Array.getD_eq_getD_getElem?, List.getElem?_toArray, List.getElem?_cons_succ, List.getElem?_cons_zero, Option.getD_some, List.setIfInBounds_toArray, List.set_cons_zero, List.set_cons_succ])
            | (refine wk_pickf _ _ _ _ (by first | exact wanted_none rfl | exact wanted_yes _ _ rfl rfl) rfl rfl rfl ?_; simp only [Act.put, Act.eval, Array.getD_eq_getD_getElem?, List.getElem?_toArray, List.getElem?_cons_succ, List.getElem?_cons_zero, Option.getD_some, List.setIfInBounds_toArray, List.set_cons_zero, List.set_cons_succ])
            | (refine wk_skip (wanted_not _ true false rfl rfl rfl) ?_; simp only [Act.put, List.setIfInBounds_toArray, List.set_cons_zero, List.set_cons_succ])
            | (refine wk_skip (wanted_not _ false true rfl rfl rfl) ?_; simp only [Act.put, List.setIfInBounds_toArray, List.set_cons_zero, List.set_cons_succ])
            | (refine wk_skip (wanted_undef _ _ rfl rfl) ?_; simp only [Act.put, List.setIfInBounds_toArray, List.set_cons_zero, List.set_cons_succ])
            | (refine wk_not true _ _ (by first | exact wanted_none rfl | exact wanted_yes _ _ rfl rfl) rfl rfl ?_; simp only [Act.put, List.setIfInBounds_toArray, List.set_cons_zero, List.set_cons_succ])
            | (refine wk_not false _ _ (by first | exact wanted_none rfl | exact wanted_yes _ _ rfl rfl) rfl rfl ?_; simp only [Act.put, List.setIfInBounds_toArray, List.set_cons_zero, List.set_cons_succ]))
          refine wk_nil ?_
          intro w' hC
          have R7 := Lib.hid (R6.out.since hC)
          clear hC R6
          go_wp2_with fail
          go_loop [18] (fun i => ∃ j : Nat, 1 + z ≤ j ∧ j ≤ 252 ∧ i = .int .i64 (j : Int)) (fun i => 252 - (intOf i).toNat)
          case atStart => exact ⟨1 + z, by omega, h3, by go_num⟩
          case round =>
            obtain ⟨i, hi1, hi2, rfl⟩ := hrel
            by_cases hlt : i < 252
            · have hz0 := H4.out i hi1 hlt
              have hc0 : w'.cell? ⟨gb, i, none⟩ = some (.int .u8 0) := by
                rw [cell_of_row _ _ _ _ _ _ (R7.out.get 0 rfl), blk, List.getElem?_toArray, List.getElem?_map, hz0]; rfl
              clear hz0
              go_wp2_with fail
              go_round
              case rel => exact ⟨i + 1, by omega, by omega, by go_num⟩
              case measure => simp [intOf]; omega
            · obtain rfl : i = 252 := by omega
              go_wp2_with (go_at_call 6; refine (fieldhead_any _).mono ?_; rintro e w9 ⟨rfl, hb⟩; have HB := Lib.hid (R7.out.call hb); clear hb)
              go_ret
              exact ⟨rfl, HB.out.below⟩
end Go.Proofs.YtnfmdcohacflmaaDoor
