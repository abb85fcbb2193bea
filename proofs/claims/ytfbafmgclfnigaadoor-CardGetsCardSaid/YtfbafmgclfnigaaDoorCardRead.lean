/- The card layer: fill; Get tells the card whose block it is. -/
import Derived.Test.YtfbafmgclfnigaaDoorRdHeld
import Derived.Test.YtfbafmgclfnigaaDoorCardTurns
import Derived.Test.YtfbafmgclfnigaaDoorSteps
import Derived.Test.YtfbafmgclfnigaaDoorKeep
namespace Go.Proofs.YtfbafmgclfnigaaDoor
open Go.RowKit
set_option linter.unusedSimpArgs false
set_option linter.unusedVariables false
set_option maxRecDepth 100000
/-- The j-th number of which the first k are read. -/
def cNum (b : List UInt8) (f : Bool) (k j : Nat) : Nat := if f && decide (j < k) then num (seg b (26 + 4 * j) 4) else 0
def cUp (b : List UInt8) (f : Bool) (k : Nat) : Card := ⟨if f then textOf (seg b 1 25) else ⟨#[]⟩, cNum b f k 0, cNum b f k 1, cNum b f k 2, cNum b f k 3, cNum b f k 4, cNum b f k 5, cNum b f k 6, false⟩
def posC (f : Bool) (k : Nat) : Nat := if f then 26 + 4 * k else 1
theorem posC_next (f : Bool) (k : Nat) : nextI (posC f k) 4 f = posC f (k + 1) := by cases f <;> simp [nextI, posC]; omega
theorem posC_le (f : Bool) (k : Nat) (h : k ≤ 7) : posC f k ≤ 54 := by unfold posC; split <;> omega
theorem posC_text (b : List UInt8) (f : Bool) : nextT b 1 24 f = posC (fineT b 1 24 f) 0 := by unfold nextT posC; split <;> rfl
theorem cUp_set (b : List UInt8) (f : Bool) (k : Nat) (hk : k < 7) : (cUp b f k).cells.setIfInBounds (k + 1) (.int .u32 (readV b (posC f k) 4 f : Int)) = (cUp b f (k + 1)).cells := by
  have h : k = 0 ∨ k = 1 ∨ k = 2 ∨ k = 3 ∨ k = 4 ∨ k = 5 ∨ k = 6 := by omega
  rcases h with rfl | rfl | rfl | rfl | rfl | rfl | rfl <;> cases f <;> simp [Card.cells, cUp, cNum, readV, posC, cu]
theorem cUp_get (b : List UInt8) (f : Bool) (k : Nat) (hk : k < 7) : ∃ v, (cUp b f k).cells[k + 1]? = some v := ⟨_, cells_get _ k hk⟩
theorem size_textOf (l : List UInt8) (m : Nat) (hl : l.length = 1 + m) : (textOf l).size ≤ m := by
  show ((l.drop 1).take _).toArray.size ≤ m
  simp [hl]; omega
theorem cNum_lt (b : List UInt8) (hb : b.length = 256) (f : Bool) (k j : Nat) (hj : j < 7) : cNum b f k j < 4294967296 := by
  unfold cNum
  split
  · exact num_seg_lt b (26 + 4 * j) 4 (by omega)
  · decide
set_option maxHeartbeats 1000000 in
theorem fill_is {w0 wi : World} {g gb g5 : Nat} {b : List UInt8} {f : Bool} {l : List Thing} (hb : b.length = 256) (R : Held w0 wi (rdT g gb b (posC f 0) f :: rowT g5 (cUp b f 0).cells 26 :: l)) :
    Calls Tryd.prog 53 #[.pointer (some ⟨g, 0, none⟩), .agg (wordsA g5)] wi fun e w' => e = .returned (.tuple #[]) ∧ Held w0 w' (rdT g gb b (posC f 7) f :: rowT g5 (cUp b f 7).cells 26 :: l) := by
  have q1 := R.alloc (wordsA g5) 86
  have SZ : Hid ((Tryd.prog.info? 86).map (·.size) = some 7) := Lib.hid (by kernel_rfl)
  have HLB := Lib.hid hb
  clear R hb
  go_enter Tryd.func53, Tryd.ntmps53
  go_upto_region 1 with (fail)
  obtain ⟨W1, hW⟩ : ∃ W, W = wi.alloc (.cells (wordsA g5) 86) := ⟨_, rfl⟩
  rw [← hW] at q1 ⊢
  clear hW
  obtain ⟨g1, hg⟩ : ∃ g, g = wi.heap.size := ⟨_, rfl⟩
  rw [← hg] at q1 ⊢
  clear hg
  have R1 := Lib.hid q1
  clear q1
  go_wp2_with (refine wpList_load_row rfl 86 _ rfl g1 rfl 86 (wordsA g5) (0, 0) _ (R1.out.get 0 rfl) Tryd.underlying86 rfl SZ.out ?_)
  obtain ⟨A5, hA5⟩ : ∃ A, A = wordsA g5 := ⟨_, rfl⟩
  have HA5 : Hid (∀ k, k < 7 → A5[k]? = some (.pointer (some ⟨g5, k + 1, none⟩))) := Lib.hid (fun k hk => by rw [hA5]; exact wordsA_get g5 k hk)
  rw [← hA5] at R1 ⊢
  clear hA5
  have R1b := Lib.hid (R1.out.drop 1)
  go_loopw [7, 5] (fun i _ wr => ∃ k : Nat, k ≤ 7 ∧ i = .int .i64 (k : Int) ∧ Held w0 wr (rdT g gb b (posC f k) f :: rowT g5 (cUp b f k).cells 26 :: l)) (fun i _ _ => 7 - (intOf i).toNat)
  case atStart => exact ⟨0, by omega, rfl, R1b.out⟩
  case round =>
    obtain ⟨k, hk, rfl, hR⟩ := hrel
    have R2 := Lib.hid hR
    clear hR R1 R1b
    by_cases hlt : k < 7
    · have hidx : ∀ w : World, (Instr.index 86 (.agg A5) (.int .i64 (k : Int))).run Tryd.prog w = .ok (.pointer (some ⟨g5, k + 1, none⟩)) w := fun w =>
        run_index_one w 86 85 7 A5 .i64 k _ _ Tryd.underlying86 Tryd.underlying85 rfl (by kernel_rfl) hlt (HA5.out k hlt)
      go_wp2_with fail
      refine (rdnum_is R2.out 4 (by omega) (by have := posC_le f k hk; omega)).mono ?_
      rintro e w3 ⟨rfl, hR⟩
      rw [posC_next] at hR
      have R3 := Lib.hid hR
      clear hR R2 hidx
      have hx : readV b (posC f k) 4 f < 4294967296 := readV_lt b HLB.out _ 4 f (by have := posC_le f k hk; omega)
      have HCS := Lib.hid (cUp_set b f k hlt)
      obtain ⟨x, hxe⟩ : ∃ x, x = readV b (posC f k) 4 f := ⟨_, rfl⟩
      rw [← hxe] at hx HCS ⊢
      clear hxe
      obtain ⟨v0, hv0⟩ := cUp_get b f k hlt
      have hc := R3.out.cell 1 (k + 1) rfl (hv0)
      have hf := R3.out.free 1 (k + 1) rfl
      have q0 := Lib.hid (R3.out.setCell 1 (k + 1) (.int .u32 (x : Int)) rfl)
      go_upto_region 5 with (fail)
      have q1 := q0.out
      clear q0 hc hf
      obtain ⟨W4, hW⟩ : ∃ W, W = w3.setCell ⟨g5, (k + 1), none⟩ (.int .u32 (x : Int)) := ⟨_, rfl⟩
      rw [← hW] at q1 ⊢
      clear hW
      simp only [List.set_cons_zero, List.set_cons_succ] at q1
      have R4 := Lib.hid q1
      clear q1
      rw [HCS.out] at R4
      clear hv0
      go_wp2_with fail
      exact ⟨⟨k + 1, by omega, by simp, R4.out⟩, by simp [intOf]; omega⟩
    · obtain rfl : k = 7 := by omega
      go_wp2_with fail
      go_end0
      exact ⟨rfl, R2.out⟩

/-- The card whose block b may be. -/
def cardOf (b : List UInt8) : Card := { cUp b true 7 with only := decide (num (seg b 54 1) = 1) }
/-- What Get has read. -/
def cIn (b : List UInt8) (f : Bool) : Card := { cUp b f 7 with only := decide (readV b (posC f 7) 1 f = 1) }
theorem cIn_true (b : List UInt8) : cIn b true = cardOf b := rfl
theorem cIn_set (b : List UInt8) (f : Bool) : (cUp b f 7).cells.setIfInBounds 8 (.bool (decide (readV b (posC f 7) 1 f = 1))) = (cIn b f).cells := by
  simp [Card.cells, cIn, cUp, cu]
theorem cUp_ok (b : List UInt8) (hb : b.length = 256) (f : Bool) (k : Nat) : (cUp b f k).Ok := by
  refine ⟨?_, cNum_lt b hb f k 0 (by omega), cNum_lt b hb f k 1 (by omega), cNum_lt b hb f k 2 (by omega), cNum_lt b hb f k 3 (by omega), cNum_lt b hb f k 4 (by omega), cNum_lt b hb f k 5 (by omega), cNum_lt b hb f k 6 (by omega)⟩
  show (if f then textOf (seg b 1 25) else (⟨#[]⟩ : ByteArray)).size ≤ maxLen
  have h1 : (textOf (seg b 1 25)).size ≤ 24 := size_textOf _ 24 (length_seg b 1 25 (by omega))
  unfold maxLen
  split
  · omega
  · exact Nat.zero_le _
theorem cIn_ok (b : List UInt8) (hb : b.length = 256) (f : Bool) : (cIn b f).Ok :=
  have h := cUp_ok b hb f 7
  ⟨h.name, h.left, h.right, h.id, h.parent, h.root, h.used, h.quota⟩
def cardF (b : List UInt8) : Bool := fineT b 1 24 (fineB b 67)
def isCard (b : List UInt8) : Bool := cardF b && (allZero (seg b 55 197) && (decide (num (seg b 54 1) ≤ 1) && (cardOf b).may))
def cgetC (b : List UInt8) : Array Value := if isCard b then (cardOf b).cells else zeroCard
def cgetE (b : List UInt8) : Int := if isCard b then 0 else 250
theorem zeroCard_one : zeroCard.all (·.oneCell') = true := by simp [zeroCard, Value.oneCell']
theorem endC (b : List UInt8) (f : Bool) : endV b (nextI (posC f 7) 1 f) f = if f && allZero (seg b 55 197) then 0 else 250 := by
  cases f <;> rfl
set_option maxHeartbeats 2000000 in
theorem cget_any (b : List UInt8) (hb : b.length = 256) (w : World) :
    Calls Tryd.prog 18 #[.agg (blk b)] w fun e w' => e = .returned (.tuple #[.agg (cgetC b), .int .i64 (cgetE b)]) ∧ Below w.heap.size w w' := by
  have q1 := ((Held.start w).alloc (blk b) 29).alloc zeroCard 26
  obtain ⟨g1, hg1⟩ : ∃ g, g = w.heap.size := ⟨_, rfl⟩
  obtain ⟨g2, hg2⟩ : ∃ g, g = (w.alloc (.cells (blk b) 29)).heap.size := ⟨_, rfl⟩
  rw [← hg1, ← hg2] at q1
  have hg2' : w.heap.size + 1 = g2 := by rw [hg2]; simp
  have G1 := Lib.hid hg1
  have G2 := Lib.hid hg2'
  have Q1 := Lib.hid q1
  have HS0 : Hid ((blk b).size = 256) := Lib.hid (by rw [size_blk, hb])
  have HLB := Lib.hid hb
  clear hg1 hg2 hg2' q1 hb
  go_enter Tryd.func18, Tryd.ntmps18
  go_upto_region 1 with (refine wpList_alloc_row rfl 26 rfl _ zeroC ?_)
  have q1 := Q1.out
  obtain ⟨W1, hW⟩ : ∃ W, W = (w.alloc (.cells (blk b) 29)).alloc (.cells zeroCard 26) := ⟨_, rfl⟩
  rw [← hW] at q1 ⊢
  rw [G2.out, ← G1.out]
  have R1 := Lib.hid q1
  clear hW q1 Q1 G1 G2
  go_wp2_with (refine wpList_load_row rfl 29 _ rfl g1 rfl 29 (blk b) (0, 0) _ (R1.out.get 1 rfl) Tryd.underlying29 rfl (by rw [HS0.out]; exact sizeB) ?_)
  refine (rdopen_is R1.out b HLB.out 67).mono ?_
  rintro e w2 ⟨g, gb, rfl, hR⟩
  have R2 := Lib.hid hR
  clear hR R1
  go_wp2_with fail
  refine (rdtext_is R2.out 24 (by omega) (by omega)).mono ?_
  rintro e w3 ⟨rfl, hR⟩
  rw [posC_text] at hR
  have HF : Hid (isCard b = (cardF b && (allZero (seg b 55 197) && (decide (num (seg b 54 1) ≤ 1) && (cardOf b).may)))) := Lib.hid rfl
  obtain ⟨s, hs⟩ : ∃ s, s = textV b 1 24 (fineB b 67) := ⟨_, rfl⟩
  have hs2 : s = if cardF b then textOf (seg b 1 25) else ⟨#[]⟩ := by rw [hs]; rfl
  obtain ⟨f, hf⟩ : ∃ f, f = cardF b := ⟨_, rfl⟩
  have hR2 : Held w w3 [rdT g gb b (posC f 0) f, rowT g2 zeroCard 26, rowT g1 (blk b) 29] := by rw [hf]; exact hR
  rw [← hs]
  rw [← hf] at hs2 HF
  have R3 := Lib.hid hR2
  have HC0 : Hid (#[.string s, .int .u32 0, .int .u32 0, .int .u32 0, .int .u32 0, .int .u32 0, .int .u32 0, .int .u32 0, .bool false] = (cUp b f 0).cells) := Lib.hid (by
    rw [hs2]; simp [Card.cells, cUp, cNum, cu])
  clear hR hR2 R2 hs hs2 hf
  have q1 := R3.out.alloc #[.string s, .int .u32 0, .int .u32 0, .int .u32 0, .int .u32 0, .int .u32 0, .int .u32 0, .int .u32 0, .bool false] 26
  go_upto_region 3 with (fail)
  obtain ⟨W4, hW⟩ : ∃ W, W = w3.alloc (.cells #[.string s, .int .u32 0, .int .u32 0, .int .u32 0, .int .u32 0, .int .u32 0, .int .u32 0, .int .u32 0, .bool false] 26) := ⟨_, rfl⟩
  rw [← hW] at q1 ⊢
  clear hW
  obtain ⟨g5, hg⟩ : ∃ g, g = w3.heap.size := ⟨_, rfl⟩
  rw [← hg] at q1 ⊢
  clear hg
  have R4 := Lib.hid q1
  clear q1
  rw [HC0.out] at R4
  have R5 := Lib.hid (R4.out.perm (List.Perm.swap _ _ _))
  clear R4 R3 HC0
  go_wp2_with fail
  refine (words_any _ g5).mono ?_
  rintro e w5 ⟨rfl, hb⟩
  have R6 := Lib.hid (R5.out.call hb)
  clear hb R5
  go_wp2_with fail
  refine (fill_is HLB.out R6.out).mono ?_
  rintro e w6 ⟨rfl, hR⟩
  have R7 := Lib.hid hR
  clear hR R6
  go_wp2_with fail
  refine (rdnum_is R7.out 1 (by omega) (by have := posC_le f 7 (by omega); omega)).mono ?_
  rintro e w7 ⟨rfl, hR⟩
  have R8 := Lib.hid hR
  clear hR R7
  have hx : readV b (posC f 7) 1 f < 256 := readV_lt b HLB.out _ 1 f (by have := posC_le f 7 (by omega); omega)
  have hset := cIn_set b f
  have hend := endC b f
  have HX1 : Hid (f = true → readV b (posC f 7) 1 f = num (seg b 54 1)) := Lib.hid (fun e => by rw [e]; rfl)
  obtain ⟨x, hxe⟩ : ∃ x, x = readV b (posC f 7) 1 f := ⟨_, rfl⟩
  rw [← hxe] at hx hset HX1 ⊢
  have HX8 : Hid (x < 18446744073709551616) := Lib.hid (by omega)
  have HSET : Hid ((cUp b f 7).cells.setIfInBounds 8 (.bool ((x : Int) == 1)) = (cIn b f).cells) := Lib.hid (by
    rw [← hset, show ((x : Int) == 1) = decide (x = 1) by rw [Bool.eq_iff_iff]; simp; omega])
  have HEND := Lib.hid hend
  clear hxe hset hend hx
  have hold : (cUp b f 7).cells[8]? = some (.bool false) := rfl
  go_upto_region 5 with (fail)
  have hc := R8.out.cell 1 8 rfl (hold)
  have hf := R8.out.free 1 8 rfl
  have q0 := Lib.hid (R8.out.setCell 1 8 (.bool ((x : Int) == 1)) rfl)
  go_upto_region 6 with (fail)
  have q1 := q0.out
  clear q0 hc hf
  obtain ⟨W9, hW⟩ : ∃ W, W = w7.setCell ⟨g5, 8, none⟩ (.bool ((x : Int) == 1)) := ⟨_, rfl⟩
  rw [← hW] at q1 ⊢
  clear hW
  simp only [List.set_cons_zero, List.set_cons_succ] at q1
  have R9 := Lib.hid q1
  clear q1
  rw [HSET.out] at R9
  clear hold HSET R8
  have HE : Hid (∀ w', Since W9 w' → Calls Tryd.prog 55 #[.pointer (some ⟨g, 0, none⟩)] w' fun e w'' => e = .returned (.int .i64 (if f && allZero (seg b 55 197) then 0 else 250)) ∧ Below w'.heap.size w' w'') := Lib.hid (fun w' hC => by
    have := rdend_is (R9.out.since hC)
    rwa [HEND.out] at this)
  have HM := Lib.hid (fun w => may_any (cIn b f) (cIn_ok b HLB.out f) w)
  have HCS : Hid ((cIn b f).cells.size = 9) := Lib.hid rfl
  have HONE : Hid ((cIn b f).cells.all (·.oneCell') = true) := Lib.hid (cells_one _)
  have HIN : Hid (f = true → (cIn b f).cells = (cardOf b).cells ∧ (cIn b f).may = (cardOf b).may) := Lib.hid (fun e => by rw [e]; exact ⟨rfl, rfl⟩)
  obtain ⟨m, hm⟩ : ∃ m, m = (cIn b f).may := ⟨_, rfl⟩
  rw [← hm] at HM HIN
  generalize (cIn b f).cells = R at R9 HM HCS HONE HIN
  clear hm
  by_cases hz : (f && allZero (seg b 55 197)) = true
  · rw [hz] at HE
    have hf : f = true := by cases f <;> simp_all
    have h2 : allZero (seg b 55 197) = true := by rw [hf] at hz; simpa using hz
    have HX2 := Lib.hid (HX1.out hf)
    have HIS : Hid (isCard b = (decide (x ≤ 1) && m)) := Lib.hid (by rw [HF.out, hf, h2, (HIN.out hf).2, HX2.out]; simp)
    have HRC := Lib.hid (HIN.out hf).1
    clear hz h2 HX1 HF HIN HX2
    by_cases hx1 : x ≤ 1
    · have HG : Hid (cmpInt .gtr (x : Int) 1 = some false) := Lib.hid (by simp [cmpInt]; omega)
      have HIS2 : Hid (isCard b = m) := Lib.hid (by rw [HIS.out]; simp [hx1])
      clear hx1 HIS
      refine wk_plain_since ?_
      repeat (first
        | (refine wk_move _ (by first | exact wanted_none rfl | exact wanted_yes _ _ rfl rfl) rfl ?_; simp only [Act.put, Act.eval, Array.getD_eq_getD_getElem?, List.getElem?_toArray, List.getElem?_cons_succ, List.getElem?_cons_zero, Option.getD_some, List.setIfInBounds_toArray, List.set_cons_zero, List.set_cons_succ])
        | (refine wk_assign _ (by first | exact wanted_none rfl | exact wanted_yes _ _ rfl rfl) rfl ?_; simp only [Act.put, Act.eval, Array.getD_eq_getD_getElem?, List.getElem?_toArray, List.getElem?_cons_succ, List.getElem?_cons_zero, Option.getD_some, List.setIfInBounds_toArray, List.set_cons_zero, List.set_cons_succ])
        | (refine wk_pickt _ _ _ _ (by first | exact wanted_none rfl | exact wanted_yes _ _ rfl rfl) rfl rfl rfl ?_; simp only [Act.put, Act.eval, Array.getD_eq_getD_getElem?, List.getElem?_toArray, List.getElem?_cons_succ, List.getElem?_cons_zero, Option.getD_some, List.setIfInBounds_toArray, List.set_cons_zero, List.set_cons_succ])
        | (refine wk_pickf _ _ _ _ (by first | exact wanted_none rfl | exact wanted_yes _ _ rfl rfl) rfl rfl rfl ?_; simp only [Act.put, Act.eval, Array.getD_eq_getD_getElem?, List.getElem?_toArray, List.getElem?_cons_succ, List.getElem?_cons_zero, Option.getD_some, List.setIfInBounds_toArray, List.set_cons_zero, List.set_cons_succ])
        | (refine wk_skip (wanted_not _ true false rfl rfl rfl) ?_; simp only [Act.put, List.setIfInBounds_toArray, List.set_cons_zero, List.set_cons_succ])
        | (refine wk_skip (wanted_not _ false true rfl rfl rfl) ?_; simp only [Act.put, List.setIfInBounds_toArray, List.set_cons_zero, List.set_cons_succ])
        | (refine wk_skip (wanted_undef _ _ rfl rfl) ?_; simp only [Act.put, List.setIfInBounds_toArray, List.set_cons_zero, List.set_cons_succ])
        | (refine wk_not true _ _ (by first | exact wanted_none rfl | exact wanted_yes _ _ rfl rfl) rfl rfl ?_; simp only [Act.put, List.setIfInBounds_toArray, List.set_cons_zero, List.set_cons_succ])
        | (refine wk_not false _ _ (by first | exact wanted_none rfl | exact wanted_yes _ _ rfl rfl) rfl rfl ?_; simp only [Act.put, List.setIfInBounds_toArray, List.set_cons_zero, List.set_cons_succ]))
      refine wk_call 55 _ _ _ _ _ (by kernel_rfl) rfl Tryd.func55 rfl (by kernel_rfl) (fun w' hC => hC.call (HE.out w' hC)) ?_
      simp only [Act.put, List.setIfInBounds_toArray, List.set_cons_zero, List.set_cons_succ]
      refine wk_cmp_int .neq (false) _ _ _ _ _ _ _ (by kernel_rfl) rfl rfl rfl (rfl) ?_
      simp only [Act.put, List.setIfInBounds_toArray, List.set_cons_zero, List.set_cons_succ]
      repeat (first
        | (refine wk_move _ (by first | exact wanted_none rfl | exact wanted_yes _ _ rfl rfl) rfl ?_; simp only [Act.put, Act.eval, Array.getD_eq_getD_getElem?, List.getElem?_toArray, List.getElem?_cons_succ, List.getElem?_cons_zero, Option.getD_some, List.setIfInBounds_toArray, List.set_cons_zero, List.set_cons_succ])
        | (refine wk_assign _ (by first | exact wanted_none rfl | exact wanted_yes _ _ rfl rfl) rfl ?_; simp only [Act.put, Act.eval, Array.getD_eq_getD_getElem?, List.getElem?_toArray, List.getElem?_cons_succ, List.getElem?_cons_zero, Option.getD_some, List.setIfInBounds_toArray, List.set_cons_zero, List.set_cons_succ])
        | (refine wk_pickt _ _ _ _ (by first | exact wanted_none rfl | exact wanted_yes _ _ rfl rfl) rfl rfl rfl ?_; simp only [Act.put, Act.eval, Array.getD_eq_getD_getElem?, List.getElem?_toArray, List.getElem?_cons_succ, List.getElem?_cons_zero, Option.getD_some, List.setIfInBounds_toArray, List.set_cons_zero, List.set_cons_succ])
        | (refine wk_pickf _ _ _ _ (by first | exact wanted_none rfl | exact wanted_yes _ _ rfl rfl) rfl rfl rfl ?_; simp only [Act.put, Act.eval, Array.getD_eq_getD_getElem?, List.getElem?_toArray, List.getElem?_cons_succ, List.getElem?_cons_zero, Option.getD_some, List.setIfInBounds_toArray, List.set_cons_zero, List.set_cons_succ])
        | (refine wk_skip (wanted_not _ true false rfl rfl rfl) ?_; simp only [Act.put, List.setIfInBounds_toArray, List.set_cons_zero, List.set_cons_succ])
        | (refine wk_skip (wanted_not _ false true rfl rfl rfl) ?_; simp only [Act.put, List.setIfInBounds_toArray, List.set_cons_zero, List.set_cons_succ])
        | (refine wk_skip (wanted_undef _ _ rfl rfl) ?_; simp only [Act.put, List.setIfInBounds_toArray, List.set_cons_zero, List.set_cons_succ])
        | (refine wk_not true _ _ (by first | exact wanted_none rfl | exact wanted_yes _ _ rfl rfl) rfl rfl ?_; simp only [Act.put, List.setIfInBounds_toArray, List.set_cons_zero, List.set_cons_succ])
        | (refine wk_not false _ _ (by first | exact wanted_none rfl | exact wanted_yes _ _ rfl rfl) rfl rfl ?_; simp only [Act.put, List.setIfInBounds_toArray, List.set_cons_zero, List.set_cons_succ]))
      refine wk_cmp_int .gtr (false) _ _ _ _ _ _ _ (by kernel_rfl) rfl rfl rfl (HG.out) ?_
      simp only [Act.put, List.setIfInBounds_toArray, List.set_cons_zero, List.set_cons_succ]
      repeat (first
        | (refine wk_move _ (by first | exact wanted_none rfl | exact wanted_yes _ _ rfl rfl) rfl ?_; simp only [Act.put, Act.eval, Array.getD_eq_getD_getElem?, List.getElem?_toArray, List.getElem?_cons_succ, List.getElem?_cons_zero, Option.getD_some, List.setIfInBounds_toArray, List.set_cons_zero, List.set_cons_succ])
        | (refine wk_assign _ (by first | exact wanted_none rfl | exact wanted_yes _ _ rfl rfl) rfl ?_; simp only [Act.put, Act.eval, Array.getD_eq_getD_getElem?, List.getElem?_toArray, List.getElem?_cons_succ, List.getElem?_cons_zero, Option.getD_some, List.setIfInBounds_toArray, List.set_cons_zero, List.set_cons_succ])
        | (refine wk_pickt _ _ _ _ (by first | exact wanted_none rfl | exact wanted_yes _ _ rfl rfl) rfl rfl rfl ?_; simp only [Act.put, Act.eval, Array.getD_eq_getD_getElem?, List.getElem?_toArray, List.getElem?_cons_succ, List.getElem?_cons_zero, Option.getD_some, List.setIfInBounds_toArray, List.set_cons_zero, List.set_cons_succ])
        | (refine wk_pickf _ _ _ _ (by first | exact wanted_none rfl | exact wanted_yes _ _ rfl rfl) rfl rfl rfl ?_; simp only [Act.put, Act.eval, Array.getD_eq_getD_getElem?, List.getElem?_toArray, List.getElem?_cons_succ, List.getElem?_cons_zero, Option.getD_some, List.setIfInBounds_toArray, List.set_cons_zero, List.set_cons_succ])
        | (refine wk_skip (wanted_not _ true false rfl rfl rfl) ?_; simp only [Act.put, List.setIfInBounds_toArray, List.set_cons_zero, List.set_cons_succ])
        | (refine wk_skip (wanted_not _ false true rfl rfl rfl) ?_; simp only [Act.put, List.setIfInBounds_toArray, List.set_cons_zero, List.set_cons_succ])
        | (refine wk_skip (wanted_undef _ _ rfl rfl) ?_; simp only [Act.put, List.setIfInBounds_toArray, List.set_cons_zero, List.set_cons_succ])
        | (refine wk_not true _ _ (by first | exact wanted_none rfl | exact wanted_yes _ _ rfl rfl) rfl rfl ?_; simp only [Act.put, List.setIfInBounds_toArray, List.set_cons_zero, List.set_cons_succ])
        | (refine wk_not false _ _ (by first | exact wanted_none rfl | exact wanted_yes _ _ rfl rfl) rfl rfl ?_; simp only [Act.put, List.setIfInBounds_toArray, List.set_cons_zero, List.set_cons_succ]))
      refine wk_load_row 26 _ g5 26 R (0, 0) _ (by kernel_rfl) rfl rfl (fun w' hC => hC.row (R9.out.get 1 rfl)) Tryd.underlying26 rfl (by rw [HCS.out]; exact sizeC) ?_
      simp only [Act.put, List.setIfInBounds_toArray, List.set_cons_zero, List.set_cons_succ]
      refine wk_call 13 _ _ _ _ _ (by kernel_rfl) rfl Tryd.func13 rfl (by kernel_rfl) (fun w' hC => hC.call (HM.out w')) ?_
      simp only [Act.put, List.setIfInBounds_toArray, List.set_cons_zero, List.set_cons_succ]
      cases m
      · skip
        repeat (first
          | (refine wk_move _ (by first | exact wanted_none rfl | exact wanted_yes _ _ rfl rfl) rfl ?_; simp only [Act.put, Act.eval, Array.getD_eq_getD_getElem?, List.getElem?_toArray, List.getElem?_cons_succ, List.getElem?_cons_zero, Option.getD_some, List.setIfInBounds_toArray, List.set_cons_zero, List.set_cons_succ])
          | (refine wk_assign _ (by first | exact wanted_none rfl | exact wanted_yes _ _ rfl rfl) rfl ?_; simp only [Act.put, Act.eval, Array.getD_eq_getD_getElem?, List.getElem?_toArray, List.getElem?_cons_succ, List.getElem?_cons_zero, Option.getD_some, List.setIfInBounds_toArray, List.set_cons_zero, List.set_cons_succ])
          | (refine wk_pickt _ _ _ _ (by first | exact wanted_none rfl | exact wanted_yes _ _ rfl rfl) rfl rfl rfl ?_; simp only [Act.put, Act.eval, Array.getD_eq_getD_getElem?, List.getElem?_toArray, List.getElem?_cons_succ, List.getElem?_cons_zero, Option.getD_some, List.setIfInBounds_toArray, List.set_cons_zero, List.set_cons_succ])
          | (refine wk_pickf _ _ _ _ (by first | exact wanted_none rfl | exact wanted_yes _ _ rfl rfl) rfl rfl rfl ?_; simp only [Act.put, Act.eval, Array.getD_eq_getD_getElem?, List.getElem?_toArray, List.getElem?_cons_succ, List.getElem?_cons_zero, Option.getD_some, List.setIfInBounds_toArray, List.set_cons_zero, List.set_cons_succ])
          | (refine wk_skip (wanted_not _ true false rfl rfl rfl) ?_; simp only [Act.put, List.setIfInBounds_toArray, List.set_cons_zero, List.set_cons_succ])
          | (refine wk_skip (wanted_not _ false true rfl rfl rfl) ?_; simp only [Act.put, List.setIfInBounds_toArray, List.set_cons_zero, List.set_cons_succ])
          | (refine wk_skip (wanted_undef _ _ rfl rfl) ?_; simp only [Act.put, List.setIfInBounds_toArray, List.set_cons_zero, List.set_cons_succ])
          | (refine wk_not true _ _ (by first | exact wanted_none rfl | exact wanted_yes _ _ rfl rfl) rfl rfl ?_; simp only [Act.put, List.setIfInBounds_toArray, List.set_cons_zero, List.set_cons_succ])
          | (refine wk_not false _ _ (by first | exact wanted_none rfl | exact wanted_yes _ _ rfl rfl) rfl rfl ?_; simp only [Act.put, List.setIfInBounds_toArray, List.set_cons_zero, List.set_cons_succ]))
        refine wk_nil ?_
        intro w' hC
        have RZ := Lib.hid (R9.out.since hC)
        have HNO := HIS2
        clear hC R9
        go_wp2_with (first
          | refine wpList_build_none rfl 26 rfl _ zeroC Tryd.underlying26 rfl ?_
          | refine wpList_store_row rfl 26 _ _ rfl g2 zeroCard rfl rfl 26 _ (RZ.out.get 2 rfl) sizeC rfl zeroCard_one ?_)
        have RY := Lib.hid (RZ.out.setRow 2 zeroCard rfl)
        refine bodyPost_ret (v := .tuple #[.agg zeroCard, .int .i64 250]) (results_cell_slot rfl _ _ g2 26 _ (0, 0) _ _ rfl rfl (RY.out.get 2 rfl) Tryd.underlying26 rfl sizeC) rfl ⟨by unfold cgetC cgetE; rw [HNO.out]; rfl, RY.out.below⟩
      · skip
        repeat (first
          | (refine wk_move _ (by first | exact wanted_none rfl | exact wanted_yes _ _ rfl rfl) rfl ?_; simp only [Act.put, Act.eval, Array.getD_eq_getD_getElem?, List.getElem?_toArray, List.getElem?_cons_succ, List.getElem?_cons_zero, Option.getD_some, List.setIfInBounds_toArray, List.set_cons_zero, List.set_cons_succ])
          | (refine wk_assign _ (by first | exact wanted_none rfl | exact wanted_yes _ _ rfl rfl) rfl ?_; simp only [Act.put, Act.eval, Array.getD_eq_getD_getElem?, List.getElem?_toArray, List.getElem?_cons_succ, List.getElem?_cons_zero, Option.getD_some, List.setIfInBounds_toArray, List.set_cons_zero, List.set_cons_succ])
          | (refine wk_pickt _ _ _ _ (by first | exact wanted_none rfl | exact wanted_yes _ _ rfl rfl) rfl rfl rfl ?_; simp only [Act.put, Act.eval, Array.getD_eq_getD_getElem?, List.getElem?_toArray, List.getElem?_cons_succ, List.getElem?_cons_zero, Option.getD_some, List.setIfInBounds_toArray, List.set_cons_zero, List.set_cons_succ])
          | (refine wk_pickf _ _ _ _ (by first | exact wanted_none rfl | exact wanted_yes _ _ rfl rfl) rfl rfl rfl ?_; simp only [Act.put, Act.eval, Array.getD_eq_getD_getElem?, List.getElem?_toArray, List.getElem?_cons_succ, List.getElem?_cons_zero, Option.getD_some, List.setIfInBounds_toArray, List.set_cons_zero, List.set_cons_succ])
          | (refine wk_skip (wanted_not _ true false rfl rfl rfl) ?_; simp only [Act.put, List.setIfInBounds_toArray, List.set_cons_zero, List.set_cons_succ])
          | (refine wk_skip (wanted_not _ false true rfl rfl rfl) ?_; simp only [Act.put, List.setIfInBounds_toArray, List.set_cons_zero, List.set_cons_succ])
          | (refine wk_skip (wanted_undef _ _ rfl rfl) ?_; simp only [Act.put, List.setIfInBounds_toArray, List.set_cons_zero, List.set_cons_succ])
          | (refine wk_not true _ _ (by first | exact wanted_none rfl | exact wanted_yes _ _ rfl rfl) rfl rfl ?_; simp only [Act.put, List.setIfInBounds_toArray, List.set_cons_zero, List.set_cons_succ])
          | (refine wk_not false _ _ (by first | exact wanted_none rfl | exact wanted_yes _ _ rfl rfl) rfl rfl ?_; simp only [Act.put, List.setIfInBounds_toArray, List.set_cons_zero, List.set_cons_succ]))
        refine wk_nil ?_
        intro w' hC
        have RZ := Lib.hid (R9.out.since hC)
        clear hC R9
        go_wp2_with (first
          | refine wpList_load_row rfl 26 _ rfl g5 rfl 26 R (0, 0) _ (RZ.out.get 1 rfl) Tryd.underlying26 rfl (by rw [HCS.out]; exact sizeC) ?_
          | refine wpList_store_row rfl 26 _ _ rfl g2 R rfl rfl 26 _ (RZ.out.get 2 rfl) (by rw [HCS.out]; exact sizeC) (by rw [HCS.out]; rfl) HONE.out ?_)
        have RY := Lib.hid (RZ.out.setRow 2 R rfl)
        refine bodyPost_ret (v := .tuple #[.agg R, .int .i64 0]) (results_cell_slot rfl _ _ g2 26 _ (0, 0) _ _ rfl rfl (RY.out.get 2 rfl) Tryd.underlying26 rfl (by rw [HCS.out]; exact sizeC)) rfl ⟨by unfold cgetC cgetE; rw [HIS2.out, HRC.out]; rfl, RY.out.below⟩
    · have HG : Hid (cmpInt .gtr (x : Int) 1 = some true) := Lib.hid (by simp [cmpInt]; omega)
      have HNO : Hid (isCard b = false) := Lib.hid (by rw [HIS.out]; simp [hx1])
      clear hx1 HIS
      refine wk_plain_since ?_
      repeat (first
        | (refine wk_move _ (by first | exact wanted_none rfl | exact wanted_yes _ _ rfl rfl) rfl ?_; simp only [Act.put, Act.eval, Array.getD_eq_getD_getElem?, List.getElem?_toArray, List.getElem?_cons_succ, List.getElem?_cons_zero, Option.getD_some, List.setIfInBounds_toArray, List.set_cons_zero, List.set_cons_succ])
        | (refine wk_assign _ (by first | exact wanted_none rfl | exact wanted_yes _ _ rfl rfl) rfl ?_; simp only [Act.put, Act.eval, Array.getD_eq_getD_getElem?, List.getElem?_toArray, List.getElem?_cons_succ, List.getElem?_cons_zero, Option.getD_some, List.setIfInBounds_toArray, List.set_cons_zero, List.set_cons_succ])
        | (refine wk_pickt _ _ _ _ (by first | exact wanted_none rfl | exact wanted_yes _ _ rfl rfl) rfl rfl rfl ?_; simp only [Act.put, Act.eval, Array.getD_eq_getD_getElem?, List.getElem?_toArray, List.getElem?_cons_succ, List.getElem?_cons_zero, Option.getD_some, List.setIfInBounds_toArray, List.set_cons_zero, List.set_cons_succ])
        | (refine wk_pickf _ _ _ _ (by first | exact wanted_none rfl | exact wanted_yes _ _ rfl rfl) rfl rfl rfl ?_; simp only [Act.put, Act.eval, Array.getD_eq_getD_getElem?, List.getElem?_toArray, List.getElem?_cons_succ, List.getElem?_cons_zero, Option.getD_some, List.setIfInBounds_toArray, List.set_cons_zero, List.set_cons_succ])
        | (refine wk_skip (wanted_not _ true false rfl rfl rfl) ?_; simp only [Act.put, List.setIfInBounds_toArray, List.set_cons_zero, List.set_cons_succ])
        | (refine wk_skip (wanted_not _ false true rfl rfl rfl) ?_; simp only [Act.put, List.setIfInBounds_toArray, List.set_cons_zero, List.set_cons_succ])
        | (refine wk_skip (wanted_undef _ _ rfl rfl) ?_; simp only [Act.put, List.setIfInBounds_toArray, List.set_cons_zero, List.set_cons_succ])
        | (refine wk_not true _ _ (by first | exact wanted_none rfl | exact wanted_yes _ _ rfl rfl) rfl rfl ?_; simp only [Act.put, List.setIfInBounds_toArray, List.set_cons_zero, List.set_cons_succ])
        | (refine wk_not false _ _ (by first | exact wanted_none rfl | exact wanted_yes _ _ rfl rfl) rfl rfl ?_; simp only [Act.put, List.setIfInBounds_toArray, List.set_cons_zero, List.set_cons_succ]))
      refine wk_call 55 _ _ _ _ _ (by kernel_rfl) rfl Tryd.func55 rfl (by kernel_rfl) (fun w' hC => hC.call (HE.out w' hC)) ?_
      simp only [Act.put, List.setIfInBounds_toArray, List.set_cons_zero, List.set_cons_succ]
      refine wk_cmp_int .neq (false) _ _ _ _ _ _ _ (by kernel_rfl) rfl rfl rfl (rfl) ?_
      simp only [Act.put, List.setIfInBounds_toArray, List.set_cons_zero, List.set_cons_succ]
      repeat (first
        | (refine wk_move _ (by first | exact wanted_none rfl | exact wanted_yes _ _ rfl rfl) rfl ?_; simp only [Act.put, Act.eval, Array.getD_eq_getD_getElem?, List.getElem?_toArray, List.getElem?_cons_succ, List.getElem?_cons_zero, Option.getD_some, List.setIfInBounds_toArray, List.set_cons_zero, List.set_cons_succ])
        | (refine wk_assign _ (by first | exact wanted_none rfl | exact wanted_yes _ _ rfl rfl) rfl ?_; simp only [Act.put, Act.eval, Array.getD_eq_getD_getElem?, List.getElem?_toArray, List.getElem?_cons_succ, List.getElem?_cons_zero, Option.getD_some, List.setIfInBounds_toArray, List.set_cons_zero, List.set_cons_succ])
        | (refine wk_pickt _ _ _ _ (by first | exact wanted_none rfl | exact wanted_yes _ _ rfl rfl) rfl rfl rfl ?_; simp only [Act.put, Act.eval, Array.getD_eq_getD_getElem?, List.getElem?_toArray, List.getElem?_cons_succ, List.getElem?_cons_zero, Option.getD_some, List.setIfInBounds_toArray, List.set_cons_zero, List.set_cons_succ])
        | (refine wk_pickf _ _ _ _ (by first | exact wanted_none rfl | exact wanted_yes _ _ rfl rfl) rfl rfl rfl ?_; simp only [Act.put, Act.eval, Array.getD_eq_getD_getElem?, List.getElem?_toArray, List.getElem?_cons_succ, List.getElem?_cons_zero, Option.getD_some, List.setIfInBounds_toArray, List.set_cons_zero, List.set_cons_succ])
        | (refine wk_skip (wanted_not _ true false rfl rfl rfl) ?_; simp only [Act.put, List.setIfInBounds_toArray, List.set_cons_zero, List.set_cons_succ])
        | (refine wk_skip (wanted_not _ false true rfl rfl rfl) ?_; simp only [Act.put, List.setIfInBounds_toArray, List.set_cons_zero, List.set_cons_succ])
        | (refine wk_skip (wanted_undef _ _ rfl rfl) ?_; simp only [Act.put, List.setIfInBounds_toArray, List.set_cons_zero, List.set_cons_succ])
        | (refine wk_not true _ _ (by first | exact wanted_none rfl | exact wanted_yes _ _ rfl rfl) rfl rfl ?_; simp only [Act.put, List.setIfInBounds_toArray, List.set_cons_zero, List.set_cons_succ])
        | (refine wk_not false _ _ (by first | exact wanted_none rfl | exact wanted_yes _ _ rfl rfl) rfl rfl ?_; simp only [Act.put, List.setIfInBounds_toArray, List.set_cons_zero, List.set_cons_succ]))
      refine wk_cmp_int .gtr (true) _ _ _ _ _ _ _ (by kernel_rfl) rfl rfl rfl (HG.out) ?_
      simp only [Act.put, List.setIfInBounds_toArray, List.set_cons_zero, List.set_cons_succ]
      repeat (first
        | (refine wk_move _ (by first | exact wanted_none rfl | exact wanted_yes _ _ rfl rfl) rfl ?_; simp only [Act.put, Act.eval, Array.getD_eq_getD_getElem?, List.getElem?_toArray, List.getElem?_cons_succ, List.getElem?_cons_zero, Option.getD_some, List.setIfInBounds_toArray, List.set_cons_zero, List.set_cons_succ])
        | (refine wk_assign _ (by first | exact wanted_none rfl | exact wanted_yes _ _ rfl rfl) rfl ?_; simp only [Act.put, Act.eval, Array.getD_eq_getD_getElem?, List.getElem?_toArray, List.getElem?_cons_succ, List.getElem?_cons_zero, Option.getD_some, List.setIfInBounds_toArray, List.set_cons_zero, List.set_cons_succ])
        | (refine wk_pickt _ _ _ _ (by first | exact wanted_none rfl | exact wanted_yes _ _ rfl rfl) rfl rfl rfl ?_; simp only [Act.put, Act.eval, Array.getD_eq_getD_getElem?, List.getElem?_toArray, List.getElem?_cons_succ, List.getElem?_cons_zero, Option.getD_some, List.setIfInBounds_toArray, List.set_cons_zero, List.set_cons_succ])
        | (refine wk_pickf _ _ _ _ (by first | exact wanted_none rfl | exact wanted_yes _ _ rfl rfl) rfl rfl rfl ?_; simp only [Act.put, Act.eval, Array.getD_eq_getD_getElem?, List.getElem?_toArray, List.getElem?_cons_succ, List.getElem?_cons_zero, Option.getD_some, List.setIfInBounds_toArray, List.set_cons_zero, List.set_cons_succ])
        | (refine wk_skip (wanted_not _ true false rfl rfl rfl) ?_; simp only [Act.put, List.setIfInBounds_toArray, List.set_cons_zero, List.set_cons_succ])
        | (refine wk_skip (wanted_not _ false true rfl rfl rfl) ?_; simp only [Act.put, List.setIfInBounds_toArray, List.set_cons_zero, List.set_cons_succ])
        | (refine wk_skip (wanted_undef _ _ rfl rfl) ?_; simp only [Act.put, List.setIfInBounds_toArray, List.set_cons_zero, List.set_cons_succ])
        | (refine wk_not true _ _ (by first | exact wanted_none rfl | exact wanted_yes _ _ rfl rfl) rfl rfl ?_; simp only [Act.put, List.setIfInBounds_toArray, List.set_cons_zero, List.set_cons_succ])
        | (refine wk_not false _ _ (by first | exact wanted_none rfl | exact wanted_yes _ _ rfl rfl) rfl rfl ?_; simp only [Act.put, List.setIfInBounds_toArray, List.set_cons_zero, List.set_cons_succ]))
      refine wk_nil ?_
      intro w' hC
      have RZ := Lib.hid (R9.out.since hC)
      clear hC R9
      go_wp2_with (first
        | refine wpList_build_none rfl 26 rfl _ zeroC Tryd.underlying26 rfl ?_
        | refine wpList_store_row rfl 26 _ _ rfl g2 zeroCard rfl rfl 26 _ (RZ.out.get 2 rfl) sizeC rfl zeroCard_one ?_)
      have RY := Lib.hid (RZ.out.setRow 2 zeroCard rfl)
      refine bodyPost_ret (v := .tuple #[.agg zeroCard, .int .i64 250]) (results_cell_slot rfl _ _ g2 26 _ (0, 0) _ _ rfl rfl (RY.out.get 2 rfl) Tryd.underlying26 rfl sizeC) rfl ⟨by unfold cgetC cgetE; rw [HNO.out]; rfl, RY.out.below⟩
  · have hz' : (f && allZero (seg b 55 197)) = false := by simpa using hz
    rw [hz'] at HE
    have HNO : Hid (isCard b = false) := Lib.hid (by rw [HF.out, ← Bool.and_assoc, hz']; rfl)
    clear hz hz' HX1 HF HIN
    refine wk_plain_since ?_
    repeat (first
      | (refine wk_move _ (by first | exact wanted_none rfl | exact wanted_yes _ _ rfl rfl) rfl ?_; simp only [Act.put, Act.eval, Array.getD_eq_getD_getElem?, List.getElem?_toArray, List.getElem?_cons_succ, List.getElem?_cons_zero, Option.getD_some, List.setIfInBounds_toArray, List.set_cons_zero, List.set_cons_succ])
      | (refine wk_assign _ (by first | exact wanted_none rfl | exact wanted_yes _ _ rfl rfl) rfl ?_; simp only [Act.put, Act.eval, Array.getD_eq_getD_getElem?, List.getElem?_toArray, List.getElem?_cons_succ, List.getElem?_cons_zero, Option.getD_some, List.setIfInBounds_toArray, List.set_cons_zero, List.set_cons_succ])
      | (refine wk_pickt _ _ _ _ (by first | exact wanted_none rfl | exact wanted_yes _ _ rfl rfl) rfl rfl rfl ?_; simp only [Act.put, Act.eval, Array.getD_eq_getD_getElem?, List.getElem?_toArray, List.getElem?_cons_succ, List.getElem?_cons_zero, Option.getD_some, List.setIfInBounds_toArray, List.set_cons_zero, List.set_cons_succ])
      | (refine wk_pickf _ _ _ _ (by first | exact wanted_none rfl | exact wanted_yes _ _ rfl rfl) rfl rfl rfl ?_; simp only [Act.put, Act.eval, Array.getD_eq_getD_getElem?, List.getElem?_toArray, List.getElem?_cons_succ, List.getElem?_cons_zero, Option.getD_some, List.setIfInBounds_toArray, List.set_cons_zero, List.set_cons_succ])
      | (refine wk_skip (wanted_not _ true false rfl rfl rfl) ?_; simp only [Act.put, List.setIfInBounds_toArray, List.set_cons_zero, List.set_cons_succ])
      | (refine wk_skip (wanted_not _ false true rfl rfl rfl) ?_; simp only [Act.put, List.setIfInBounds_toArray, List.set_cons_zero, List.set_cons_succ])
      | (refine wk_skip (wanted_undef _ _ rfl rfl) ?_; simp only [Act.put, List.setIfInBounds_toArray, List.set_cons_zero, List.set_cons_succ])
      | (refine wk_not true _ _ (by first | exact wanted_none rfl | exact wanted_yes _ _ rfl rfl) rfl rfl ?_; simp only [Act.put, List.setIfInBounds_toArray, List.set_cons_zero, List.set_cons_succ])
      | (refine wk_not false _ _ (by first | exact wanted_none rfl | exact wanted_yes _ _ rfl rfl) rfl rfl ?_; simp only [Act.put, List.setIfInBounds_toArray, List.set_cons_zero, List.set_cons_succ]))
    refine wk_call 55 _ _ _ _ _ (by kernel_rfl) rfl Tryd.func55 rfl (by kernel_rfl) (fun w' hC => hC.call (HE.out w' hC)) ?_
    simp only [Act.put, List.setIfInBounds_toArray, List.set_cons_zero, List.set_cons_succ]
    refine wk_cmp_int .neq (true) _ _ _ _ _ _ _ (by kernel_rfl) rfl rfl rfl (rfl) ?_
    simp only [Act.put, List.setIfInBounds_toArray, List.set_cons_zero, List.set_cons_succ]
    repeat (first
      | (refine wk_move _ (by first | exact wanted_none rfl | exact wanted_yes _ _ rfl rfl) rfl ?_; simp only [Act.put, Act.eval, Array.getD_eq_getD_getElem?, List.getElem?_toArray, List.getElem?_cons_succ, List.getElem?_cons_zero, Option.getD_some, List.setIfInBounds_toArray, List.set_cons_zero, List.set_cons_succ])
      | (refine wk_assign _ (by first | exact wanted_none rfl | exact wanted_yes _ _ rfl rfl) rfl ?_; simp only [Act.put, Act.eval, Array.getD_eq_getD_getElem?, List.getElem?_toArray, List.getElem?_cons_succ, List.getElem?_cons_zero, Option.getD_some, List.setIfInBounds_toArray, List.set_cons_zero, List.set_cons_succ])
      | (refine wk_pickt _ _ _ _ (by first | exact wanted_none rfl | exact wanted_yes _ _ rfl rfl) rfl rfl rfl ?_; simp only [Act.put, Act.eval, Array.getD_eq_getD_getElem?, List.getElem?_toArray, List.getElem?_cons_succ, List.getElem?_cons_zero, Option.getD_some, List.setIfInBounds_toArray, List.set_cons_zero, List.set_cons_succ])
      | (refine wk_pickf _ _ _ _ (by first | exact wanted_none rfl | exact wanted_yes _ _ rfl rfl) rfl rfl rfl ?_; simp only [Act.put, Act.eval, Array.getD_eq_getD_getElem?, List.getElem?_toArray, List.getElem?_cons_succ, List.getElem?_cons_zero, Option.getD_some, List.setIfInBounds_toArray, List.set_cons_zero, List.set_cons_succ])
      | (refine wk_skip (wanted_not _ true false rfl rfl rfl) ?_; simp only [Act.put, List.setIfInBounds_toArray, List.set_cons_zero, List.set_cons_succ])
      | (refine wk_skip (wanted_not _ false true rfl rfl rfl) ?_; simp only [Act.put, List.setIfInBounds_toArray, List.set_cons_zero, List.set_cons_succ])
      | (refine wk_skip (wanted_undef _ _ rfl rfl) ?_; simp only [Act.put, List.setIfInBounds_toArray, List.set_cons_zero, List.set_cons_succ])
      | (refine wk_not true _ _ (by first | exact wanted_none rfl | exact wanted_yes _ _ rfl rfl) rfl rfl ?_; simp only [Act.put, List.setIfInBounds_toArray, List.set_cons_zero, List.set_cons_succ])
      | (refine wk_not false _ _ (by first | exact wanted_none rfl | exact wanted_yes _ _ rfl rfl) rfl rfl ?_; simp only [Act.put, List.setIfInBounds_toArray, List.set_cons_zero, List.set_cons_succ]))
    refine wk_nil ?_
    intro w' hC
    have RZ := Lib.hid (R9.out.since hC)
    clear hC R9
    go_wp2_with (first
      | refine wpList_build_none rfl 26 rfl _ zeroC Tryd.underlying26 rfl ?_
      | refine wpList_store_row rfl 26 _ _ rfl g2 zeroCard rfl rfl 26 _ (RZ.out.get 2 rfl) sizeC rfl zeroCard_one ?_)
    have RY := Lib.hid (RZ.out.setRow 2 zeroCard rfl)
    refine bodyPost_ret (v := .tuple #[.agg zeroCard, .int .i64 250]) (results_cell_slot rfl _ _ g2 26 _ (0, 0) _ _ rfl rfl (RY.out.get 2 rfl) Tryd.underlying26 rfl sizeC) rfl ⟨by unfold cgetC cgetE; rw [HNO.out]; rfl, RY.out.below⟩
end Go.Proofs.YtfbafmgclfnigaaDoor
