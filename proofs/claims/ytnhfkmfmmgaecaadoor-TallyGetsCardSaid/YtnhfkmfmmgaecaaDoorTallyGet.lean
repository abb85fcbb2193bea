/- The tally layer: get. Written by mktget.py. -/
import Derived.Test.YtnhfkmfmmgaecaaDoorTally
import Derived.Test.YtnhfkmfmmgaecaaDoorRead6
import Derived.Test.YtnhfkmfmmgaecaaDoorGood
namespace Go.Proofs.YtnhfkmfmmgaecaaDoor
open Go.RowKit
set_option linter.unusedSimpArgs false
set_option maxRecDepth 100000
theorem Rows.grownT {w0 W W' : World} {l : List (Nat × Array Value × TypeId)} (R : Rows w0 W l) {g : Nat} (hg : W.grownBy W' (some g)) (h0 : w0.heap.size ≤ g) (hl : ∀ x ∈ l, x.1 ≠ g) : Rows w0 W' l :=
  ⟨R.below.grown hg R.below.size (fun k hk => by simp at hk; omega), fun x hx => ⟨(R.row x hx).1, (hg.block _ (R.lts x hx) (by simp; exact fun e => hl x hx e)).trans (R.row x hx).2⟩, R.dist⟩
/-- Where the k-th number stands, or where a failed reader stays. -/
def posT (wl : Nat) (f : Bool) (k : Nat) : Nat := if f then 5 + wl * k else 1
theorem posT_next (wl : Nat) (f : Bool) (k : Nat) : nextI (posT wl f k) wl f = posT wl f (k + 1) := by cases f <;> simp [nextI, posT, Nat.mul_succ]; omega
/-- The numbers of which k are read. -/
def updT (wl n : Nat) (b : List UInt8) (f : Bool) (k : Nat) : List Nat := (List.range n).map fun i => if i < k then readV b (posT wl f i) wl f else 0
theorem length_updT (wl n : Nat) (b : List UInt8) (f : Bool) (k : Nat) : (updT wl n b f k).length = n := by simp [updT]
theorem updT_zero (wl n : Nat) (b : List UInt8) (f : Bool) : updT wl n b f 0 = List.replicate n 0 := by
  apply List.ext_getElem
  · simp [updT]
  · intro i h1 h2
    simp [updT]
theorem updT_set (wl n : Nat) (b : List UInt8) (f : Bool) (k : Nat) (_hk : k < n) : (updT wl n b f k).set k (readV b (posT wl f k) wl f) = updT wl n b f (k + 1) := by
  apply List.ext_getElem
  · simp [updT]
  · intro i h1 h2
    have hi : i < n := by simpa [updT] using h2
    by_cases e : i = k
    · subst e; simp [updT]
    · rw [List.getElem_set_ne (by omega)]
      simp only [updT, List.getElem_map, List.getElem_range]
      have : i < k ↔ i < k + 1 := by omega
      simp only [this]
theorem updT_old (kh kl : IntKind) (x wl n : Nat) (b : List UInt8) (f : Bool) (k : Nat) (hk : k < n) : (pcells kh kl x (updT wl n b f k))[1 + k]? = some (.int kl 0) := by
  rw [Nat.add_comm, pcells_get _ _ _ _ k (by rw [length_updT]; exact hk)]
  simp [updT]
theorem updT_full (wl n : Nat) (b : List UInt8) : updT wl n b true n = rest b 5 wl n := by
  unfold updT rest
  apply List.map_congr_left
  intro i hi
  rw [List.mem_range] at hi
  simp [hi, readV, posT]
theorem posT_le_a (f : Bool) (k : Nat) (h : k ≤ 64) : posT 2 f k ≤ 133 := by unfold posT; split <;> omega
/-- Is a block that of a page of this place? -/
def isTa (b : List UInt8) (x : Nat) : Bool := fineB b 84 && (allZero (seg b 133 119) && decide (num (seg b 1 4) = x))
/-- What get answers, where the place may be. -/
def tagetE (b : List UInt8) (x : Nat) : Int := if b = zeroBlk then 0 else if isTa b x then 0 else 250
/-- What get has read. -/
def tagetL (b : List UInt8) : List Nat := if b = zeroBlk then List.replicate 64 0 else updT 2 64 b (fineB b 84) 64
set_option maxHeartbeats 1000000 in
theorem taget_no (w0 w : World) (b : List UInt8) (r : Value) (x lim : Nat) (hm : ¬ x < lim) (l : List (Nat × Array Value × TypeId)) (R0 : Rows w0 w l) :
    Calls Tryd.prog 81 #[.agg (blk b), .int .u8 84, .int .u32 (x : Int), .int .u32 (lim : Int), r, .int .i64 2] w fun e w' => e = .returned (.int .i64 2) ∧ Rows w0 w' l := by
  have q1 := R0.alloc (blk b) 33
  go_enter Tryd.func81, Tryd.ntmps81
  go_upto_region 1 with (fail)
  obtain ⟨W1, hW⟩ : ∃ W, W = w.alloc (.cells (blk b) 33) := ⟨_, rfl⟩
  rw [← hW] at q1 ⊢
  clear hW
  obtain ⟨g1, hg⟩ : ∃ g, g = w.heap.size := ⟨_, rfl⟩
  rw [← hg] at q1 ⊢
  clear hg
  have R1 := Lib.hid q1
  clear q1
  go_wp2_with fail
  go_ret
  exact ⟨rfl, R1.out.tail⟩
set_option maxHeartbeats 2000000 in
theorem taget_yes (w0 w : World) (b : List UInt8) (hb : b.length = 256) (g5 c x lim : Nat) (hx : x < 4294967296) (hm : x < lim) (l : List (Nat × Array Value × TypeId)) (R0 : Rows w0 w ((g5, pcells .u32 .u16 x (List.replicate 64 0), 90) :: l)) :
    Calls Tryd.prog 81 #[.agg (blk b), .int .u8 84, .int .u32 (x : Int), .int .u32 (lim : Int), .slice (some ⟨g5, 1, none⟩) 64 c, .int .i64 2] w fun e w' => e = .returned (.int .i64 (tagetE b x)) ∧ Rows w0 w' ((g5, pcells .u32 .u16 x (tagetL b), 90) :: l) := by
  obtain ⟨f, hf⟩ : ∃ f, f = fineB b 84 := ⟨_, rfl⟩
  have HF := Lib.hid hf
  have HO : Hid (∀ w : World, Calls Tryd.prog 58 #[.agg (blk b), .int .u8 84] w fun e w' => ∃ g, e = .returned (.pointer (some ⟨g, 0, none⟩)) ∧ w.heap.size < g ∧ ReaderAt w' g w.heap.size b 1 f ∧ Below w.heap.size w w') := Lib.hid (fun w => by rw [hf]; exact open_any w b hb 84)
  have HZ : Hid (∀ w : World, Calls Tryd.prog 93 #[.agg (blk b)] w fun e w' => e = .returned (.bool (decide (b = zeroBlk))) ∧ Below w.heap.size w w') := Lib.hid (zero_any b hb)
  have HLB := Lib.hid hb
  have HBs : Hid ((blk b).size = 256) := Lib.hid (by rw [size_blk, hb])
  have HGE : Hid (tagetE b x = if b = zeroBlk then 0 else if isTa b x then 0 else 250) := Lib.hid rfl
  have HGL : Hid (tagetL b = if b = zeroBlk then List.replicate 64 0 else updT 2 64 b (fineB b 84) 64) := Lib.hid rfl
  clear hf hb
  obtain ⟨z, hz⟩ : ∃ z, z = List.replicate 64 0 := ⟨_, rfl⟩
  rw [← hz] at R0 HGL
  have HZZ := Lib.hid hz
  clear hz
  have q1 := R0.alloc (blk b) 33
  go_enter Tryd.func81, Tryd.ntmps81
  go_upto_region 1 with (fail)
  obtain ⟨W1, hW⟩ : ∃ W, W = w.alloc (.cells (blk b) 33) := ⟨_, rfl⟩
  rw [← hW] at q1 ⊢
  clear hW
  obtain ⟨g1, hg⟩ : ∃ g, g = w.heap.size := ⟨_, rfl⟩
  rw [← hg] at q1 ⊢
  clear hg
  have R1 := Lib.hid q1
  clear q1
  clear R0
  go_wp2_with (refine wpList_load_row rfl 33 _ rfl g1 rfl 33 (blk b) (0, 0) _ (R1.out.get 0 rfl) Tryd.underlying33 rfl (by rw [HBs.out]; exact sizeB) ?_)
  refine (HZ.out _).mono ?_
  rintro e w2 ⟨rfl, hb2⟩
  have R2 := Lib.hid (R1.out.call hb2)
  clear hb2 R1
  by_cases hz0 : b = zeroBlk
  · have HE : Hid (tagetE b x = 0) := Lib.hid (by rw [HGE.out, if_pos hz0])
    have HL : Hid (tagetL b = z) := Lib.hid (by rw [HGL.out, if_pos hz0])
    rw [decide_eq_true hz0]
    clear hz0
    go_wp2_with fail
    go_ret
    exact ⟨by rw [HE.out]; rfl, by rw [HL.out]; exact R2.out.tail⟩
  have HE : Hid (tagetE b x = if isTa b x then 0 else 250) := Lib.hid (by rw [HGE.out, if_neg hz0])
  have HL : Hid (tagetL b = updT 2 64 b f 64) := Lib.hid (by rw [HGL.out, if_neg hz0, HF.out])
  rw [decide_eq_false hz0]
  clear hz0 HGE HGL
  go_wp2_with (refine wpList_load_row rfl 33 _ rfl g1 rfl 33 (blk b) (0, 0) _ (R2.out.get 0 rfl) Tryd.underlying33 rfl (by rw [HBs.out]; exact sizeB) ?_)
  refine (HO.out _).mono ?_
  rintro e w3 ⟨g, rfl, hgl, hr3, hb3⟩
  obtain ⟨gb, hgb⟩ : ∃ gb, gb = w2.heap.size := ⟨_, rfl⟩
  have HNE : Hid (∀ k, ∀ y ∈ (g1, blk b, 33) :: (g5, pcells .u32 .u16 x (updT 2 64 b f k), 90) :: l, y.1 ≠ g) := Lib.hid (fun k y hy => by
    have hl := R2.out.lts
    rcases List.mem_cons.1 hy with rfl | hy
    · have := hl (g1, blk b, 33) (by simp)
      show g1 ≠ g
      simp only at this
      omega
    · rcases List.mem_cons.1 hy with rfl | hy
      · have := hl (g5, pcells .u32 .u16 x z, 90) (by simp)
        show g5 ≠ g
        simp only at this
        omega
      · have := hl y (by simp [hy])
        omega)
  have HG0 : Hid (w0.heap.size ≤ g) := Lib.hid (by have := R2.out.below.size; omega)
  have HNB : Hid (g5 ≠ gb) := Lib.hid (by
    have := R2.out.lts (g5, pcells .u32 .u16 x z, 90) (by simp)
    simp only at this
    omega)
  rw [← hgb] at hr3
  have R3 := Lib.hid (R2.out.call hb3)
  have HR3 := Lib.hid hr3
  clear hgl hgb hr3 hb3 R2
  rw [show z = updT 2 64 b f 0 by rw [updT_zero, HZZ.out]] at R3
  go_wp2_with fail
  refine (rnum_all _ _ _ _ _ 4 _ HR3.out (by omega) (by omega)).mono ?_
  rintro e w4 ⟨rfl, hr4, hg4⟩
  have R4 := Lib.hid (R3.out.grownT hg4 HG0.out (HNE.out 0))
  have HR4 : Hid (ReaderAt w4 g gb b (posT 2 f 0) f) := Lib.hid (by
    have : posT 2 f 0 = nextI 1 4 f := by cases f <;> rfl
    rw [this]; exact hr4)
  have hy : readV b 1 4 f < 4294967296 := readV_lt b HLB.out 1 4 f (by omega)
  obtain ⟨y, hye⟩ : ∃ y, y = readV b 1 4 f := ⟨_, rfl⟩
  rw [← hye] at hy ⊢
  have HY := Lib.hid hye
  clear hr4 hg4 hye R3 HR3
  obtain ⟨rt, hrt⟩ : ∃ rt, rt = decide ((y : Int) = (x : Int)) := ⟨_, rfl⟩
  have HRT := Lib.hid hrt
  have hw : IntKind.u64.wrap (x : Int) = (x : Int) := by rw [IntKind.wrap_u64]; omega
  by_cases hyx : (y : Int) = (x : Int)
  all_goals
    go_wp2_with fail
    clear hw
    go_loopw [34] (fun i wr => ∃ k : Nat, k ≤ 64 ∧ i = .int .i64 k ∧ ReaderAt wr g gb b (posT 2 f k) f ∧ Rows w0 wr ((g1, blk b, 33) :: (g5, pcells .u32 .u16 x (updT 2 64 b f k), 90) :: l)) (fun i _ => 64 - (intOf i).toNat)
    case atStart => exact ⟨0, by omega, rfl, HR4.out, R4.out⟩
    case round =>
      obtain ⟨k, hk, rfl, hr, hR⟩ := hrel
      have HR := Lib.hid hr
      have R5 := Lib.hid hR
      clear hr hR
      have hpl := posT_le_a f k hk
      by_cases hlt : k < 64
      · have hpl2 : posT 2 f k + 2 ≤ 252 := by omega
        go_wp2_with fail
        refine (rnum_all _ _ _ _ _ 2 _ HR.out (by omega) (by omega)).mono ?_
        rintro e w5 ⟨rfl, hr5, hg5⟩
        rw [posT_next] at hr5
        have R6 := Lib.hid (R5.out.grownT hg5 HG0.out (HNE.out k))
        have hx4 : readV b (posT 2 f k) 2 f < 65536 := readV_lt b HLB.out _ 2 f (by omega)
        have hset := updT_set 2 64 b f k hlt
        obtain ⟨v, hve⟩ : ∃ v, v = readV b (posT 2 f k) 2 f := ⟨_, rfl⟩
        rw [← hve] at hx4 hset ⊢
        have HSET : Hid ((pcells .u32 .u16 x (updT 2 64 b f k)).setIfInBounds (1 + k) (.int .u16 (v : Int)) = pcells .u32 .u16 x (updT 2 64 b f (k + 1))) := Lib.hid (by rw [Nat.add_comm, pcells_set, hset])
        have HR5 := Lib.hid hr5
        have c5 : w5.cell? ⟨g5, 1 + k, none⟩ = some (.int .u16 0) := R6.out.cell 1 (1 + k) rfl (updT_old _ _ x 2 64 b f k hlt)
        have f5 := R6.out.free 1 (1 + k) rfl
        have q1 := Lib.hid (R6.out.setCell 1 (1 + k) (.int .u16 (v : Int)) rfl)
        have HRS : Hid (ReaderAt (w5.setCell ⟨g5, 1 + k, none⟩ (.int .u16 (v : Int))) g gb b (posT 2 f (k + 1)) f) := Lib.hid (by
          have h1 := HNE.out k (g5, pcells .u32 .u16 x (updT 2 64 b f k), 90) (by simp)
          have h2 : g5 ≠ gb := HNB.out
          exact ⟨by rw [heap_setCell_other _ _ _ _ (fun e => h1 e.symm)]; exact HR5.out.row, by rw [heap_setCell_other _ _ _ _ (fun e => h2 e.symm)]; exact HR5.out.src, HR5.out.len, HR5.out.lt, HR5.out.ne⟩)
        clear hr5 hg5 hset hve
        go_upto_region 11 with (fail)
        obtain ⟨V5, hV5⟩ : ∃ V, V = w5.setCell ⟨g5, 1 + k, none⟩ (.int .u16 (v : Int)) := ⟨_, rfl⟩
        have q2 := q1.out
        have q3 := HRS.out
        rw [← hV5] at q2 q3 ⊢
        simp only [List.set_cons_zero, List.set_cons_succ] at q2
        rw [HSET.out] at q2
        have R7 := Lib.hid q2
        have HR7 := Lib.hid q3
        clear hV5 q1 q2 q3 HRS c5 f5
        go_wp2_with fail
        exact ⟨⟨k + 1, by omega, by go_num, HR7.out, R7.out⟩, by simp [intOf]; omega⟩
      · obtain rfl : k = 64 := by omega
        go_wp2_with fail
        refine (end_all _ _ _ _ _ _ HR.out).mono ?_
        rintro e w6 ⟨rfl, hb6⟩
        have R6 := Lib.hid (R5.out.call hb6)
        clear hb6
        have HEV : Hid (endV b (posT 2 f 64) f = if f && allZero (seg b 133 119) then 0 else 250) := Lib.hid (by cases f <;> rfl)
        have HIT : Hid (isTa b x = (f && allZero (seg b 133 119) && rt)) := Lib.hid (by
          unfold isTa
          rw [← HF.out, HRT.out]
          cases f with
          | false => rfl
          | true =>
            have : readV b 1 4 true = num (seg b 1 4) := rfl
            have e2 := HY.out
            rw [this] at e2
            rw [← e2, Bool.true_and, Bool.true_and]
            congr 1
            rw [Bool.eq_iff_iff]; simp; omega)
        rw [HEV.out]
        obtain ⟨s, hs⟩ : ∃ s, s = (f && allZero (seg b 133 119)) := ⟨_, rfl⟩
        rw [← hs] at HIT ⊢
        have HRV : Hid (rt = decide ((y : Int) = (x : Int))) := HRT
        clear hs HEV
        cases s
        · have HEE : Hid (tagetE b x = 250) := Lib.hid (by rw [HE.out, HIT.out]; rfl)
          simp only [Bool.false_eq_true, if_false]
          go_wp2_with fail
          go_ret
          exact ⟨by rw [HEE.out]; rfl, by rw [HL.out]; exact R6.out.tail⟩
        · simp only [if_true]
          have HEE : Hid (tagetE b x = if decide ((y : Int) = (x : Int)) then 0 else 250) := Lib.hid (by rw [HE.out, HIT.out, HRV.out]; rfl)
          first
          | rw [decide_eq_true hyx] at HEE
          | rw [decide_eq_false hyx] at HEE
          go_wp2_with fail
          go_ret
          exact ⟨by rw [HEE.out]; rfl, by rw [HL.out]; exact R6.out.tail⟩
theorem posT_le_i (f : Bool) (k : Nat) (h : k ≤ 16) : posT 8 f k ≤ 133 := by unfold posT; split <;> omega
/-- Is a block that of a page of this place? -/
def isTi (b : List UInt8) (x : Nat) : Bool := fineB b 80 && (allZero (seg b 133 119) && decide (num (seg b 1 4) = x))
/-- What get answers, where the place may be. -/
def tigetE (b : List UInt8) (x : Nat) : Int := if b = zeroBlk then 0 else if isTi b x then 0 else 250
/-- What get has read. -/
def tigetL (b : List UInt8) : List Nat := if b = zeroBlk then List.replicate 16 0 else updT 8 16 b (fineB b 80) 16
set_option maxHeartbeats 1000000 in
theorem tiget_no (w0 w : World) (b : List UInt8) (r : Value) (x lim : Nat) (hm : ¬ x < lim) (l : List (Nat × Array Value × TypeId)) (R0 : Rows w0 w l) :
    Calls Tryd.prog 82 #[.agg (blk b), .int .u8 80, .int .u32 (x : Int), .int .u32 (lim : Int), r, .int .i64 8] w fun e w' => e = .returned (.int .i64 2) ∧ Rows w0 w' l := by
  have q1 := R0.alloc (blk b) 33
  go_enter Tryd.func82, Tryd.ntmps82
  go_upto_region 1 with (fail)
  obtain ⟨W1, hW⟩ : ∃ W, W = w.alloc (.cells (blk b) 33) := ⟨_, rfl⟩
  rw [← hW] at q1 ⊢
  clear hW
  obtain ⟨g1, hg⟩ : ∃ g, g = w.heap.size := ⟨_, rfl⟩
  rw [← hg] at q1 ⊢
  clear hg
  have R1 := Lib.hid q1
  clear q1
  go_wp2_with fail
  go_ret
  exact ⟨rfl, R1.out.tail⟩
set_option maxHeartbeats 2000000 in
theorem tiget_yes (w0 w : World) (b : List UInt8) (hb : b.length = 256) (g5 c x lim : Nat) (hx : x < 4294967296) (hm : x < lim) (l : List (Nat × Array Value × TypeId)) (R0 : Rows w0 w ((g5, pcells .u32 .u64 x (List.replicate 16 0), 93) :: l)) :
    Calls Tryd.prog 82 #[.agg (blk b), .int .u8 80, .int .u32 (x : Int), .int .u32 (lim : Int), .slice (some ⟨g5, 1, none⟩) 16 c, .int .i64 8] w fun e w' => e = .returned (.int .i64 (tigetE b x)) ∧ Rows w0 w' ((g5, pcells .u32 .u64 x (tigetL b), 93) :: l) := by
  obtain ⟨f, hf⟩ : ∃ f, f = fineB b 80 := ⟨_, rfl⟩
  have HF := Lib.hid hf
  have HO : Hid (∀ w : World, Calls Tryd.prog 58 #[.agg (blk b), .int .u8 80] w fun e w' => ∃ g, e = .returned (.pointer (some ⟨g, 0, none⟩)) ∧ w.heap.size < g ∧ ReaderAt w' g w.heap.size b 1 f ∧ Below w.heap.size w w') := Lib.hid (fun w => by rw [hf]; exact open_any w b hb 80)
  have HZ : Hid (∀ w : World, Calls Tryd.prog 93 #[.agg (blk b)] w fun e w' => e = .returned (.bool (decide (b = zeroBlk))) ∧ Below w.heap.size w w') := Lib.hid (zero_any b hb)
  have HLB := Lib.hid hb
  have HBs : Hid ((blk b).size = 256) := Lib.hid (by rw [size_blk, hb])
  have HGE : Hid (tigetE b x = if b = zeroBlk then 0 else if isTi b x then 0 else 250) := Lib.hid rfl
  have HGL : Hid (tigetL b = if b = zeroBlk then List.replicate 16 0 else updT 8 16 b (fineB b 80) 16) := Lib.hid rfl
  clear hf hb
  obtain ⟨z, hz⟩ : ∃ z, z = List.replicate 16 0 := ⟨_, rfl⟩
  rw [← hz] at R0 HGL
  have HZZ := Lib.hid hz
  clear hz
  have q1 := R0.alloc (blk b) 33
  go_enter Tryd.func82, Tryd.ntmps82
  go_upto_region 1 with (fail)
  obtain ⟨W1, hW⟩ : ∃ W, W = w.alloc (.cells (blk b) 33) := ⟨_, rfl⟩
  rw [← hW] at q1 ⊢
  clear hW
  obtain ⟨g1, hg⟩ : ∃ g, g = w.heap.size := ⟨_, rfl⟩
  rw [← hg] at q1 ⊢
  clear hg
  have R1 := Lib.hid q1
  clear q1
  clear R0
  go_wp2_with (refine wpList_load_row rfl 33 _ rfl g1 rfl 33 (blk b) (0, 0) _ (R1.out.get 0 rfl) Tryd.underlying33 rfl (by rw [HBs.out]; exact sizeB) ?_)
  refine (HZ.out _).mono ?_
  rintro e w2 ⟨rfl, hb2⟩
  have R2 := Lib.hid (R1.out.call hb2)
  clear hb2 R1
  by_cases hz0 : b = zeroBlk
  · have HE : Hid (tigetE b x = 0) := Lib.hid (by rw [HGE.out, if_pos hz0])
    have HL : Hid (tigetL b = z) := Lib.hid (by rw [HGL.out, if_pos hz0])
    rw [decide_eq_true hz0]
    clear hz0
    go_wp2_with fail
    go_ret
    exact ⟨by rw [HE.out]; rfl, by rw [HL.out]; exact R2.out.tail⟩
  have HE : Hid (tigetE b x = if isTi b x then 0 else 250) := Lib.hid (by rw [HGE.out, if_neg hz0])
  have HL : Hid (tigetL b = updT 8 16 b f 16) := Lib.hid (by rw [HGL.out, if_neg hz0, HF.out])
  rw [decide_eq_false hz0]
  clear hz0 HGE HGL
  go_wp2_with (refine wpList_load_row rfl 33 _ rfl g1 rfl 33 (blk b) (0, 0) _ (R2.out.get 0 rfl) Tryd.underlying33 rfl (by rw [HBs.out]; exact sizeB) ?_)
  refine (HO.out _).mono ?_
  rintro e w3 ⟨g, rfl, hgl, hr3, hb3⟩
  obtain ⟨gb, hgb⟩ : ∃ gb, gb = w2.heap.size := ⟨_, rfl⟩
  have HNE : Hid (∀ k, ∀ y ∈ (g1, blk b, 33) :: (g5, pcells .u32 .u64 x (updT 8 16 b f k), 93) :: l, y.1 ≠ g) := Lib.hid (fun k y hy => by
    have hl := R2.out.lts
    rcases List.mem_cons.1 hy with rfl | hy
    · have := hl (g1, blk b, 33) (by simp)
      show g1 ≠ g
      simp only at this
      omega
    · rcases List.mem_cons.1 hy with rfl | hy
      · have := hl (g5, pcells .u32 .u64 x z, 93) (by simp)
        show g5 ≠ g
        simp only at this
        omega
      · have := hl y (by simp [hy])
        omega)
  have HG0 : Hid (w0.heap.size ≤ g) := Lib.hid (by have := R2.out.below.size; omega)
  have HNB : Hid (g5 ≠ gb) := Lib.hid (by
    have := R2.out.lts (g5, pcells .u32 .u64 x z, 93) (by simp)
    simp only at this
    omega)
  rw [← hgb] at hr3
  have R3 := Lib.hid (R2.out.call hb3)
  have HR3 := Lib.hid hr3
  clear hgl hgb hr3 hb3 R2
  rw [show z = updT 8 16 b f 0 by rw [updT_zero, HZZ.out]] at R3
  go_wp2_with fail
  refine (rnum_all _ _ _ _ _ 4 _ HR3.out (by omega) (by omega)).mono ?_
  rintro e w4 ⟨rfl, hr4, hg4⟩
  have R4 := Lib.hid (R3.out.grownT hg4 HG0.out (HNE.out 0))
  have HR4 : Hid (ReaderAt w4 g gb b (posT 8 f 0) f) := Lib.hid (by
    have : posT 8 f 0 = nextI 1 4 f := by cases f <;> rfl
    rw [this]; exact hr4)
  have hy : readV b 1 4 f < 4294967296 := readV_lt b HLB.out 1 4 f (by omega)
  obtain ⟨y, hye⟩ : ∃ y, y = readV b 1 4 f := ⟨_, rfl⟩
  rw [← hye] at hy ⊢
  have HY := Lib.hid hye
  clear hr4 hg4 hye R3 HR3
  obtain ⟨rt, hrt⟩ : ∃ rt, rt = decide ((y : Int) = (x : Int)) := ⟨_, rfl⟩
  have HRT := Lib.hid hrt
  have hw : IntKind.u64.wrap (x : Int) = (x : Int) := by rw [IntKind.wrap_u64]; omega
  by_cases hyx : (y : Int) = (x : Int)
  all_goals
    go_wp2_with fail
    clear hw
    go_loopw [34] (fun i wr => ∃ k : Nat, k ≤ 16 ∧ i = .int .i64 k ∧ ReaderAt wr g gb b (posT 8 f k) f ∧ Rows w0 wr ((g1, blk b, 33) :: (g5, pcells .u32 .u64 x (updT 8 16 b f k), 93) :: l)) (fun i _ => 16 - (intOf i).toNat)
    case atStart => exact ⟨0, by omega, rfl, HR4.out, R4.out⟩
    case round =>
      obtain ⟨k, hk, rfl, hr, hR⟩ := hrel
      have HR := Lib.hid hr
      have R5 := Lib.hid hR
      clear hr hR
      have hpl := posT_le_i f k hk
      by_cases hlt : k < 16
      · have hpl2 : posT 8 f k + 8 ≤ 252 := by omega
        go_wp2_with fail
        refine (rnum_all _ _ _ _ _ 8 _ HR.out (by omega) (by omega)).mono ?_
        rintro e w5 ⟨rfl, hr5, hg5⟩
        rw [posT_next] at hr5
        have R6 := Lib.hid (R5.out.grownT hg5 HG0.out (HNE.out k))
        have hx4 : readV b (posT 8 f k) 8 f < 18446744073709551616 := readV_lt b HLB.out _ 8 f (by omega)
        have hset := updT_set 8 16 b f k hlt
        obtain ⟨v, hve⟩ : ∃ v, v = readV b (posT 8 f k) 8 f := ⟨_, rfl⟩
        rw [← hve] at hx4 hset ⊢
        have HSET : Hid ((pcells .u32 .u64 x (updT 8 16 b f k)).setIfInBounds (1 + k) (.int .u64 (v : Int)) = pcells .u32 .u64 x (updT 8 16 b f (k + 1))) := Lib.hid (by rw [Nat.add_comm, pcells_set, hset])
        have HR5 := Lib.hid hr5
        have c5 : w5.cell? ⟨g5, 1 + k, none⟩ = some (.int .u64 0) := R6.out.cell 1 (1 + k) rfl (updT_old _ _ x 8 16 b f k hlt)
        have f5 := R6.out.free 1 (1 + k) rfl
        have q1 := Lib.hid (R6.out.setCell 1 (1 + k) (.int .u64 (v : Int)) rfl)
        have HRS : Hid (ReaderAt (w5.setCell ⟨g5, 1 + k, none⟩ (.int .u64 (v : Int))) g gb b (posT 8 f (k + 1)) f) := Lib.hid (by
          have h1 := HNE.out k (g5, pcells .u32 .u64 x (updT 8 16 b f k), 93) (by simp)
          have h2 : g5 ≠ gb := HNB.out
          exact ⟨by rw [heap_setCell_other _ _ _ _ (fun e => h1 e.symm)]; exact HR5.out.row, by rw [heap_setCell_other _ _ _ _ (fun e => h2 e.symm)]; exact HR5.out.src, HR5.out.len, HR5.out.lt, HR5.out.ne⟩)
        clear hr5 hg5 hset hve
        go_upto_region 11 with (fail)
        obtain ⟨V5, hV5⟩ : ∃ V, V = w5.setCell ⟨g5, 1 + k, none⟩ (.int .u64 (v : Int)) := ⟨_, rfl⟩
        have q2 := q1.out
        have q3 := HRS.out
        rw [← hV5] at q2 q3 ⊢
        simp only [List.set_cons_zero, List.set_cons_succ] at q2
        rw [HSET.out] at q2
        have R7 := Lib.hid q2
        have HR7 := Lib.hid q3
        clear hV5 q1 q2 q3 HRS c5 f5
        go_wp2_with fail
        exact ⟨⟨k + 1, by omega, by go_num, HR7.out, R7.out⟩, by simp [intOf]; omega⟩
      · obtain rfl : k = 16 := by omega
        go_wp2_with fail
        refine (end_all _ _ _ _ _ _ HR.out).mono ?_
        rintro e w6 ⟨rfl, hb6⟩
        have R6 := Lib.hid (R5.out.call hb6)
        clear hb6
        have HEV : Hid (endV b (posT 8 f 16) f = if f && allZero (seg b 133 119) then 0 else 250) := Lib.hid (by cases f <;> rfl)
        have HIT : Hid (isTi b x = (f && allZero (seg b 133 119) && rt)) := Lib.hid (by
          unfold isTi
          rw [← HF.out, HRT.out]
          cases f with
          | false => rfl
          | true =>
            have : readV b 1 4 true = num (seg b 1 4) := rfl
            have e2 := HY.out
            rw [this] at e2
            rw [← e2, Bool.true_and, Bool.true_and]
            congr 1
            rw [Bool.eq_iff_iff]; simp; omega)
        rw [HEV.out]
        obtain ⟨s, hs⟩ : ∃ s, s = (f && allZero (seg b 133 119)) := ⟨_, rfl⟩
        rw [← hs] at HIT ⊢
        have HRV : Hid (rt = decide ((y : Int) = (x : Int))) := HRT
        clear hs HEV
        cases s
        · have HEE : Hid (tigetE b x = 250) := Lib.hid (by rw [HE.out, HIT.out]; rfl)
          simp only [Bool.false_eq_true, if_false]
          go_wp2_with fail
          go_ret
          exact ⟨by rw [HEE.out]; rfl, by rw [HL.out]; exact R6.out.tail⟩
        · simp only [if_true]
          have HEE : Hid (tigetE b x = if decide ((y : Int) = (x : Int)) then 0 else 250) := Lib.hid (by rw [HE.out, HIT.out, HRV.out]; rfl)
          first
          | rw [decide_eq_true hyx] at HEE
          | rw [decide_eq_false hyx] at HEE
          go_wp2_with fail
          go_ret
          exact ⟨by rw [HEE.out]; rfl, by rw [HL.out]; exact R6.out.tail⟩
end Go.Proofs.YtnhfkmfmmgaecaaDoor
