/- The node layer: Get. -/
import Derived.Test.YtnhfkmfmmgaecaaDoorNodePut
import Derived.Test.YtnhfkmfmmgaecaaDoorRead6
namespace Go.Proofs.YtnhfkmfmmgaecaaDoor
open Go.RowKit
set_option linter.unusedSimpArgs false
set_option maxRecDepth 100000
theorem Rows.grown {w0 W W' : World} {l : List (Nat × Array Value × TypeId)} (R : Rows w0 W l) {g : Nat} (hg : W.grownBy W' (some g)) (h0 : w0.heap.size ≤ g) (hl : ∀ x ∈ l, x.1 ≠ g) : Rows w0 W' l :=
  ⟨R.below.grown hg R.below.size (fun k hk => by simp at hk; omega), fun x hx => ⟨(R.row x hx).1, (hg.block _ (R.lts x hx) (by simp; exact fun e => hl x hx e)).trans (R.row x hx).2⟩, R.dist⟩
/-- Where the k-th pointer stands, or where a failed reader stays. -/
def posN (f : Bool) (k : Nat) : Nat := if f then 2 + 4 * k else 1
theorem posN_next (f : Bool) (k : Nat) : nextI (posN f k) 4 f = posN f (k + 1) := by cases f <;> simp [nextI, posN]; omega
theorem posN_le (f : Bool) (k : Nat) (h : k ≤ 32) : posN f k ≤ 130 := by unfold posN; split <;> omega
/-- The pointers of which k are read. -/
def updN (b : List UInt8) (f : Bool) (k : Nat) : List Nat := (List.range 32).map fun i => if i < k then readV b (posN f i) 4 f else 0
theorem updN_zero (b : List UInt8) (f : Bool) : updN b f 0 = z32 := by
  unfold updN z32
  rw [List.map_congr_left (g := fun _ => 0) (fun i _ => by simp)]
  rfl
theorem updN_set (b : List UInt8) (f : Bool) (k : Nat) (hk : k < 32) : (updN b f k).set k (readV b (posN f k) 4 f) = updN b f (k + 1) := by
  apply List.ext_getElem
  · simp [updN]
  · intro i h1 h2
    have hi : i < 32 := by simpa [updN] using h2
    by_cases e : i = k
    · subst e; simp [updN]
    · rw [List.getElem_set_ne (by omega)]
      simp only [updN, List.getElem_map, List.getElem_range]
      have : i < k ↔ i < k + 1 := by omega
      simp only [this]
theorem updN_old (x : Nat) (b : List UInt8) (f : Bool) (k : Nat) (hk : k < 32) : (ncells x (updN b f k))[k + 1]? = some (.int .u32 0) := by
  rw [ncells, pcells_get _ _ _ _ k (by simpa [updN] using hk)]
  simp [updN]
theorem updN_full (b : List UInt8) : updN b true 32 = rest b 2 4 32 := by
  unfold updN rest
  apply List.map_congr_left
  intro i hi
  rw [List.mem_range] at hi
  simp [hi, readV, posN]
/-- Is a block a node's? -/
def isNode (b : List UInt8) : Bool := fineB b 78 && (allZero (seg b 130 122) && nmay (num (seg b 1 1)) (rest b 2 4 32))
def ngetC (b : List UInt8) : Array Value := if isNode b then ncells (num (seg b 1 1)) (rest b 2 4 32) else nzero
def ngetE (b : List UInt8) : Int := if isNode b then 0 else 250
theorem nzero_one : nzero.all (·.oneCell') = true := pcells_one _ _ _ _
theorem nzero_size : nzero.size = 33 := rfl
theorem nOf_ok (b : List UInt8) (hb : b.length = 256) : NOk (num (seg b 1 1)) (rest b 2 4 32) := pOf_ok b hb 1 4 32 (by decide)
set_option maxHeartbeats 2000000 in
theorem nget_any (b : List UInt8) (hb : b.length = 256) (w : World) :
    Calls Tryd.prog 42 #[.agg (blk b)] w fun e w' => e = .returned (.tuple #[.agg (ngetC b), .int .i64 (ngetE b)]) ∧ Below w.heap.size w w' := by
  obtain ⟨f, hf⟩ : ∃ f, f = fineB b 78 := ⟨_, rfl⟩
  have HF := Lib.hid hf
  have HO : Hid (∀ w : World, Calls Tryd.prog 58 #[.agg (blk b), .int .u8 78] w fun e w' => ∃ g, e = .returned (.pointer (some ⟨g, 0, none⟩)) ∧ w.heap.size < g ∧ ReaderAt w' g w.heap.size b 1 f ∧ Below w.heap.size w w') := Lib.hid (fun w => by rw [hf]; exact open_any w b hb 78)
  have HLB := Lib.hid hb
  have HBs : Hid ((blk b).size = 256) := Lib.hid (by rw [size_blk, hb])
  clear hf hb
  have q1 := ((Rows.start w).alloc (blk b) 33).alloc nzero 70
  obtain ⟨g1, hg1⟩ : ∃ g, g = w.heap.size := ⟨_, rfl⟩
  obtain ⟨g2, hg2⟩ : ∃ g, g = (w.alloc (.cells (blk b) 33)).heap.size := ⟨_, rfl⟩
  rw [← hg2, ← hg1] at q1
  have hg2' : w.heap.size + 1 = g2 := by rw [hg2]; simp
  have G1 := Lib.hid hg1
  have G2 := Lib.hid hg2'
  have Q1 := Lib.hid q1
  clear hg1 hg2 hg2' q1
  go_enter Tryd.func42, Tryd.ntmps42
  go_upto_region 1 with (refine wpList_alloc_row rfl 70 rfl _ zeroN ?_)
  have q1 := Q1.out
  obtain ⟨W1, hW⟩ : ∃ W, W = (w.alloc (.cells (blk b) 33)).alloc (.cells nzero 70) := ⟨_, rfl⟩
  rw [← hW] at q1 ⊢
  rw [G2.out, ← G1.out]
  have R1 := Lib.hid q1
  clear hW q1 Q1
  go_wp2_with (refine wpList_load_row rfl 33 _ rfl g1 rfl 33 (blk b) (0, 0) _ (R1.out.get 1 rfl) Tryd.underlying33 rfl (by rw [HBs.out]; exact sizeB) ?_)
  refine (HO.out _).mono ?_
  rintro e w2 ⟨g, rfl, hgl, hr2, hb2⟩
  obtain ⟨gb, hgb⟩ : ∃ gb, gb = W1.heap.size := ⟨_, rfl⟩
  have HNE : Hid (∀ x ∈ [(g2, nzero, 70), (g1, blk b, 33)], x.1 ≠ g) := Lib.hid (fun x hx => by have := R1.out.lts x hx; omega)
  have HG0 : Hid (w.heap.size ≤ g) := Lib.hid (by have := R1.out.below.size; omega)
  rw [← hgb] at hr2
  have R2 := Lib.hid (R1.out.call hb2)
  have HR2 := Lib.hid hr2
  clear hgl hgb hr2 hb2
  go_wp2_with fail
  refine (rnum_all _ _ _ _ _ 1 _ HR2.out (by omega) (by omega)).mono ?_
  rintro e w3 ⟨rfl, hr3, hg3⟩
  have R3 := Lib.hid (R2.out.grown hg3 HG0.out HNE.out)
  have HR3 : Hid (ReaderAt w3 g gb b (posN f 0) f) := Lib.hid (by
    have : posN f 0 = nextI 1 1 f := by cases f <;> rfl
    rw [this]; exact hr3)
  have hx : readV b 1 1 f < 256 := readV_lt b HLB.out 1 1 f (by omega)
  obtain ⟨x, hxe⟩ : ∃ x, x = readV b 1 1 f := ⟨_, rfl⟩
  rw [← hxe] at hx ⊢
  have HX := Lib.hid hxe
  clear hr3 hg3 hxe
  have HCO : Hid ((ncells x z32).all (·.oneCell') = true) := Lib.hid (pcells_one _ _ _ _)
  have HU0 : Hid (ncells x z32 = ncells x (updN b f 0)) := Lib.hid (by rw [updN_zero])
  have q1 := R3.out.alloc (ncells x z32) 70
  go_upto_region 3 with (first
    | refine wpList_alloc_row rfl 70 rfl _ zeroN ?_
    | refine wpList_store_new rfl 70 _ _ rfl _ (ncells x z32) _ rfl rfl sizeN rfl HCO.out ?_)
  obtain ⟨C0, hC0⟩ : ∃ C, C = ncells x z32 := ⟨_, rfl⟩
  rw [← hC0] at q1 HU0 ⊢
  clear hC0 HCO
  have hgbs : gb < w3.heap.size := (Array.getElem?_eq_some_iff.1 HR3.out.src).1
  have hg5 : g < w3.heap.size := (Array.getElem?_eq_some_iff.1 HR3.out.row).1
  have HR4 : Hid (ReaderAt (w3.alloc (.cells C0 70)) g gb b (posN f 0) f) := Lib.hid (HR3.out.below ((Below.refl _ _).alloc (Nat.le_refl _) _))
  obtain ⟨W4, hW⟩ : ∃ W, W = w3.alloc (.cells C0 70) := ⟨_, rfl⟩
  rw [← hW] at q1 HR4 ⊢
  clear hW
  obtain ⟨g5, hg⟩ : ∃ g, g = w3.heap.size := ⟨_, rfl⟩
  rw [← hg] at q1 hg5 hgbs ⊢
  clear hg
  rw [HU0.out] at q1
  have R4 := Lib.hid q1
  have HN5 : Hid (∀ k, ∀ x' ∈ [(g5, ncells x (updN b f k), 70), (g2, nzero, 70), (g1, blk b, 33)], x'.1 ≠ g) := Lib.hid (fun k x' hx' => by
    rcases List.mem_cons.1 hx' with rfl | hx'
    · show g5 ≠ g
      omega
    · exact HNE.out x' hx')
  have HNB : Hid (g5 ≠ gb) := Lib.hid (by omega)
  clear q1 hg5 HU0 HR3 HR2 hgbs
  go_wp2_with fail
  go_loopw [13] (fun i wr => ∃ k : Nat, k ≤ 32 ∧ i = .int .i64 k ∧ ReaderAt wr g gb b (posN f k) f ∧ Rows w wr [(g5, ncells x (updN b f k), 70), (g2, nzero, 70), (g1, blk b, 33)]) (fun i _ => 32 - (intOf i).toNat)
  case atStart => exact ⟨0, by omega, rfl, HR4.out, R4.out⟩
  case round =>
    obtain ⟨k, hk, rfl, hr, hR⟩ := hrel
    have HR := Lib.hid hr
    have R5 := Lib.hid hR
    clear hr hR
    have hpl := posN_le f k hk
    by_cases hlt : k < 32
    · go_wp2_with fail
      refine (rnum_all _ _ _ _ _ 4 _ HR.out (by omega) (by omega)).mono ?_
      rintro e w5 ⟨rfl, hr5, hg5⟩
      rw [posN_next] at hr5
      have R6 := Lib.hid (R5.out.grown hg5 HG0.out (HN5.out k))
      have hx4 : readV b (posN f k) 4 f < 4294967296 := readV_lt b HLB.out _ 4 f (by omega)
      have hset := updN_set b f k hlt
      obtain ⟨y, hye⟩ : ∃ y, y = readV b (posN f k) 4 f := ⟨_, rfl⟩
      rw [← hye] at hx4 hset ⊢
      have HSET : Hid ((ncells x (updN b f k)).setIfInBounds (1 + k) (.int .u32 (y : Int)) = ncells x (updN b f (k + 1))) := Lib.hid (by rw [Nat.add_comm, ncells, pcells_set, hset]; rfl)
      have HR5 := Lib.hid hr5
      have c5 : w5.cell? ⟨g5, 1 + k, none⟩ = some (.int .u32 0) := R6.out.cell 0 (1 + k) rfl (by rw [Nat.add_comm]; exact updN_old x b f k hlt)
      have f5 := R6.out.free 0 (1 + k) rfl
      have q1 := Lib.hid (R6.out.setCell 0 (1 + k) (.int .u32 (y : Int)) rfl)
      have HRS : Hid (ReaderAt (w5.setCell ⟨g5, 1 + k, none⟩ (.int .u32 (y : Int))) g gb b (posN f (k + 1)) f) := Lib.hid (by
        have h1 := HN5.out k (g5, ncells x (updN b f k), 70) (by simp)
        have h2 : g5 ≠ gb := HNB.out
        exact ⟨by rw [heap_setCell_other _ _ _ _ (fun e => h1 e.symm)]; exact HR5.out.row, by rw [heap_setCell_other _ _ _ _ (fun e => h2 e.symm)]; exact HR5.out.src, HR5.out.len, HR5.out.lt, HR5.out.ne⟩)
      clear hr5 hg5 hset hye
      go_upto_region 7 with (fail)
      obtain ⟨V5, hV5⟩ : ∃ V, V = w5.setCell ⟨g5, 1 + k, none⟩ (.int .u32 (y : Int)) := ⟨_, rfl⟩
      have q2 := q1.out
      have q3 := HRS.out
      rw [← hV5] at q2 q3 ⊢
      simp only [List.set_cons_zero] at q2
      rw [HSET.out] at q2
      have R7 := Lib.hid q2
      have HR7 := Lib.hid q3
      clear hV5 q1 q2 q3 HRS c5 f5
      go_wp2_with fail
      exact ⟨⟨k + 1, by omega, by go_num, HR7.out, R7.out⟩, by simp [intOf]; omega⟩
    · obtain rfl : k = 32 := by omega
      have HUN : Hid (∀ w', Since wr w' → Rows w w' [(g5, ncells x (updN b f 32), 70), (g2, nzero, 70), (g1, blk b, 33)]) := Lib.hid (fun w' hC => R5.out.since hC)
      by_cases hz : (f && allZero (seg b (posN f 32) (252 - posN f 32))) = true
      · have hft : f = true := by cases f <;> simp_all
        subst hft
        have HE : Hid (∀ w', Since wr w' → Calls Tryd.prog 25 #[.pointer (some ⟨g, 0, none⟩)] w' fun e w'' => e = .returned (.int .i64 0) ∧ Below w'.heap.size w' w'') := Lib.hid (fun w' hC => by
          have := end_all w' g gb b _ true (HR.out.below hC)
          unfold endV at this
          rw [if_pos hz] at this
          exact this)
        have hxx : x = num (seg b 1 1) := by rw [HX.out]; rfl
        have hC : ncells x (updN b true 32) = ncells (num (seg b 1 1)) (rest b 2 4 32) := by rw [hxx, updN_full]
        have hI : isNode b = nmay (num (seg b 1 1)) (rest b 2 4 32) := by
          have h2 : allZero (seg b 130 122) = true := by simpa [posN] using hz
          unfold isNode; rw [← HF.out, h2]; simp
        have HGC : Hid (ngetC b = if nmay (num (seg b 1 1)) (rest b 2 4 32) then ncells (num (seg b 1 1)) (rest b 2 4 32) else nzero) := Lib.hid (by unfold ngetC; rw [hI])
        have HGE : Hid (ngetE b = if nmay (num (seg b 1 1)) (rest b 2 4 32) then 0 else 250) := Lib.hid (by unfold ngetE; rw [hI])
        have HMM : Hid (∀ w', Since wr w' → Calls Tryd.prog 74 #[.pointer (some ⟨g5, 0, none⟩)] w' fun e w'' => e = .returned (.bool (nmay (num (seg b 1 1)) (rest b 2 4 32))) ∧ w' = w'') := Lib.hid (fun w' hC' => by
          refine nmay_any w' g5 _ _ (nOf_ok b HLB.out) ?_
          have := (HUN.out w' hC').get 0 rfl
          rw [hC] at this
          exact this)
        rw [hC] at HUN
        have HCS : Hid ((ncells (num (seg b 1 1)) (rest b 2 4 32)).size = 33) := Lib.hid (size_ncells (nOf_ok b HLB.out))
        have HCO : Hid ((ncells (num (seg b 1 1)) (rest b 2 4 32)).all (·.oneCell') = true) := Lib.hid (pcells_one _ _ _ _)
        obtain ⟨D, hD⟩ : ∃ D, D = ncells (num (seg b 1 1)) (rest b 2 4 32) := ⟨_, rfl⟩
        obtain ⟨m, hm⟩ : ∃ m, m = nmay (num (seg b 1 1)) (rest b 2 4 32) := ⟨_, rfl⟩
        rw [← hD] at HUN HGC HCS HCO
        rw [← hm] at HGC HGE HMM
        clear hz hxx hC hI hD hm
        go_upto_region 8 with (fail)
        refine wk_plain_since ?_
        repeat (first
          | (refine wk_move _ (by first | exact wanted_none rfl | exact wanted_yes _ _ rfl rfl) rfl ?_; simp only [Act.put, Act.eval, Array.getD_eq_getD_getElem?, List.getElem?_toArray, List.getElem?_cons_succ, List.getElem?_cons_zero, Option.getD_some, List.setIfInBounds_toArray, List.set_cons_zero, List.set_cons_succ])
          | (refine wk_assign _ (by first | exact wanted_none rfl | exact wanted_yes _ _ rfl rfl) rfl ?_; simp only [Act.put, Act.eval, Array.getD_eq_getD_getElem?, List.getElem?_toArray, List.getElem?_cons_succ, List.getElem?_cons_zero, Option.getD_some, List.setIfInBounds_toArray, List.set_cons_zero, List.set_cons_succ])
          | (refine wk_pickt _ _ _ _ (by first | exact wanted_none rfl | exact wanted_yes _ _ rfl rfl) rfl rfl rfl ?_; simp only [Act.put, Act.eval, Array.getD_eq_getD_getElem?, List.getElem?_toArray, List.getElem?_cons_succ, List.getElem?_cons_zero, Option.getD_some, List.setIfInBounds_toArray, List.set_cons_zero, List.set_cons_succ])
          | (refine wk_pickf _ _ _ _ (by first | exact wanted_none rfl | exact wanted_yes _ _ rfl rfl) rfl rfl rfl ?_; simp only [Act.put, Act.eval, Array.getD_eq_getD_getElem?, List.getElem?_toArray, List.getElem?_cons_succ, List.getElem?_cons_zero, Option.getD_some, List.setIfInBounds_toArray, List.set_cons_zero, List.set_cons_succ])
          | (refine wk_skip (wanted_not _ true false rfl rfl rfl) ?_; simp only [Act.put, List.setIfInBounds_toArray, List.set_cons_zero, List.set_cons_succ])
          | (refine wk_skip (wanted_not _ false true rfl rfl rfl) ?_; simp only [Act.put, List.setIfInBounds_toArray, List.set_cons_zero, List.set_cons_succ])
          | (refine wk_skip (wanted_undef _ _ rfl rfl) ?_; simp only [Act.put, List.setIfInBounds_toArray, List.set_cons_zero, List.set_cons_succ])
          | (refine wk_not true _ _ (by first | exact wanted_none rfl | exact wanted_yes _ _ rfl rfl) rfl rfl ?_; simp only [Act.put, List.setIfInBounds_toArray, List.set_cons_zero, List.set_cons_succ])
          | (refine wk_not false _ _ (by first | exact wanted_none rfl | exact wanted_yes _ _ rfl rfl) rfl rfl ?_; simp only [Act.put, List.setIfInBounds_toArray, List.set_cons_zero, List.set_cons_succ]))
        refine wk_call 25 _ _ _ _ _ (by kernel_rfl) rfl Tryd.func25 rfl (by kernel_rfl) (fun w' hC => hC.call (HE.out w' hC)) ?_
        simp only [Act.put, List.setIfInBounds_toArray, List.set_cons_zero, List.set_cons_succ]
        refine wk_cmp_int .neq (false) _ _ _ _ _ _ _ (by kernel_rfl) rfl rfl rfl (rfl) ?_
        simp only [Act.put, List.setIfInBounds_toArray, List.set_cons_zero, List.set_cons_succ]
        repeat (first
          | (refine wk_move _ (by first | exact wanted_none rfl | exact wanted_yes _ _ rfl rfl) rfl ?_; simp only [Act.put, Act.eval, Array.getD_eq_getD_getElem?, List.getElem?_toArray, List.getElem?_cons_succ, List.getElem?_cons_zero, Option.getD_some, List.setIfInBounds_toArray, List.set_cons_zero, List.set_cons_succ])
          | (refine wk_assign _ (by first | exact wanted_none rfl | exact wanted_yes _ _ rfl rfl) rfl ?_; simp only [Act.put, Act.eval, Array.getD_eq_getD_getElem?, List.getElem?_toArray, List.getElem?_cons_succ, List.getElem?_cons_zero, Option.getD_some, List.setIfInBounds_toArray, List.set_cons_zero, List.set_cons_succ])
          | (refine wk_pickt _ _ _ _ (by first | exact wanted_none rfl | exact wanted_yes _ _ rfl rfl) rfl rfl rfl ?_; simp only [Act.put, Act.eval, Array.getD_eq_getD_getElem?, List.getElem?_toArray, List.getElem?_cons_succ, List.getElem?_cons_zero, Option.getD_some, List.setIfInBounds_toArray, List.set_cons_zero, List.set_cons_succ])
          | (refine wk_pickf _ _ _ _ (by first | exact wanted_none rfl | exact wanted_yes _ _ rfl rfl) rfl rfl rfl ?_; simp only [Act.put, Act.eval, Array.getD_eq_getD_getElem?, List.getElem?_toArray, List.getElem?_cons_succ, List.getElem?_cons_zero, Option.getD_some, List.setIfInBounds_toArray, List.set_cons_zero, List.set_cons_succ])
          | (refine wk_skip (wanted_not _ true false rfl rfl rfl) ?_; simp only [Act.put, List.setIfInBounds_toArray, List.set_cons_zero, List.set_cons_succ])
          | (refine wk_skip (wanted_not _ false true rfl rfl rfl) ?_; simp only [Act.put, List.setIfInBounds_toArray, List.set_cons_zero, List.set_cons_succ])
          | (refine wk_skip (wanted_undef _ _ rfl rfl) ?_; simp only [Act.put, List.setIfInBounds_toArray, List.set_cons_zero, List.set_cons_succ])
          | (refine wk_not true _ _ (by first | exact wanted_none rfl | exact wanted_yes _ _ rfl rfl) rfl rfl ?_; simp only [Act.put, List.setIfInBounds_toArray, List.set_cons_zero, List.set_cons_succ])
          | (refine wk_not false _ _ (by first | exact wanted_none rfl | exact wanted_yes _ _ rfl rfl) rfl rfl ?_; simp only [Act.put, List.setIfInBounds_toArray, List.set_cons_zero, List.set_cons_succ]))
        refine wk_call 74 _ _ _ _ _ (by kernel_rfl) rfl Tryd.func74 rfl (by kernel_rfl) (fun w' hC => hC.same (HMM.out w' hC)) ?_
        simp only [Act.put, List.setIfInBounds_toArray, List.set_cons_zero, List.set_cons_succ]
        cases m
        · skip
          repeat (first
            | (refine wk_move _ (by first | exact wanted_none rfl | exact wanted_yes _ _ rfl rfl) rfl ?_; simp only [Act.put, Act.eval, Array.getD_eq_getD_getElem?, List.getElem?_toArray, List.getElem?_cons_succ, List.getElem?_cons_zero, Option.getD_some, List.setIfInBounds_toArray, List.set_cons_zero, List.set_cons_succ])
            | (refine wk_assign _ (by first | exact wanted_none rfl | exact wanted_yes _ _ rfl rfl) rfl ?_; simp only [Act.put, Act.eval, Array.getD_eq_getD_getElem?, List.getElem?_toArray, List.getElem?_cons_succ, List.getElem?_cons_zero, Option.getD_some, List.setIfInBounds_toArray, List.set_cons_zero, List.set_cons_succ])
            | (refine wk_pickt _ _ _ _ (by first | exact wanted_none rfl | exact wanted_yes _ _ rfl rfl) rfl rfl rfl ?_; simp only [Act.put, Act.eval, Array.getD_eq_getD_getElem?, List.getElem?_toArray, List.getElem?_cons_succ, List.getElem?_cons_zero, Option.getD_some, List.setIfInBounds_toArray, List.set_cons_zero, List.set_cons_succ])
            | (refine wk_pickf _ _ _ _ (by first | exact wanted_none rfl | exact wanted_yes _ _ rfl rfl) rfl rfl rfl ?_; simp only [Act.put, Act.eval, Array.getD_eq_getD_getElem?, List.getElem?_toArray, List.getElem?_cons_succ, List.getElem?_cons_zero, Option.getD_some, List.setIfInBounds_toArray, List.set_cons_zero, List.set_cons_succ])
            | (refine wk_skip (wanted_not _ true false rfl rfl rfl) ?_; simp only [Act.put, List.setIfInBounds_toArray, List.set_cons_zero, List.set_cons_succ])
            | (refine wk_skip (wanted_not _ false true rfl rfl rfl) ?_; simp only [Act.put, List.setIfInBounds_toArray, List.set_cons_zero, List.set_cons_succ])
            | (refine wk_skip (wanted_undef _ _ rfl rfl) ?_; simp only [Act.put, List.setIfInBounds_toArray, List.set_cons_zero, List.set_cons_succ])
            | (refine wk_not true _ _ (by first | exact wanted_none rfl | exact wanted_yes _ _ rfl rfl) rfl rfl ?_; simp only [Act.put, List.setIfInBounds_toArray, List.set_cons_zero, List.set_cons_succ])
            | (refine wk_not false _ _ (by first | exact wanted_none rfl | exact wanted_yes _ _ rfl rfl) rfl rfl ?_; simp only [Act.put, List.setIfInBounds_toArray, List.set_cons_zero, List.set_cons_succ]))
          refine wk_nil ?_
          intro w' hC
          have S1 := Lib.hid (HUN.out _ hC)
          clear hC
          go_wp2_with (first
            | refine wpList_build_none rfl 70 rfl _ zeroN Tryd.underlying70 rfl ?_
            | refine wpList_store_row rfl 70 _ _ rfl g2 nzero rfl rfl 70 _ (S1.out.get 1 rfl) sizeN rfl nzero_one ?_)
          refine bodyPost_ret (v := .tuple #[.agg nzero, .int .i64 250]) (results_cell_slot rfl _ _ g2 70 _ (0, 0) _ _ rfl rfl (setRow_heap _ _ _ _ _ _ (S1.out.get 1 rfl)) Tryd.underlying70 rfl sizeN) rfl ⟨by rw [HGC.out, HGE.out]; rfl, ?_⟩
          exact (S1.out.setRow 1 _ rfl).below
        · skip
          repeat (first
            | (refine wk_move _ (by first | exact wanted_none rfl | exact wanted_yes _ _ rfl rfl) rfl ?_; simp only [Act.put, Act.eval, Array.getD_eq_getD_getElem?, List.getElem?_toArray, List.getElem?_cons_succ, List.getElem?_cons_zero, Option.getD_some, List.setIfInBounds_toArray, List.set_cons_zero, List.set_cons_succ])
            | (refine wk_assign _ (by first | exact wanted_none rfl | exact wanted_yes _ _ rfl rfl) rfl ?_; simp only [Act.put, Act.eval, Array.getD_eq_getD_getElem?, List.getElem?_toArray, List.getElem?_cons_succ, List.getElem?_cons_zero, Option.getD_some, List.setIfInBounds_toArray, List.set_cons_zero, List.set_cons_succ])
            | (refine wk_pickt _ _ _ _ (by first | exact wanted_none rfl | exact wanted_yes _ _ rfl rfl) rfl rfl rfl ?_; simp only [Act.put, Act.eval, Array.getD_eq_getD_getElem?, List.getElem?_toArray, List.getElem?_cons_succ, List.getElem?_cons_zero, Option.getD_some, List.setIfInBounds_toArray, List.set_cons_zero, List.set_cons_succ])
            | (refine wk_pickf _ _ _ _ (by first | exact wanted_none rfl | exact wanted_yes _ _ rfl rfl) rfl rfl rfl ?_; simp only [Act.put, Act.eval, Array.getD_eq_getD_getElem?, List.getElem?_toArray, List.getElem?_cons_succ, List.getElem?_cons_zero, Option.getD_some, List.setIfInBounds_toArray, List.set_cons_zero, List.set_cons_succ])
            | (refine wk_skip (wanted_not _ true false rfl rfl rfl) ?_; simp only [Act.put, List.setIfInBounds_toArray, List.set_cons_zero, List.set_cons_succ])
            | (refine wk_skip (wanted_not _ false true rfl rfl rfl) ?_; simp only [Act.put, List.setIfInBounds_toArray, List.set_cons_zero, List.set_cons_succ])
            | (refine wk_skip (wanted_undef _ _ rfl rfl) ?_; simp only [Act.put, List.setIfInBounds_toArray, List.set_cons_zero, List.set_cons_succ])
            | (refine wk_not true _ _ (by first | exact wanted_none rfl | exact wanted_yes _ _ rfl rfl) rfl rfl ?_; simp only [Act.put, List.setIfInBounds_toArray, List.set_cons_zero, List.set_cons_succ])
            | (refine wk_not false _ _ (by first | exact wanted_none rfl | exact wanted_yes _ _ rfl rfl) rfl rfl ?_; simp only [Act.put, List.setIfInBounds_toArray, List.set_cons_zero, List.set_cons_succ]))
          refine wk_nil ?_
          intro w' hC
          have S1 := Lib.hid (HUN.out _ hC)
          clear hC
          go_wp2_with (first
            | refine wpList_load_row rfl 70 _ rfl g5 rfl 70 D (0, 0) _ (S1.out.get 0 rfl) Tryd.underlying70 rfl (by rw [HCS.out]; exact sizeN) ?_
            | refine wpList_store_row rfl 70 _ _ rfl g2 D rfl rfl 70 _ (S1.out.get 1 rfl) (by rw [HCS.out]; exact sizeN) (by rw [HCS.out]; rfl) HCO.out ?_)
          refine bodyPost_ret (v := .tuple #[.agg D, .int .i64 0]) (results_cell_slot rfl _ _ g2 70 _ (0, 0) _ _ rfl rfl (setRow_heap _ _ _ _ _ _ (S1.out.get 1 rfl)) Tryd.underlying70 rfl (by rw [HCS.out]; exact sizeN)) rfl ⟨by rw [HGC.out, HGE.out]; rfl, ?_⟩
          exact (S1.out.setRow 1 _ rfl).below
      · have hI : isNode b = false := by
          unfold isNode; rw [← HF.out]
          cases f with
          | false => rfl
          | true =>
            have h2 : allZero (seg b 130 122) = false := by simpa [posN] using hz
            rw [h2]; rfl
        have HGC : Hid (ngetC b = nzero) := Lib.hid (by unfold ngetC; rw [hI]; rfl)
        have HGE : Hid (ngetE b = 250) := Lib.hid (by unfold ngetE; rw [hI]; rfl)
        have HE : Hid (∀ w', Since wr w' → Calls Tryd.prog 25 #[.pointer (some ⟨g, 0, none⟩)] w' fun e w'' => e = .returned (.int .i64 250) ∧ Below w'.heap.size w' w'') := Lib.hid (fun w' hC => by
          have := end_all w' g gb b _ f (HR.out.below hC)
          unfold endV at this
          rw [if_neg hz] at this
          exact this)
        clear hz hI
        go_upto_region 8 with (fail)
        refine wk_plain_since ?_
        repeat (first
          | (refine wk_move _ (by first | exact wanted_none rfl | exact wanted_yes _ _ rfl rfl) rfl ?_; simp only [Act.put, Act.eval, Array.getD_eq_getD_getElem?, List.getElem?_toArray, List.getElem?_cons_succ, List.getElem?_cons_zero, Option.getD_some, List.setIfInBounds_toArray, List.set_cons_zero, List.set_cons_succ])
          | (refine wk_assign _ (by first | exact wanted_none rfl | exact wanted_yes _ _ rfl rfl) rfl ?_; simp only [Act.put, Act.eval, Array.getD_eq_getD_getElem?, List.getElem?_toArray, List.getElem?_cons_succ, List.getElem?_cons_zero, Option.getD_some, List.setIfInBounds_toArray, List.set_cons_zero, List.set_cons_succ])
          | (refine wk_pickt _ _ _ _ (by first | exact wanted_none rfl | exact wanted_yes _ _ rfl rfl) rfl rfl rfl ?_; simp only [Act.put, Act.eval, Array.getD_eq_getD_getElem?, List.getElem?_toArray, List.getElem?_cons_succ, List.getElem?_cons_zero, Option.getD_some, List.setIfInBounds_toArray, List.set_cons_zero, List.set_cons_succ])
          | (refine wk_pickf _ _ _ _ (by first | exact wanted_none rfl | exact wanted_yes _ _ rfl rfl) rfl rfl rfl ?_; simp only [Act.put, Act.eval, Array.getD_eq_getD_getElem?, List.getElem?_toArray, List.getElem?_cons_succ, List.getElem?_cons_zero, Option.getD_some, List.setIfInBounds_toArray, List.set_cons_zero, List.set_cons_succ])
          | (refine wk_skip (wanted_not _ true false rfl rfl rfl) ?_; simp only [Act.put, List.setIfInBounds_toArray, List.set_cons_zero, List.set_cons_succ])
          | (refine wk_skip (wanted_not _ false true rfl rfl rfl) ?_; simp only [Act.put, List.setIfInBounds_toArray, List.set_cons_zero, List.set_cons_succ])
          | (refine wk_skip (wanted_undef _ _ rfl rfl) ?_; simp only [Act.put, List.setIfInBounds_toArray, List.set_cons_zero, List.set_cons_succ])
          | (refine wk_not true _ _ (by first | exact wanted_none rfl | exact wanted_yes _ _ rfl rfl) rfl rfl ?_; simp only [Act.put, List.setIfInBounds_toArray, List.set_cons_zero, List.set_cons_succ])
          | (refine wk_not false _ _ (by first | exact wanted_none rfl | exact wanted_yes _ _ rfl rfl) rfl rfl ?_; simp only [Act.put, List.setIfInBounds_toArray, List.set_cons_zero, List.set_cons_succ]))
        refine wk_call 25 _ _ _ _ _ (by kernel_rfl) rfl Tryd.func25 rfl (by kernel_rfl) (fun w' hC => hC.call (HE.out w' hC)) ?_
        simp only [Act.put, List.setIfInBounds_toArray, List.set_cons_zero, List.set_cons_succ]
        refine wk_cmp_int .neq (true) _ _ _ _ _ _ _ (by kernel_rfl) rfl rfl rfl (rfl) ?_
        simp only [Act.put, List.setIfInBounds_toArray, List.set_cons_zero, List.set_cons_succ]
        repeat (first
          | (refine wk_move _ (by first | exact wanted_none rfl | exact wanted_yes _ _ rfl rfl) rfl ?_; simp only [Act.put, Act.eval, Array.getD_eq_getD_getElem?, List.getElem?_toArray, List.getElem?_cons_succ, List.getElem?_cons_zero, Option.getD_some, List.setIfInBounds_toArray, List.set_cons_zero, List.set_cons_succ])
          | (refine wk_assign _ (by first | exact wanted_none rfl | exact wanted_yes _ _ rfl rfl) rfl ?_; simp only [Act.put, Act.eval, Array.getD_eq_getD_getElem?, List.getElem?_toArray, List.getElem?_cons_succ, List.getElem?_cons_zero, Option.getD_some, List.setIfInBounds_toArray, List.set_cons_zero, List.set_cons_succ])
          | (refine wk_pickt _ _ _ _ (by first | exact wanted_none rfl | exact wanted_yes _ _ rfl rfl) rfl rfl rfl ?_; simp only [Act.put, Act.eval, Array.getD_eq_getD_getElem?, List.getElem?_toArray, List.getElem?_cons_succ, List.getElem?_cons_zero, Option.getD_some, List.setIfInBounds_toArray, List.set_cons_zero, List.set_cons_succ])
          | (refine wk_pickf _ _ _ _ (by first | exact wanted_none rfl | exact wanted_yes _ _ rfl rfl) rfl rfl rfl ?_; simp only [Act.put, Act.eval, Array.getD_eq_getD_getElem?, List.getElem?_toArray, List.getElem?_cons_succ, List.getElem?_cons_zero, Option.getD_some, List.setIfInBounds_toArray, List.set_cons_zero, List.set_cons_succ])
          | (refine wk_skip (wanted_not _ true false rfl rfl rfl) ?_; simp only [Act.put, List.setIfInBounds_toArray, List.set_cons_zero, List.set_cons_succ])
          | (refine wk_skip (wanted_not _ false true rfl rfl rfl) ?_; simp only [Act.put, List.setIfInBounds_toArray, List.set_cons_zero, List.set_cons_succ])
          | (refine wk_skip (wanted_undef _ _ rfl rfl) ?_; simp only [Act.put, List.setIfInBounds_toArray, List.set_cons_zero, List.set_cons_succ])
          | (refine wk_not true _ _ (by first | exact wanted_none rfl | exact wanted_yes _ _ rfl rfl) rfl rfl ?_; simp only [Act.put, List.setIfInBounds_toArray, List.set_cons_zero, List.set_cons_succ])
          | (refine wk_not false _ _ (by first | exact wanted_none rfl | exact wanted_yes _ _ rfl rfl) rfl rfl ?_; simp only [Act.put, List.setIfInBounds_toArray, List.set_cons_zero, List.set_cons_succ]))
        refine wk_nil ?_
        intro w' hC
        have S1 := Lib.hid (HUN.out _ hC)
        clear hC
        go_wp2_with (first
          | refine wpList_build_none rfl 70 rfl _ zeroN Tryd.underlying70 rfl ?_
          | refine wpList_store_row rfl 70 _ _ rfl g2 nzero rfl rfl 70 _ (S1.out.get 1 rfl) sizeN rfl nzero_one ?_)
        refine bodyPost_ret (v := .tuple #[.agg nzero, .int .i64 250]) (results_cell_slot rfl _ _ g2 70 _ (0, 0) _ _ rfl rfl (setRow_heap _ _ _ _ _ _ (S1.out.get 1 rfl)) Tryd.underlying70 rfl sizeN) rfl ⟨by rw [HGC.out, HGE.out], ?_⟩
        exact (S1.out.setRow 1 _ rfl).below
end Go.Proofs.YtnhfkmfmmgaecaaDoor
