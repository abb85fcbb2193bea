/- The shelf layer: a cell read from a block. The shelf layer: Get answers the shelf whose block it is. The shelf layer: the law ShelfGets holds of every block, sealed or not. -/
import Derived.Test.YtcepfmjebgklfaaDoorRdHeld
import Derived.Test.YtcepfmjebgklfaaDoorOwn
import Derived.Test.YtcepfmjebgklfaaDoorShPut
import Derived.Test.YtcepfmjebgklfaaDoorSteps
import Derived.Test.YtcepfmjebgklfaaDoorRef18W
import Derived.Test.YtcepfmjebgklfaaDoorRef18G
import Derived.Test.YtcepfmjebgklfaaDoorRef18E
namespace Go.Proofs.YtcepfmjebgklfaaDoor
open Go.RowKit
set_option linter.unusedSimpArgs false
set_option linter.unusedVariables false
set_option maxRecDepth 100000
/-- Where a reader stands: it stays at the first field if it is not fine. -/
def rI (f : Bool) (i : Nat) : Nat := if f then i else 1
theorem nextI_rI (f : Bool) (i n : Nat) : nextI (rI f i) n f = rI f (i + n) := by cases f <;> rfl
theorem readV_rI (b : List UInt8) (f : Bool) (i n : Nat) : readV b (rI f i) n f = readV b i n f := by cases f <;> rfl
theorem endV_rI (b : List UInt8) (f : Bool) (i : Nat) : endV b (rI f i) f = endV b i f := by cases f <;> rfl
section
variable {w0 W : World} {g gb : Nat} {b : List UInt8} {i : Nat} {f : Bool} {l : List Thing}
theorem rdnum_at (R : Held w0 W (rdT g gb b (rI f i) f :: l)) (n : Nat) (hn : n = 1 ∨ n = 2 ∨ n = 4 ∨ n = 8) (hf : i + n ≤ 252) :
    Calls Tryd.prog 47 #[.pointer (some ⟨g, 0, none⟩), .int .i64 (n : Int)] W fun e w' => e = .returned (.int .u64 (readV b i n f : Int)) ∧ Held w0 w' (rdT g gb b (rI f (i + n)) f :: l) := by
  have h := rdnum_is R n hn (by unfold rI; split <;> omega)
  rw [nextI_rI, readV_rI] at h
  exact h
end
section
variable {P : Program} {ops : Array Oper} {C : World → Prop} {Q : Act → Prop} {rest : List Oper} {o : Oper} {a : Act}
theorem wk_slice_lo2 (lo n cap : Nat) (k : IntKind) (t e : TypeId) (x l : Operand) (g off : Nat) (hw : Region.wanted o (yielded ops a.tmps) = true) (ho : o.op = .slice t x (some l) none none) (ht : P.underlying t = some (.slice e))
    (hs : (P.info? e).map (·.size) = some 1) (hx : a.eval x = .slice (some ⟨g, off, none⟩) n cap) (hl : a.eval l = .int k (lo : Int)) (h1 : lo ≤ n) (h3 : n ≤ cap)
    (h : WQ P ops C Q rest (a.put o.dst (.slice (some ⟨g, (if cap = lo then off else off + lo), none⟩) (n - lo) (cap - lo)))) : WQ P ops C Q (o :: rest) a :=
  wk_val _ hw (fun w _ => by
    obtain ⟨f, hf, hf1⟩ : ∃ f, P.info? e = some f ∧ f.size = 1 := by
      cases hq : P.info? e with
      | none => simp [hq] at hs
      | some f => exact ⟨f, rfl, by simpa [hq] using hs⟩
    unfold execOp
    simp only [ho, hx, Option.map_some, Option.map_none, hl]
    by_cases h0 : cap = lo
    · simp [Instr.sliceAt, Instr.slice, run_underlying ht, Instr.sliceBounds, Instr.sliceBound, asIntOf, h1, sizeOf, typeInfo, hf, hf1, Addr.add_lit, h0]
    · simp [Instr.sliceAt, Instr.slice, run_underlying ht, Instr.sliceBounds, Instr.sliceBound, asIntOf, h1, sizeOf, typeInfo, hf, hf1, Addr.add_lit, h0]) h
end
/-- A reader's row of bytes, of which some have been read. -/
def upR (d : List UInt8) (q : Nat) : Array Value := ((d.take q).map vu8 ++ List.replicate (d.length - q) (Value.int .u8 0)).toArray
theorem upR_zero (d : List UInt8) : upR d 0 = (List.replicate d.length (Value.int .u8 0)).toArray := by simp [upR]
theorem upR_full (d : List UInt8) : upR d d.length = (d.map vu8).toArray := by simp [upR]
theorem upR_old (d : List UInt8) (q : Nat) (h : q < d.length) : (upR d q)[q]? = some (.int .u8 0) := by
  unfold upR
  rw [List.getElem?_toArray, List.getElem?_append_right (by rw [List.length_map, List.length_take]; omega), List.length_map, List.length_take, Nat.min_eq_left (by omega), Nat.sub_self, List.getElem?_replicate, if_pos (by omega)]
theorem upR_set (d : List UInt8) (q : Nat) (h : q < d.length) : (upR d q).setIfInBounds q (.int .u8 ((d.getD q 0).toNat : Int)) = upR d (q + 1) := by
  unfold upR
  have e : d.length - q = (d.length - (q + 1)) + 1 := by omega
  rw [List.setIfInBounds_toArray, List.set_append_right _ _ (by rw [List.length_map, List.length_take]; omega), List.length_map, List.length_take, Nat.min_eq_left (by omega), Nat.sub_self, e, List.replicate_succ, List.set_cons_zero, List.take_succ_eq_append_getElem h, List.map_append, List.append_assoc, List.getD_eq_getElem?_getD, List.getElem?_eq_getElem h]
  rfl
theorem Held.drop23 {w0 W : World} {l : List Thing} {a b c d : Thing} (R : Held w0 W (a :: b :: c :: d :: l)) : Held w0 W (a :: b :: l) := by
  have h : (a :: b :: c :: d :: l).Perm ([c, d] ++ (a :: b :: l)) := by
    have : ([a, b] ++ ([c, d] ++ l)).Perm ([c, d] ++ ([a, b] ++ l)) := by
      rw [← List.append_assoc, ← List.append_assoc]
      exact List.perm_append_comm.append_right l
    exact this
  exact (R.perm h).drop 2
/-- A row of bytes is a cell's bytes. -/
theorem Held.rowDat {w0 W : World} {l : List Thing} (R : Held w0 W l) (k : Nat) {g : Nat} {d : List UInt8} (h : l[k]? = some (rowT g (d.map vu8).toArray 5)) (ser m : Nat) (hm : m ≤ d.length) : Held w0 W (l.set k (datT ⟨ser, some ⟨g, 0, none⟩, m, m, d.take m⟩)) :=
  R.turn k h (fun F hF hn => ⟨[g], ⟨by simp [hm], Nat.le_refl _, .inr ⟨g, _, rfl, rfl, hF.2, by simp [List.map_take]⟩⟩, Only.refl _ _, fun b hb => .inl (by rw [hF.1]; exact hb), by simp⟩)
theorem Held.noDat {w0 W : World} {l : List Thing} (R : Held w0 W l) : Held w0 W (datT ⟨0, none, 0, 0, []⟩ :: l) :=
  R.more (Below.refl _ _) (F := []) ⟨rfl, Nat.le_refl _, .inl ⟨rfl, rfl⟩⟩ (by simp) (by simp)
theorem Held.rowNone {w0 W : World} {l : List Thing} (R : Held w0 W l) (k : Nat) {g : Nat} {cs : Array Value} {T : TypeId} (h : l[k]? = some (rowT g cs T)) : Held w0 W (l.set k (datT ⟨0, none, 0, 0, []⟩)) :=
  R.turn k h (fun F hF hn => ⟨[], ⟨rfl, Nat.le_refl _, .inl ⟨rfl, rfl⟩⟩, Only.refl _ _, by simp, by simp⟩)
def CellPost (w0 : World) (g gb : Nat) (b : List UInt8) (f : Bool) (k j : Nat) (l : List Thing) (e : Ending) (w' : World) : Prop :=
  ∃ x, e = .returned (.tuple #[.agg (cellV x), .bool (cellFine b f k j)]) ∧ Held w0 w' (rdT g gb b (rI f (gBase k (j + 1))) f :: datT x :: l) ∧ (cellFine b f k j = true → x.dat = gCell b f k j ∧ x.ser < 18446744073709551616)
section
variable {w0 w : World} {l : List Thing} {g gb : Nat} {b : List UInt8} {f : Bool}
set_option maxHeartbeats 4000000 in
theorem cell_is {k j : Nat} (R : Held w0 w (rdT g gb b (rI f (gBase k j)) f :: l)) (hb : b.length = 256) (hj : j < placesL k) :
    Calls Tryd.prog 48 #[.pointer (some ⟨g, 0, none⟩), .int .i64 (roomL k : Int)] w fun e w' => CellPost w0 g gb b f k j l e w' := by
  have hq := R.alloc2b #[.int .u64 0, .slice none 0 0] 41
  obtain ⟨W, hW⟩ : ∃ W, W = w.alloc (.cells #[.int .u64 0, .slice none 0 0] 41) := ⟨_, rfl⟩
  obtain ⟨g4, hg⟩ : ∃ g, g = w.heap.size := ⟨_, rfl⟩
  rw [← hW, ← hg] at hq
  have HW := Lib.hid hW
  have HG := Lib.hid hg
  have R0 := Lib.hid hq
  have HB := Lib.hid hb
  have hble := gBase_le hj
  have hbs := gBase_succ k j
  have hs64 := gSer_lt b hb f k j hj
  have hn256 := gLen_lt b hb f k j hj
  have hrm237 := roomL_le k
  have HX : Hid (∀ q, q < roomL k → ((gRow b f k j).getD q 0).toNat = readV b (gBase k j + 9 + q) 1 f) := Lib.hid (fun q hq => gRow_get b hb f k j q hj hq)
  have hDL := length_gRow b hb f k j hj
  have HCE : Hid (gCell b f k j = (gSer b f k j, (gRow b f k j).take (gLen b f k j))) := Lib.hid rfl
  have HCF : Hid (cellFine b f k j = (decide (gLen b f k j ≤ roomL k) && allZero ((gRow b f k j).drop (gLen b f k j)))) := Lib.hid rfl
  have HSER : Hid (readV b (gBase k j) 8 f = gSer b f k j) := Lib.hid rfl
  have HLEN : Hid (readV b (gBase k j + 8) 1 f = gLen b f k j) := Lib.hid rfl
  unfold CellPost
  rw [hbs]
  obtain ⟨p, hp⟩ : ∃ p, p = gBase k j := ⟨_, rfl⟩
  obtain ⟨rm, hrm⟩ : ∃ p, p = roomL k := ⟨_, rfl⟩
  obtain ⟨ser, hsr⟩ : ∃ p, p = gSer b f k j := ⟨_, rfl⟩
  obtain ⟨nn, hnn⟩ : ∃ p, p = gLen b f k j := ⟨_, rfl⟩
  obtain ⟨DD, hDD⟩ : ∃ p, p = gRow b f k j := ⟨_, rfl⟩
  obtain ⟨fine, hfi⟩ : ∃ x, x = cellFine b f k j := ⟨_, rfl⟩
  obtain ⟨gc, hgc⟩ : ∃ x, x = gCell b f k j := ⟨_, rfl⟩
  rw [← hp] at R0 hble HX HSER HLEN ⊢
  rw [← hrm] at hble hrm237 hDL HX HCF ⊢
  rw [← hsr] at hs64 HCE HSER
  rw [← hnn] at hn256 HCE HCF HLEN
  rw [← hDD] at hDL HX HCE HCF
  rw [← hfi] at HCF ⊢
  rw [← hgc] at HCE ⊢
  have HDL := Lib.hid hDL
  clear hq hW hg hb hj R hbs hDL hp hrm hsr hnn hDD hfi hgc
  go_enter Tryd.func48, Tryd.ntmps48
  go_upto_region 1 with (fail)
  rw [← HW.out, ← HG.out]
  have N1 := rdnum_at R0.out 8 (by omega) (by omega)
  rw [HSER.out] at N1
  go_wp2_with fail
  refine N1.mono ?_
  rintro e w2 ⟨rfl, hR⟩
  have R1 := Lib.hid hR
  clear hR R0 N1
  have q1 := R1.out.alloc2b #[.int .u64 (ser : Int), .slice none 0 0] 41
  go_upto_region 2 with (fail)
  obtain ⟨W2, hW⟩ : ∃ W, W = w2.alloc (.cells #[.int .u64 (ser : Int), .slice none 0 0] 41) := ⟨_, rfl⟩
  rw [← hW] at q1 ⊢
  clear hW
  obtain ⟨g6, hg⟩ : ∃ g, g = w2.heap.size := ⟨_, rfl⟩
  rw [← hg] at q1 ⊢
  clear hg
  have R2 := Lib.hid q1
  clear q1
  clear R1
  have N1 := rdnum_at R2.out 1 (by omega) (by omega)
  rw [HLEN.out] at N1
  go_wp2_with fail
  refine N1.mono ?_
  rintro e w3 ⟨rfl, hR⟩
  have R3 := Lib.hid hR
  clear hR R2 N1
  go_upto_region 3 with (fail)
  obtain ⟨i0, hi0⟩ := infoU8''
  have HI := Lib.hid hi0
  clear hi0
  have q1 := R3.out.alloc2b (upR DD 0) 5
  have HU0 : Hid ((List.replicate rm (Value.int .u8 0)).toArray = upR DD 0) := Lib.hid (by rw [upR_zero, HDL.out])
  go_upto_region 4 with (refine wpList_make rfl 27 5 _ _ i0 _ rm 1 1 Tryd.underlying27 HI.out.1 HI.out.2.1 HI.out.2.2.1 HI.out.2.2.2 rfl rfl rfl (by omega) (by decide) (by decide) ?_; rw [show (Value.int .u8 0).cells = #[.int .u8 0] from rfl, made_zeros, HU0.out])
  obtain ⟨W3, hW⟩ : ∃ W, W = w3.alloc (.cells (upR DD 0) 5) := ⟨_, rfl⟩
  rw [← hW] at q1 ⊢
  clear hW
  obtain ⟨g8, hg⟩ : ∃ g, g = w3.heap.size := ⟨_, rfl⟩
  rw [← hg] at q1 ⊢
  clear hg
  have R4 := Lib.hid q1
  clear q1
  clear R3 HU0
  go_wp2_with fail
  go_loopw [20] (fun i wr => ∃ q : Nat, q ≤ rm ∧ i = .int .i64 (q : Int) ∧ Held w0 wr (rdT g gb b (rI f (p + 9 + q)) f :: rowT g8 (upR DD q) 5 :: rowT g6 #[.int .u64 (ser : Int), .slice none 0 0] 41 :: rowT g4 #[.int .u64 0, .slice none 0 0] 41 :: l)) (fun i _ => rm - (intOf i).toNat)
  case atStart => exact ⟨0, by omega, rfl, R4.out⟩
  case round =>
    obtain ⟨q, hq, rfl, hR⟩ := hrel
    have R1 := Lib.hid hR
    clear hR R4
    by_cases hlt : q < rm
    · have N1 := rdnum_at R1.out 1 (by omega) (by omega)
      have hx := HX.out q hlt
      have hset := upR_set DD q (by rw [HDL.out]; exact hlt)
      have hold := upR_old DD q (by rw [HDL.out]; exact hlt)
      have hxl : (DD.getD q 0).toNat < 256 := (DD.getD q 0).toNat_lt
      rw [← hx] at N1
      obtain ⟨x, hxe⟩ : ∃ x, x = (DD.getD q 0).toNat := ⟨_, rfl⟩
      rw [← hxe] at N1 hset hxl
      have HSET := Lib.hid hset
      have HOLD := Lib.hid hold
      clear hx hset hold hxe
      go_wp2_with fail
      refine N1.mono ?_
      rintro e w4 ⟨rfl, hR⟩
      have R2 := Lib.hid hR
      clear hR R1 N1
      have hc := R2.out.cell 1 q rfl HOLD.out
      have hf := R2.out.free 1 q rfl
      have q0 := Lib.hid (R2.out.setCell 1 q (.int .u8 (x : Int)) rfl)
      go_upto_region 8 with (fail)
      have q1 := q0.out
      obtain ⟨W4, hW⟩ : ∃ V, V = w4.setCell ⟨g8, q, none⟩ (.int .u8 (x : Int)) := ⟨_, rfl⟩
      rw [← hW] at q1 ⊢
      simp only [List.set_cons_zero, List.set_cons_succ] at q1
      rw [HSET.out] at q1
      have R3 := Lib.hid q1
      clear q0 q1 hW hc hf R2
      go_wp2_with fail
      exact ⟨⟨q + 1, by omega, by go_num, R3.out⟩, by simp [intOf]; omega⟩
    · obtain rfl : q = rm := by omega
      have hR := R1.out
      have hfull : upR DD q = (DD.map vu8).toArray := by rw [← HDL.out]; exact upR_full DD
      rw [hfull] at hR
      have R2 := Lib.hid hR
      clear hR hfull R1 HX hq hlt
      by_cases hn : nn ≤ q
      · obtain ⟨off, hoff⟩ : ∃ off, off = if q = nn then 0 else 0 + nn := ⟨_, rfl⟩
        have hDr : (DD.drop nn).length = q - nn := by rw [List.length_drop, HDL.out]
        obtain ⟨a, m, d, he, hm, hml⟩ := trimV_form g8 off (q - nn) (DD.drop nn)
        have hBY : BytesAt wr g8 off (DD.drop nn) := by
          intro i hi
          rw [hDr] at hi
          rw [cell_of_row _ _ _ _ _ _ (R2.out.get 1 rfl), hoff, if_neg (by omega), Nat.zero_add, List.getElem?_drop, List.getElem?_toArray, List.getElem?_map]
        have HT : Hid (∀ w', Since wr w' → Calls Tryd.prog 70 #[.slice (some ⟨g8, off, none⟩) (q - nn) (q - nn), .string ⟨#[0]⟩] w' fun e w'' => e = .returned (.slice a m d) ∧ Below w'.heap.size w' w'') := Lib.hid (fun w' hC => by
          have := trim_any w' g8 off (q - nn) (DD.drop nn) (by omega) (by omega) (by omega) (hBY.since hC)
          rw [hDr, he] at this
          exact this)
        have HGT : Hid (cmpInt .gtr (nn : Int) (q : Int) = some false) := Lib.hid (by simp [cmpInt]; omega)
        have HCF2 : Hid (fine = allZero (DD.drop nn)) := Lib.hid (by rw [HCF.out, decide_eq_true hn]; rfl)
        have HOFF := Lib.hid hoff
        clear hBY hDr he hml HCF hoff
        go_upto_region 9 with (fail)
        cases hz : allZero (DD.drop nn) with
        | false =>
          have HNO : Hid (fine = false) := Lib.hid (HCF2.out.trans hz)
          have hm0 : 0 < m := by
            rw [hz] at hm
            have : m ≠ 0 := fun h => by simpa using hm.1 h
            omega
          have HG2 : Hid (cmpInt .gtr (m : Int) 0 = some true) := Lib.hid (by simp [cmpInt]; omega)
          clear hm hz hm0
          refine wk_plain_since ?_
          repeat (first
            | (refine wk_move _ (by first | exact wanted_none rfl | exact wanted_yes _ _ rfl rfl) rfl ?_; simp only [Act.put, Act.eval, Array.getD_eq_getD_getElem?, List.getElem?_toArray, List.getElem?_cons_succ, List.getElem?_cons_zero, Option.getD_some, List.setIfInBounds_toArray, List.set_cons_zero, List.set_cons_succ])
            | (refine wk_assign _ (by first | exact wanted_none rfl | exact wanted_yes _ _ rfl rfl) rfl ?_; simp only [Act.put, Act.eval, Array.getD_eq_getD_getElem?, List.getElem?_toArray, List.getElem?_cons_succ, List.getElem?_cons_zero, Option.getD_some, List.setIfInBounds_toArray, List.set_cons_zero, List.set_cons_succ])
            | (refine wk_pickt _ _ _ _ (by first | exact wanted_none rfl | exact wanted_yes _ _ rfl rfl) rfl rfl rfl ?_; simp only [Act.put, Act.eval, Array.getD_eq_getD_getElem?, List.getElem?_toArray, List.getElem?_cons_succ, List.getElem?_cons_zero, Option.getD_some, List.setIfInBounds_toArray, List.set_cons_zero, List.set_cons_succ])
            | (refine wk_pickf _ _ _ _ (by first | exact wanted_none rfl | exact wanted_yes _ _ rfl rfl) rfl rfl rfl ?_; simp only [Act.put, Act.eval, Array.getD_eq_getD_getElem?, List.getElem?_toArray, List.getElem?_cons_succ, List.getElem?_cons_zero, Option.getD_some, List.setIfInBounds_toArray, List.set_cons_zero, List.set_cons_succ])
            | (refine wk_skip (wanted_not _ true false rfl rfl rfl) ?_; simp only [Act.put, List.setIfInBounds_toArray, List.set_cons_zero, List.set_cons_succ])
            | (refine wk_skip (wanted_not _ false true rfl rfl rfl) ?_; simp only [Act.put, List.setIfInBounds_toArray, List.set_cons_zero, List.set_cons_succ])
            | (refine wk_skip (wanted_undef _ _ rfl rfl) ?_; simp only [Act.put, List.setIfInBounds_toArray, List.set_cons_zero, List.set_cons_succ])
            | (refine wk_not true _ _ (by first | exact wanted_none rfl | exact wanted_yes _ _ rfl rfl) rfl rfl ?_; simp only [Act.put, List.setIfInBounds_toArray, List.set_cons_zero, List.set_cons_succ])
            | (refine wk_not false _ _ (by first | exact wanted_none rfl | exact wanted_yes _ _ rfl rfl) rfl rfl ?_; simp only [Act.put, List.setIfInBounds_toArray, List.set_cons_zero, List.set_cons_succ]))
          refine wk_cmp_int .gtr (false) _ _ _ _ _ _ _ (by kernel_rfl) rfl rfl rfl (HGT.out) ?_
          simp only [Act.put, List.setIfInBounds_toArray, List.set_cons_zero, List.set_cons_succ]
          repeat (first
            | (refine wk_move _ (by first | exact wanted_none rfl | exact wanted_yes _ _ rfl rfl) rfl ?_; simp only [Act.put, Act.eval, Array.getD_eq_getD_getElem?, List.getElem?_toArray, List.getElem?_cons_succ, List.getElem?_cons_zero, Option.getD_some, List.setIfInBounds_toArray, List.set_cons_zero, List.set_cons_succ])
            | (refine wk_assign _ (by first | exact wanted_none rfl | exact wanted_yes _ _ rfl rfl) rfl ?_; simp only [Act.put, Act.eval, Array.getD_eq_getD_getElem?, List.getElem?_toArray, List.getElem?_cons_succ, List.getElem?_cons_zero, Option.getD_some, List.setIfInBounds_toArray, List.set_cons_zero, List.set_cons_succ])
            | (refine wk_pickt _ _ _ _ (by first | exact wanted_none rfl | exact wanted_yes _ _ rfl rfl) rfl rfl rfl ?_; simp only [Act.put, Act.eval, Array.getD_eq_getD_getElem?, List.getElem?_toArray, List.getElem?_cons_succ, List.getElem?_cons_zero, Option.getD_some, List.setIfInBounds_toArray, List.set_cons_zero, List.set_cons_succ])
            | (refine wk_pickf _ _ _ _ (by first | exact wanted_none rfl | exact wanted_yes _ _ rfl rfl) rfl rfl rfl ?_; simp only [Act.put, Act.eval, Array.getD_eq_getD_getElem?, List.getElem?_toArray, List.getElem?_cons_succ, List.getElem?_cons_zero, Option.getD_some, List.setIfInBounds_toArray, List.set_cons_zero, List.set_cons_succ])
            | (refine wk_skip (wanted_not _ true false rfl rfl rfl) ?_; simp only [Act.put, List.setIfInBounds_toArray, List.set_cons_zero, List.set_cons_succ])
            | (refine wk_skip (wanted_not _ false true rfl rfl rfl) ?_; simp only [Act.put, List.setIfInBounds_toArray, List.set_cons_zero, List.set_cons_succ])
            | (refine wk_skip (wanted_undef _ _ rfl rfl) ?_; simp only [Act.put, List.setIfInBounds_toArray, List.set_cons_zero, List.set_cons_succ])
            | (refine wk_not true _ _ (by first | exact wanted_none rfl | exact wanted_yes _ _ rfl rfl) rfl rfl ?_; simp only [Act.put, List.setIfInBounds_toArray, List.set_cons_zero, List.set_cons_succ])
            | (refine wk_not false _ _ (by first | exact wanted_none rfl | exact wanted_yes _ _ rfl rfl) rfl rfl ?_; simp only [Act.put, List.setIfInBounds_toArray, List.set_cons_zero, List.set_cons_succ]))
          refine wk_slice_lo2 nn q q .i64 _ _ _ _ g8 0 (wanted_yes _ _ rfl rfl) rfl Tryd.underlying27 sizeU8 rfl rfl hn (Nat.le_refl _) ?_
          simp only [Act.put, List.setIfInBounds_toArray, List.set_cons_zero, List.set_cons_succ]
          rw [← HOFF.out]
          refine wk_call 70 _ _ _ _ _ (by kernel_rfl) rfl Tryd.func70 rfl (by kernel_rfl) (fun w' hC => hC.call (HT.out w' hC)) ?_
          simp only [Act.put, List.setIfInBounds_toArray, List.set_cons_zero, List.set_cons_succ]
          repeat (first
            | (refine wk_move _ (by first | exact wanted_none rfl | exact wanted_yes _ _ rfl rfl) rfl ?_; simp only [Act.put, Act.eval, Array.getD_eq_getD_getElem?, List.getElem?_toArray, List.getElem?_cons_succ, List.getElem?_cons_zero, Option.getD_some, List.setIfInBounds_toArray, List.set_cons_zero, List.set_cons_succ])
            | (refine wk_assign _ (by first | exact wanted_none rfl | exact wanted_yes _ _ rfl rfl) rfl ?_; simp only [Act.put, Act.eval, Array.getD_eq_getD_getElem?, List.getElem?_toArray, List.getElem?_cons_succ, List.getElem?_cons_zero, Option.getD_some, List.setIfInBounds_toArray, List.set_cons_zero, List.set_cons_succ])
            | (refine wk_pickt _ _ _ _ (by first | exact wanted_none rfl | exact wanted_yes _ _ rfl rfl) rfl rfl rfl ?_; simp only [Act.put, Act.eval, Array.getD_eq_getD_getElem?, List.getElem?_toArray, List.getElem?_cons_succ, List.getElem?_cons_zero, Option.getD_some, List.setIfInBounds_toArray, List.set_cons_zero, List.set_cons_succ])
            | (refine wk_pickf _ _ _ _ (by first | exact wanted_none rfl | exact wanted_yes _ _ rfl rfl) rfl rfl rfl ?_; simp only [Act.put, Act.eval, Array.getD_eq_getD_getElem?, List.getElem?_toArray, List.getElem?_cons_succ, List.getElem?_cons_zero, Option.getD_some, List.setIfInBounds_toArray, List.set_cons_zero, List.set_cons_succ])
            | (refine wk_skip (wanted_not _ true false rfl rfl rfl) ?_; simp only [Act.put, List.setIfInBounds_toArray, List.set_cons_zero, List.set_cons_succ])
            | (refine wk_skip (wanted_not _ false true rfl rfl rfl) ?_; simp only [Act.put, List.setIfInBounds_toArray, List.set_cons_zero, List.set_cons_succ])
            | (refine wk_skip (wanted_undef _ _ rfl rfl) ?_; simp only [Act.put, List.setIfInBounds_toArray, List.set_cons_zero, List.set_cons_succ])
            | (refine wk_not true _ _ (by first | exact wanted_none rfl | exact wanted_yes _ _ rfl rfl) rfl rfl ?_; simp only [Act.put, List.setIfInBounds_toArray, List.set_cons_zero, List.set_cons_succ])
            | (refine wk_not false _ _ (by first | exact wanted_none rfl | exact wanted_yes _ _ rfl rfl) rfl rfl ?_; simp only [Act.put, List.setIfInBounds_toArray, List.set_cons_zero, List.set_cons_succ]))
          refine wk_len_slice _ _ _ _ _ _ Tryd.underlying27 (by kernel_rfl) rfl rfl ?_
          simp only [Act.put, List.setIfInBounds_toArray, List.set_cons_zero, List.set_cons_succ]
          repeat (first
            | (refine wk_move _ (by first | exact wanted_none rfl | exact wanted_yes _ _ rfl rfl) rfl ?_; simp only [Act.put, Act.eval, Array.getD_eq_getD_getElem?, List.getElem?_toArray, List.getElem?_cons_succ, List.getElem?_cons_zero, Option.getD_some, List.setIfInBounds_toArray, List.set_cons_zero, List.set_cons_succ])
            | (refine wk_assign _ (by first | exact wanted_none rfl | exact wanted_yes _ _ rfl rfl) rfl ?_; simp only [Act.put, Act.eval, Array.getD_eq_getD_getElem?, List.getElem?_toArray, List.getElem?_cons_succ, List.getElem?_cons_zero, Option.getD_some, List.setIfInBounds_toArray, List.set_cons_zero, List.set_cons_succ])
            | (refine wk_pickt _ _ _ _ (by first | exact wanted_none rfl | exact wanted_yes _ _ rfl rfl) rfl rfl rfl ?_; simp only [Act.put, Act.eval, Array.getD_eq_getD_getElem?, List.getElem?_toArray, List.getElem?_cons_succ, List.getElem?_cons_zero, Option.getD_some, List.setIfInBounds_toArray, List.set_cons_zero, List.set_cons_succ])
            | (refine wk_pickf _ _ _ _ (by first | exact wanted_none rfl | exact wanted_yes _ _ rfl rfl) rfl rfl rfl ?_; simp only [Act.put, Act.eval, Array.getD_eq_getD_getElem?, List.getElem?_toArray, List.getElem?_cons_succ, List.getElem?_cons_zero, Option.getD_some, List.setIfInBounds_toArray, List.set_cons_zero, List.set_cons_succ])
            | (refine wk_skip (wanted_not _ true false rfl rfl rfl) ?_; simp only [Act.put, List.setIfInBounds_toArray, List.set_cons_zero, List.set_cons_succ])
            | (refine wk_skip (wanted_not _ false true rfl rfl rfl) ?_; simp only [Act.put, List.setIfInBounds_toArray, List.set_cons_zero, List.set_cons_succ])
            | (refine wk_skip (wanted_undef _ _ rfl rfl) ?_; simp only [Act.put, List.setIfInBounds_toArray, List.set_cons_zero, List.set_cons_succ])
            | (refine wk_not true _ _ (by first | exact wanted_none rfl | exact wanted_yes _ _ rfl rfl) rfl rfl ?_; simp only [Act.put, List.setIfInBounds_toArray, List.set_cons_zero, List.set_cons_succ])
            | (refine wk_not false _ _ (by first | exact wanted_none rfl | exact wanted_yes _ _ rfl rfl) rfl rfl ?_; simp only [Act.put, List.setIfInBounds_toArray, List.set_cons_zero, List.set_cons_succ]))
          refine wk_cmp_int .gtr (true) _ _ _ _ _ _ _ (by kernel_rfl) rfl rfl rfl (HG2.out) ?_
          simp only [Act.put, List.setIfInBounds_toArray, List.set_cons_zero, List.set_cons_succ]
          repeat (first
            | (refine wk_move _ (by first | exact wanted_none rfl | exact wanted_yes _ _ rfl rfl) rfl ?_; simp only [Act.put, Act.eval, Array.getD_eq_getD_getElem?, List.getElem?_toArray, List.getElem?_cons_succ, List.getElem?_cons_zero, Option.getD_some, List.setIfInBounds_toArray, List.set_cons_zero, List.set_cons_succ])
            | (refine wk_assign _ (by first | exact wanted_none rfl | exact wanted_yes _ _ rfl rfl) rfl ?_; simp only [Act.put, Act.eval, Array.getD_eq_getD_getElem?, List.getElem?_toArray, List.getElem?_cons_succ, List.getElem?_cons_zero, Option.getD_some, List.setIfInBounds_toArray, List.set_cons_zero, List.set_cons_succ])
            | (refine wk_pickt _ _ _ _ (by first | exact wanted_none rfl | exact wanted_yes _ _ rfl rfl) rfl rfl rfl ?_; simp only [Act.put, Act.eval, Array.getD_eq_getD_getElem?, List.getElem?_toArray, List.getElem?_cons_succ, List.getElem?_cons_zero, Option.getD_some, List.setIfInBounds_toArray, List.set_cons_zero, List.set_cons_succ])
            | (refine wk_pickf _ _ _ _ (by first | exact wanted_none rfl | exact wanted_yes _ _ rfl rfl) rfl rfl rfl ?_; simp only [Act.put, Act.eval, Array.getD_eq_getD_getElem?, List.getElem?_toArray, List.getElem?_cons_succ, List.getElem?_cons_zero, Option.getD_some, List.setIfInBounds_toArray, List.set_cons_zero, List.set_cons_succ])
            | (refine wk_skip (wanted_not _ true false rfl rfl rfl) ?_; simp only [Act.put, List.setIfInBounds_toArray, List.set_cons_zero, List.set_cons_succ])
            | (refine wk_skip (wanted_not _ false true rfl rfl rfl) ?_; simp only [Act.put, List.setIfInBounds_toArray, List.set_cons_zero, List.set_cons_succ])
            | (refine wk_skip (wanted_undef _ _ rfl rfl) ?_; simp only [Act.put, List.setIfInBounds_toArray, List.set_cons_zero, List.set_cons_succ])
            | (refine wk_not true _ _ (by first | exact wanted_none rfl | exact wanted_yes _ _ rfl rfl) rfl rfl ?_; simp only [Act.put, List.setIfInBounds_toArray, List.set_cons_zero, List.set_cons_succ])
            | (refine wk_not false _ _ (by first | exact wanted_none rfl | exact wanted_yes _ _ rfl rfl) rfl rfl ?_; simp only [Act.put, List.setIfInBounds_toArray, List.set_cons_zero, List.set_cons_succ]))
          refine wk_nil ?_
          intro w' hC
          have S1 := Lib.hid (R2.out.since hC)
          clear hC R2
          have hc0 := S1.out.cell 3 0 rfl rfl
          have hc1 := S1.out.cell 3 1 rfl rfl
          have hf0 := S1.out.free 3 0 rfl
          have hf1 := S1.out.free 3 1 rfl
          go_wp2_with fail
          have R9 := (S1.out.setCell 3 0 (.int .u64 0) rfl).setCell 3 1 (.slice none 0 0) rfl
          refine bodyPost_ret (v := .tuple #[.agg #[.int .u64 0, .slice none 0 0], .bool false]) (results_cell_slot rfl _ _ g4 41 _ (0, 0) _ _ rfl rfl (R9.get 3 rfl) Tryd.underlying41 rfl sizeCell) rfl ?_
          exact ⟨⟨0, none, 0, 0, []⟩, by rw [HNO.out]; rfl, (R9.rowNone 1 rfl).drop23, fun h => by rw [HNO.out] at h; cases h⟩
        | true =>
          have HYES : Hid (fine = true) := Lib.hid (HCF2.out.trans hz)
          have hm0 : m = 0 := hm.2 hz
          have HG2 : Hid (cmpInt .gtr (m : Int) 0 = some false) := Lib.hid (by simp [cmpInt]; omega)
          clear hm hz hm0
          refine wk_plain_since ?_
          repeat (first
            | (refine wk_move _ (by first | exact wanted_none rfl | exact wanted_yes _ _ rfl rfl) rfl ?_; simp only [Act.put, Act.eval, Array.getD_eq_getD_getElem?, List.getElem?_toArray, List.getElem?_cons_succ, List.getElem?_cons_zero, Option.getD_some, List.setIfInBounds_toArray, List.set_cons_zero, List.set_cons_succ])
            | (refine wk_assign _ (by first | exact wanted_none rfl | exact wanted_yes _ _ rfl rfl) rfl ?_; simp only [Act.put, Act.eval, Array.getD_eq_getD_getElem?, List.getElem?_toArray, List.getElem?_cons_succ, List.getElem?_cons_zero, Option.getD_some, List.setIfInBounds_toArray, List.set_cons_zero, List.set_cons_succ])
            | (refine wk_pickt _ _ _ _ (by first | exact wanted_none rfl | exact wanted_yes _ _ rfl rfl) rfl rfl rfl ?_; simp only [Act.put, Act.eval, Array.getD_eq_getD_getElem?, List.getElem?_toArray, List.getElem?_cons_succ, List.getElem?_cons_zero, Option.getD_some, List.setIfInBounds_toArray, List.set_cons_zero, List.set_cons_succ])
            | (refine wk_pickf _ _ _ _ (by first | exact wanted_none rfl | exact wanted_yes _ _ rfl rfl) rfl rfl rfl ?_; simp only [Act.put, Act.eval, Array.getD_eq_getD_getElem?, List.getElem?_toArray, List.getElem?_cons_succ, List.getElem?_cons_zero, Option.getD_some, List.setIfInBounds_toArray, List.set_cons_zero, List.set_cons_succ])
            | (refine wk_skip (wanted_not _ true false rfl rfl rfl) ?_; simp only [Act.put, List.setIfInBounds_toArray, List.set_cons_zero, List.set_cons_succ])
            | (refine wk_skip (wanted_not _ false true rfl rfl rfl) ?_; simp only [Act.put, List.setIfInBounds_toArray, List.set_cons_zero, List.set_cons_succ])
            | (refine wk_skip (wanted_undef _ _ rfl rfl) ?_; simp only [Act.put, List.setIfInBounds_toArray, List.set_cons_zero, List.set_cons_succ])
            | (refine wk_not true _ _ (by first | exact wanted_none rfl | exact wanted_yes _ _ rfl rfl) rfl rfl ?_; simp only [Act.put, List.setIfInBounds_toArray, List.set_cons_zero, List.set_cons_succ])
            | (refine wk_not false _ _ (by first | exact wanted_none rfl | exact wanted_yes _ _ rfl rfl) rfl rfl ?_; simp only [Act.put, List.setIfInBounds_toArray, List.set_cons_zero, List.set_cons_succ]))
          refine wk_cmp_int .gtr (false) _ _ _ _ _ _ _ (by kernel_rfl) rfl rfl rfl (HGT.out) ?_
          simp only [Act.put, List.setIfInBounds_toArray, List.set_cons_zero, List.set_cons_succ]
          repeat (first
            | (refine wk_move _ (by first | exact wanted_none rfl | exact wanted_yes _ _ rfl rfl) rfl ?_; simp only [Act.put, Act.eval, Array.getD_eq_getD_getElem?, List.getElem?_toArray, List.getElem?_cons_succ, List.getElem?_cons_zero, Option.getD_some, List.setIfInBounds_toArray, List.set_cons_zero, List.set_cons_succ])
            | (refine wk_assign _ (by first | exact wanted_none rfl | exact wanted_yes _ _ rfl rfl) rfl ?_; simp only [Act.put, Act.eval, Array.getD_eq_getD_getElem?, List.getElem?_toArray, List.getElem?_cons_succ, List.getElem?_cons_zero, Option.getD_some, List.setIfInBounds_toArray, List.set_cons_zero, List.set_cons_succ])
            | (refine wk_pickt _ _ _ _ (by first | exact wanted_none rfl | exact wanted_yes _ _ rfl rfl) rfl rfl rfl ?_; simp only [Act.put, Act.eval, Array.getD_eq_getD_getElem?, List.getElem?_toArray, List.getElem?_cons_succ, List.getElem?_cons_zero, Option.getD_some, List.setIfInBounds_toArray, List.set_cons_zero, List.set_cons_succ])
            | (refine wk_pickf _ _ _ _ (by first | exact wanted_none rfl | exact wanted_yes _ _ rfl rfl) rfl rfl rfl ?_; simp only [Act.put, Act.eval, Array.getD_eq_getD_getElem?, List.getElem?_toArray, List.getElem?_cons_succ, List.getElem?_cons_zero, Option.getD_some, List.setIfInBounds_toArray, List.set_cons_zero, List.set_cons_succ])
            | (refine wk_skip (wanted_not _ true false rfl rfl rfl) ?_; simp only [Act.put, List.setIfInBounds_toArray, List.set_cons_zero, List.set_cons_succ])
            | (refine wk_skip (wanted_not _ false true rfl rfl rfl) ?_; simp only [Act.put, List.setIfInBounds_toArray, List.set_cons_zero, List.set_cons_succ])
            | (refine wk_skip (wanted_undef _ _ rfl rfl) ?_; simp only [Act.put, List.setIfInBounds_toArray, List.set_cons_zero, List.set_cons_succ])
            | (refine wk_not true _ _ (by first | exact wanted_none rfl | exact wanted_yes _ _ rfl rfl) rfl rfl ?_; simp only [Act.put, List.setIfInBounds_toArray, List.set_cons_zero, List.set_cons_succ])
            | (refine wk_not false _ _ (by first | exact wanted_none rfl | exact wanted_yes _ _ rfl rfl) rfl rfl ?_; simp only [Act.put, List.setIfInBounds_toArray, List.set_cons_zero, List.set_cons_succ]))
          refine wk_slice_lo2 nn q q .i64 _ _ _ _ g8 0 (wanted_yes _ _ rfl rfl) rfl Tryd.underlying27 sizeU8 rfl rfl hn (Nat.le_refl _) ?_
          simp only [Act.put, List.setIfInBounds_toArray, List.set_cons_zero, List.set_cons_succ]
          rw [← HOFF.out]
          refine wk_call 70 _ _ _ _ _ (by kernel_rfl) rfl Tryd.func70 rfl (by kernel_rfl) (fun w' hC => hC.call (HT.out w' hC)) ?_
          simp only [Act.put, List.setIfInBounds_toArray, List.set_cons_zero, List.set_cons_succ]
          repeat (first
            | (refine wk_move _ (by first | exact wanted_none rfl | exact wanted_yes _ _ rfl rfl) rfl ?_; simp only [Act.put, Act.eval, Array.getD_eq_getD_getElem?, List.getElem?_toArray, List.getElem?_cons_succ, List.getElem?_cons_zero, Option.getD_some, List.setIfInBounds_toArray, List.set_cons_zero, List.set_cons_succ])
            | (refine wk_assign _ (by first | exact wanted_none rfl | exact wanted_yes _ _ rfl rfl) rfl ?_; simp only [Act.put, Act.eval, Array.getD_eq_getD_getElem?, List.getElem?_toArray, List.getElem?_cons_succ, List.getElem?_cons_zero, Option.getD_some, List.setIfInBounds_toArray, List.set_cons_zero, List.set_cons_succ])
            | (refine wk_pickt _ _ _ _ (by first | exact wanted_none rfl | exact wanted_yes _ _ rfl rfl) rfl rfl rfl ?_; simp only [Act.put, Act.eval, Array.getD_eq_getD_getElem?, List.getElem?_toArray, List.getElem?_cons_succ, List.getElem?_cons_zero, Option.getD_some, List.setIfInBounds_toArray, List.set_cons_zero, List.set_cons_succ])
            | (refine wk_pickf _ _ _ _ (by first | exact wanted_none rfl | exact wanted_yes _ _ rfl rfl) rfl rfl rfl ?_; simp only [Act.put, Act.eval, Array.getD_eq_getD_getElem?, List.getElem?_toArray, List.getElem?_cons_succ, List.getElem?_cons_zero, Option.getD_some, List.setIfInBounds_toArray, List.set_cons_zero, List.set_cons_succ])
            | (refine wk_skip (wanted_not _ true false rfl rfl rfl) ?_; simp only [Act.put, List.setIfInBounds_toArray, List.set_cons_zero, List.set_cons_succ])
            | (refine wk_skip (wanted_not _ false true rfl rfl rfl) ?_; simp only [Act.put, List.setIfInBounds_toArray, List.set_cons_zero, List.set_cons_succ])
            | (refine wk_skip (wanted_undef _ _ rfl rfl) ?_; simp only [Act.put, List.setIfInBounds_toArray, List.set_cons_zero, List.set_cons_succ])
            | (refine wk_not true _ _ (by first | exact wanted_none rfl | exact wanted_yes _ _ rfl rfl) rfl rfl ?_; simp only [Act.put, List.setIfInBounds_toArray, List.set_cons_zero, List.set_cons_succ])
            | (refine wk_not false _ _ (by first | exact wanted_none rfl | exact wanted_yes _ _ rfl rfl) rfl rfl ?_; simp only [Act.put, List.setIfInBounds_toArray, List.set_cons_zero, List.set_cons_succ]))
          refine wk_len_slice _ _ _ _ _ _ Tryd.underlying27 (by kernel_rfl) rfl rfl ?_
          simp only [Act.put, List.setIfInBounds_toArray, List.set_cons_zero, List.set_cons_succ]
          repeat (first
            | (refine wk_move _ (by first | exact wanted_none rfl | exact wanted_yes _ _ rfl rfl) rfl ?_; simp only [Act.put, Act.eval, Array.getD_eq_getD_getElem?, List.getElem?_toArray, List.getElem?_cons_succ, List.getElem?_cons_zero, Option.getD_some, List.setIfInBounds_toArray, List.set_cons_zero, List.set_cons_succ])
            | (refine wk_assign _ (by first | exact wanted_none rfl | exact wanted_yes _ _ rfl rfl) rfl ?_; simp only [Act.put, Act.eval, Array.getD_eq_getD_getElem?, List.getElem?_toArray, List.getElem?_cons_succ, List.getElem?_cons_zero, Option.getD_some, List.setIfInBounds_toArray, List.set_cons_zero, List.set_cons_succ])
            | (refine wk_pickt _ _ _ _ (by first | exact wanted_none rfl | exact wanted_yes _ _ rfl rfl) rfl rfl rfl ?_; simp only [Act.put, Act.eval, Array.getD_eq_getD_getElem?, List.getElem?_toArray, List.getElem?_cons_succ, List.getElem?_cons_zero, Option.getD_some, List.setIfInBounds_toArray, List.set_cons_zero, List.set_cons_succ])
            | (refine wk_pickf _ _ _ _ (by first | exact wanted_none rfl | exact wanted_yes _ _ rfl rfl) rfl rfl rfl ?_; simp only [Act.put, Act.eval, Array.getD_eq_getD_getElem?, List.getElem?_toArray, List.getElem?_cons_succ, List.getElem?_cons_zero, Option.getD_some, List.setIfInBounds_toArray, List.set_cons_zero, List.set_cons_succ])
            | (refine wk_skip (wanted_not _ true false rfl rfl rfl) ?_; simp only [Act.put, List.setIfInBounds_toArray, List.set_cons_zero, List.set_cons_succ])
            | (refine wk_skip (wanted_not _ false true rfl rfl rfl) ?_; simp only [Act.put, List.setIfInBounds_toArray, List.set_cons_zero, List.set_cons_succ])
            | (refine wk_skip (wanted_undef _ _ rfl rfl) ?_; simp only [Act.put, List.setIfInBounds_toArray, List.set_cons_zero, List.set_cons_succ])
            | (refine wk_not true _ _ (by first | exact wanted_none rfl | exact wanted_yes _ _ rfl rfl) rfl rfl ?_; simp only [Act.put, List.setIfInBounds_toArray, List.set_cons_zero, List.set_cons_succ])
            | (refine wk_not false _ _ (by first | exact wanted_none rfl | exact wanted_yes _ _ rfl rfl) rfl rfl ?_; simp only [Act.put, List.setIfInBounds_toArray, List.set_cons_zero, List.set_cons_succ]))
          refine wk_cmp_int .gtr (false) _ _ _ _ _ _ _ (by kernel_rfl) rfl rfl rfl (HG2.out) ?_
          simp only [Act.put, List.setIfInBounds_toArray, List.set_cons_zero, List.set_cons_succ]
          repeat (first
            | (refine wk_move _ (by first | exact wanted_none rfl | exact wanted_yes _ _ rfl rfl) rfl ?_; simp only [Act.put, Act.eval, Array.getD_eq_getD_getElem?, List.getElem?_toArray, List.getElem?_cons_succ, List.getElem?_cons_zero, Option.getD_some, List.setIfInBounds_toArray, List.set_cons_zero, List.set_cons_succ])
            | (refine wk_assign _ (by first | exact wanted_none rfl | exact wanted_yes _ _ rfl rfl) rfl ?_; simp only [Act.put, Act.eval, Array.getD_eq_getD_getElem?, List.getElem?_toArray, List.getElem?_cons_succ, List.getElem?_cons_zero, Option.getD_some, List.setIfInBounds_toArray, List.set_cons_zero, List.set_cons_succ])
            | (refine wk_pickt _ _ _ _ (by first | exact wanted_none rfl | exact wanted_yes _ _ rfl rfl) rfl rfl rfl ?_; simp only [Act.put, Act.eval, Array.getD_eq_getD_getElem?, List.getElem?_toArray, List.getElem?_cons_succ, List.getElem?_cons_zero, Option.getD_some, List.setIfInBounds_toArray, List.set_cons_zero, List.set_cons_succ])
            | (refine wk_pickf _ _ _ _ (by first | exact wanted_none rfl | exact wanted_yes _ _ rfl rfl) rfl rfl rfl ?_; simp only [Act.put, Act.eval, Array.getD_eq_getD_getElem?, List.getElem?_toArray, List.getElem?_cons_succ, List.getElem?_cons_zero, Option.getD_some, List.setIfInBounds_toArray, List.set_cons_zero, List.set_cons_succ])
            | (refine wk_skip (wanted_not _ true false rfl rfl rfl) ?_; simp only [Act.put, List.setIfInBounds_toArray, List.set_cons_zero, List.set_cons_succ])
            | (refine wk_skip (wanted_not _ false true rfl rfl rfl) ?_; simp only [Act.put, List.setIfInBounds_toArray, List.set_cons_zero, List.set_cons_succ])
            | (refine wk_skip (wanted_undef _ _ rfl rfl) ?_; simp only [Act.put, List.setIfInBounds_toArray, List.set_cons_zero, List.set_cons_succ])
            | (refine wk_not true _ _ (by first | exact wanted_none rfl | exact wanted_yes _ _ rfl rfl) rfl rfl ?_; simp only [Act.put, List.setIfInBounds_toArray, List.set_cons_zero, List.set_cons_succ])
            | (refine wk_not false _ _ (by first | exact wanted_none rfl | exact wanted_yes _ _ rfl rfl) rfl rfl ?_; simp only [Act.put, List.setIfInBounds_toArray, List.set_cons_zero, List.set_cons_succ]))
          refine wk_nil ?_
          intro w' hC
          have S1 := Lib.hid (R2.out.since hC)
          clear hC R2
          have hc := S1.out.cell 2 1 rfl rfl
          have hf := S1.out.free 2 1 rfl
          go_upto_region 12 with (fail)
          have q1 := S1.out.setCell 2 1 (.slice (some ⟨g8, 0, none⟩) nn nn) rfl
          obtain ⟨W5, hW⟩ : ∃ V, V = w'.setCell ⟨g6, 1, none⟩ (.slice (some ⟨g8, 0, none⟩) nn nn) := ⟨_, rfl⟩
          rw [← hW] at q1 ⊢
          have R5 := Lib.hid q1
          clear q1 hW hc hf S1
          have hd0 := R5.out.cell 2 0 rfl (v := .int .u64 (ser : Int)) rfl
          have hd1 := R5.out.cell 2 1 rfl (v := .slice (some ⟨g8, 0, none⟩) nn nn) rfl
          have hc0 := R5.out.cell 3 0 rfl (v := .int .u64 0) rfl
          have hc1 := R5.out.cell 3 1 rfl (v := .slice none 0 0) rfl
          have hf0 := R5.out.free 3 0 rfl
          have hf1 := R5.out.free 3 1 rfl
          go_wp2_with fail
          have R9 := (R5.out.setCell 3 0 (.int .u64 (ser : Int)) rfl).setCell 3 1 (.slice (some ⟨g8, 0, none⟩) nn nn) rfl
          refine bodyPost_ret (v := .tuple #[.agg #[.int .u64 (ser : Int), .slice (some ⟨g8, 0, none⟩) nn nn], .bool true]) (results_cell_slot rfl _ _ g4 41 _ (0, 0) _ _ rfl rfl (R9.get 3 rfl) Tryd.underlying41 rfl sizeCell) rfl ?_
          have R10 := (R9.rowDat 1 rfl ser nn (by rw [HDL.out]; exact hn)).drop23
          exact ⟨⟨ser, some ⟨g8, 0, none⟩, nn, nn, DD.take nn⟩, by rw [HYES.out]; rfl, R10, fun _ => ⟨HCE.out.symm, hs64⟩⟩
      · have HNO : Hid (fine = false) := Lib.hid (by rw [HCF.out, decide_eq_false hn]; rfl)
        have HGT : Hid (cmpInt .gtr (nn : Int) (q : Int) = some true) := Lib.hid (by simp [cmpInt]; omega)
        clear hn
        go_upto_region 9 with (fail)
        refine wk_plain_since ?_
        repeat (first
          | (refine wk_move _ (by first | exact wanted_none rfl | exact wanted_yes _ _ rfl rfl) rfl ?_; simp only [Act.put, Act.eval, Array.getD_eq_getD_getElem?, List.getElem?_toArray, List.getElem?_cons_succ, List.getElem?_cons_zero, Option.getD_some, List.setIfInBounds_toArray, List.set_cons_zero, List.set_cons_succ])
          | (refine wk_assign _ (by first | exact wanted_none rfl | exact wanted_yes _ _ rfl rfl) rfl ?_; simp only [Act.put, Act.eval, Array.getD_eq_getD_getElem?, List.getElem?_toArray, List.getElem?_cons_succ, List.getElem?_cons_zero, Option.getD_some, List.setIfInBounds_toArray, List.set_cons_zero, List.set_cons_succ])
          | (refine wk_pickt _ _ _ _ (by first | exact wanted_none rfl | exact wanted_yes _ _ rfl rfl) rfl rfl rfl ?_; simp only [Act.put, Act.eval, Array.getD_eq_getD_getElem?, List.getElem?_toArray, List.getElem?_cons_succ, List.getElem?_cons_zero, Option.getD_some, List.setIfInBounds_toArray, List.set_cons_zero, List.set_cons_succ])
          | (refine wk_pickf _ _ _ _ (by first | exact wanted_none rfl | exact wanted_yes _ _ rfl rfl) rfl rfl rfl ?_; simp only [Act.put, Act.eval, Array.getD_eq_getD_getElem?, List.getElem?_toArray, List.getElem?_cons_succ, List.getElem?_cons_zero, Option.getD_some, List.setIfInBounds_toArray, List.set_cons_zero, List.set_cons_succ])
          | (refine wk_skip (wanted_not _ true false rfl rfl rfl) ?_; simp only [Act.put, List.setIfInBounds_toArray, List.set_cons_zero, List.set_cons_succ])
          | (refine wk_skip (wanted_not _ false true rfl rfl rfl) ?_; simp only [Act.put, List.setIfInBounds_toArray, List.set_cons_zero, List.set_cons_succ])
          | (refine wk_skip (wanted_undef _ _ rfl rfl) ?_; simp only [Act.put, List.setIfInBounds_toArray, List.set_cons_zero, List.set_cons_succ])
          | (refine wk_not true _ _ (by first | exact wanted_none rfl | exact wanted_yes _ _ rfl rfl) rfl rfl ?_; simp only [Act.put, List.setIfInBounds_toArray, List.set_cons_zero, List.set_cons_succ])
          | (refine wk_not false _ _ (by first | exact wanted_none rfl | exact wanted_yes _ _ rfl rfl) rfl rfl ?_; simp only [Act.put, List.setIfInBounds_toArray, List.set_cons_zero, List.set_cons_succ]))
        refine wk_cmp_int .gtr (true) _ _ _ _ _ _ _ (by kernel_rfl) rfl rfl rfl (HGT.out) ?_
        simp only [Act.put, List.setIfInBounds_toArray, List.set_cons_zero, List.set_cons_succ]
        repeat (first
          | (refine wk_move _ (by first | exact wanted_none rfl | exact wanted_yes _ _ rfl rfl) rfl ?_; simp only [Act.put, Act.eval, Array.getD_eq_getD_getElem?, List.getElem?_toArray, List.getElem?_cons_succ, List.getElem?_cons_zero, Option.getD_some, List.setIfInBounds_toArray, List.set_cons_zero, List.set_cons_succ])
          | (refine wk_assign _ (by first | exact wanted_none rfl | exact wanted_yes _ _ rfl rfl) rfl ?_; simp only [Act.put, Act.eval, Array.getD_eq_getD_getElem?, List.getElem?_toArray, List.getElem?_cons_succ, List.getElem?_cons_zero, Option.getD_some, List.setIfInBounds_toArray, List.set_cons_zero, List.set_cons_succ])
          | (refine wk_pickt _ _ _ _ (by first | exact wanted_none rfl | exact wanted_yes _ _ rfl rfl) rfl rfl rfl ?_; simp only [Act.put, Act.eval, Array.getD_eq_getD_getElem?, List.getElem?_toArray, List.getElem?_cons_succ, List.getElem?_cons_zero, Option.getD_some, List.setIfInBounds_toArray, List.set_cons_zero, List.set_cons_succ])
          | (refine wk_pickf _ _ _ _ (by first | exact wanted_none rfl | exact wanted_yes _ _ rfl rfl) rfl rfl rfl ?_; simp only [Act.put, Act.eval, Array.getD_eq_getD_getElem?, List.getElem?_toArray, List.getElem?_cons_succ, List.getElem?_cons_zero, Option.getD_some, List.setIfInBounds_toArray, List.set_cons_zero, List.set_cons_succ])
          | (refine wk_skip (wanted_not _ true false rfl rfl rfl) ?_; simp only [Act.put, List.setIfInBounds_toArray, List.set_cons_zero, List.set_cons_succ])
          | (refine wk_skip (wanted_not _ false true rfl rfl rfl) ?_; simp only [Act.put, List.setIfInBounds_toArray, List.set_cons_zero, List.set_cons_succ])
          | (refine wk_skip (wanted_undef _ _ rfl rfl) ?_; simp only [Act.put, List.setIfInBounds_toArray, List.set_cons_zero, List.set_cons_succ])
          | (refine wk_not true _ _ (by first | exact wanted_none rfl | exact wanted_yes _ _ rfl rfl) rfl rfl ?_; simp only [Act.put, List.setIfInBounds_toArray, List.set_cons_zero, List.set_cons_succ])
          | (refine wk_not false _ _ (by first | exact wanted_none rfl | exact wanted_yes _ _ rfl rfl) rfl rfl ?_; simp only [Act.put, List.setIfInBounds_toArray, List.set_cons_zero, List.set_cons_succ]))
        refine wk_nil ?_
        intro w' hC
        have S1 := Lib.hid (R2.out.since hC)
        clear hC R2
        have hc0 := S1.out.cell 3 0 rfl rfl
        have hc1 := S1.out.cell 3 1 rfl rfl
        have hf0 := S1.out.free 3 0 rfl
        have hf1 := S1.out.free 3 1 rfl
        go_wp2_with fail
        have R9 := (S1.out.setCell 3 0 (.int .u64 0) rfl).setCell 3 1 (.slice none 0 0) rfl
        refine bodyPost_ret (v := .tuple #[.agg #[.int .u64 0, .slice none 0 0], .bool false]) (results_cell_slot rfl _ _ g4 41 _ (0, 0) _ _ rfl rfl (R9.get 3 rfl) Tryd.underlying41 rfl sizeCell) rfl ?_
        exact ⟨⟨0, none, 0, 0, []⟩, by rw [HNO.out]; rfl, (R9.rowNone 1 rfl).drop23, fun h => by rw [HNO.out] at h; cases h⟩
end
end Go.Proofs.YtcepfmjebgklfaaDoor
namespace Go.Proofs.YtcepfmjebgklfaaDoor
open Go.RowKit
set_option linter.unusedSimpArgs false
set_option linter.unusedVariables false
set_option maxRecDepth 100000
theorem cellsFine_succ (b : List UInt8) (f : Bool) (k j : Nat) : cellsFine b f k (j + 1) = (cellsFine b f k j && cellFine b f k j) := by
  unfold cellsFine
  rw [List.range_succ, List.all_append]
  simp
theorem cellsFine_no (b : List UInt8) (f : Bool) (k j n : Nat) (hj : j < n) (h : cellFine b f k j = false) : cellsFine b f k n = false := by
  unfold cellsFine
  rw [List.all_eq_false]
  exact ⟨j, List.mem_range.2 hj, by simp [h]⟩
theorem Held.rev3 {w0 W : World} {l : List Thing} {a b c : Thing} (R : Held w0 W (a :: b :: c :: l)) : Held w0 W (c :: b :: a :: l) :=
  R.perm ((List.reverse_perm [c, b, a]).append_right l)
section
variable {w : World}
set_option maxHeartbeats 4000000 in
theorem shget_is (hc : ClsAt w) (b : List UInt8) (hb : b.length = 256) :
    Calls Tryd.prog 23 #[.agg (blk b)] w fun e w' => ∃ v, e = .returned (.tuple #[v, .int .i64 (getE18 b)]) ∧ ShelfIn w' v (getS18 b) ∧ Below w.heap.size w w' := by
  have hR := ((Held.start w).alloc (blk b) 52).alloc #[.int .u8 0, .int .u16 0, .int .u16 0, .slice none 0 0] 25
  obtain ⟨W, hW⟩ : ∃ W, W = (w.alloc (.cells (blk b) 52)).alloc (.cells #[.int .u8 0, .int .u16 0, .int .u16 0, .slice none 0 0] 25) := ⟨_, rfl⟩
  obtain ⟨g1, hg1⟩ : ∃ g, g = w.heap.size := ⟨_, rfl⟩
  rw [← hW, show (w.alloc (.cells (blk b) 52)).heap.size = g1 + 1 by rw [hg1]; simp, ← hg1] at hR
  obtain ⟨g2, hg2⟩ : ∃ g2, g2 = g1 + 1 := ⟨_, rfl⟩
  rw [← hg2] at hR
  have HW := Lib.hid hW
  have HG := Lib.hid hg1
  have HG2 := Lib.hid hg2
  have R0 := Lib.hid hR
  have HB := Lib.hid hb
  have HC := Lib.hid hc
  have HBs : Hid ((blk b).size = 256) := Lib.hid (by rw [size_blk, hb])
  obtain ⟨f, hf⟩ : ∃ f, f = fineB b 83 := ⟨_, rfl⟩
  have HF := Lib.hid hf
  have HSM := Lib.hid (gShL_small b hb f)
  obtain ⟨k, hk⟩ : ∃ k, k = readV b 1 1 f := ⟨_, rfl⟩
  have HK : Hid (k = gK b f) := Lib.hid hk
  have hk256 : k < 256 := by rw [hk]; exact readV_lt b hb _ 1 f (by omega)
  obtain ⟨pv, hpv⟩ : ∃ k, k = readV b 2 2 f := ⟨_, rfl⟩
  have hpv6 : pv < 65536 := by rw [hpv]; exact readV_lt b hb _ 2 f (by omega)
  obtain ⟨nx, hnx⟩ : ∃ k, k = readV b 4 2 f := ⟨_, rfl⟩
  have hnx6 : nx < 65536 := by rw [hnx]; exact readV_lt b hb _ 2 f (by omega)
  have HSH : Hid (gShL b f = ⟨k, pv, nx, (List.range (placesL k)).map (gCell b f k)⟩) := Lib.hid (by rw [hk, hpv, hnx]; rfl)
  have HGO := Lib.hid (getOk_eq b hb)
  rw [← hf] at HGO
  have H1 := Lib.hid hk
  have H2 := Lib.hid hpv
  have H4 := Lib.hid hnx
  clear hW hg1 hg2 hR hk hpv hnx hb hc
  go_enter Tryd.func23, Tryd.ntmps23
  go_upto_region 1 with (fail)
  rw [← HW.out, ← HG.out, ← HG2.out]
  have N1 := rdopen_is R0.out b HB.out 83
  go_wp2_with (refine wpList_load_row rfl 52 _ rfl g1 rfl 52 (blk b) (0, 0) _ (R0.out.get 1 rfl) Tryd.underlying52 rfl (by rw [HBs.out]; exact sizeB) ?_)
  refine N1.mono ?_
  rintro e w2 ⟨g, gb, rfl, hR⟩
  rw [← hf] at hR
  have h1 : (1 : Nat) = rI f 1 := by unfold rI; split <;> rfl
  have hR1 : Held w w2 (rdT g gb b (rI f 1) f :: [rowT g2 #[.int .u8 0, .int .u16 0, .int .u16 0, .slice none 0 0] 25, rowT g1 (blk b) 52]) := by
    rw [← h1]; exact hR
  have R1 := Lib.hid hR1
  clear hR hR1 h1 R0 N1 hf
  have N1 := rdnum_at R1.out 1 (by omega) (by omega)
  rw [← H1.out] at N1
  go_wp2_with fail
  refine N1.mono ?_
  rintro e w3 ⟨rfl, hR⟩
  have R2 := Lib.hid hR
  clear hR R1 N1
  have N1 := rdnum_at R2.out 2 (by omega) (by omega)
  rw [← H2.out] at N1
  go_wp2_with fail
  refine N1.mono ?_
  rintro e w4 ⟨rfl, hR⟩
  have R3 := Lib.hid hR
  clear hR R2 N1
  have N1 := rdnum_at R3.out 2 (by omega) (by omega)
  rw [← H4.out] at N1
  go_wp2_with fail
  refine N1.mono ?_
  rintro e w5 ⟨rfl, hR⟩
  have R4 := Lib.hid hR
  clear hR R3 N1 H1 H2 H4
  have q1 := R4.out.alloc2b #[.int .u8 (k : Int), .int .u16 (pv : Int), .int .u16 (nx : Int), .slice none 0 0] 25
  go_upto_region 3 with (fail)
  obtain ⟨W5, hW⟩ : ∃ W, W = w5.alloc (.cells #[.int .u8 (k : Int), .int .u16 (pv : Int), .int .u16 (nx : Int), .slice none 0 0] 25) := ⟨_, rfl⟩
  rw [← hW] at q1 ⊢
  clear hW
  obtain ⟨g5, hg⟩ : ∃ g, g = w5.heap.size := ⟨_, rfl⟩
  rw [← hg] at q1 ⊢
  clear hg
  have R5 := Lib.hid q1
  clear q1
  obtain ⟨⟨a0, a1, a2, a3⟩, _, _, _, _⟩ := R5.out.cells4 1 rfl
  go_wp2_with fail
  refine (places_is (HC.out.below R5.out.below) k hk256).mono ?_
  rintro e w6 ⟨rfl, hb⟩
  have hR := (R5.out.call hb)
  have hb0 : 1 + 1 + 2 + 2 = gBase k 0 := by simp [gBase]
  rw [hb0] at hR
  have hR2 := (hR.newOwn 41 2).perm (List.Perm.swap _ _ _)
  have R6 := Lib.hid hR2
  clear hb hR hR2 hb0 R5 R4 a0 a1 a2 a3
  obtain ⟨n, hn⟩ : ∃ n, n = placesL k := ⟨_, rfl⟩
  obtain ⟨rm, hrm⟩ : ∃ n, n = roomL k := ⟨_, rfl⟩
  have hn14 : n ≤ 14 := by rw [hn]; exact placesL_le k
  have HN := Lib.hid hn
  have HRM := Lib.hid hrm
  rw [← hn]
  have HROOM : Hid (∀ w' : World, Below w.heap.size w w' → Calls Tryd.prog 18 #[.int .u8 (k : Int)] w' fun e w'' => e = .returned (.int .i64 (rm : Int)) ∧ Below w'.heap.size w' w'') := Lib.hid (fun w' h => by rw [hrm]; exact room_is (HC.out.below h) k hk256)
  obtain ⟨ic, hic⟩ := infoCellX
  have HIC := Lib.hid hic
  clear hn hrm hic
  go_wp2_with fail
  go_loopw [23] (fun i wr => ∃ (j : Nat) (v : Value) (hs : List CellH), j ≤ n ∧ i = .int .i64 (j : Int) ∧ Held w wr (rdT g gb b (rI f (gBase k j)) f :: ownT 41 2 v j (cellVs hs) :: rowT g5 #[.int .u8 (k : Int), .int .u16 (pv : Int), .int .u16 (nx : Int), v] 25 :: rowT g2 #[.int .u8 0, .int .u16 0, .int .u16 0, .slice none 0 0] 25 :: rowT g1 (blk b) 52 :: hs.map datT) ∧ hs.map CellH.dat = (List.range j).map (gCell b f k) ∧ (∀ x ∈ hs, x.ser < 18446744073709551616) ∧ cellsFine b f k j = true) (fun i _ => n - (intOf i).toNat)
  case atStart => exact ⟨0, _, [], by omega, rfl, R6.out, rfl, by simp, rfl⟩
  case round =>
    obtain ⟨j, v, hs, hj, rfl, hR, hdat, hser, hfine⟩ := hrel
    have R1 := Lib.hid hR
    have HDAT := Lib.hid hdat
    have HSER := Lib.hid hser
    have HFINE := Lib.hid hfine
    clear hR hdat hser hfine R6
    by_cases hlt : j < n
    · have hjp : j < placesL k := by rw [← HN.out]; exact hlt
      obtain ⟨⟨a0, a1, a2, a3⟩, _, _, _, _⟩ := R1.out.cells4 2 rfl
      go_wp2_with fail
      refine (HROOM.out _ R1.out.below).mono ?_
      rintro e w7 ⟨rfl, hb⟩
      have R2 := Lib.hid (R1.out.call hb)
      clear hb R1 a0 a1 a2 a3
      have N1 := cell_is R2.out HB.out hjp
      rw [← HRM.out] at N1
      have HFS := Lib.hid (cellsFine_succ b f k j)
      have HFN : Hid (cellFine b f k j = false → getOk b f = false) := Lib.hid (fun h => by
        rw [← HGO.out]
        unfold getOkP
        rw [← HK.out, ← HN.out, cellsFine_no b f k j n hlt h, Bool.false_and, Bool.false_and])
      go_wp2_with fail
      refine N1.mono ?_
      rintro e w8 ⟨x, rfl, hR, hx⟩
      have R3 := Lib.hid hR
      have HX := Lib.hid hx
      clear hR hx R2 N1 hjp
      obtain ⟨ser, A, m, c, d⟩ := x
      unfold cellV
      obtain ⟨fi, hfi⟩ : ∃ x, x = cellFine b f k j := ⟨_, rfl⟩
      rw [← hfi] at HX HFS HFN ⊢
      clear hfi
      have q1 := R3.out.alloc2b #[.int .u64 (ser : Int), .slice A m c] 41
      go_upto_region 6 with (fail)
      obtain ⟨W8, hW⟩ : ∃ W, W = w8.alloc (.cells #[.int .u64 (ser : Int), .slice A m c] 41) := ⟨_, rfl⟩
      rw [← hW] at q1 ⊢
      clear hW
      obtain ⟨g6, hg⟩ : ∃ g, g = w8.heap.size := ⟨_, rfl⟩
      rw [← hg] at q1 ⊢
      clear hg
      have R4 := Lib.hid q1
      clear q1
      clear R3
      cases fi with
      | false =>
        have hno := HFN.out rfl
        have HNO : Hid (getS18 b = emptySh ∧ getE18 b = 250) := Lib.hid (by
          unfold getS18 getE18
          rw [← HF.out, if_neg (by rw [hno]; decide), if_neg (by rw [hno]; decide)]
          exact ⟨rfl, rfl⟩)
        clear hno
        have S1 := R4
        clear R4
        obtain ⟨⟨y0, y1, y2, y3⟩, b0, b1, b2, b3⟩ := S1.out.cells4 5 rfl
        go_wp2_with fail
        have R9 := S1.out.store4 5 rfl (.int .u8 0) (.int .u16 0) (.int .u16 0) (.slice none 0 0)
        refine bodyPost_ret (v := .tuple #[.agg #[.int .u8 0, .int .u16 0, .int .u16 0, .slice none 0 0], .int .i64 250]) (results_cell_slot rfl _ _ g2 25 _ (0, 0) _ _ rfl rfl (R9.get 5 rfl) Tryd.underlying25 rfl sizeShelf) rfl ?_
        exact ⟨_, by rw [HNO.out.2], by rw [HNO.out.1]; exact emptySh_shelf _, R9.below⟩
      | true =>
        have HOWN := Lib.hid (R4.out.own 3 rfl)
        obtain ⟨Av, cv, hv⟩ := own_slice HOWN.out
        subst hv
        have c3 : W8.cell? ⟨g5, 3, none⟩ = some (.slice Av j cv) := R4.out.cell 4 3 rfl rfl
        have d0 : W8.cell? ⟨g6, 0, none⟩ = some (.int .u64 (ser : Int)) := R4.out.cell 1 0 rfl rfl
        have d1 : W8.cell? ⟨g6, 1, none⟩ = some (.slice A m c) := R4.out.cell 1 1 rfl rfl
        go_upto_region 9 with (at_builtin; refine wpList_append_own_at _ rfl _ _ 23 rfl 0 41 ic (.agg #[.int .u64 0, .slice none 0 0]) 2 32 Tryd.underlying23 HIC.out.1 HIC.out.2.1 HIC.out.2.2.1 HIC.out.2.2.2 rfl (by decide) _ j (cellVs hs) rfl (World.ownsRow.alloc HOWN.out _) ⟨W8.heap.size, 0, none⟩ 1 1 [.int .u64 (ser : Int), .slice A m c] rfl rfl (news_row _ _ _) (by intro u hu; simp at hu; rcases hu with rfl | rfl <;> rfl) (by unfold maxLen; omega) (by omega) (by simp) ?_; intro v' w13 hown' hgrow hq' hat; have R5 := Lib.hid (R4.out.appendOne 3 rfl hown' hgrow hat); clear hown' hgrow hq' hat c3 d0 d1; obtain ⟨A5, c5, hv5⟩ := own_slice (R5.out.own 3 rfl); subst hv5; have hc := R5.out.cell 4 3 rfl rfl; have hf := R5.out.free 4 3 rfl)
        have q1 := R5.out.setCell 4 3 (.slice A5 (j + 1) c5) rfl
        obtain ⟨W14, hW⟩ : ∃ V, V = w13.setCell ⟨g5, 3, none⟩ (.slice A5 (j + 1) c5) := ⟨_, rfl⟩
        rw [← hW] at q1 ⊢
        have q2 := (Held.rev3 q1).toEnd [rowT g6 #[.int .u64 (ser : Int), .slice A m c] 41] _
        have R6 := Lib.hid q2
        clear q1 q2 hW hc hf R5 R4 HOWN
        have hxx := HX.out rfl
        go_wp2_with fail
        go_roundw
        case rel =>
          refine ⟨j + 1, .slice A5 (j + 1) c5, hs ++ [(⟨ser, A, m, c, d⟩ : CellH)], by omega, by go_num, ?_, ?_, ?_, ?_⟩
          · rw [cellVs_snoc, List.map_append]; exact R6.out
          · rw [List.map_append, HDAT.out, List.range_succ, List.map_append, List.map_cons, List.map_nil, List.map_cons, List.map_nil, hxx.1]
          · intro x hx
            rcases List.mem_append.1 hx with h | h
            · exact HSER.out x h
            · obtain rfl : x = _ := by simpa using h
              exact hxx.2
          · rw [HFS.out, HFINE.out]; rfl
        case measure => simp [intOf]; omega
    · obtain rfl : j = n := by omega
      obtain ⟨S, hS⟩ : ∃ S, S = gShL b f := ⟨_, rfl⟩
      have HGS : Hid (getOk b f = true → getS18 b = S ∧ getE18 b = 0) := Lib.hid (fun h => by unfold getS18 getE18; rw [← HF.out, if_pos h, if_pos h, hS]; exact ⟨rfl, rfl⟩)
      have HGN : Hid (getOk b f = false → getS18 b = emptySh ∧ getE18 b = 250) := Lib.hid (fun h => by unfold getS18 getE18; rw [← HF.out, if_neg (by rw [h]; decide), if_neg (by rw [h]; decide)]; exact ⟨rfl, rfl⟩)
      have HGO2 : Hid (getOk b f = (decide (endV b (gBase k j) f = 0) && mayL S)) := Lib.hid (by
        rw [← HGO.out]
        unfold getOkP
        rw [← HK.out, ← HN.out, HFINE.out, hS]; rfl)
      have hS2 : S = ⟨k, pv, nx, (List.range (placesL k)).map (gCell b f k)⟩ := hS.trans HSH.out
      have HSM2 : Hid (smallL S) := Lib.hid (by rw [hS]; exact HSM.out)
      have HSC : Hid (hs.map CellH.dat = S.cells) := Lib.hid (by rw [hS2, HDAT.out, HN.out])
      have h1 : S.cl = k := by rw [hS2]
      have h2 : S.prev = pv := by rw [hS2]
      have h3 : S.next = nx := by rw [hS2]
      have HS1 := Lib.hid h1
      have HS2 := Lib.hid h2
      have HS3 := Lib.hid h3
      obtain ⟨A, c, hv, hsf⟩ := R1.out.shelf (s := S) 1 rfl 5 (fun i hi => by
        rw [Nat.add_comm]
        show (hs.map datT)[i]? = _
        rw [List.getElem?_map, List.getElem?_eq_getElem hi]; rfl) HSC.out HSER.out (by rw [h1]; exact hk256) (by rw [h2]; exact hpv6) (by rw [h3]; exact hnx6) HSM2.out
      subst hv
      have HMAY : Hid (∀ w', Since wr w' → Calls Tryd.prog 27 #[.agg #[.int .u8 (k : Int), .int .u16 (pv : Int), .int .u16 (nx : Int), .slice A j c]] w' fun e w'' => e = .returned (.bool (mayL S)) ∧ Below w'.heap.size w' w'') := Lib.hid (fun w' hC => by
        have := may_is (w := w') ((HC.out.below R1.out.below).below hC) (s := S) ⟨A, j, c, hs, rfl, hsf.below hC⟩
        unfold shV at this
        rw [h1, h2, h3] at this
        exact this)
      obtain ⟨ev, hev⟩ : ∃ ev, ev = endV b (gBase k j) f := ⟨_, rfl⟩
      have hev2 : ev = 0 ∨ ev = 250 := by rw [hev]; unfold endV; split <;> simp
      have HEND : Hid (∀ w', Since wr w' → Calls Tryd.prog 49 #[.pointer (some ⟨g, 0, none⟩)] w' fun e w'' => e = .returned (.int .i64 ev) ∧ Below w'.heap.size w' w'') := Lib.hid (fun w' hC => by
        have := rdend_is (R1.out.since hC)
        rw [endV_rI, ← hev] at this
        exact this)
      obtain ⟨my, hmy⟩ : ∃ my, my = mayL S := ⟨_, rfl⟩
      rw [← hev, ← hmy] at HGO2
      rw [← hmy] at HMAY
      clear hS hS2 h1 h2 h3 hsf hev hmy HDAT HSM HSH HF HGO HROOM HIC
      go_upto_region 10 with (fail)
      rcases hev2 with rfl | rfl
      · cases my with
        | false =>
          have HNO := Lib.hid (HGN.out (by rw [HGO2.out]; rfl))
          refine wk_plain_since ?_
          repeat (first
            | (refine wk_move _ (by first | exact wanted_none rfl | exact wanted_yes _ _ rfl rfl) rfl ?_; simp only [Act.put, Act.eval, Array.getD_eq_getD_getElem?, List.getElem?_toArray, List.getElem?_cons_succ, List.getElem?_cons_zero, Option.getD_some, List.setIfInBounds_toArray, List.set_cons_zero, List.set_cons_succ])
            | (refine wk_assign _ (by first | exact wanted_none rfl | exact wanted_yes _ _ rfl rfl) rfl ?_; simp only [Act.put, Act.eval, Array.getD_eq_getD_getElem?, List.getElem?_toArray, List.getElem?_cons_succ, List.getElem?_cons_zero, Option.getD_some, List.setIfInBounds_toArray, List.set_cons_zero, List.set_cons_succ])
            | (refine wk_pickt _ _ _ _ (by first | exact wanted_none rfl | exact wanted_yes _ _ rfl rfl) rfl rfl rfl ?_; simp only [Act.put, Act.eval, Array.getD_eq_getD_getElem?, List.getElem?_toArray, List.getElem?_cons_succ, List.getElem?_cons_zero, Option.getD_some, List.setIfInBounds_toArray, List.set_cons_zero, List.set_cons_succ])
            | (refine wk_pickf _ _ _ _ (by first | exact wanted_none rfl | exact wanted_yes _ _ rfl rfl) rfl rfl rfl ?_; simp only [Act.put, Act.eval, Array.getD_eq_getD_getElem?, List.getElem?_toArray, List.getElem?_cons_succ, List.getElem?_cons_zero, Option.getD_some, List.setIfInBounds_toArray, List.set_cons_zero, List.set_cons_succ])
            | (refine wk_skip (wanted_not _ true false rfl rfl rfl) ?_; simp only [Act.put, List.setIfInBounds_toArray, List.set_cons_zero, List.set_cons_succ])
            | (refine wk_skip (wanted_not _ false true rfl rfl rfl) ?_; simp only [Act.put, List.setIfInBounds_toArray, List.set_cons_zero, List.set_cons_succ])
            | (refine wk_skip (wanted_undef _ _ rfl rfl) ?_; simp only [Act.put, List.setIfInBounds_toArray, List.set_cons_zero, List.set_cons_succ])
            | (refine wk_not true _ _ (by first | exact wanted_none rfl | exact wanted_yes _ _ rfl rfl) rfl rfl ?_; simp only [Act.put, List.setIfInBounds_toArray, List.set_cons_zero, List.set_cons_succ])
            | (refine wk_not false _ _ (by first | exact wanted_none rfl | exact wanted_yes _ _ rfl rfl) rfl rfl ?_; simp only [Act.put, List.setIfInBounds_toArray, List.set_cons_zero, List.set_cons_succ]))
          refine wk_call 49 _ _ _ _ _ (by kernel_rfl) rfl Tryd.func49 rfl (by kernel_rfl) (fun w' hC => hC.call (HEND.out w' hC)) ?_
          simp only [Act.put, List.setIfInBounds_toArray, List.set_cons_zero, List.set_cons_succ]
          refine wk_cmp_int .neq (false) _ _ _ _ _ _ _ (by kernel_rfl) rfl rfl rfl (rfl) ?_
          simp only [Act.put, List.setIfInBounds_toArray, List.set_cons_zero, List.set_cons_succ]
          repeat (first
            | (refine wk_move _ (by first | exact wanted_none rfl | exact wanted_yes _ _ rfl rfl) rfl ?_; simp only [Act.put, Act.eval, Array.getD_eq_getD_getElem?, List.getElem?_toArray, List.getElem?_cons_succ, List.getElem?_cons_zero, Option.getD_some, List.setIfInBounds_toArray, List.set_cons_zero, List.set_cons_succ])
            | (refine wk_assign _ (by first | exact wanted_none rfl | exact wanted_yes _ _ rfl rfl) rfl ?_; simp only [Act.put, Act.eval, Array.getD_eq_getD_getElem?, List.getElem?_toArray, List.getElem?_cons_succ, List.getElem?_cons_zero, Option.getD_some, List.setIfInBounds_toArray, List.set_cons_zero, List.set_cons_succ])
            | (refine wk_pickt _ _ _ _ (by first | exact wanted_none rfl | exact wanted_yes _ _ rfl rfl) rfl rfl rfl ?_; simp only [Act.put, Act.eval, Array.getD_eq_getD_getElem?, List.getElem?_toArray, List.getElem?_cons_succ, List.getElem?_cons_zero, Option.getD_some, List.setIfInBounds_toArray, List.set_cons_zero, List.set_cons_succ])
            | (refine wk_pickf _ _ _ _ (by first | exact wanted_none rfl | exact wanted_yes _ _ rfl rfl) rfl rfl rfl ?_; simp only [Act.put, Act.eval, Array.getD_eq_getD_getElem?, List.getElem?_toArray, List.getElem?_cons_succ, List.getElem?_cons_zero, Option.getD_some, List.setIfInBounds_toArray, List.set_cons_zero, List.set_cons_succ])
            | (refine wk_skip (wanted_not _ true false rfl rfl rfl) ?_; simp only [Act.put, List.setIfInBounds_toArray, List.set_cons_zero, List.set_cons_succ])
            | (refine wk_skip (wanted_not _ false true rfl rfl rfl) ?_; simp only [Act.put, List.setIfInBounds_toArray, List.set_cons_zero, List.set_cons_succ])
            | (refine wk_skip (wanted_undef _ _ rfl rfl) ?_; simp only [Act.put, List.setIfInBounds_toArray, List.set_cons_zero, List.set_cons_succ])
            | (refine wk_not true _ _ (by first | exact wanted_none rfl | exact wanted_yes _ _ rfl rfl) rfl rfl ?_; simp only [Act.put, List.setIfInBounds_toArray, List.set_cons_zero, List.set_cons_succ])
            | (refine wk_not false _ _ (by first | exact wanted_none rfl | exact wanted_yes _ _ rfl rfl) rfl rfl ?_; simp only [Act.put, List.setIfInBounds_toArray, List.set_cons_zero, List.set_cons_succ]))
          refine wk_load_row 25 _ g5 25 #[.int .u8 (k : Int), .int .u16 (pv : Int), .int .u16 (nx : Int), .slice A j c] (0, 0) _ (by kernel_rfl) rfl rfl (fun w' hC => hC.row (R1.out.get 2 rfl)) Tryd.underlying25 rfl sizeShelf ?_
          simp only [Act.put, List.setIfInBounds_toArray, List.set_cons_zero, List.set_cons_succ]
          refine wk_call 27 _ _ _ _ _ (by kernel_rfl) rfl Tryd.func27 rfl (by kernel_rfl) (fun w' hC => hC.call (HMAY.out w' hC)) ?_
          simp only [Act.put, List.setIfInBounds_toArray, List.set_cons_zero, List.set_cons_succ]
          refine wk_not false _ _ (by kernel_rfl) rfl rfl ?_
          simp only [Act.put, List.setIfInBounds_toArray, List.set_cons_zero, List.set_cons_succ]
          repeat (first
            | (refine wk_move _ (by first | exact wanted_none rfl | exact wanted_yes _ _ rfl rfl) rfl ?_; simp only [Act.put, Act.eval, Array.getD_eq_getD_getElem?, List.getElem?_toArray, List.getElem?_cons_succ, List.getElem?_cons_zero, Option.getD_some, List.setIfInBounds_toArray, List.set_cons_zero, List.set_cons_succ])
            | (refine wk_assign _ (by first | exact wanted_none rfl | exact wanted_yes _ _ rfl rfl) rfl ?_; simp only [Act.put, Act.eval, Array.getD_eq_getD_getElem?, List.getElem?_toArray, List.getElem?_cons_succ, List.getElem?_cons_zero, Option.getD_some, List.setIfInBounds_toArray, List.set_cons_zero, List.set_cons_succ])
            | (refine wk_pickt _ _ _ _ (by first | exact wanted_none rfl | exact wanted_yes _ _ rfl rfl) rfl rfl rfl ?_; simp only [Act.put, Act.eval, Array.getD_eq_getD_getElem?, List.getElem?_toArray, List.getElem?_cons_succ, List.getElem?_cons_zero, Option.getD_some, List.setIfInBounds_toArray, List.set_cons_zero, List.set_cons_succ])
            | (refine wk_pickf _ _ _ _ (by first | exact wanted_none rfl | exact wanted_yes _ _ rfl rfl) rfl rfl rfl ?_; simp only [Act.put, Act.eval, Array.getD_eq_getD_getElem?, List.getElem?_toArray, List.getElem?_cons_succ, List.getElem?_cons_zero, Option.getD_some, List.setIfInBounds_toArray, List.set_cons_zero, List.set_cons_succ])
            | (refine wk_skip (wanted_not _ true false rfl rfl rfl) ?_; simp only [Act.put, List.setIfInBounds_toArray, List.set_cons_zero, List.set_cons_succ])
            | (refine wk_skip (wanted_not _ false true rfl rfl rfl) ?_; simp only [Act.put, List.setIfInBounds_toArray, List.set_cons_zero, List.set_cons_succ])
            | (refine wk_skip (wanted_undef _ _ rfl rfl) ?_; simp only [Act.put, List.setIfInBounds_toArray, List.set_cons_zero, List.set_cons_succ])
            | (refine wk_not true _ _ (by first | exact wanted_none rfl | exact wanted_yes _ _ rfl rfl) rfl rfl ?_; simp only [Act.put, List.setIfInBounds_toArray, List.set_cons_zero, List.set_cons_succ])
            | (refine wk_not false _ _ (by first | exact wanted_none rfl | exact wanted_yes _ _ rfl rfl) rfl rfl ?_; simp only [Act.put, List.setIfInBounds_toArray, List.set_cons_zero, List.set_cons_succ]))
          refine wk_nil ?_
          intro w' hC
          have S1 := Lib.hid (R1.out.since hC)
          clear hC R1
          obtain ⟨⟨y0, y1, y2, y3⟩, b0, b1, b2, b3⟩ := S1.out.cells4 3 rfl
          go_wp2_with fail
          have R9 := S1.out.store4 3 rfl (.int .u8 0) (.int .u16 0) (.int .u16 0) (.slice none 0 0)
          refine bodyPost_ret (v := .tuple #[.agg #[.int .u8 0, .int .u16 0, .int .u16 0, .slice none 0 0], .int .i64 250]) (results_cell_slot rfl _ _ g2 25 _ (0, 0) _ _ rfl rfl (R9.get 3 rfl) Tryd.underlying25 rfl sizeShelf) rfl ?_
          exact ⟨_, by rw [HNO.out.2], by rw [HNO.out.1]; exact emptySh_shelf _, R9.below⟩
        | true =>
          have HY := Lib.hid (HGS.out (by rw [HGO2.out]; rfl))
          refine wk_plain_since ?_
          repeat (first
            | (refine wk_move _ (by first | exact wanted_none rfl | exact wanted_yes _ _ rfl rfl) rfl ?_; simp only [Act.put, Act.eval, Array.getD_eq_getD_getElem?, List.getElem?_toArray, List.getElem?_cons_succ, List.getElem?_cons_zero, Option.getD_some, List.setIfInBounds_toArray, List.set_cons_zero, List.set_cons_succ])
            | (refine wk_assign _ (by first | exact wanted_none rfl | exact wanted_yes _ _ rfl rfl) rfl ?_; simp only [Act.put, Act.eval, Array.getD_eq_getD_getElem?, List.getElem?_toArray, List.getElem?_cons_succ, List.getElem?_cons_zero, Option.getD_some, List.setIfInBounds_toArray, List.set_cons_zero, List.set_cons_succ])
            | (refine wk_pickt _ _ _ _ (by first | exact wanted_none rfl | exact wanted_yes _ _ rfl rfl) rfl rfl rfl ?_; simp only [Act.put, Act.eval, Array.getD_eq_getD_getElem?, List.getElem?_toArray, List.getElem?_cons_succ, List.getElem?_cons_zero, Option.getD_some, List.setIfInBounds_toArray, List.set_cons_zero, List.set_cons_succ])
            | (refine wk_pickf _ _ _ _ (by first | exact wanted_none rfl | exact wanted_yes _ _ rfl rfl) rfl rfl rfl ?_; simp only [Act.put, Act.eval, Array.getD_eq_getD_getElem?, List.getElem?_toArray, List.getElem?_cons_succ, List.getElem?_cons_zero, Option.getD_some, List.setIfInBounds_toArray, List.set_cons_zero, List.set_cons_succ])
            | (refine wk_skip (wanted_not _ true false rfl rfl rfl) ?_; simp only [Act.put, List.setIfInBounds_toArray, List.set_cons_zero, List.set_cons_succ])
            | (refine wk_skip (wanted_not _ false true rfl rfl rfl) ?_; simp only [Act.put, List.setIfInBounds_toArray, List.set_cons_zero, List.set_cons_succ])
            | (refine wk_skip (wanted_undef _ _ rfl rfl) ?_; simp only [Act.put, List.setIfInBounds_toArray, List.set_cons_zero, List.set_cons_succ])
            | (refine wk_not true _ _ (by first | exact wanted_none rfl | exact wanted_yes _ _ rfl rfl) rfl rfl ?_; simp only [Act.put, List.setIfInBounds_toArray, List.set_cons_zero, List.set_cons_succ])
            | (refine wk_not false _ _ (by first | exact wanted_none rfl | exact wanted_yes _ _ rfl rfl) rfl rfl ?_; simp only [Act.put, List.setIfInBounds_toArray, List.set_cons_zero, List.set_cons_succ]))
          refine wk_call 49 _ _ _ _ _ (by kernel_rfl) rfl Tryd.func49 rfl (by kernel_rfl) (fun w' hC => hC.call (HEND.out w' hC)) ?_
          simp only [Act.put, List.setIfInBounds_toArray, List.set_cons_zero, List.set_cons_succ]
          refine wk_cmp_int .neq (false) _ _ _ _ _ _ _ (by kernel_rfl) rfl rfl rfl (rfl) ?_
          simp only [Act.put, List.setIfInBounds_toArray, List.set_cons_zero, List.set_cons_succ]
          repeat (first
            | (refine wk_move _ (by first | exact wanted_none rfl | exact wanted_yes _ _ rfl rfl) rfl ?_; simp only [Act.put, Act.eval, Array.getD_eq_getD_getElem?, List.getElem?_toArray, List.getElem?_cons_succ, List.getElem?_cons_zero, Option.getD_some, List.setIfInBounds_toArray, List.set_cons_zero, List.set_cons_succ])
            | (refine wk_assign _ (by first | exact wanted_none rfl | exact wanted_yes _ _ rfl rfl) rfl ?_; simp only [Act.put, Act.eval, Array.getD_eq_getD_getElem?, List.getElem?_toArray, List.getElem?_cons_succ, List.getElem?_cons_zero, Option.getD_some, List.setIfInBounds_toArray, List.set_cons_zero, List.set_cons_succ])
            | (refine wk_pickt _ _ _ _ (by first | exact wanted_none rfl | exact wanted_yes _ _ rfl rfl) rfl rfl rfl ?_; simp only [Act.put, Act.eval, Array.getD_eq_getD_getElem?, List.getElem?_toArray, List.getElem?_cons_succ, List.getElem?_cons_zero, Option.getD_some, List.setIfInBounds_toArray, List.set_cons_zero, List.set_cons_succ])
            | (refine wk_pickf _ _ _ _ (by first | exact wanted_none rfl | exact wanted_yes _ _ rfl rfl) rfl rfl rfl ?_; simp only [Act.put, Act.eval, Array.getD_eq_getD_getElem?, List.getElem?_toArray, List.getElem?_cons_succ, List.getElem?_cons_zero, Option.getD_some, List.setIfInBounds_toArray, List.set_cons_zero, List.set_cons_succ])
            | (refine wk_skip (wanted_not _ true false rfl rfl rfl) ?_; simp only [Act.put, List.setIfInBounds_toArray, List.set_cons_zero, List.set_cons_succ])
            | (refine wk_skip (wanted_not _ false true rfl rfl rfl) ?_; simp only [Act.put, List.setIfInBounds_toArray, List.set_cons_zero, List.set_cons_succ])
            | (refine wk_skip (wanted_undef _ _ rfl rfl) ?_; simp only [Act.put, List.setIfInBounds_toArray, List.set_cons_zero, List.set_cons_succ])
            | (refine wk_not true _ _ (by first | exact wanted_none rfl | exact wanted_yes _ _ rfl rfl) rfl rfl ?_; simp only [Act.put, List.setIfInBounds_toArray, List.set_cons_zero, List.set_cons_succ])
            | (refine wk_not false _ _ (by first | exact wanted_none rfl | exact wanted_yes _ _ rfl rfl) rfl rfl ?_; simp only [Act.put, List.setIfInBounds_toArray, List.set_cons_zero, List.set_cons_succ]))
          refine wk_load_row 25 _ g5 25 #[.int .u8 (k : Int), .int .u16 (pv : Int), .int .u16 (nx : Int), .slice A j c] (0, 0) _ (by kernel_rfl) rfl rfl (fun w' hC => hC.row (R1.out.get 2 rfl)) Tryd.underlying25 rfl sizeShelf ?_
          simp only [Act.put, List.setIfInBounds_toArray, List.set_cons_zero, List.set_cons_succ]
          refine wk_call 27 _ _ _ _ _ (by kernel_rfl) rfl Tryd.func27 rfl (by kernel_rfl) (fun w' hC => hC.call (HMAY.out w' hC)) ?_
          simp only [Act.put, List.setIfInBounds_toArray, List.set_cons_zero, List.set_cons_succ]
          refine wk_not true _ _ (by kernel_rfl) rfl rfl ?_
          simp only [Act.put, List.setIfInBounds_toArray, List.set_cons_zero, List.set_cons_succ]
          repeat (first
            | (refine wk_move _ (by first | exact wanted_none rfl | exact wanted_yes _ _ rfl rfl) rfl ?_; simp only [Act.put, Act.eval, Array.getD_eq_getD_getElem?, List.getElem?_toArray, List.getElem?_cons_succ, List.getElem?_cons_zero, Option.getD_some, List.setIfInBounds_toArray, List.set_cons_zero, List.set_cons_succ])
            | (refine wk_assign _ (by first | exact wanted_none rfl | exact wanted_yes _ _ rfl rfl) rfl ?_; simp only [Act.put, Act.eval, Array.getD_eq_getD_getElem?, List.getElem?_toArray, List.getElem?_cons_succ, List.getElem?_cons_zero, Option.getD_some, List.setIfInBounds_toArray, List.set_cons_zero, List.set_cons_succ])
            | (refine wk_pickt _ _ _ _ (by first | exact wanted_none rfl | exact wanted_yes _ _ rfl rfl) rfl rfl rfl ?_; simp only [Act.put, Act.eval, Array.getD_eq_getD_getElem?, List.getElem?_toArray, List.getElem?_cons_succ, List.getElem?_cons_zero, Option.getD_some, List.setIfInBounds_toArray, List.set_cons_zero, List.set_cons_succ])
            | (refine wk_pickf _ _ _ _ (by first | exact wanted_none rfl | exact wanted_yes _ _ rfl rfl) rfl rfl rfl ?_; simp only [Act.put, Act.eval, Array.getD_eq_getD_getElem?, List.getElem?_toArray, List.getElem?_cons_succ, List.getElem?_cons_zero, Option.getD_some, List.setIfInBounds_toArray, List.set_cons_zero, List.set_cons_succ])
            | (refine wk_skip (wanted_not _ true false rfl rfl rfl) ?_; simp only [Act.put, List.setIfInBounds_toArray, List.set_cons_zero, List.set_cons_succ])
            | (refine wk_skip (wanted_not _ false true rfl rfl rfl) ?_; simp only [Act.put, List.setIfInBounds_toArray, List.set_cons_zero, List.set_cons_succ])
            | (refine wk_skip (wanted_undef _ _ rfl rfl) ?_; simp only [Act.put, List.setIfInBounds_toArray, List.set_cons_zero, List.set_cons_succ])
            | (refine wk_not true _ _ (by first | exact wanted_none rfl | exact wanted_yes _ _ rfl rfl) rfl rfl ?_; simp only [Act.put, List.setIfInBounds_toArray, List.set_cons_zero, List.set_cons_succ])
            | (refine wk_not false _ _ (by first | exact wanted_none rfl | exact wanted_yes _ _ rfl rfl) rfl rfl ?_; simp only [Act.put, List.setIfInBounds_toArray, List.set_cons_zero, List.set_cons_succ]))
          refine wk_nil ?_
          intro w' hC
          have S1 := Lib.hid (R1.out.since hC)
          clear hC R1
          obtain ⟨⟨y0, y1, y2, y3⟩, b0, b1, b2, b3⟩ := S1.out.cells4 3 rfl
          obtain ⟨⟨a0, a1, a2, a3⟩, _, _, _, _⟩ := S1.out.cells4 2 rfl
          go_wp2_with fail
          have R9 := S1.out.store4 3 rfl (.int .u8 (k : Int)) (.int .u16 (pv : Int)) (.int .u16 (nx : Int)) (.slice A j c)
          refine bodyPost_ret (v := .tuple #[.agg #[.int .u8 (k : Int), .int .u16 (pv : Int), .int .u16 (nx : Int), .slice A j c], .int .i64 0]) (results_cell_slot rfl _ _ g2 25 _ (0, 0) _ _ rfl rfl (R9.get 3 rfl) Tryd.underlying25 rfl sizeShelf) rfl ?_
          refine ⟨_, by rw [HY.out.2], ?_, R9.below⟩
          rw [HY.out.1]
          obtain ⟨A', c', hv, hsf⟩ := R9.shelf (s := S) 1 rfl 5 (fun i hi => by
            rw [Nat.add_comm]
            show (hs.map datT)[i]? = _
            rw [List.getElem?_map, List.getElem?_eq_getElem hi]; rfl) HSC.out HSER.out (by rw [HS1.out]; exact hk256) (by rw [HS2.out]; exact hpv6) (by rw [HS3.out]; exact hnx6) HSM2.out
          cases hv
          refine ⟨A, j, c, hs, ?_, hsf⟩
          unfold shV
          rw [HS1.out, HS2.out, HS3.out]
      · have HNO := Lib.hid (HGN.out (by rw [HGO2.out]; rfl))
        refine wk_plain_since ?_
        repeat (first
          | (refine wk_move _ (by first | exact wanted_none rfl | exact wanted_yes _ _ rfl rfl) rfl ?_; simp only [Act.put, Act.eval, Array.getD_eq_getD_getElem?, List.getElem?_toArray, List.getElem?_cons_succ, List.getElem?_cons_zero, Option.getD_some, List.setIfInBounds_toArray, List.set_cons_zero, List.set_cons_succ])
          | (refine wk_assign _ (by first | exact wanted_none rfl | exact wanted_yes _ _ rfl rfl) rfl ?_; simp only [Act.put, Act.eval, Array.getD_eq_getD_getElem?, List.getElem?_toArray, List.getElem?_cons_succ, List.getElem?_cons_zero, Option.getD_some, List.setIfInBounds_toArray, List.set_cons_zero, List.set_cons_succ])
          | (refine wk_pickt _ _ _ _ (by first | exact wanted_none rfl | exact wanted_yes _ _ rfl rfl) rfl rfl rfl ?_; simp only [Act.put, Act.eval, Array.getD_eq_getD_getElem?, List.getElem?_toArray, List.getElem?_cons_succ, List.getElem?_cons_zero, Option.getD_some, List.setIfInBounds_toArray, List.set_cons_zero, List.set_cons_succ])
          | (refine wk_pickf _ _ _ _ (by first | exact wanted_none rfl | exact wanted_yes _ _ rfl rfl) rfl rfl rfl ?_; simp only [Act.put, Act.eval, Array.getD_eq_getD_getElem?, List.getElem?_toArray, List.getElem?_cons_succ, List.getElem?_cons_zero, Option.getD_some, List.setIfInBounds_toArray, List.set_cons_zero, List.set_cons_succ])
          | (refine wk_skip (wanted_not _ true false rfl rfl rfl) ?_; simp only [Act.put, List.setIfInBounds_toArray, List.set_cons_zero, List.set_cons_succ])
          | (refine wk_skip (wanted_not _ false true rfl rfl rfl) ?_; simp only [Act.put, List.setIfInBounds_toArray, List.set_cons_zero, List.set_cons_succ])
          | (refine wk_skip (wanted_undef _ _ rfl rfl) ?_; simp only [Act.put, List.setIfInBounds_toArray, List.set_cons_zero, List.set_cons_succ])
          | (refine wk_not true _ _ (by first | exact wanted_none rfl | exact wanted_yes _ _ rfl rfl) rfl rfl ?_; simp only [Act.put, List.setIfInBounds_toArray, List.set_cons_zero, List.set_cons_succ])
          | (refine wk_not false _ _ (by first | exact wanted_none rfl | exact wanted_yes _ _ rfl rfl) rfl rfl ?_; simp only [Act.put, List.setIfInBounds_toArray, List.set_cons_zero, List.set_cons_succ]))
        refine wk_call 49 _ _ _ _ _ (by kernel_rfl) rfl Tryd.func49 rfl (by kernel_rfl) (fun w' hC => hC.call (HEND.out w' hC)) ?_
        simp only [Act.put, List.setIfInBounds_toArray, List.set_cons_zero, List.set_cons_succ]
        refine wk_cmp_int .neq (true) _ _ _ _ _ _ _ (by kernel_rfl) rfl rfl rfl (rfl) ?_
        simp only [Act.put, List.setIfInBounds_toArray, List.set_cons_zero, List.set_cons_succ]
        repeat (first
          | (refine wk_move _ (by first | exact wanted_none rfl | exact wanted_yes _ _ rfl rfl) rfl ?_; simp only [Act.put, Act.eval, Array.getD_eq_getD_getElem?, List.getElem?_toArray, List.getElem?_cons_succ, List.getElem?_cons_zero, Option.getD_some, List.setIfInBounds_toArray, List.set_cons_zero, List.set_cons_succ])
          | (refine wk_assign _ (by first | exact wanted_none rfl | exact wanted_yes _ _ rfl rfl) rfl ?_; simp only [Act.put, Act.eval, Array.getD_eq_getD_getElem?, List.getElem?_toArray, List.getElem?_cons_succ, List.getElem?_cons_zero, Option.getD_some, List.setIfInBounds_toArray, List.set_cons_zero, List.set_cons_succ])
          | (refine wk_pickt _ _ _ _ (by first | exact wanted_none rfl | exact wanted_yes _ _ rfl rfl) rfl rfl rfl ?_; simp only [Act.put, Act.eval, Array.getD_eq_getD_getElem?, List.getElem?_toArray, List.getElem?_cons_succ, List.getElem?_cons_zero, Option.getD_some, List.setIfInBounds_toArray, List.set_cons_zero, List.set_cons_succ])
          | (refine wk_pickf _ _ _ _ (by first | exact wanted_none rfl | exact wanted_yes _ _ rfl rfl) rfl rfl rfl ?_; simp only [Act.put, Act.eval, Array.getD_eq_getD_getElem?, List.getElem?_toArray, List.getElem?_cons_succ, List.getElem?_cons_zero, Option.getD_some, List.setIfInBounds_toArray, List.set_cons_zero, List.set_cons_succ])
          | (refine wk_skip (wanted_not _ true false rfl rfl rfl) ?_; simp only [Act.put, List.setIfInBounds_toArray, List.set_cons_zero, List.set_cons_succ])
          | (refine wk_skip (wanted_not _ false true rfl rfl rfl) ?_; simp only [Act.put, List.setIfInBounds_toArray, List.set_cons_zero, List.set_cons_succ])
          | (refine wk_skip (wanted_undef _ _ rfl rfl) ?_; simp only [Act.put, List.setIfInBounds_toArray, List.set_cons_zero, List.set_cons_succ])
          | (refine wk_not true _ _ (by first | exact wanted_none rfl | exact wanted_yes _ _ rfl rfl) rfl rfl ?_; simp only [Act.put, List.setIfInBounds_toArray, List.set_cons_zero, List.set_cons_succ])
          | (refine wk_not false _ _ (by first | exact wanted_none rfl | exact wanted_yes _ _ rfl rfl) rfl rfl ?_; simp only [Act.put, List.setIfInBounds_toArray, List.set_cons_zero, List.set_cons_succ]))
        refine wk_nil ?_
        intro w' hC
        have S1 := Lib.hid (R1.out.since hC)
        clear hC R1
        obtain ⟨⟨y0, y1, y2, y3⟩, b0, b1, b2, b3⟩ := S1.out.cells4 3 rfl
        go_wp2_with fail
        have R9 := S1.out.store4 3 rfl (.int .u8 0) (.int .u16 0) (.int .u16 0) (.slice none 0 0)
        refine bodyPost_ret (v := .tuple #[.agg #[.int .u8 0, .int .u16 0, .int .u16 0, .slice none 0 0], .int .i64 250]) (results_cell_slot rfl _ _ g2 25 _ (0, 0) _ _ rfl rfl (R9.get 3 rfl) Tryd.underlying25 rfl sizeShelf) rfl ?_
        exact ⟨_, by rw [HNO.out.2], by rw [HNO.out.1]; exact emptySh_shelf _, R9.below⟩
end
end Go.Proofs.YtcepfmjebgklfaaDoor
namespace Go.Proofs.YtcepfmjebgklfaaDoor
open Go.RowKit
set_option linter.unusedSimpArgs false
set_option linter.unusedVariables false
set_option maxRecDepth 100000
section
variable {w : World}
set_option maxHeartbeats 4000000 in
theorem shgets_any (hc : ClsAt w) (b : List UInt8) (sl : Bool) (hb : b.length = 256) :
    Calls Tryd.prog 7 #[.agg (blk b), .bool sl] w fun e w' => e = .returned (.bool true) ∧ Below w.heap.size w w' := by
  have q1 := (Held.start w).alloc (blk b) 52
  obtain ⟨W, hW⟩ : ∃ W, W = w.alloc (.cells (blk b) 52) := ⟨_, rfl⟩
  obtain ⟨g2, hg⟩ : ∃ g, g = w.heap.size := ⟨_, rfl⟩
  rw [← hW, ← hg] at q1
  have HW := Lib.hid hW
  have HG := Lib.hid hg
  have R0 := Lib.hid q1
  have HC := Lib.hid hc
  have HB := Lib.hid hb
  have HYL : Hid ((sealB b).length = 256) := Lib.hid (length_sealB b hb)
  have HSEAL : Hid (∀ w, Calls Tryd.prog 22 #[.agg (blk b)] w fun e w' => e = .returned (.agg (blk (sealB b))) ∧ Below w.heap.size w w') := Lib.hid (fun w => refseal_any b hb w)
  obtain ⟨y, hy⟩ : ∃ y, y = sealB b := ⟨_, rfl⟩
  rw [← hy] at HYL HSEAL
  clear q1 hW hg hc hb hy
  go_enter Tryd.func7, Tryd.ntmps7
  go_upto_region 1 with (fail)
  rw [← HW.out, ← HG.out]
  cases sl with
  | false =>
    go_wp2_with (refine wpList_load_row rfl 52 _ rfl g2 rfl 52 (blk b) (0, 0) _ (R0.out.get 0 rfl) Tryd.underlying52 rfl (by rw [size_blk, HB.out]; exact sizeB) ?_)
    refine (shget_is (HC.out.below R0.out.below) b HB.out).mono ?_
    rintro e w3 ⟨v, rfl, ⟨A, n, c, l, rfl, hs⟩, hb⟩
    have hput := getS18_may b
    have hE : getE18 b = 0 ∨ getE18 b = 250 := by unfold getE18; split <;> simp
    have REF := Lib.hid (fun w => refget18 (w := w) b HB.out)
    obtain ⟨S, hS⟩ : ∃ S, S = getS18 b := ⟨_, rfl⟩
    obtain ⟨E, hEE⟩ : ∃ E, E = getE18 b := ⟨_, rfl⟩
    rw [← hS] at hs hput REF ⊢
    rw [← hEE] at hE hput REF ⊢
    have HPUT : Hid (E = 0 → putE18 S = 0 ∧ putB18 S = b) := Lib.hid (fun h => (hput h).2)
    unfold shV
    have q1 := (R0.out.call hb).alloc #[.int .u8 (S.cl : Int), .int .u16 (S.prev : Int), .int .u16 (S.next : Int), .slice A n c] 25
    have hba := (Below.refl w3.heap.size w3).alloc (Nat.le_refl _) (.cells #[.int .u8 (S.cl : Int), .int .u16 (S.prev : Int), .int .u16 (S.next : Int), .slice A n c] 25)
    have hs2 := hs.below hba
    clear hS hEE hput hs hb hba R0
    go_upto_region 4 with (fail)
    obtain ⟨W3, hW⟩ : ∃ V, V = w3.alloc (.cells #[.int .u8 (S.cl : Int), .int .u16 (S.prev : Int), .int .u16 (S.next : Int), .slice A n c] 25) := ⟨_, rfl⟩
    rw [← hW] at q1 hs2 ⊢
    obtain ⟨g5, hg⟩ : ∃ g, g = w3.heap.size := ⟨_, rfl⟩
    rw [← hg] at q1 ⊢
    have R1 := Lib.hid q1
    have HS := Lib.hid hs2
    clear q1 hs2 hW hg
    go_wp2_with (refine wpList_load_row rfl 52 _ rfl g2 rfl 52 (blk b) (0, 0) _ (R1.out.get 1 rfl) Tryd.underlying52 rfl (by rw [size_blk, HB.out]; exact sizeB) ?_)
    refine (REF.out _).mono ?_
    rintro e w4 ⟨v, rfl, ⟨A', n', c', l', rfl, hs⟩, hb⟩
    unfold shV
    have q1 := (R1.out.call hb).alloc #[.int .u8 (S.cl : Int), .int .u16 (S.prev : Int), .int .u16 (S.next : Int), .slice A' n' c'] 25
    have hba := (Below.refl w4.heap.size w4).alloc (Nat.le_refl _) (.cells #[.int .u8 (S.cl : Int), .int .u16 (S.prev : Int), .int .u16 (S.next : Int), .slice A' n' c'] 25)
    have hs2 := hs.below hba
    have hs3 := (HS.out.below hb).below hba
    clear hs hb hba R1 HS REF
    go_upto_region 5 with (fail)
    obtain ⟨W4, hW⟩ : ∃ V, V = w4.alloc (.cells #[.int .u8 (S.cl : Int), .int .u16 (S.prev : Int), .int .u16 (S.next : Int), .slice A' n' c'] 25) := ⟨_, rfl⟩
    rw [← hW] at q1 hs2 hs3 ⊢
    obtain ⟨g7, hg⟩ : ∃ g, g = w4.heap.size := ⟨_, rfl⟩
    rw [← hg] at q1 ⊢
    have R2 := Lib.hid q1
    have HS2 := Lib.hid hs2
    have HS3 := Lib.hid hs3
    clear q1 hs2 hs3 hW hg
    have HSAME : Hid (∀ w', Since W4 w' → Calls Tryd.prog 25 #[.agg #[.int .u8 (S.cl : Int), .int .u16 (S.prev : Int), .int .u16 (S.next : Int), .slice A n c], .agg #[.int .u8 (S.cl : Int), .int .u16 (S.prev : Int), .int .u16 (S.next : Int), .slice A' n' c']] w' fun e w'' => e = .returned (.bool true) ∧ Below w'.heap.size w' w'') := Lib.hid (fun w' hC => by
      have := refsame18 (w := w') ⟨A, n, c, l, rfl, HS3.out.below hC⟩ ⟨A', n', c', l', rfl, HS2.out.below hC⟩
      rw [(sameL_iff S S).2 rfl] at this
      exact this)
    refine wk_plain_since ?_
    refine wk_load_row 25 _ g5 25 #[.int .u8 (S.cl : Int), .int .u16 (S.prev : Int), .int .u16 (S.next : Int), .slice A n c] (0, 0) _ (by kernel_rfl) rfl rfl (fun w' hC => hC.row (R2.out.get 1 rfl)) Tryd.underlying25 rfl sizeShelf ?_
    simp only [Act.put, List.setIfInBounds_toArray, List.set_cons_zero, List.set_cons_succ]
    refine wk_load_row 25 _ g7 25 #[.int .u8 (S.cl : Int), .int .u16 (S.prev : Int), .int .u16 (S.next : Int), .slice A' n' c'] (0, 0) _ (by kernel_rfl) rfl rfl (fun w' hC => hC.row (R2.out.get 0 rfl)) Tryd.underlying25 rfl sizeShelf ?_
    simp only [Act.put, List.setIfInBounds_toArray, List.set_cons_zero, List.set_cons_succ]
    refine wk_call 25 _ _ _ _ _ (by kernel_rfl) rfl Tryd.func25 rfl (by kernel_rfl) (fun w' hC => hC.call (HSAME.out w' hC)) ?_
    simp only [Act.put, List.setIfInBounds_toArray, List.set_cons_zero, List.set_cons_succ]
    refine wk_not true _ _ (by kernel_rfl) rfl rfl ?_
    simp only [Act.put, List.setIfInBounds_toArray, List.set_cons_zero, List.set_cons_succ]
    repeat (first
      | (refine wk_move _ (by first | exact wanted_none rfl | exact wanted_yes _ _ rfl rfl) rfl ?_; simp only [Act.put, Act.eval, Array.getD_eq_getD_getElem?, List.getElem?_toArray, List.getElem?_cons_succ, List.getElem?_cons_zero, Option.getD_some, List.setIfInBounds_toArray, List.set_cons_zero, List.set_cons_succ])
      | (refine wk_assign _ (by first | exact wanted_none rfl | exact wanted_yes _ _ rfl rfl) rfl ?_; simp only [Act.put, Act.eval, Array.getD_eq_getD_getElem?, List.getElem?_toArray, List.getElem?_cons_succ, List.getElem?_cons_zero, Option.getD_some, List.setIfInBounds_toArray, List.set_cons_zero, List.set_cons_succ])
      | (refine wk_pickt _ _ _ _ (by first | exact wanted_none rfl | exact wanted_yes _ _ rfl rfl) rfl rfl rfl ?_; simp only [Act.put, Act.eval, Array.getD_eq_getD_getElem?, List.getElem?_toArray, List.getElem?_cons_succ, List.getElem?_cons_zero, Option.getD_some, List.setIfInBounds_toArray, List.set_cons_zero, List.set_cons_succ])
      | (refine wk_pickf _ _ _ _ (by first | exact wanted_none rfl | exact wanted_yes _ _ rfl rfl) rfl rfl rfl ?_; simp only [Act.put, Act.eval, Array.getD_eq_getD_getElem?, List.getElem?_toArray, List.getElem?_cons_succ, List.getElem?_cons_zero, Option.getD_some, List.setIfInBounds_toArray, List.set_cons_zero, List.set_cons_succ])
      | (refine wk_skip (wanted_not _ true false rfl rfl rfl) ?_; simp only [Act.put, List.setIfInBounds_toArray, List.set_cons_zero, List.set_cons_succ])
      | (refine wk_skip (wanted_not _ false true rfl rfl rfl) ?_; simp only [Act.put, List.setIfInBounds_toArray, List.set_cons_zero, List.set_cons_succ])
      | (refine wk_skip (wanted_undef _ _ rfl rfl) ?_; simp only [Act.put, List.setIfInBounds_toArray, List.set_cons_zero, List.set_cons_succ])
      | (refine wk_not true _ _ (by first | exact wanted_none rfl | exact wanted_yes _ _ rfl rfl) rfl rfl ?_; simp only [Act.put, List.setIfInBounds_toArray, List.set_cons_zero, List.set_cons_succ])
      | (refine wk_not false _ _ (by first | exact wanted_none rfl | exact wanted_yes _ _ rfl rfl) rfl rfl ?_; simp only [Act.put, List.setIfInBounds_toArray, List.set_cons_zero, List.set_cons_succ]))
    refine wk_cmp_int .neq (false) _ _ _ _ _ _ _ (by kernel_rfl) rfl rfl rfl (by simp [cmpInt]) ?_
    simp only [Act.put, List.setIfInBounds_toArray, List.set_cons_zero, List.set_cons_succ]
    repeat (first
      | (refine wk_move _ (by first | exact wanted_none rfl | exact wanted_yes _ _ rfl rfl) rfl ?_; simp only [Act.put, Act.eval, Array.getD_eq_getD_getElem?, List.getElem?_toArray, List.getElem?_cons_succ, List.getElem?_cons_zero, Option.getD_some, List.setIfInBounds_toArray, List.set_cons_zero, List.set_cons_succ])
      | (refine wk_assign _ (by first | exact wanted_none rfl | exact wanted_yes _ _ rfl rfl) rfl ?_; simp only [Act.put, Act.eval, Array.getD_eq_getD_getElem?, List.getElem?_toArray, List.getElem?_cons_succ, List.getElem?_cons_zero, Option.getD_some, List.setIfInBounds_toArray, List.set_cons_zero, List.set_cons_succ])
      | (refine wk_pickt _ _ _ _ (by first | exact wanted_none rfl | exact wanted_yes _ _ rfl rfl) rfl rfl rfl ?_; simp only [Act.put, Act.eval, Array.getD_eq_getD_getElem?, List.getElem?_toArray, List.getElem?_cons_succ, List.getElem?_cons_zero, Option.getD_some, List.setIfInBounds_toArray, List.set_cons_zero, List.set_cons_succ])
      | (refine wk_pickf _ _ _ _ (by first | exact wanted_none rfl | exact wanted_yes _ _ rfl rfl) rfl rfl rfl ?_; simp only [Act.put, Act.eval, Array.getD_eq_getD_getElem?, List.getElem?_toArray, List.getElem?_cons_succ, List.getElem?_cons_zero, Option.getD_some, List.setIfInBounds_toArray, List.set_cons_zero, List.set_cons_succ])
      | (refine wk_skip (wanted_not _ true false rfl rfl rfl) ?_; simp only [Act.put, List.setIfInBounds_toArray, List.set_cons_zero, List.set_cons_succ])
      | (refine wk_skip (wanted_not _ false true rfl rfl rfl) ?_; simp only [Act.put, List.setIfInBounds_toArray, List.set_cons_zero, List.set_cons_succ])
      | (refine wk_skip (wanted_undef _ _ rfl rfl) ?_; simp only [Act.put, List.setIfInBounds_toArray, List.set_cons_zero, List.set_cons_succ])
      | (refine wk_not true _ _ (by first | exact wanted_none rfl | exact wanted_yes _ _ rfl rfl) rfl rfl ?_; simp only [Act.put, List.setIfInBounds_toArray, List.set_cons_zero, List.set_cons_succ])
      | (refine wk_not false _ _ (by first | exact wanted_none rfl | exact wanted_yes _ _ rfl rfl) rfl rfl ?_; simp only [Act.put, List.setIfInBounds_toArray, List.set_cons_zero, List.set_cons_succ]))
    refine wk_nil ?_
    intro w' hC
    have R3 := Lib.hid (R2.out.since hC)
    have HS4 := Lib.hid (HS3.out.below hC)
    clear hC R2 HS2 HS3 HSAME
    rcases hE with rfl | rfl
    · have hp := HPUT.out rfl
      have N1 := shput_is (HC.out.below R3.out.below) ⟨A, n, c, l, rfl, HS4.out⟩
      rw [hp.1, hp.2] at N1
      unfold shV at N1
      obtain ⟨⟨a0, a1, a2, a3⟩, _, _, _, _⟩ := R3.out.cells4 1 rfl
      go_wp2_with fail
      refine (N1).mono ?_
      rintro e w5 ⟨rfl, hb⟩
      have q1 := (R3.out.call hb).alloc (blk b) 52
      clear hb
      go_upto_region 10 with (first | refine wpList_alloc_row rfl 52 rfl _ zeroB ?_ | refine wpList_store_new rfl 52 _ _ rfl _ (blk b) _ rfl rfl (by rw [size_blk, HB.out]; exact sizeB) (by rw [size_blk, HB.out, size_zeros]) (blk_one _) ?_)
      obtain ⟨W5, hW⟩ : ∃ W, W = w5.alloc (.cells (blk b) 52) := ⟨_, rfl⟩
      rw [← hW] at q1 ⊢
      clear hW
      obtain ⟨g9, hg⟩ : ∃ g, g = w5.heap.size := ⟨_, rfl⟩
      rw [← hg] at q1 ⊢
      clear hg
      have R4 := Lib.hid q1
      clear q1
      clear N1 a0 a1 a2 a3 R3 hp HPUT
      have HRUN : Hid (∀ w : World, (binOp .eql 52 (.agg (blk b)) (.agg (blk b))).run Tryd.prog w = .ok (.bool true) w) := Lib.hid (fun w => by rw [run_eql_blk w 52 5 256 Tryd.underlying52 Tryd.underlying5 sizeU8 b b HB.out HB.out]; simp)
      refine wk_plain_since ?_
      refine wk_load_row 52 _ g9 52 (blk b) (0, 0) _ (by kernel_rfl) rfl rfl (fun w' hC => hC.row (R4.out.get 0 rfl)) Tryd.underlying52 rfl (by rw [size_blk, HB.out]; exact sizeB) ?_
      simp only [Act.put, List.setIfInBounds_toArray, List.set_cons_zero, List.set_cons_succ]
      refine wk_load_row 52 _ g2 52 (blk b) (0, 0) _ (by kernel_rfl) rfl rfl (fun w' hC => hC.row (R4.out.get 3 rfl)) Tryd.underlying52 rfl (by rw [size_blk, HB.out]; exact sizeB) ?_
      simp only [Act.put, List.setIfInBounds_toArray, List.set_cons_zero, List.set_cons_succ]
      refine wk_eql .eql (true) 52 52 _ _ (by first | exact wanted_none rfl | exact wanted_yes _ _ rfl rfl) rfl _ _ rfl rfl (by kernel_rfl) (fun w => HRUN.out w) ?_
      simp only [Act.put, List.setIfInBounds_toArray, List.set_cons_zero, List.set_cons_succ]
      repeat (first
        | (refine wk_move _ (by first | exact wanted_none rfl | exact wanted_yes _ _ rfl rfl) rfl ?_; simp only [Act.put, Act.eval, Array.getD_eq_getD_getElem?, List.getElem?_toArray, List.getElem?_cons_succ, List.getElem?_cons_zero, Option.getD_some, List.setIfInBounds_toArray, List.set_cons_zero, List.set_cons_succ])
        | (refine wk_assign _ (by first | exact wanted_none rfl | exact wanted_yes _ _ rfl rfl) rfl ?_; simp only [Act.put, Act.eval, Array.getD_eq_getD_getElem?, List.getElem?_toArray, List.getElem?_cons_succ, List.getElem?_cons_zero, Option.getD_some, List.setIfInBounds_toArray, List.set_cons_zero, List.set_cons_succ])
        | (refine wk_pickt _ _ _ _ (by first | exact wanted_none rfl | exact wanted_yes _ _ rfl rfl) rfl rfl rfl ?_; simp only [Act.put, Act.eval, Array.getD_eq_getD_getElem?, List.getElem?_toArray, List.getElem?_cons_succ, List.getElem?_cons_zero, Option.getD_some, List.setIfInBounds_toArray, List.set_cons_zero, List.set_cons_succ])
        | (refine wk_pickf _ _ _ _ (by first | exact wanted_none rfl | exact wanted_yes _ _ rfl rfl) rfl rfl rfl ?_; simp only [Act.put, Act.eval, Array.getD_eq_getD_getElem?, List.getElem?_toArray, List.getElem?_cons_succ, List.getElem?_cons_zero, Option.getD_some, List.setIfInBounds_toArray, List.set_cons_zero, List.set_cons_succ])
        | (refine wk_skip (wanted_not _ true false rfl rfl rfl) ?_; simp only [Act.put, List.setIfInBounds_toArray, List.set_cons_zero, List.set_cons_succ])
        | (refine wk_skip (wanted_not _ false true rfl rfl rfl) ?_; simp only [Act.put, List.setIfInBounds_toArray, List.set_cons_zero, List.set_cons_succ])
        | (refine wk_skip (wanted_undef _ _ rfl rfl) ?_; simp only [Act.put, List.setIfInBounds_toArray, List.set_cons_zero, List.set_cons_succ])
        | (refine wk_not true _ _ (by first | exact wanted_none rfl | exact wanted_yes _ _ rfl rfl) rfl rfl ?_; simp only [Act.put, List.setIfInBounds_toArray, List.set_cons_zero, List.set_cons_succ])
        | (refine wk_not false _ _ (by first | exact wanted_none rfl | exact wanted_yes _ _ rfl rfl) rfl rfl ?_; simp only [Act.put, List.setIfInBounds_toArray, List.set_cons_zero, List.set_cons_succ]))
      refine wk_cmp_int .eql (true) _ _ _ _ _ _ _ (by kernel_rfl) rfl rfl rfl (rfl) ?_
      simp only [Act.put, List.setIfInBounds_toArray, List.set_cons_zero, List.set_cons_succ]
      repeat (first
        | (refine wk_move _ (by first | exact wanted_none rfl | exact wanted_yes _ _ rfl rfl) rfl ?_; simp only [Act.put, Act.eval, Array.getD_eq_getD_getElem?, List.getElem?_toArray, List.getElem?_cons_succ, List.getElem?_cons_zero, Option.getD_some, List.setIfInBounds_toArray, List.set_cons_zero, List.set_cons_succ])
        | (refine wk_assign _ (by first | exact wanted_none rfl | exact wanted_yes _ _ rfl rfl) rfl ?_; simp only [Act.put, Act.eval, Array.getD_eq_getD_getElem?, List.getElem?_toArray, List.getElem?_cons_succ, List.getElem?_cons_zero, Option.getD_some, List.setIfInBounds_toArray, List.set_cons_zero, List.set_cons_succ])
        | (refine wk_pickt _ _ _ _ (by first | exact wanted_none rfl | exact wanted_yes _ _ rfl rfl) rfl rfl rfl ?_; simp only [Act.put, Act.eval, Array.getD_eq_getD_getElem?, List.getElem?_toArray, List.getElem?_cons_succ, List.getElem?_cons_zero, Option.getD_some, List.setIfInBounds_toArray, List.set_cons_zero, List.set_cons_succ])
        | (refine wk_pickf _ _ _ _ (by first | exact wanted_none rfl | exact wanted_yes _ _ rfl rfl) rfl rfl rfl ?_; simp only [Act.put, Act.eval, Array.getD_eq_getD_getElem?, List.getElem?_toArray, List.getElem?_cons_succ, List.getElem?_cons_zero, Option.getD_some, List.setIfInBounds_toArray, List.set_cons_zero, List.set_cons_succ])
        | (refine wk_skip (wanted_not _ true false rfl rfl rfl) ?_; simp only [Act.put, List.setIfInBounds_toArray, List.set_cons_zero, List.set_cons_succ])
        | (refine wk_skip (wanted_not _ false true rfl rfl rfl) ?_; simp only [Act.put, List.setIfInBounds_toArray, List.set_cons_zero, List.set_cons_succ])
        | (refine wk_skip (wanted_undef _ _ rfl rfl) ?_; simp only [Act.put, List.setIfInBounds_toArray, List.set_cons_zero, List.set_cons_succ])
        | (refine wk_not true _ _ (by first | exact wanted_none rfl | exact wanted_yes _ _ rfl rfl) rfl rfl ?_; simp only [Act.put, List.setIfInBounds_toArray, List.set_cons_zero, List.set_cons_succ])
        | (refine wk_not false _ _ (by first | exact wanted_none rfl | exact wanted_yes _ _ rfl rfl) rfl rfl ?_; simp only [Act.put, List.setIfInBounds_toArray, List.set_cons_zero, List.set_cons_succ]))
      refine wk_call 9 _ _ _ _ _ (by kernel_rfl) rfl Tryd.func9 rfl (by kernel_rfl) (fun w' hC => hC.call (shhead_any ((HC.out.below R4.out.below).below hC))) ?_
      simp only [Act.put, List.setIfInBounds_toArray, List.set_cons_zero, List.set_cons_succ]
      repeat (first
        | (refine wk_move _ (by first | exact wanted_none rfl | exact wanted_yes _ _ rfl rfl) rfl ?_; simp only [Act.put, Act.eval, Array.getD_eq_getD_getElem?, List.getElem?_toArray, List.getElem?_cons_succ, List.getElem?_cons_zero, Option.getD_some, List.setIfInBounds_toArray, List.set_cons_zero, List.set_cons_succ])
        | (refine wk_assign _ (by first | exact wanted_none rfl | exact wanted_yes _ _ rfl rfl) rfl ?_; simp only [Act.put, Act.eval, Array.getD_eq_getD_getElem?, List.getElem?_toArray, List.getElem?_cons_succ, List.getElem?_cons_zero, Option.getD_some, List.setIfInBounds_toArray, List.set_cons_zero, List.set_cons_succ])
        | (refine wk_pickt _ _ _ _ (by first | exact wanted_none rfl | exact wanted_yes _ _ rfl rfl) rfl rfl rfl ?_; simp only [Act.put, Act.eval, Array.getD_eq_getD_getElem?, List.getElem?_toArray, List.getElem?_cons_succ, List.getElem?_cons_zero, Option.getD_some, List.setIfInBounds_toArray, List.set_cons_zero, List.set_cons_succ])
        | (refine wk_pickf _ _ _ _ (by first | exact wanted_none rfl | exact wanted_yes _ _ rfl rfl) rfl rfl rfl ?_; simp only [Act.put, Act.eval, Array.getD_eq_getD_getElem?, List.getElem?_toArray, List.getElem?_cons_succ, List.getElem?_cons_zero, Option.getD_some, List.setIfInBounds_toArray, List.set_cons_zero, List.set_cons_succ])
        | (refine wk_skip (wanted_not _ true false rfl rfl rfl) ?_; simp only [Act.put, List.setIfInBounds_toArray, List.set_cons_zero, List.set_cons_succ])
        | (refine wk_skip (wanted_not _ false true rfl rfl rfl) ?_; simp only [Act.put, List.setIfInBounds_toArray, List.set_cons_zero, List.set_cons_succ])
        | (refine wk_skip (wanted_undef _ _ rfl rfl) ?_; simp only [Act.put, List.setIfInBounds_toArray, List.set_cons_zero, List.set_cons_succ])
        | (refine wk_not true _ _ (by first | exact wanted_none rfl | exact wanted_yes _ _ rfl rfl) rfl rfl ?_; simp only [Act.put, List.setIfInBounds_toArray, List.set_cons_zero, List.set_cons_succ])
        | (refine wk_not false _ _ (by first | exact wanted_none rfl | exact wanted_yes _ _ rfl rfl) rfl rfl ?_; simp only [Act.put, List.setIfInBounds_toArray, List.set_cons_zero, List.set_cons_succ]))
      refine wk_nil ?_
      intro w' hC
      have R5 := Lib.hid (R4.out.since hC)
      clear hC
      go_wp2_with fail
      go_ret
      exact ⟨rfl, R5.out.below⟩
    · skip
      go_upto_region 8 with (fail)
      refine wk_plain_since ?_
      repeat (first
        | (refine wk_move _ (by first | exact wanted_none rfl | exact wanted_yes _ _ rfl rfl) rfl ?_; simp only [Act.put, Act.eval, Array.getD_eq_getD_getElem?, List.getElem?_toArray, List.getElem?_cons_succ, List.getElem?_cons_zero, Option.getD_some, List.setIfInBounds_toArray, List.set_cons_zero, List.set_cons_succ])
        | (refine wk_assign _ (by first | exact wanted_none rfl | exact wanted_yes _ _ rfl rfl) rfl ?_; simp only [Act.put, Act.eval, Array.getD_eq_getD_getElem?, List.getElem?_toArray, List.getElem?_cons_succ, List.getElem?_cons_zero, Option.getD_some, List.setIfInBounds_toArray, List.set_cons_zero, List.set_cons_succ])
        | (refine wk_pickt _ _ _ _ (by first | exact wanted_none rfl | exact wanted_yes _ _ rfl rfl) rfl rfl rfl ?_; simp only [Act.put, Act.eval, Array.getD_eq_getD_getElem?, List.getElem?_toArray, List.getElem?_cons_succ, List.getElem?_cons_zero, Option.getD_some, List.setIfInBounds_toArray, List.set_cons_zero, List.set_cons_succ])
        | (refine wk_pickf _ _ _ _ (by first | exact wanted_none rfl | exact wanted_yes _ _ rfl rfl) rfl rfl rfl ?_; simp only [Act.put, Act.eval, Array.getD_eq_getD_getElem?, List.getElem?_toArray, List.getElem?_cons_succ, List.getElem?_cons_zero, Option.getD_some, List.setIfInBounds_toArray, List.set_cons_zero, List.set_cons_succ])
        | (refine wk_skip (wanted_not _ true false rfl rfl rfl) ?_; simp only [Act.put, List.setIfInBounds_toArray, List.set_cons_zero, List.set_cons_succ])
        | (refine wk_skip (wanted_not _ false true rfl rfl rfl) ?_; simp only [Act.put, List.setIfInBounds_toArray, List.set_cons_zero, List.set_cons_succ])
        | (refine wk_skip (wanted_undef _ _ rfl rfl) ?_; simp only [Act.put, List.setIfInBounds_toArray, List.set_cons_zero, List.set_cons_succ])
        | (refine wk_not true _ _ (by first | exact wanted_none rfl | exact wanted_yes _ _ rfl rfl) rfl rfl ?_; simp only [Act.put, List.setIfInBounds_toArray, List.set_cons_zero, List.set_cons_succ])
        | (refine wk_not false _ _ (by first | exact wanted_none rfl | exact wanted_yes _ _ rfl rfl) rfl rfl ?_; simp only [Act.put, List.setIfInBounds_toArray, List.set_cons_zero, List.set_cons_succ]))
      refine wk_cmp_int .eql (true) _ _ _ _ _ _ _ (by kernel_rfl) rfl rfl rfl (rfl) ?_
      simp only [Act.put, List.setIfInBounds_toArray, List.set_cons_zero, List.set_cons_succ]
      repeat (first
        | (refine wk_move _ (by first | exact wanted_none rfl | exact wanted_yes _ _ rfl rfl) rfl ?_; simp only [Act.put, Act.eval, Array.getD_eq_getD_getElem?, List.getElem?_toArray, List.getElem?_cons_succ, List.getElem?_cons_zero, Option.getD_some, List.setIfInBounds_toArray, List.set_cons_zero, List.set_cons_succ])
        | (refine wk_assign _ (by first | exact wanted_none rfl | exact wanted_yes _ _ rfl rfl) rfl ?_; simp only [Act.put, Act.eval, Array.getD_eq_getD_getElem?, List.getElem?_toArray, List.getElem?_cons_succ, List.getElem?_cons_zero, Option.getD_some, List.setIfInBounds_toArray, List.set_cons_zero, List.set_cons_succ])
        | (refine wk_pickt _ _ _ _ (by first | exact wanted_none rfl | exact wanted_yes _ _ rfl rfl) rfl rfl rfl ?_; simp only [Act.put, Act.eval, Array.getD_eq_getD_getElem?, List.getElem?_toArray, List.getElem?_cons_succ, List.getElem?_cons_zero, Option.getD_some, List.setIfInBounds_toArray, List.set_cons_zero, List.set_cons_succ])
        | (refine wk_pickf _ _ _ _ (by first | exact wanted_none rfl | exact wanted_yes _ _ rfl rfl) rfl rfl rfl ?_; simp only [Act.put, Act.eval, Array.getD_eq_getD_getElem?, List.getElem?_toArray, List.getElem?_cons_succ, List.getElem?_cons_zero, Option.getD_some, List.setIfInBounds_toArray, List.set_cons_zero, List.set_cons_succ])
        | (refine wk_skip (wanted_not _ true false rfl rfl rfl) ?_; simp only [Act.put, List.setIfInBounds_toArray, List.set_cons_zero, List.set_cons_succ])
        | (refine wk_skip (wanted_not _ false true rfl rfl rfl) ?_; simp only [Act.put, List.setIfInBounds_toArray, List.set_cons_zero, List.set_cons_succ])
        | (refine wk_skip (wanted_undef _ _ rfl rfl) ?_; simp only [Act.put, List.setIfInBounds_toArray, List.set_cons_zero, List.set_cons_succ])
        | (refine wk_not true _ _ (by first | exact wanted_none rfl | exact wanted_yes _ _ rfl rfl) rfl rfl ?_; simp only [Act.put, List.setIfInBounds_toArray, List.set_cons_zero, List.set_cons_succ])
        | (refine wk_not false _ _ (by first | exact wanted_none rfl | exact wanted_yes _ _ rfl rfl) rfl rfl ?_; simp only [Act.put, List.setIfInBounds_toArray, List.set_cons_zero, List.set_cons_succ]))
      refine wk_call 9 _ _ _ _ _ (by kernel_rfl) rfl Tryd.func9 rfl (by kernel_rfl) (fun w' hC => hC.call (shhead_any ((HC.out.below R3.out.below).below hC))) ?_
      simp only [Act.put, List.setIfInBounds_toArray, List.set_cons_zero, List.set_cons_succ]
      repeat (first
        | (refine wk_move _ (by first | exact wanted_none rfl | exact wanted_yes _ _ rfl rfl) rfl ?_; simp only [Act.put, Act.eval, Array.getD_eq_getD_getElem?, List.getElem?_toArray, List.getElem?_cons_succ, List.getElem?_cons_zero, Option.getD_some, List.setIfInBounds_toArray, List.set_cons_zero, List.set_cons_succ])
        | (refine wk_assign _ (by first | exact wanted_none rfl | exact wanted_yes _ _ rfl rfl) rfl ?_; simp only [Act.put, Act.eval, Array.getD_eq_getD_getElem?, List.getElem?_toArray, List.getElem?_cons_succ, List.getElem?_cons_zero, Option.getD_some, List.setIfInBounds_toArray, List.set_cons_zero, List.set_cons_succ])
        | (refine wk_pickt _ _ _ _ (by first | exact wanted_none rfl | exact wanted_yes _ _ rfl rfl) rfl rfl rfl ?_; simp only [Act.put, Act.eval, Array.getD_eq_getD_getElem?, List.getElem?_toArray, List.getElem?_cons_succ, List.getElem?_cons_zero, Option.getD_some, List.setIfInBounds_toArray, List.set_cons_zero, List.set_cons_succ])
        | (refine wk_pickf _ _ _ _ (by first | exact wanted_none rfl | exact wanted_yes _ _ rfl rfl) rfl rfl rfl ?_; simp only [Act.put, Act.eval, Array.getD_eq_getD_getElem?, List.getElem?_toArray, List.getElem?_cons_succ, List.getElem?_cons_zero, Option.getD_some, List.setIfInBounds_toArray, List.set_cons_zero, List.set_cons_succ])
        | (refine wk_skip (wanted_not _ true false rfl rfl rfl) ?_; simp only [Act.put, List.setIfInBounds_toArray, List.set_cons_zero, List.set_cons_succ])
        | (refine wk_skip (wanted_not _ false true rfl rfl rfl) ?_; simp only [Act.put, List.setIfInBounds_toArray, List.set_cons_zero, List.set_cons_succ])
        | (refine wk_skip (wanted_undef _ _ rfl rfl) ?_; simp only [Act.put, List.setIfInBounds_toArray, List.set_cons_zero, List.set_cons_succ])
        | (refine wk_not true _ _ (by first | exact wanted_none rfl | exact wanted_yes _ _ rfl rfl) rfl rfl ?_; simp only [Act.put, List.setIfInBounds_toArray, List.set_cons_zero, List.set_cons_succ])
        | (refine wk_not false _ _ (by first | exact wanted_none rfl | exact wanted_yes _ _ rfl rfl) rfl rfl ?_; simp only [Act.put, List.setIfInBounds_toArray, List.set_cons_zero, List.set_cons_succ]))
      refine wk_nil ?_
      intro w' hC
      have R5 := Lib.hid (R3.out.since hC)
      clear hC
      go_wp2_with fail
      go_ret
      exact ⟨rfl, R5.out.below⟩
  | true =>
    go_wp2_with (refine wpList_load_row rfl 52 _ rfl g2 rfl 52 (blk b) (0, 0) _ (R0.out.get 0 rfl) Tryd.underlying52 rfl (by rw [size_blk, HB.out]; exact sizeB) ?_)
    refine (HSEAL.out _).mono ?_
    rintro e w2 ⟨rfl, hb⟩
    have R9 := Lib.hid (R0.out.call hb)
    clear hb R0
    go_upto_region 3 with (refine wpList_store_row rfl 52 _ _ rfl g2 (blk y) rfl rfl 52 _ (R9.out.get 0 rfl) (by rw [size_blk, HYL.out]; exact sizeB) (by rw [size_blk, size_blk, HB.out, HYL.out]) (blk_one _) ?_)
    have q1 := R9.out.setRow 0 (blk y) rfl
    obtain ⟨W9, hW⟩ : ∃ V, V = w2.setRow g2 (blk y) := ⟨_, rfl⟩
    rw [← hW] at q1 ⊢
    have R10 := Lib.hid q1
    clear q1 hW R9
    go_wp2_with (refine wpList_load_row rfl 52 _ rfl g2 rfl 52 (blk y) (0, 0) _ (R10.out.get 0 rfl) Tryd.underlying52 rfl (by rw [size_blk, HYL.out]; exact sizeB) ?_)
    refine (shget_is (HC.out.below R10.out.below) y HYL.out).mono ?_
    rintro e w3 ⟨v, rfl, ⟨A, n, c, l, rfl, hs⟩, hb⟩
    have hput := getS18_may y
    have hE : getE18 y = 0 ∨ getE18 y = 250 := by unfold getE18; split <;> simp
    have REF := Lib.hid (fun w => refget18 (w := w) y HYL.out)
    obtain ⟨S, hS⟩ : ∃ S, S = getS18 y := ⟨_, rfl⟩
    obtain ⟨E, hEE⟩ : ∃ E, E = getE18 y := ⟨_, rfl⟩
    rw [← hS] at hs hput REF ⊢
    rw [← hEE] at hE hput REF ⊢
    have HPUT : Hid (E = 0 → putE18 S = 0 ∧ putB18 S = y) := Lib.hid (fun h => (hput h).2)
    unfold shV
    have q1 := (R10.out.call hb).alloc #[.int .u8 (S.cl : Int), .int .u16 (S.prev : Int), .int .u16 (S.next : Int), .slice A n c] 25
    have hba := (Below.refl w3.heap.size w3).alloc (Nat.le_refl _) (.cells #[.int .u8 (S.cl : Int), .int .u16 (S.prev : Int), .int .u16 (S.next : Int), .slice A n c] 25)
    have hs2 := hs.below hba
    clear hS hEE hput hs hb hba R10
    go_upto_region 4 with (fail)
    obtain ⟨W3, hW⟩ : ∃ V, V = w3.alloc (.cells #[.int .u8 (S.cl : Int), .int .u16 (S.prev : Int), .int .u16 (S.next : Int), .slice A n c] 25) := ⟨_, rfl⟩
    rw [← hW] at q1 hs2 ⊢
    obtain ⟨g5, hg⟩ : ∃ g, g = w3.heap.size := ⟨_, rfl⟩
    rw [← hg] at q1 ⊢
    have R1 := Lib.hid q1
    have HS := Lib.hid hs2
    clear q1 hs2 hW hg
    go_wp2_with (refine wpList_load_row rfl 52 _ rfl g2 rfl 52 (blk y) (0, 0) _ (R1.out.get 1 rfl) Tryd.underlying52 rfl (by rw [size_blk, HYL.out]; exact sizeB) ?_)
    refine (REF.out _).mono ?_
    rintro e w4 ⟨v, rfl, ⟨A', n', c', l', rfl, hs⟩, hb⟩
    unfold shV
    have q1 := (R1.out.call hb).alloc #[.int .u8 (S.cl : Int), .int .u16 (S.prev : Int), .int .u16 (S.next : Int), .slice A' n' c'] 25
    have hba := (Below.refl w4.heap.size w4).alloc (Nat.le_refl _) (.cells #[.int .u8 (S.cl : Int), .int .u16 (S.prev : Int), .int .u16 (S.next : Int), .slice A' n' c'] 25)
    have hs2 := hs.below hba
    have hs3 := (HS.out.below hb).below hba
    clear hs hb hba R1 HS REF
    go_upto_region 5 with (fail)
    obtain ⟨W4, hW⟩ : ∃ V, V = w4.alloc (.cells #[.int .u8 (S.cl : Int), .int .u16 (S.prev : Int), .int .u16 (S.next : Int), .slice A' n' c'] 25) := ⟨_, rfl⟩
    rw [← hW] at q1 hs2 hs3 ⊢
    obtain ⟨g7, hg⟩ : ∃ g, g = w4.heap.size := ⟨_, rfl⟩
    rw [← hg] at q1 ⊢
    have R2 := Lib.hid q1
    have HS2 := Lib.hid hs2
    have HS3 := Lib.hid hs3
    clear q1 hs2 hs3 hW hg
    have HSAME : Hid (∀ w', Since W4 w' → Calls Tryd.prog 25 #[.agg #[.int .u8 (S.cl : Int), .int .u16 (S.prev : Int), .int .u16 (S.next : Int), .slice A n c], .agg #[.int .u8 (S.cl : Int), .int .u16 (S.prev : Int), .int .u16 (S.next : Int), .slice A' n' c']] w' fun e w'' => e = .returned (.bool true) ∧ Below w'.heap.size w' w'') := Lib.hid (fun w' hC => by
      have := refsame18 (w := w') ⟨A, n, c, l, rfl, HS3.out.below hC⟩ ⟨A', n', c', l', rfl, HS2.out.below hC⟩
      rw [(sameL_iff S S).2 rfl] at this
      exact this)
    refine wk_plain_since ?_
    refine wk_load_row 25 _ g5 25 #[.int .u8 (S.cl : Int), .int .u16 (S.prev : Int), .int .u16 (S.next : Int), .slice A n c] (0, 0) _ (by kernel_rfl) rfl rfl (fun w' hC => hC.row (R2.out.get 1 rfl)) Tryd.underlying25 rfl sizeShelf ?_
    simp only [Act.put, List.setIfInBounds_toArray, List.set_cons_zero, List.set_cons_succ]
    refine wk_load_row 25 _ g7 25 #[.int .u8 (S.cl : Int), .int .u16 (S.prev : Int), .int .u16 (S.next : Int), .slice A' n' c'] (0, 0) _ (by kernel_rfl) rfl rfl (fun w' hC => hC.row (R2.out.get 0 rfl)) Tryd.underlying25 rfl sizeShelf ?_
    simp only [Act.put, List.setIfInBounds_toArray, List.set_cons_zero, List.set_cons_succ]
    refine wk_call 25 _ _ _ _ _ (by kernel_rfl) rfl Tryd.func25 rfl (by kernel_rfl) (fun w' hC => hC.call (HSAME.out w' hC)) ?_
    simp only [Act.put, List.setIfInBounds_toArray, List.set_cons_zero, List.set_cons_succ]
    refine wk_not true _ _ (by kernel_rfl) rfl rfl ?_
    simp only [Act.put, List.setIfInBounds_toArray, List.set_cons_zero, List.set_cons_succ]
    repeat (first
      | (refine wk_move _ (by first | exact wanted_none rfl | exact wanted_yes _ _ rfl rfl) rfl ?_; simp only [Act.put, Act.eval, Array.getD_eq_getD_getElem?, List.getElem?_toArray, List.getElem?_cons_succ, List.getElem?_cons_zero, Option.getD_some, List.setIfInBounds_toArray, List.set_cons_zero, List.set_cons_succ])
      | (refine wk_assign _ (by first | exact wanted_none rfl | exact wanted_yes _ _ rfl rfl) rfl ?_; simp only [Act.put, Act.eval, Array.getD_eq_getD_getElem?, List.getElem?_toArray, List.getElem?_cons_succ, List.getElem?_cons_zero, Option.getD_some, List.setIfInBounds_toArray, List.set_cons_zero, List.set_cons_succ])
      | (refine wk_pickt _ _ _ _ (by first | exact wanted_none rfl | exact wanted_yes _ _ rfl rfl) rfl rfl rfl ?_; simp only [Act.put, Act.eval, Array.getD_eq_getD_getElem?, List.getElem?_toArray, List.getElem?_cons_succ, List.getElem?_cons_zero, Option.getD_some, List.setIfInBounds_toArray, List.set_cons_zero, List.set_cons_succ])
      | (refine wk_pickf _ _ _ _ (by first | exact wanted_none rfl | exact wanted_yes _ _ rfl rfl) rfl rfl rfl ?_; simp only [Act.put, Act.eval, Array.getD_eq_getD_getElem?, List.getElem?_toArray, List.getElem?_cons_succ, List.getElem?_cons_zero, Option.getD_some, List.setIfInBounds_toArray, List.set_cons_zero, List.set_cons_succ])
      | (refine wk_skip (wanted_not _ true false rfl rfl rfl) ?_; simp only [Act.put, List.setIfInBounds_toArray, List.set_cons_zero, List.set_cons_succ])
      | (refine wk_skip (wanted_not _ false true rfl rfl rfl) ?_; simp only [Act.put, List.setIfInBounds_toArray, List.set_cons_zero, List.set_cons_succ])
      | (refine wk_skip (wanted_undef _ _ rfl rfl) ?_; simp only [Act.put, List.setIfInBounds_toArray, List.set_cons_zero, List.set_cons_succ])
      | (refine wk_not true _ _ (by first | exact wanted_none rfl | exact wanted_yes _ _ rfl rfl) rfl rfl ?_; simp only [Act.put, List.setIfInBounds_toArray, List.set_cons_zero, List.set_cons_succ])
      | (refine wk_not false _ _ (by first | exact wanted_none rfl | exact wanted_yes _ _ rfl rfl) rfl rfl ?_; simp only [Act.put, List.setIfInBounds_toArray, List.set_cons_zero, List.set_cons_succ]))
    refine wk_cmp_int .neq (false) _ _ _ _ _ _ _ (by kernel_rfl) rfl rfl rfl (by simp [cmpInt]) ?_
    simp only [Act.put, List.setIfInBounds_toArray, List.set_cons_zero, List.set_cons_succ]
    repeat (first
      | (refine wk_move _ (by first | exact wanted_none rfl | exact wanted_yes _ _ rfl rfl) rfl ?_; simp only [Act.put, Act.eval, Array.getD_eq_getD_getElem?, List.getElem?_toArray, List.getElem?_cons_succ, List.getElem?_cons_zero, Option.getD_some, List.setIfInBounds_toArray, List.set_cons_zero, List.set_cons_succ])
      | (refine wk_assign _ (by first | exact wanted_none rfl | exact wanted_yes _ _ rfl rfl) rfl ?_; simp only [Act.put, Act.eval, Array.getD_eq_getD_getElem?, List.getElem?_toArray, List.getElem?_cons_succ, List.getElem?_cons_zero, Option.getD_some, List.setIfInBounds_toArray, List.set_cons_zero, List.set_cons_succ])
      | (refine wk_pickt _ _ _ _ (by first | exact wanted_none rfl | exact wanted_yes _ _ rfl rfl) rfl rfl rfl ?_; simp only [Act.put, Act.eval, Array.getD_eq_getD_getElem?, List.getElem?_toArray, List.getElem?_cons_succ, List.getElem?_cons_zero, Option.getD_some, List.setIfInBounds_toArray, List.set_cons_zero, List.set_cons_succ])
      | (refine wk_pickf _ _ _ _ (by first | exact wanted_none rfl | exact wanted_yes _ _ rfl rfl) rfl rfl rfl ?_; simp only [Act.put, Act.eval, Array.getD_eq_getD_getElem?, List.getElem?_toArray, List.getElem?_cons_succ, List.getElem?_cons_zero, Option.getD_some, List.setIfInBounds_toArray, List.set_cons_zero, List.set_cons_succ])
      | (refine wk_skip (wanted_not _ true false rfl rfl rfl) ?_; simp only [Act.put, List.setIfInBounds_toArray, List.set_cons_zero, List.set_cons_succ])
      | (refine wk_skip (wanted_not _ false true rfl rfl rfl) ?_; simp only [Act.put, List.setIfInBounds_toArray, List.set_cons_zero, List.set_cons_succ])
      | (refine wk_skip (wanted_undef _ _ rfl rfl) ?_; simp only [Act.put, List.setIfInBounds_toArray, List.set_cons_zero, List.set_cons_succ])
      | (refine wk_not true _ _ (by first | exact wanted_none rfl | exact wanted_yes _ _ rfl rfl) rfl rfl ?_; simp only [Act.put, List.setIfInBounds_toArray, List.set_cons_zero, List.set_cons_succ])
      | (refine wk_not false _ _ (by first | exact wanted_none rfl | exact wanted_yes _ _ rfl rfl) rfl rfl ?_; simp only [Act.put, List.setIfInBounds_toArray, List.set_cons_zero, List.set_cons_succ]))
    refine wk_nil ?_
    intro w' hC
    have R3 := Lib.hid (R2.out.since hC)
    have HS4 := Lib.hid (HS3.out.below hC)
    clear hC R2 HS2 HS3 HSAME
    rcases hE with rfl | rfl
    · have hp := HPUT.out rfl
      have N1 := shput_is (HC.out.below R3.out.below) ⟨A, n, c, l, rfl, HS4.out⟩
      rw [hp.1, hp.2] at N1
      unfold shV at N1
      obtain ⟨⟨a0, a1, a2, a3⟩, _, _, _, _⟩ := R3.out.cells4 1 rfl
      go_wp2_with fail
      refine (N1).mono ?_
      rintro e w5 ⟨rfl, hb⟩
      have q1 := (R3.out.call hb).alloc (blk y) 52
      clear hb
      go_upto_region 10 with (first | refine wpList_alloc_row rfl 52 rfl _ zeroB ?_ | refine wpList_store_new rfl 52 _ _ rfl _ (blk y) _ rfl rfl (by rw [size_blk, HYL.out]; exact sizeB) (by rw [size_blk, HYL.out, size_zeros]) (blk_one _) ?_)
      obtain ⟨W5, hW⟩ : ∃ W, W = w5.alloc (.cells (blk y) 52) := ⟨_, rfl⟩
      rw [← hW] at q1 ⊢
      clear hW
      obtain ⟨g9, hg⟩ : ∃ g, g = w5.heap.size := ⟨_, rfl⟩
      rw [← hg] at q1 ⊢
      clear hg
      have R4 := Lib.hid q1
      clear q1
      clear N1 a0 a1 a2 a3 R3 hp HPUT
      have HRUN : Hid (∀ w : World, (binOp .eql 52 (.agg (blk y)) (.agg (blk y))).run Tryd.prog w = .ok (.bool true) w) := Lib.hid (fun w => by rw [run_eql_blk w 52 5 256 Tryd.underlying52 Tryd.underlying5 sizeU8 y y HYL.out HYL.out]; simp)
      refine wk_plain_since ?_
      refine wk_load_row 52 _ g9 52 (blk y) (0, 0) _ (by kernel_rfl) rfl rfl (fun w' hC => hC.row (R4.out.get 0 rfl)) Tryd.underlying52 rfl (by rw [size_blk, HYL.out]; exact sizeB) ?_
      simp only [Act.put, List.setIfInBounds_toArray, List.set_cons_zero, List.set_cons_succ]
      refine wk_load_row 52 _ g2 52 (blk y) (0, 0) _ (by kernel_rfl) rfl rfl (fun w' hC => hC.row (R4.out.get 3 rfl)) Tryd.underlying52 rfl (by rw [size_blk, HYL.out]; exact sizeB) ?_
      simp only [Act.put, List.setIfInBounds_toArray, List.set_cons_zero, List.set_cons_succ]
      refine wk_eql .eql (true) 52 52 _ _ (by first | exact wanted_none rfl | exact wanted_yes _ _ rfl rfl) rfl _ _ rfl rfl (by kernel_rfl) (fun w => HRUN.out w) ?_
      simp only [Act.put, List.setIfInBounds_toArray, List.set_cons_zero, List.set_cons_succ]
      repeat (first
        | (refine wk_move _ (by first | exact wanted_none rfl | exact wanted_yes _ _ rfl rfl) rfl ?_; simp only [Act.put, Act.eval, Array.getD_eq_getD_getElem?, List.getElem?_toArray, List.getElem?_cons_succ, List.getElem?_cons_zero, Option.getD_some, List.setIfInBounds_toArray, List.set_cons_zero, List.set_cons_succ])
        | (refine wk_assign _ (by first | exact wanted_none rfl | exact wanted_yes _ _ rfl rfl) rfl ?_; simp only [Act.put, Act.eval, Array.getD_eq_getD_getElem?, List.getElem?_toArray, List.getElem?_cons_succ, List.getElem?_cons_zero, Option.getD_some, List.setIfInBounds_toArray, List.set_cons_zero, List.set_cons_succ])
        | (refine wk_pickt _ _ _ _ (by first | exact wanted_none rfl | exact wanted_yes _ _ rfl rfl) rfl rfl rfl ?_; simp only [Act.put, Act.eval, Array.getD_eq_getD_getElem?, List.getElem?_toArray, List.getElem?_cons_succ, List.getElem?_cons_zero, Option.getD_some, List.setIfInBounds_toArray, List.set_cons_zero, List.set_cons_succ])
        | (refine wk_pickf _ _ _ _ (by first | exact wanted_none rfl | exact wanted_yes _ _ rfl rfl) rfl rfl rfl ?_; simp only [Act.put, Act.eval, Array.getD_eq_getD_getElem?, List.getElem?_toArray, List.getElem?_cons_succ, List.getElem?_cons_zero, Option.getD_some, List.setIfInBounds_toArray, List.set_cons_zero, List.set_cons_succ])
        | (refine wk_skip (wanted_not _ true false rfl rfl rfl) ?_; simp only [Act.put, List.setIfInBounds_toArray, List.set_cons_zero, List.set_cons_succ])
        | (refine wk_skip (wanted_not _ false true rfl rfl rfl) ?_; simp only [Act.put, List.setIfInBounds_toArray, List.set_cons_zero, List.set_cons_succ])
        | (refine wk_skip (wanted_undef _ _ rfl rfl) ?_; simp only [Act.put, List.setIfInBounds_toArray, List.set_cons_zero, List.set_cons_succ])
        | (refine wk_not true _ _ (by first | exact wanted_none rfl | exact wanted_yes _ _ rfl rfl) rfl rfl ?_; simp only [Act.put, List.setIfInBounds_toArray, List.set_cons_zero, List.set_cons_succ])
        | (refine wk_not false _ _ (by first | exact wanted_none rfl | exact wanted_yes _ _ rfl rfl) rfl rfl ?_; simp only [Act.put, List.setIfInBounds_toArray, List.set_cons_zero, List.set_cons_succ]))
      refine wk_cmp_int .eql (true) _ _ _ _ _ _ _ (by kernel_rfl) rfl rfl rfl (rfl) ?_
      simp only [Act.put, List.setIfInBounds_toArray, List.set_cons_zero, List.set_cons_succ]
      repeat (first
        | (refine wk_move _ (by first | exact wanted_none rfl | exact wanted_yes _ _ rfl rfl) rfl ?_; simp only [Act.put, Act.eval, Array.getD_eq_getD_getElem?, List.getElem?_toArray, List.getElem?_cons_succ, List.getElem?_cons_zero, Option.getD_some, List.setIfInBounds_toArray, List.set_cons_zero, List.set_cons_succ])
        | (refine wk_assign _ (by first | exact wanted_none rfl | exact wanted_yes _ _ rfl rfl) rfl ?_; simp only [Act.put, Act.eval, Array.getD_eq_getD_getElem?, List.getElem?_toArray, List.getElem?_cons_succ, List.getElem?_cons_zero, Option.getD_some, List.setIfInBounds_toArray, List.set_cons_zero, List.set_cons_succ])
        | (refine wk_pickt _ _ _ _ (by first | exact wanted_none rfl | exact wanted_yes _ _ rfl rfl) rfl rfl rfl ?_; simp only [Act.put, Act.eval, Array.getD_eq_getD_getElem?, List.getElem?_toArray, List.getElem?_cons_succ, List.getElem?_cons_zero, Option.getD_some, List.setIfInBounds_toArray, List.set_cons_zero, List.set_cons_succ])
        | (refine wk_pickf _ _ _ _ (by first | exact wanted_none rfl | exact wanted_yes _ _ rfl rfl) rfl rfl rfl ?_; simp only [Act.put, Act.eval, Array.getD_eq_getD_getElem?, List.getElem?_toArray, List.getElem?_cons_succ, List.getElem?_cons_zero, Option.getD_some, List.setIfInBounds_toArray, List.set_cons_zero, List.set_cons_succ])
        | (refine wk_skip (wanted_not _ true false rfl rfl rfl) ?_; simp only [Act.put, List.setIfInBounds_toArray, List.set_cons_zero, List.set_cons_succ])
        | (refine wk_skip (wanted_not _ false true rfl rfl rfl) ?_; simp only [Act.put, List.setIfInBounds_toArray, List.set_cons_zero, List.set_cons_succ])
        | (refine wk_skip (wanted_undef _ _ rfl rfl) ?_; simp only [Act.put, List.setIfInBounds_toArray, List.set_cons_zero, List.set_cons_succ])
        | (refine wk_not true _ _ (by first | exact wanted_none rfl | exact wanted_yes _ _ rfl rfl) rfl rfl ?_; simp only [Act.put, List.setIfInBounds_toArray, List.set_cons_zero, List.set_cons_succ])
        | (refine wk_not false _ _ (by first | exact wanted_none rfl | exact wanted_yes _ _ rfl rfl) rfl rfl ?_; simp only [Act.put, List.setIfInBounds_toArray, List.set_cons_zero, List.set_cons_succ]))
      refine wk_call 9 _ _ _ _ _ (by kernel_rfl) rfl Tryd.func9 rfl (by kernel_rfl) (fun w' hC => hC.call (shhead_any ((HC.out.below R4.out.below).below hC))) ?_
      simp only [Act.put, List.setIfInBounds_toArray, List.set_cons_zero, List.set_cons_succ]
      repeat (first
        | (refine wk_move _ (by first | exact wanted_none rfl | exact wanted_yes _ _ rfl rfl) rfl ?_; simp only [Act.put, Act.eval, Array.getD_eq_getD_getElem?, List.getElem?_toArray, List.getElem?_cons_succ, List.getElem?_cons_zero, Option.getD_some, List.setIfInBounds_toArray, List.set_cons_zero, List.set_cons_succ])
        | (refine wk_assign _ (by first | exact wanted_none rfl | exact wanted_yes _ _ rfl rfl) rfl ?_; simp only [Act.put, Act.eval, Array.getD_eq_getD_getElem?, List.getElem?_toArray, List.getElem?_cons_succ, List.getElem?_cons_zero, Option.getD_some, List.setIfInBounds_toArray, List.set_cons_zero, List.set_cons_succ])
        | (refine wk_pickt _ _ _ _ (by first | exact wanted_none rfl | exact wanted_yes _ _ rfl rfl) rfl rfl rfl ?_; simp only [Act.put, Act.eval, Array.getD_eq_getD_getElem?, List.getElem?_toArray, List.getElem?_cons_succ, List.getElem?_cons_zero, Option.getD_some, List.setIfInBounds_toArray, List.set_cons_zero, List.set_cons_succ])
        | (refine wk_pickf _ _ _ _ (by first | exact wanted_none rfl | exact wanted_yes _ _ rfl rfl) rfl rfl rfl ?_; simp only [Act.put, Act.eval, Array.getD_eq_getD_getElem?, List.getElem?_toArray, List.getElem?_cons_succ, List.getElem?_cons_zero, Option.getD_some, List.setIfInBounds_toArray, List.set_cons_zero, List.set_cons_succ])
        | (refine wk_skip (wanted_not _ true false rfl rfl rfl) ?_; simp only [Act.put, List.setIfInBounds_toArray, List.set_cons_zero, List.set_cons_succ])
        | (refine wk_skip (wanted_not _ false true rfl rfl rfl) ?_; simp only [Act.put, List.setIfInBounds_toArray, List.set_cons_zero, List.set_cons_succ])
        | (refine wk_skip (wanted_undef _ _ rfl rfl) ?_; simp only [Act.put, List.setIfInBounds_toArray, List.set_cons_zero, List.set_cons_succ])
        | (refine wk_not true _ _ (by first | exact wanted_none rfl | exact wanted_yes _ _ rfl rfl) rfl rfl ?_; simp only [Act.put, List.setIfInBounds_toArray, List.set_cons_zero, List.set_cons_succ])
        | (refine wk_not false _ _ (by first | exact wanted_none rfl | exact wanted_yes _ _ rfl rfl) rfl rfl ?_; simp only [Act.put, List.setIfInBounds_toArray, List.set_cons_zero, List.set_cons_succ]))
      refine wk_nil ?_
      intro w' hC
      have R5 := Lib.hid (R4.out.since hC)
      clear hC
      go_wp2_with fail
      go_ret
      exact ⟨rfl, R5.out.below⟩
    · skip
      go_upto_region 8 with (fail)
      refine wk_plain_since ?_
      repeat (first
        | (refine wk_move _ (by first | exact wanted_none rfl | exact wanted_yes _ _ rfl rfl) rfl ?_; simp only [Act.put, Act.eval, Array.getD_eq_getD_getElem?, List.getElem?_toArray, List.getElem?_cons_succ, List.getElem?_cons_zero, Option.getD_some, List.setIfInBounds_toArray, List.set_cons_zero, List.set_cons_succ])
        | (refine wk_assign _ (by first | exact wanted_none rfl | exact wanted_yes _ _ rfl rfl) rfl ?_; simp only [Act.put, Act.eval, Array.getD_eq_getD_getElem?, List.getElem?_toArray, List.getElem?_cons_succ, List.getElem?_cons_zero, Option.getD_some, List.setIfInBounds_toArray, List.set_cons_zero, List.set_cons_succ])
        | (refine wk_pickt _ _ _ _ (by first | exact wanted_none rfl | exact wanted_yes _ _ rfl rfl) rfl rfl rfl ?_; simp only [Act.put, Act.eval, Array.getD_eq_getD_getElem?, List.getElem?_toArray, List.getElem?_cons_succ, List.getElem?_cons_zero, Option.getD_some, List.setIfInBounds_toArray, List.set_cons_zero, List.set_cons_succ])
        | (refine wk_pickf _ _ _ _ (by first | exact wanted_none rfl | exact wanted_yes _ _ rfl rfl) rfl rfl rfl ?_; simp only [Act.put, Act.eval, Array.getD_eq_getD_getElem?, List.getElem?_toArray, List.getElem?_cons_succ, List.getElem?_cons_zero, Option.getD_some, List.setIfInBounds_toArray, List.set_cons_zero, List.set_cons_succ])
        | (refine wk_skip (wanted_not _ true false rfl rfl rfl) ?_; simp only [Act.put, List.setIfInBounds_toArray, List.set_cons_zero, List.set_cons_succ])
        | (refine wk_skip (wanted_not _ false true rfl rfl rfl) ?_; simp only [Act.put, List.setIfInBounds_toArray, List.set_cons_zero, List.set_cons_succ])
        | (refine wk_skip (wanted_undef _ _ rfl rfl) ?_; simp only [Act.put, List.setIfInBounds_toArray, List.set_cons_zero, List.set_cons_succ])
        | (refine wk_not true _ _ (by first | exact wanted_none rfl | exact wanted_yes _ _ rfl rfl) rfl rfl ?_; simp only [Act.put, List.setIfInBounds_toArray, List.set_cons_zero, List.set_cons_succ])
        | (refine wk_not false _ _ (by first | exact wanted_none rfl | exact wanted_yes _ _ rfl rfl) rfl rfl ?_; simp only [Act.put, List.setIfInBounds_toArray, List.set_cons_zero, List.set_cons_succ]))
      refine wk_cmp_int .eql (true) _ _ _ _ _ _ _ (by kernel_rfl) rfl rfl rfl (rfl) ?_
      simp only [Act.put, List.setIfInBounds_toArray, List.set_cons_zero, List.set_cons_succ]
      repeat (first
        | (refine wk_move _ (by first | exact wanted_none rfl | exact wanted_yes _ _ rfl rfl) rfl ?_; simp only [Act.put, Act.eval, Array.getD_eq_getD_getElem?, List.getElem?_toArray, List.getElem?_cons_succ, List.getElem?_cons_zero, Option.getD_some, List.setIfInBounds_toArray, List.set_cons_zero, List.set_cons_succ])
        | (refine wk_assign _ (by first | exact wanted_none rfl | exact wanted_yes _ _ rfl rfl) rfl ?_; simp only [Act.put, Act.eval, Array.getD_eq_getD_getElem?, List.getElem?_toArray, List.getElem?_cons_succ, List.getElem?_cons_zero, Option.getD_some, List.setIfInBounds_toArray, List.set_cons_zero, List.set_cons_succ])
        | (refine wk_pickt _ _ _ _ (by first | exact wanted_none rfl | exact wanted_yes _ _ rfl rfl) rfl rfl rfl ?_; simp only [Act.put, Act.eval, Array.getD_eq_getD_getElem?, List.getElem?_toArray, List.getElem?_cons_succ, List.getElem?_cons_zero, Option.getD_some, List.setIfInBounds_toArray, List.set_cons_zero, List.set_cons_succ])
        | (refine wk_pickf _ _ _ _ (by first | exact wanted_none rfl | exact wanted_yes _ _ rfl rfl) rfl rfl rfl ?_; simp only [Act.put, Act.eval, Array.getD_eq_getD_getElem?, List.getElem?_toArray, List.getElem?_cons_succ, List.getElem?_cons_zero, Option.getD_some, List.setIfInBounds_toArray, List.set_cons_zero, List.set_cons_succ])
        | (refine wk_skip (wanted_not _ true false rfl rfl rfl) ?_; simp only [Act.put, List.setIfInBounds_toArray, List.set_cons_zero, List.set_cons_succ])
        | (refine wk_skip (wanted_not _ false true rfl rfl rfl) ?_; simp only [Act.put, List.setIfInBounds_toArray, List.set_cons_zero, List.set_cons_succ])
        | (refine wk_skip (wanted_undef _ _ rfl rfl) ?_; simp only [Act.put, List.setIfInBounds_toArray, List.set_cons_zero, List.set_cons_succ])
        | (refine wk_not true _ _ (by first | exact wanted_none rfl | exact wanted_yes _ _ rfl rfl) rfl rfl ?_; simp only [Act.put, List.setIfInBounds_toArray, List.set_cons_zero, List.set_cons_succ])
        | (refine wk_not false _ _ (by first | exact wanted_none rfl | exact wanted_yes _ _ rfl rfl) rfl rfl ?_; simp only [Act.put, List.setIfInBounds_toArray, List.set_cons_zero, List.set_cons_succ]))
      refine wk_call 9 _ _ _ _ _ (by kernel_rfl) rfl Tryd.func9 rfl (by kernel_rfl) (fun w' hC => hC.call (shhead_any ((HC.out.below R3.out.below).below hC))) ?_
      simp only [Act.put, List.setIfInBounds_toArray, List.set_cons_zero, List.set_cons_succ]
      repeat (first
        | (refine wk_move _ (by first | exact wanted_none rfl | exact wanted_yes _ _ rfl rfl) rfl ?_; simp only [Act.put, Act.eval, Array.getD_eq_getD_getElem?, List.getElem?_toArray, List.getElem?_cons_succ, List.getElem?_cons_zero, Option.getD_some, List.setIfInBounds_toArray, List.set_cons_zero, List.set_cons_succ])
        | (refine wk_assign _ (by first | exact wanted_none rfl | exact wanted_yes _ _ rfl rfl) rfl ?_; simp only [Act.put, Act.eval, Array.getD_eq_getD_getElem?, List.getElem?_toArray, List.getElem?_cons_succ, List.getElem?_cons_zero, Option.getD_some, List.setIfInBounds_toArray, List.set_cons_zero, List.set_cons_succ])
        | (refine wk_pickt _ _ _ _ (by first | exact wanted_none rfl | exact wanted_yes _ _ rfl rfl) rfl rfl rfl ?_; simp only [Act.put, Act.eval, Array.getD_eq_getD_getElem?, List.getElem?_toArray, List.getElem?_cons_succ, List.getElem?_cons_zero, Option.getD_some, List.setIfInBounds_toArray, List.set_cons_zero, List.set_cons_succ])
        | (refine wk_pickf _ _ _ _ (by first | exact wanted_none rfl | exact wanted_yes _ _ rfl rfl) rfl rfl rfl ?_; simp only [Act.put, Act.eval, Array.getD_eq_getD_getElem?, List.getElem?_toArray, List.getElem?_cons_succ, List.getElem?_cons_zero, Option.getD_some, List.setIfInBounds_toArray, List.set_cons_zero, List.set_cons_succ])
        | (refine wk_skip (wanted_not _ true false rfl rfl rfl) ?_; simp only [Act.put, List.setIfInBounds_toArray, List.set_cons_zero, List.set_cons_succ])
        | (refine wk_skip (wanted_not _ false true rfl rfl rfl) ?_; simp only [Act.put, List.setIfInBounds_toArray, List.set_cons_zero, List.set_cons_succ])
        | (refine wk_skip (wanted_undef _ _ rfl rfl) ?_; simp only [Act.put, List.setIfInBounds_toArray, List.set_cons_zero, List.set_cons_succ])
        | (refine wk_not true _ _ (by first | exact wanted_none rfl | exact wanted_yes _ _ rfl rfl) rfl rfl ?_; simp only [Act.put, List.setIfInBounds_toArray, List.set_cons_zero, List.set_cons_succ])
        | (refine wk_not false _ _ (by first | exact wanted_none rfl | exact wanted_yes _ _ rfl rfl) rfl rfl ?_; simp only [Act.put, List.setIfInBounds_toArray, List.set_cons_zero, List.set_cons_succ]))
      refine wk_nil ?_
      intro w' hC
      have R5 := Lib.hid (R3.out.since hC)
      clear hC
      go_wp2_with fail
      go_ret
      exact ⟨rfl, R5.out.below⟩
end
end Go.Proofs.YtcepfmjebgklfaaDoor
