/- The device layer: the law DevApart holds of every row of acts and every row of keeps. -/
import Derived.Test.YtnbdnnlomgjlmaaDevFuses
import Derived.Test.YtnbdnnlomgjlmaaDevCopy
import Derived.Test.YtnbdnnlomgjlmaaDevApartMath
namespace Go.Proofs.Ytnbdnnlomgjlmaa
open Go.RowKit
set_option linter.unusedSimpArgs false
set_option linter.unusedVariables false
set_option maxRecDepth 100000
def boolsV (f : Nat → Bool) : Array Value := ((List.range 64).map fun a => Value.bool (f a)).toArray
theorem boolsV_get (f : Nat → Bool) (a : Nat) (ha : a < 64) : (boolsV f)[a]? = some (.bool (f a)) := by simp [boolsV, ha]
theorem boolsV_set (f : Nat → Bool) (a : Nat) : (boolsV f).setIfInBounds a (.bool true) = boolsV (fun x => if x = a then true else f x) := by
  apply Array.ext'
  apply List.ext_getElem?
  intro i
  by_cases hi : i < 64
  · by_cases e : i = a
    · subst e; simp [boolsV, hi]
    · have e' : ¬ a = i := fun h => e h.symm
      simp [boolsV, hi, List.getElem?_set, e, e', List.getElem?_range hi]
  · by_cases e : a = i
    · subst e; simp [boolsV, hi]
    · simp [boolsV, hi, List.getElem?_set, e]
def keepCells (l : List (Nat × Nat)) : List Value := l.flatMap fun k => [Value.int .u16 (k.1 : Int), .int .u8 (k.2 : Int)]
theorem len_keepCells (l : List (Nat × Nat)) : (keepCells l).length = l.length * 2 := by
  induction l with
  | nil => rfl
  | cons x l ih => simp [keepCells] at ih ⊢; omega
theorem keepCells_snoc (l : List (Nat × Nat)) (k : Nat × Nat) : keepCells (l ++ [k]) = keepCells l ++ (keepV k).toList := by simp [keepCells, keepV]
theorem keep_at (l : List (Nat × Nat)) (i : Nat) (hi : i < l.length) : (keepCells l)[i * 2]? = some (.int .u16 (l[i].1 : Int)) ∧ (keepCells l)[i * 2 + 1]? = some (.int .u8 (l[i].2 : Int)) := by
  induction l generalizing i with
  | nil => simp at hi
  | cons x l ih =>
    cases i with
    | zero => simp [keepCells]
    | succ i =>
      obtain ⟨h1, h2⟩ := ih i (by simpa using hi)
      constructor
      · rw [show (i + 1) * 2 = (i * 2) + 1 + 1 by omega]; simpa [keepCells] using h1
      · rw [show (i + 1) * 2 + 1 = (i * 2 + 1) + 1 + 1 by omega]; simpa [keepCells] using h2
/-- A crash whose slice lies in a row of one's own. -/
theorem crash_row {w0 W : World} {g : Nat} {s s' : Dv} {l : List Thing} (R : Held w0 W (dvT g s :: l)) (b c m : Nat) (cur : Array Value) (ks : List (Nat × Nat)) (hm : rowT b cur 80 ∈ l) (hl : ks.length = m) (hm63 : m ≤ 9223372036854775807) (hcur : cur.toList.take (m * 2) = keepCells ks) (hlt : ∀ k ∈ ks, k.1 < 65536 ∧ k.2 < 256) (he : s.crash ks = s') :
    Calls Try.prog 48 #[.pointer (some ⟨g, 0, none⟩), .slice (some ⟨b, 0, none⟩) m c] W fun e w' => e = .returned (.int .i64 0) ∧ Held w0 w' (dvT g s' :: l) :=
  R.act2 (fun F hF hN _ hd => by
    obtain ⟨i, hi⟩ := List.mem_iff_getElem?.1 hm
    have hr := R.get (i + 1) (g := b) (cs := cur) (T := 80) (by simpa using hi)
    have hc : ∀ j v, (keepCells ks)[j]? = some v → W.cell? ⟨b, j, none⟩ = some v := by
      intro j v hv
      rw [cell_of_row W b j _ _ _ hr]
      rw [← hcur, List.getElem?_take] at hv
      split at hv
      · simpa using hv
      · cases hv
    have := crash_dev hF hN (some ⟨b, 0, none⟩) m c hm63 ks ⟨hl, .inr ⟨b, 0, rfl, (Array.getElem?_eq_some_iff.1 hr).1, hd b _ _ hm, fun i hi => by
      obtain ⟨h1, h2⟩ := keep_at ks i hi
      rw [Nat.zero_add]
      exact ⟨hc _ _ h1, hc _ _ h2⟩⟩, hlt⟩
    rwa [he] at this)
theorem keepRow_cells (w : World) (k : Nat × Nat) : ∀ j u, (keepV k).toList[j]? = some u → (w.alloc (.cells (keepV k) 80)).cell? ((⟨w.heap.size, 0, none⟩ : Addr).add j) = some u := by
  intro j v hv
  rw [Addr.add_lit, Nat.zero_add, cell_of_row _ _ j _ _ _ (heap_alloc_new _ _)]
  simpa using hv
theorem keepRow_one (k : Nat × Nat) : ∀ u ∈ (keepV k).toList, u.oneCell' = true := by
  intro u hu
  simp [keepV] at hu
  rcases hu with rfl | rfl <;> rfl
theorem crash_turned {w0 W : World} {g : Nat} {s s' : Dv} {l : List Thing} (R : Held w0 W (dvT g s :: l)) (A : Option Addr) (m c : Nat) (ks : List (Nat × Nat)) (hA : (A = none ∧ m = 0 ∧ c = 0) ∨ ∃ gt cur, A = some ⟨gt, 0, none⟩ ∧ rowT gt cur 80 ∈ l ∧ cur.toList.take (m * 2) = keepCells ks) (hl : ks.length = m) (hm63 : m ≤ 9223372036854775807) (hlt : ∀ k ∈ ks, k.1 < 65536 ∧ k.2 < 256) (he : s.crash ks = s') :
    Calls Try.prog 48 #[.pointer (some ⟨g, 0, none⟩), .slice A m c] W fun e w' => e = .returned (.int .i64 0) ∧ Held w0 w' (dvT g s' :: l) := by
  rcases hA with ⟨rfl, rfl, rfl⟩ | ⟨gt, cur, rfl, hm, hcur⟩
  · have : ks = [] := List.eq_nil_of_length_eq_zero hl
    subst this
    exact crash_nil R he
  · exact crash_row R gt c m cur ks hm hl hm63 hcur hlt he
theorem ap_end {j : Nat} {f : Nat → Bool} {s : Dv} (h : ApInv j f s) (ks : List (Nat × Nat)) : ∃ s1 s2, s.crash ks = s1 ∧ s.crash ks.reverse = s2 ∧ ∀ a, a < 64 → readE s1 a = 0 ∧ readE s2 a = 0 ∧ readB s2 a = readB s1 a ∧ (f a = false → readB s1 a = zeroBlk) := by
  refine ⟨_, _, rfl, rfl, fun a ha => ?_⟩
  have hsz : ∀ l, ¬ (s.crash l).size ≤ a := fun l => by show ¬ s.size ≤ a; rw [h.size]; omega
  have hb : ∀ l, readB (s.crash l) a = keepsB s.pend s.good l a := fun l => by unfold readB; rw [if_neg (hsz l)]; rfl
  refine ⟨by unfold readE; rw [if_neg (hsz _)], by unfold readE; rw [if_neg (hsz _)], ?_, fun hf => ?_⟩
  · rw [hb, hb, keepsB_rev _ h.dist]
  · rw [hb, keepsB_out _ _ _ _ (by have := h.seen a; rw [hf] at this; simpa using this.symm), h.good]
theorem sizeBool : (Try.prog.info? 4).map (·.size) = some 1 := by kernel_rfl
theorem neqSame (w : World) (B : List UInt8) (hB : B.length = 256) : (binOp .neq 23 (.agg (blk B)) (.agg (blk B))).run Try.prog w = .ok (.bool false) w := by
  rw [run_neq_blk w 23 5 256 Try.underlying23 Try.underlying5 sizeU8 B B hB hB]
  simp
theorem mk64 (w : World) : (Instr.makeSlice 82 (.int .i64 64) (.int .i64 64)).run Try.prog w = .ok (.slice (some ⟨w.heap.size, 0, none⟩) 64 64) (w.alloc (.cells (boolsV fun _ => false) 4)) := by kernel_rfl
set_option maxHeartbeats 8000000 in
theorem devapart_any (A : Option Addr) (n c : Nat) (l : List ActL) (A2 : Option Addr) (m c2 : Nat) (ks : List (Nat × Nat)) (hn : n ≤ 9223372036854775807) (hm : m ≤ 9223372036854775807) (w : World) (hl : ActsIn w A n l) (hk : KeepsIn w A2 m ks []) :
    Calls Try.prog 14 #[.slice A n c, .slice A2 m c2] w fun e w' => e = .returned (.bool true) ∧ Below w.heap.size w w' := by
  have HL := Lib.hid hl
  have HKS := Lib.hid hk
  have HM := Lib.hid hm
  clear hl hk
  go_enter Try.func14, Try.ntmps14
  go_upto_region 2 with (go_at_call 38; refine (new_dev _ 64 (by decide) (by decide)).mono ?_; rintro e w1 ⟨g, rfl, hM⟩; have R1 := Lib.hid ((Held.start w).made hM); clear hM)
  go_wp2_with fail
  refine (great_any _ A n c hn l (HL.out.below R1.out.below)).mono ?_
  rintro e w2 ⟨r, rfl, hr, rfl⟩
  cases r with
  | true =>
    clear hr
    go_wp2_with (go_at_call 40; refine (devhead_any _).mono ?_; rintro e w3 ⟨rfl, hb⟩; have HB := Lib.hid (R1.out.call hb); clear hb)
    go_ret
    exact ⟨rfl, HB.out.below⟩
  | false =>
    have hn60 : n ≤ 60 := hr rfl
    clear hr hn
    by_cases hm2 : 200 < m
    · have hm3 : (200 : Int) < (m : Int) := by omega
      go_wp2_with (go_at_call 40; refine (devhead_any _).mono ?_; rintro e w3 ⟨rfl, hb⟩; have HB := Lib.hid (R1.out.call hb); clear hb)
      go_ret
      exact ⟨rfl, HB.out.below⟩
    · have hm3 : ¬ (200 : Int) < (m : Int) := by omega
      clear hm2
      have hmk := mk64
      have q1 := R1.out.alloc2 (boolsV fun _ => false) 4
      go_upto_region 5 with (fail)
      clear hmk hm3
      obtain ⟨W1, hW⟩ : ∃ W, W = w1.alloc (.cells (boolsV fun _ => false) 4) := ⟨_, rfl⟩
      rw [← hW] at q1 ⊢
      clear hW
      obtain ⟨gs, hg⟩ : ∃ g, g = w1.heap.size := ⟨_, rfl⟩
      rw [← hg] at q1 ⊢
      clear hg
      have R2 := Lib.hid q1
      clear q1 R1
      go_wp2_with fail
      go_loopw [8, 9] (fun i _ wr => ∃ (j : Nat) (s : Dv) (f : Nat → Bool), j ≤ n ∧ i = .int .i64 (j : Int) ∧ Held w wr [dvT g s, rowT gs (boolsV f) 4] ∧ ApInv j f s) (fun i _ _ => n - (intOf i).toNat)
      case atStart => exact ⟨0, _, fun _ => false, by omega, rfl, R2.out, ap_start⟩
      case round =>
        obtain ⟨j, s, f, hj, rfl, hR, hI⟩ := hrel
        have HR := Lib.hid hR
        have HI := Lib.hid hI
        clear hR hI R2
        by_cases hlt : j < n
        · obtain ⟨b, off, hA, hb, hr⟩ := HL.out.cells j (by rw [HL.out.len]; exact hlt)
          subst hA
          have hx := HL.out.ok _ (List.getElem_mem (h := by rw [HL.out.len]; exact hlt))
          generalize l[j]'(by rw [HL.out.len]; exact hlt) = x at hr hx
          have HX := Lib.hid hx
          have HRG := Lib.hid hr
          have HBL := Lib.hid hb
          have hc1 : wr.cell? ⟨b, off + j * 5 + 1, none⟩ = some (.int .u32 (x.a : Int)) := (HR.out.below.cell hb).trans (rangeAt_cell hr 1 _ rfl)
          have hrg : wr.rangeAt b (off + j * 5) (actV x).toList := fun i v hv => (HR.out.below.cell HBL.out).trans (HRG.out i v hv)
          have HRGW := Lib.hid hrg
          obtain ⟨y, hy⟩ : ∃ y, y = x.a % 64 := ⟨_, rfl⟩
          have hy64 : y < 64 := by omega
          have hyr : (x.a : Int) % 64 = (y : Int) := by omega
          have HYR := Lib.hid hyr
          have HY := Lib.hid hy
          have HY64 := Lib.hid hy64
          clear hx hr hb hrg hy hyr
          have hcs : wr.cell? ⟨gs, y, none⟩ = some (.bool (f y)) := HR.out.cell 1 y rfl (boolsV_get f y hy64)
          have HCS := Lib.hid hcs
          clear hcs
          go_upto_region 8 with (fail)
          refine wk_plain_since ?_
          repeat (first
            | (refine wk_move _ (by first | exact wanted_none rfl | exact wanted_yes _ _ rfl rfl) rfl ?_; simp only [Act.put, Act.eval, Array.getD_eq_getD_getElem?, List.getElem?_toArray, List.getElem?_cons_succ, List.getElem?_cons_zero, Option.getD_some, List.setIfInBounds_toArray, List.set_cons_zero, List.set_cons_succ])
            | (refine wk_assign _ (by first | exact wanted_none rfl | exact wanted_yes _ _ rfl rfl) rfl ?_; simp only [Act.put, Act.eval, Array.getD_eq_getD_getElem?, List.getElem?_toArray, List.getElem?_cons_succ, List.getElem?_cons_zero, Option.getD_some, List.setIfInBounds_toArray, List.set_cons_zero, List.set_cons_succ])
            | (refine wk_pickt _ _ _ _ (by first | exact wanted_none rfl | exact wanted_yes _ _ rfl rfl) rfl rfl rfl ?_; simp only [Act.put, Act.eval, Array.getD_eq_getD_getElem?, List.getElem?_toArray, List.getElem?_cons_succ, List.getElem?_cons_zero, Option.getD_some, List.setIfInBounds_toArray, List.set_cons_zero, List.set_cons_succ])
            | (refine wk_pickf _ _ _ _ (by first | exact wanted_none rfl | exact wanted_yes _ _ rfl rfl) rfl rfl rfl ?_; simp only [Act.put, Act.eval, Array.getD_eq_getD_getElem?, List.getElem?_toArray, List.getElem?_cons_succ, List.getElem?_cons_zero, Option.getD_some, List.setIfInBounds_toArray, List.set_cons_zero, List.set_cons_succ])
            | (refine wk_skip (wanted_not _ true false rfl rfl rfl) ?_; simp only [Act.put, List.setIfInBounds_toArray, List.set_cons_zero, List.set_cons_succ])
            | (refine wk_skip (wanted_not _ false true rfl rfl rfl) ?_; simp only [Act.put, List.setIfInBounds_toArray, List.set_cons_zero, List.set_cons_succ])
            | (refine wk_skip (wanted_undef _ _ rfl rfl) ?_; simp only [Act.put, List.setIfInBounds_toArray, List.set_cons_zero, List.set_cons_succ])
            | (refine wk_not true _ _ (by first | exact wanted_none rfl | exact wanted_yes _ _ rfl rfl) rfl rfl ?_; simp only [Act.put, List.setIfInBounds_toArray, List.set_cons_zero, List.set_cons_succ])
            | (refine wk_not false _ _ (by first | exact wanted_none rfl | exact wanted_yes _ _ rfl rfl) rfl rfl ?_; simp only [Act.put, List.setIfInBounds_toArray, List.set_cons_zero, List.set_cons_succ]))
          refine wk_index 55 63 _ _ b off n c j 5 .i64 (by first | exact wanted_none rfl | exact wanted_yes _ _ rfl rfl) rfl Try.underlying55 sizeAct rfl rfl hlt ?_
          simp only [Act.put, List.setIfInBounds_toArray, List.set_cons_zero, List.set_cons_succ]
          refine wk_field 63 _ 25 1 0 _ _ _ (by first | exact wanted_none rfl | exact wanted_yes _ _ rfl rfl) rfl (by kernel_rfl) (by kernel_rfl) (by kernel_rfl) rfl ?_
          simp only [Act.put, List.setIfInBounds_toArray, List.set_cons_zero, List.set_cons_succ, Nat.zero_add]
          refine wk_load1 _ _ _ _ _ rfl (by kernel_rfl) rfl rfl (fun w' hC => hC.cell hc1) Try.underlying25 ?_
          simp only [Act.put, List.setIfInBounds_toArray, List.set_cons_zero, List.set_cons_succ]
          refine wk_rem64 x.a _ _ _ (by first | exact wanted_none rfl | exact wanted_yes _ _ rfl rfl) rfl rfl rfl ?_
          simp only [Act.put, List.setIfInBounds_toArray, List.set_cons_zero, List.set_cons_succ]
          repeat (first
            | (refine wk_move _ (by first | exact wanted_none rfl | exact wanted_yes _ _ rfl rfl) rfl ?_; simp only [Act.put, Act.eval, Array.getD_eq_getD_getElem?, List.getElem?_toArray, List.getElem?_cons_succ, List.getElem?_cons_zero, Option.getD_some, List.setIfInBounds_toArray, List.set_cons_zero, List.set_cons_succ])
            | (refine wk_assign _ (by first | exact wanted_none rfl | exact wanted_yes _ _ rfl rfl) rfl ?_; simp only [Act.put, Act.eval, Array.getD_eq_getD_getElem?, List.getElem?_toArray, List.getElem?_cons_succ, List.getElem?_cons_zero, Option.getD_some, List.setIfInBounds_toArray, List.set_cons_zero, List.set_cons_succ])
            | (refine wk_pickt _ _ _ _ (by first | exact wanted_none rfl | exact wanted_yes _ _ rfl rfl) rfl rfl rfl ?_; simp only [Act.put, Act.eval, Array.getD_eq_getD_getElem?, List.getElem?_toArray, List.getElem?_cons_succ, List.getElem?_cons_zero, Option.getD_some, List.setIfInBounds_toArray, List.set_cons_zero, List.set_cons_succ])
            | (refine wk_pickf _ _ _ _ (by first | exact wanted_none rfl | exact wanted_yes _ _ rfl rfl) rfl rfl rfl ?_; simp only [Act.put, Act.eval, Array.getD_eq_getD_getElem?, List.getElem?_toArray, List.getElem?_cons_succ, List.getElem?_cons_zero, Option.getD_some, List.setIfInBounds_toArray, List.set_cons_zero, List.set_cons_succ])
            | (refine wk_skip (wanted_not _ true false rfl rfl rfl) ?_; simp only [Act.put, List.setIfInBounds_toArray, List.set_cons_zero, List.set_cons_succ])
            | (refine wk_skip (wanted_not _ false true rfl rfl rfl) ?_; simp only [Act.put, List.setIfInBounds_toArray, List.set_cons_zero, List.set_cons_succ])
            | (refine wk_skip (wanted_undef _ _ rfl rfl) ?_; simp only [Act.put, List.setIfInBounds_toArray, List.set_cons_zero, List.set_cons_succ])
            | (refine wk_not true _ _ (by first | exact wanted_none rfl | exact wanted_yes _ _ rfl rfl) rfl rfl ?_; simp only [Act.put, List.setIfInBounds_toArray, List.set_cons_zero, List.set_cons_succ])
            | (refine wk_not false _ _ (by first | exact wanted_none rfl | exact wanted_yes _ _ rfl rfl) rfl rfl ?_; simp only [Act.put, List.setIfInBounds_toArray, List.set_cons_zero, List.set_cons_succ]))
          refine wk_nil ?_
          intro w' hC
          have e0 : x.a % 64 = y := HY.out.symm
          rw [e0]
          have HR2 := Lib.hid (HR.out.since hC)
          have hrg2 : w'.rangeAt b (off + j * 5) (actV x).toList := fun i v hv => (HR2.out.below.cell HBL.out).trans (HRG.out i v hv)
          have HRG2 := Lib.hid hrg2
          clear hC hc1 HR HRGW HCS hrg2 e0
          have hlen : s.pend.length < 100000 := by have := HI.out.len; omega
          have HLEN := Lib.hid hlen
          clear hlen
          cases hfy : f y with
          | false =>
            obtain ⟨s', hE, hI2⟩ := ap_write HI.out y (actB x.c) HY64.out hfy
            have hcs : w'.cell? ⟨gs, y, none⟩ = some (.bool false) := by have := HR2.out.cell 1 y rfl (boolsV_get f y HY64.out); rwa [hfy] at this
            have HE := Lib.hid hE
            have HI2 := Lib.hid hI2
            have HFY := Lib.hid hfy
            clear hE hI2 hfy
            go_wp2_with (first
              | refine wpList_load_arr rfl 63 _ rfl b (off + j * 5) rfl (actV x) _ HRG2.out Try.underlying63 rfl sizeAct ?_
              | (go_at_call 44; refine (block_any x _).mono ?_; rintro e w5 ⟨rfl, hb⟩; have HR3 := Lib.hid (HR2.out.call hb); clear hb hcs)
              | (go_at_call 43; refine (write_is HR3.out HLEN.out y (actB x.c) (by have := HY64.out; omega) (length_actB _) HE.out).mono ?_; rintro e w6 ⟨rfl, hR⟩; have R6 := Lib.hid hR; clear hR; have hcs6 := R6.out.cell 1 y rfl (boolsV_get f y HY64.out); rw [HFY.out] at hcs6; have hfs6 := R6.out.free 1 y rfl))
            have R7 := R6.out.setCell 1 y (.bool true) rfl
            simp only [List.set_cons_zero, List.set_cons_succ, boolsV_set] at R7
            exact ⟨⟨j + 1, s', _, by omega, by simp, R7, HI2.out⟩, by simp [intOf]; omega⟩
          | true =>
            have hI2 := ap_skip HI.out y hfy
            have hcs : w'.cell? ⟨gs, y, none⟩ = some (.bool true) := by have := HR2.out.cell 1 y rfl (boolsV_get f y HY64.out); rwa [hfy] at this
            have hfs := HR2.out.free 1 y rfl
            have HI2 := Lib.hid hI2
            clear hI2 hfy
            go_wp2_with fail
            have R7 := HR2.out.setCell 1 y (.bool true) rfl
            simp only [List.set_cons_zero, List.set_cons_succ, boolsV_set] at R7
            exact ⟨⟨j + 1, s, _, by omega, by simp, R7, HI2.out⟩, by simp [intOf]; omega⟩
        · obtain rfl : j = n := by omega
          have hz : ¬ ((j : Int) < (j : Int)) := by omega
          clear hz
          have hm200 : m ≤ 200 := by omega
          have hmm : (m : Int) ≤ 9223372036854775807 := by have := HM.out; omega
          go_wp2_with fail
          obtain ⟨ik, hik, hzk, hsk, hbk⟩ := info_parts Try.infoKeep
          have HIK := Lib.hid hik
          have HZK := Lib.hid hzk
          clear hik hzk
          have HKL : Hid (ks.length = m) := Lib.hid HKS.out.len
          obtain ⟨B0, hB0⟩ : ∃ B, B = wr.heap.size := ⟨_, rfl⟩
          have HB0 := Lib.hid hB0
          clear hB0
          go_loopw [10, 11] (fun t i wl => ∃ (k : Nat) (z : Int) (A' : Option Addr) (c' : Nat), k ≤ m ∧ z = (m : Int) - 1 - (k : Int) ∧ i = .int .i64 z ∧ t = .slice A' k c' ∧ wl.ownsRow B0 80 2 (.slice A' k c') k (keepCells (ks.reverse.take k)) ∧ Below wr.heap.size wr wl) (fun t i _ => (intOf i + 1).toNat)
          case atStart => exact ⟨0, _, none, 0, by omega, by simp, rfl, rfl, World.ownsRow_nil _ _ _ _, Below.refl _ _⟩
          case round =>
            obtain ⟨k, z, A', c', hk, hz, rfl, rfl, hown, hB⟩ := hrel
            have HOWN := Lib.hid hown
            have HB := Lib.hid hB
            clear hown hB
            by_cases hkm : k < m
            · obtain ⟨q, hq⟩ : ∃ q : Nat, z = (q : Int) := ⟨m - 1 - k, by omega⟩
              subst hq
              have hqm : q < ks.length := by rw [HKL.out]; omega
              obtain ⟨b, off, hA2, hb, _, hcell⟩ := HKS.out.at_.resolve_left (by omega)
              subst hA2
              obtain ⟨x, hx⟩ : ∃ x, x = ks[q] := ⟨_, rfl⟩
              have hcc := hcell q hqm
              rw [← hx] at hcc
              have c0 : wr.cell? ⟨b, off + q * 2, none⟩ = some (.int .u16 (x.1 : Int)) := (HB.out.cell (Nat.lt_of_lt_of_le hb HR.out.below.size)).trans ((HR.out.below.cell hb).trans hcc.1)
              have c1 : wr.cell? ⟨b, off + q * 2 + 1, none⟩ = some (.int .u8 (x.2 : Int)) := (HB.out.cell (Nat.lt_of_lt_of_le hb HR.out.below.size)).trans ((HR.out.below.cell hb).trans hcc.2)
              have hqm' : q < m := by omega
              have hxs : keepCells (ks.reverse.take (k + 1)) = keepCells (ks.reverse.take k) ++ (keepV (x.1, x.2)).toList := by
                have hkr : k < ks.reverse.length := by rw [List.length_reverse, HKL.out]; exact hkm
                rw [List.take_succ_eq_append_getElem hkr, keepCells_snoc, List.getElem_reverse]
                have e : ks.length - 1 - k = q := by rw [HKL.out]; omega
                simp only [e]
                rw [← hx]
              have HXS := Lib.hid hxs
              have HQ := Lib.hid hz
              have hbase : B0 ≤ wr.heap.size := by rw [HB0.out]; exact HB.out.size
              have HBS := Lib.hid hbase
              clear hcc hcell hb hx hxs hz hbase
              go_wp2_with (first
                | refine wpList_plain rfl fun K hK' => wp_build_one 61 80 _ rfl (keepV (x.1, x.2)) rfl ik _ Try.underlying61 HIK.out HZK.out (by rw [hsk]; rfl) (by omega) (by omega) (hK' _ _ ?_)
                | refine wpList_append_own_at _ rfl _ _ 61 rfl B0 80 ik _ 2 4 Try.underlying61 HIK.out HZK.out hsk hbk rfl (by decide) (.slice A' k c') k (keepCells (ks.reverse.take k)) rfl (ownsRow_below HOWN.out ((Below.refl _ _).alloc (Nat.le_refl _) _)) ⟨wr.heap.size, 0, none⟩ 1 1 (keepV (x.1, x.2)).toList rfl rfl (keepRow_cells _ _) (keepRow_one _) (by unfold maxLen; omega) (by omega) (by have := HBS.out; simp; omega) ?_)
              intro v' w6 hown6 hgrow _ _
              obtain ⟨A6, c6, rfl⟩ := own_len hown6
              have hB6 : Below B0 wr w6 := ((Below.refl _ wr).alloc HBS.out _).grown hgrow (by have := HBS.out; simp; omega) (fun k hk => (World.ownsRow.lt HOWN.out k hk).1)
              rw [← HXS.out] at hown6
              have HO6 := Lib.hid hown6
              have HB6 := Lib.hid (HB.out.trans (by rw [HB0.out] at hB6; exact hB6))
              clear hown6 hgrow hB6 c0 c1
              go_wp2_with fail
              exact ⟨⟨k + 1, (q : Int) - 1, A6, c6, by omega, by have := HQ.out; omega, rfl, rfl, HO6.out, HB6.out⟩, by simp [intOf]⟩
            · obtain rfl : k = m := by omega
              have hz1 : z = -1 := by omega
              subst hz1
              clear hz hkm
              rw [List.take_of_length_le (by rw [List.length_reverse, HKL.out]; exact Nat.le_refl _)] at HOWN
              obtain ⟨tl, HT, htl⟩ : ∃ tl : List Thing, Held w wr (dvT g s :: rowT gs (boolsV f) 4 :: tl) ∧ ((A' = none ∧ k = 0 ∧ c' = 0) ∨ ∃ gt cur, A' = some ⟨gt, 0, none⟩ ∧ rowT gt cur 80 ∈ tl ∧ cur.toList.take (k * 2) = keepCells ks.reverse) := by
                have RW := HR.out.call HB.out
                rcases HOWN.out.2 with ⟨e, h0⟩ | ⟨gt, cap, cur, e, hbt, hgt, _, _, _, hcur⟩
                · simp only [Value.slice.injEq] at e
                  exact ⟨[], RW, .inl ⟨e.1, h0, e.2.2⟩⟩
                · simp only [Value.slice.injEq] at e
                  have hm1 := HR.out.more HB.out (x := rowT gt cur 80) (F := [gt]) ⟨rfl, hgt⟩ (by rw [← HB0.out]; simpa using hbt) (by simp)
                  exact ⟨[rowT gt cur 80], hm1.perm (List.perm_append_comm (l₁ := [_])), .inr ⟨gt, cur, e.1, by simp, hcur⟩⟩
              have HTL := Lib.hid htl
              have RT := Lib.hid HT
              obtain ⟨s1, s2, h1, h2, h3⟩ := ap_end HI.out ks
              have HS1 := Lib.hid h1
              have HS2 := Lib.hid h2
              have HEND := Lib.hid h3
              have hpl : s.pend.length < 100000 := by have := HI.out.len; omega
              have HPL := Lib.hid hpl
              clear HT htl HR HB HOWN HB0 h1 h2 h3 hpl HI
              go_wp2_with (first
                | (go_at_call 51; refine (copy_dev (RT.out.thing 0 rfl) HPL.out).mono ?_; rintro e w7 ⟨g', rfl, hM⟩; have R7 := Lib.hid (RT.out.made hM); clear hM RT)
                | (go_at_call 48; refine (crash_old (R7.out.perm (List.Perm.swap _ _ _)) A2 k c2 HM.out ks HKS.out HS1.out).mono ?_; rintro e w8 ⟨rfl, hR⟩; have R8 := Lib.hid hR; clear hR R7)
                | (go_at_call 48; refine (crash_turned (R8.out.perm (List.Perm.swap _ _ _)) A' k c' ks.reverse (HTL.out.imp id (fun ⟨gt, cur, e1, e2, e3⟩ => ⟨gt, cur, e1, by simp [e2], e3⟩)) (by rw [List.length_reverse]; exact HKL.out) HM.out (fun k hk => HKS.out.lt k (List.mem_reverse.1 hk)) HS2.out).mono ?_; rintro e w9 ⟨rfl, hR⟩; have R9 := Lib.hid hR; clear hR R8))
              clear HTL HS1 HS2 HKL HKS HIK HZK
              go_loopw [13, 14, 15, 16, 17] (fun a _ _ _ _ wr => ∃ y : Nat, y ≤ 64 ∧ a = .int .u32 (y : Int) ∧ Held w wr (dvT g' s2 :: dvT g s1 :: rowT gs (boolsV f) 4 :: tl)) (fun a _ _ _ _ _ => 64 - (intOf a).toNat)
              case atStart => exact ⟨0, by omega, rfl, R9.out⟩
              case round =>
                obtain ⟨y, hy, rfl, hR⟩ := hrel
                have RY := Lib.hid hR
                clear hR R9
                by_cases hy64 : y < 64
                · obtain ⟨hE1, hE2, hBB, hZ⟩ := HEND.out y hy64
                  obtain ⟨B, hB⟩ : ∃ B, B = readB s1 y := ⟨_, rfl⟩
                  rw [← hB] at hBB hZ
                  have hBL : B.length = 256 := by
                    rw [hB]
                    obtain ⟨F0, gm0, pv0, fv0, _, hv0⟩ := RY.out.thing 1 rfl
                    exact length_readB s1 hv0.ok _
                  have RD1 : Hid (readB s1 y = B ∧ readE s1 y = 0) := Lib.hid ⟨hB.symm, hE1⟩
                  have RD2 : Hid (readB s2 y = B ∧ readE s2 y = 0) := Lib.hid ⟨hBB, hE2⟩
                  have HBLEN := Lib.hid hBL
                  have HZ := Lib.hid hZ
                  have HNQ := Lib.hid (fun w => neqSame w B hBL)
                  clear hE1 hE2 hBB hZ hB hBL
                  go_wp2_with fail
                  refine (read_is (RY.out.thing 1 rfl) y (by omega) B 0 RD1.out).mono ?_
                  rintro e w6 ⟨rfl, hb⟩
                  have q1 := (RY.out.call hb).alloc (blk B) 23
                  clear hb
                  go_upto_region 24 with (first | refine wpList_alloc_row rfl 23 rfl _ zeroB ?_ | refine wpList_store_new rfl 23 _ _ rfl _ (blk B) _ rfl rfl (by rw [size_blk, HBLEN.out]; exact sizeB) (by rw [size_blk, HBLEN.out, size_zeros]) (blk_one _) ?_)
                  obtain ⟨W6, hW⟩ : ∃ W, W = w6.alloc (.cells (blk B) 23) := ⟨_, rfl⟩
                  rw [← hW] at q1 ⊢
                  clear hW
                  obtain ⟨g6, hg⟩ : ∃ g, g = w6.heap.size := ⟨_, rfl⟩
                  rw [← hg] at q1 ⊢
                  clear hg
                  have R6 := Lib.hid q1
                  clear q1
                  go_wp2_with fail
                  refine (read_is (R6.out.thing 1 rfl) y (by omega) B 0 RD2.out).mono ?_
                  rintro e w7 ⟨rfl, hb⟩
                  have q1 := (R6.out.call hb).alloc (blk B) 23
                  clear hb
                  go_upto_region 25 with (first | refine wpList_alloc_row rfl 23 rfl _ zeroB ?_ | refine wpList_store_new rfl 23 _ _ rfl _ (blk B) _ rfl rfl (by rw [size_blk, HBLEN.out]; exact sizeB) (by rw [size_blk, HBLEN.out, size_zeros]) (blk_one _) ?_)
                  obtain ⟨W7, hW⟩ : ∃ W, W = w7.alloc (.cells (blk B) 23) := ⟨_, rfl⟩
                  rw [← hW] at q1 ⊢
                  clear hW
                  obtain ⟨g7, hg⟩ : ∃ g, g = w7.heap.size := ⟨_, rfl⟩
                  rw [← hg] at q1 ⊢
                  clear hg
                  have R8 := Lib.hid q1
                  clear q1
                  clear R6 RY
                  cases hfy : f y with
                  | true =>
                    refine wk_plain_since ?_
                    repeat (first
                      | (refine wk_move _ (by first | exact wanted_none rfl | exact wanted_yes _ _ rfl rfl) rfl ?_; simp only [Act.put, Act.eval, Array.getD_eq_getD_getElem?, List.getElem?_toArray, List.getElem?_cons_succ, List.getElem?_cons_zero, Option.getD_some, List.setIfInBounds_toArray, List.set_cons_zero, List.set_cons_succ])
                      | (refine wk_assign _ (by first | exact wanted_none rfl | exact wanted_yes _ _ rfl rfl) rfl ?_; simp only [Act.put, Act.eval, Array.getD_eq_getD_getElem?, List.getElem?_toArray, List.getElem?_cons_succ, List.getElem?_cons_zero, Option.getD_some, List.setIfInBounds_toArray, List.set_cons_zero, List.set_cons_succ])
                      | (refine wk_pickt _ _ _ _ (by first | exact wanted_none rfl | exact wanted_yes _ _ rfl rfl) rfl rfl rfl ?_; simp only [Act.put, Act.eval, Array.getD_eq_getD_getElem?, List.getElem?_toArray, List.getElem?_cons_succ, List.getElem?_cons_zero, Option.getD_some, List.setIfInBounds_toArray, List.set_cons_zero, List.set_cons_succ])
                      | (refine wk_pickf _ _ _ _ (by first | exact wanted_none rfl | exact wanted_yes _ _ rfl rfl) rfl rfl rfl ?_; simp only [Act.put, Act.eval, Array.getD_eq_getD_getElem?, List.getElem?_toArray, List.getElem?_cons_succ, List.getElem?_cons_zero, Option.getD_some, List.setIfInBounds_toArray, List.set_cons_zero, List.set_cons_succ])
                      | (refine wk_skip (wanted_not _ true false rfl rfl rfl) ?_; simp only [Act.put, List.setIfInBounds_toArray, List.set_cons_zero, List.set_cons_succ])
                      | (refine wk_skip (wanted_not _ false true rfl rfl rfl) ?_; simp only [Act.put, List.setIfInBounds_toArray, List.set_cons_zero, List.set_cons_succ])
                      | (refine wk_skip (wanted_undef _ _ rfl rfl) ?_; simp only [Act.put, List.setIfInBounds_toArray, List.set_cons_zero, List.set_cons_succ])
                      | (refine wk_not true _ _ (by first | exact wanted_none rfl | exact wanted_yes _ _ rfl rfl) rfl rfl ?_; simp only [Act.put, List.setIfInBounds_toArray, List.set_cons_zero, List.set_cons_succ])
                      | (refine wk_not false _ _ (by first | exact wanted_none rfl | exact wanted_yes _ _ rfl rfl) rfl rfl ?_; simp only [Act.put, List.setIfInBounds_toArray, List.set_cons_zero, List.set_cons_succ]))
                    refine wk_load_row 23 _ g6 23 _ (0, 0) _ (by kernel_rfl) rfl rfl (fun w' hC => hC.row (R8.out.get 1 rfl)) Try.underlying23 rfl (by rw [size_blk, HBLEN.out]; exact sizeB) ?_
                    simp only [Act.put, List.setIfInBounds_toArray, List.set_cons_zero, List.set_cons_succ]
                    refine wk_load_row 23 _ g7 23 _ (0, 0) _ (by kernel_rfl) rfl rfl (fun w' hC => hC.row (R8.out.get 0 rfl)) Try.underlying23 rfl (by rw [size_blk, HBLEN.out]; exact sizeB) ?_
                    simp only [Act.put, List.setIfInBounds_toArray, List.set_cons_zero, List.set_cons_succ]
                    refine wk_eql .neq (false) 23 23 _ _ (by first | exact wanted_none rfl | exact wanted_yes _ _ rfl rfl) rfl _ _ rfl rfl (by kernel_rfl) (fun w => HNQ.out w) ?_
                    simp only [Act.put, List.setIfInBounds_toArray, List.set_cons_zero, List.set_cons_succ]
                    repeat (first
                      | (refine wk_move _ (by first | exact wanted_none rfl | exact wanted_yes _ _ rfl rfl) rfl ?_; simp only [Act.put, Act.eval, Array.getD_eq_getD_getElem?, List.getElem?_toArray, List.getElem?_cons_succ, List.getElem?_cons_zero, Option.getD_some, List.setIfInBounds_toArray, List.set_cons_zero, List.set_cons_succ])
                      | (refine wk_assign _ (by first | exact wanted_none rfl | exact wanted_yes _ _ rfl rfl) rfl ?_; simp only [Act.put, Act.eval, Array.getD_eq_getD_getElem?, List.getElem?_toArray, List.getElem?_cons_succ, List.getElem?_cons_zero, Option.getD_some, List.setIfInBounds_toArray, List.set_cons_zero, List.set_cons_succ])
                      | (refine wk_pickt _ _ _ _ (by first | exact wanted_none rfl | exact wanted_yes _ _ rfl rfl) rfl rfl rfl ?_; simp only [Act.put, Act.eval, Array.getD_eq_getD_getElem?, List.getElem?_toArray, List.getElem?_cons_succ, List.getElem?_cons_zero, Option.getD_some, List.setIfInBounds_toArray, List.set_cons_zero, List.set_cons_succ])
                      | (refine wk_pickf _ _ _ _ (by first | exact wanted_none rfl | exact wanted_yes _ _ rfl rfl) rfl rfl rfl ?_; simp only [Act.put, Act.eval, Array.getD_eq_getD_getElem?, List.getElem?_toArray, List.getElem?_cons_succ, List.getElem?_cons_zero, Option.getD_some, List.setIfInBounds_toArray, List.set_cons_zero, List.set_cons_succ])
                      | (refine wk_skip (wanted_not _ true false rfl rfl rfl) ?_; simp only [Act.put, List.setIfInBounds_toArray, List.set_cons_zero, List.set_cons_succ])
                      | (refine wk_skip (wanted_not _ false true rfl rfl rfl) ?_; simp only [Act.put, List.setIfInBounds_toArray, List.set_cons_zero, List.set_cons_succ])
                      | (refine wk_skip (wanted_undef _ _ rfl rfl) ?_; simp only [Act.put, List.setIfInBounds_toArray, List.set_cons_zero, List.set_cons_succ])
                      | (refine wk_not true _ _ (by first | exact wanted_none rfl | exact wanted_yes _ _ rfl rfl) rfl rfl ?_; simp only [Act.put, List.setIfInBounds_toArray, List.set_cons_zero, List.set_cons_succ])
                      | (refine wk_not false _ _ (by first | exact wanted_none rfl | exact wanted_yes _ _ rfl rfl) rfl rfl ?_; simp only [Act.put, List.setIfInBounds_toArray, List.set_cons_zero, List.set_cons_succ]))
                    refine wk_index 82 4 _ _ gs 0 64 64 y 1 .u32 (by first | exact wanted_none rfl | exact wanted_yes _ _ rfl rfl) rfl Try.underlying82 sizeBool rfl rfl hy64 ?_
                    simp only [Act.put, List.setIfInBounds_toArray, List.set_cons_zero, List.set_cons_succ, Nat.mul_one, Nat.zero_add]
                    refine wk_load1 _ _ _ _ _ rfl (by kernel_rfl) rfl rfl (fun w' hC => hC.cell (by have := R8.out.cell 4 y rfl (boolsV_get f y hy64); rwa [hfy] at this)) Try.underlying4 ?_
                    simp only [Act.put, List.setIfInBounds_toArray, List.set_cons_zero, List.set_cons_succ]
                    repeat (first
                      | (refine wk_move _ (by first | exact wanted_none rfl | exact wanted_yes _ _ rfl rfl) rfl ?_; simp only [Act.put, Act.eval, Array.getD_eq_getD_getElem?, List.getElem?_toArray, List.getElem?_cons_succ, List.getElem?_cons_zero, Option.getD_some, List.setIfInBounds_toArray, List.set_cons_zero, List.set_cons_succ])
                      | (refine wk_assign _ (by first | exact wanted_none rfl | exact wanted_yes _ _ rfl rfl) rfl ?_; simp only [Act.put, Act.eval, Array.getD_eq_getD_getElem?, List.getElem?_toArray, List.getElem?_cons_succ, List.getElem?_cons_zero, Option.getD_some, List.setIfInBounds_toArray, List.set_cons_zero, List.set_cons_succ])
                      | (refine wk_pickt _ _ _ _ (by first | exact wanted_none rfl | exact wanted_yes _ _ rfl rfl) rfl rfl rfl ?_; simp only [Act.put, Act.eval, Array.getD_eq_getD_getElem?, List.getElem?_toArray, List.getElem?_cons_succ, List.getElem?_cons_zero, Option.getD_some, List.setIfInBounds_toArray, List.set_cons_zero, List.set_cons_succ])
                      | (refine wk_pickf _ _ _ _ (by first | exact wanted_none rfl | exact wanted_yes _ _ rfl rfl) rfl rfl rfl ?_; simp only [Act.put, Act.eval, Array.getD_eq_getD_getElem?, List.getElem?_toArray, List.getElem?_cons_succ, List.getElem?_cons_zero, Option.getD_some, List.setIfInBounds_toArray, List.set_cons_zero, List.set_cons_succ])
                      | (refine wk_skip (wanted_not _ true false rfl rfl rfl) ?_; simp only [Act.put, List.setIfInBounds_toArray, List.set_cons_zero, List.set_cons_succ])
                      | (refine wk_skip (wanted_not _ false true rfl rfl rfl) ?_; simp only [Act.put, List.setIfInBounds_toArray, List.set_cons_zero, List.set_cons_succ])
                      | (refine wk_skip (wanted_undef _ _ rfl rfl) ?_; simp only [Act.put, List.setIfInBounds_toArray, List.set_cons_zero, List.set_cons_succ])
                      | (refine wk_not true _ _ (by first | exact wanted_none rfl | exact wanted_yes _ _ rfl rfl) rfl rfl ?_; simp only [Act.put, List.setIfInBounds_toArray, List.set_cons_zero, List.set_cons_succ])
                      | (refine wk_not false _ _ (by first | exact wanted_none rfl | exact wanted_yes _ _ rfl rfl) rfl rfl ?_; simp only [Act.put, List.setIfInBounds_toArray, List.set_cons_zero, List.set_cons_succ]))
                    refine wk_nil ?_
                    intro w' hC
                    have R9 := Lib.hid ((R8.out.since hC).drop 2)
                    clear hC R8
                    go_wp2_with fail
                    exact ⟨⟨y + 1, by omega, by simp, R9.out⟩, by simp [intOf]; omega⟩
                  | false =>
                    have hz := HZ.out hfy
                    subst hz
                    refine wk_plain_since ?_
                    repeat (first
                      | (refine wk_move _ (by first | exact wanted_none rfl | exact wanted_yes _ _ rfl rfl) rfl ?_; simp only [Act.put, Act.eval, Array.getD_eq_getD_getElem?, List.getElem?_toArray, List.getElem?_cons_succ, List.getElem?_cons_zero, Option.getD_some, List.setIfInBounds_toArray, List.set_cons_zero, List.set_cons_succ])
                      | (refine wk_assign _ (by first | exact wanted_none rfl | exact wanted_yes _ _ rfl rfl) rfl ?_; simp only [Act.put, Act.eval, Array.getD_eq_getD_getElem?, List.getElem?_toArray, List.getElem?_cons_succ, List.getElem?_cons_zero, Option.getD_some, List.setIfInBounds_toArray, List.set_cons_zero, List.set_cons_succ])
                      | (refine wk_pickt _ _ _ _ (by first | exact wanted_none rfl | exact wanted_yes _ _ rfl rfl) rfl rfl rfl ?_; simp only [Act.put, Act.eval, Array.getD_eq_getD_getElem?, List.getElem?_toArray, List.getElem?_cons_succ, List.getElem?_cons_zero, Option.getD_some, List.setIfInBounds_toArray, List.set_cons_zero, List.set_cons_succ])
                      | (refine wk_pickf _ _ _ _ (by first | exact wanted_none rfl | exact wanted_yes _ _ rfl rfl) rfl rfl rfl ?_; simp only [Act.put, Act.eval, Array.getD_eq_getD_getElem?, List.getElem?_toArray, List.getElem?_cons_succ, List.getElem?_cons_zero, Option.getD_some, List.setIfInBounds_toArray, List.set_cons_zero, List.set_cons_succ])
                      | (refine wk_skip (wanted_not _ true false rfl rfl rfl) ?_; simp only [Act.put, List.setIfInBounds_toArray, List.set_cons_zero, List.set_cons_succ])
                      | (refine wk_skip (wanted_not _ false true rfl rfl rfl) ?_; simp only [Act.put, List.setIfInBounds_toArray, List.set_cons_zero, List.set_cons_succ])
                      | (refine wk_skip (wanted_undef _ _ rfl rfl) ?_; simp only [Act.put, List.setIfInBounds_toArray, List.set_cons_zero, List.set_cons_succ])
                      | (refine wk_not true _ _ (by first | exact wanted_none rfl | exact wanted_yes _ _ rfl rfl) rfl rfl ?_; simp only [Act.put, List.setIfInBounds_toArray, List.set_cons_zero, List.set_cons_succ])
                      | (refine wk_not false _ _ (by first | exact wanted_none rfl | exact wanted_yes _ _ rfl rfl) rfl rfl ?_; simp only [Act.put, List.setIfInBounds_toArray, List.set_cons_zero, List.set_cons_succ]))
                    refine wk_load_row 23 _ g6 23 _ (0, 0) _ (by kernel_rfl) rfl rfl (fun w' hC => hC.row (R8.out.get 1 rfl)) Try.underlying23 rfl (by rw [size_blk, HBLEN.out]; exact sizeB) ?_
                    simp only [Act.put, List.setIfInBounds_toArray, List.set_cons_zero, List.set_cons_succ]
                    refine wk_load_row 23 _ g7 23 _ (0, 0) _ (by kernel_rfl) rfl rfl (fun w' hC => hC.row (R8.out.get 0 rfl)) Try.underlying23 rfl (by rw [size_blk, HBLEN.out]; exact sizeB) ?_
                    simp only [Act.put, List.setIfInBounds_toArray, List.set_cons_zero, List.set_cons_succ]
                    refine wk_eql .neq (false) 23 23 _ _ (by first | exact wanted_none rfl | exact wanted_yes _ _ rfl rfl) rfl _ _ rfl rfl (by kernel_rfl) (fun w => HNQ.out w) ?_
                    simp only [Act.put, List.setIfInBounds_toArray, List.set_cons_zero, List.set_cons_succ]
                    repeat (first
                      | (refine wk_move _ (by first | exact wanted_none rfl | exact wanted_yes _ _ rfl rfl) rfl ?_; simp only [Act.put, Act.eval, Array.getD_eq_getD_getElem?, List.getElem?_toArray, List.getElem?_cons_succ, List.getElem?_cons_zero, Option.getD_some, List.setIfInBounds_toArray, List.set_cons_zero, List.set_cons_succ])
                      | (refine wk_assign _ (by first | exact wanted_none rfl | exact wanted_yes _ _ rfl rfl) rfl ?_; simp only [Act.put, Act.eval, Array.getD_eq_getD_getElem?, List.getElem?_toArray, List.getElem?_cons_succ, List.getElem?_cons_zero, Option.getD_some, List.setIfInBounds_toArray, List.set_cons_zero, List.set_cons_succ])
                      | (refine wk_pickt _ _ _ _ (by first | exact wanted_none rfl | exact wanted_yes _ _ rfl rfl) rfl rfl rfl ?_; simp only [Act.put, Act.eval, Array.getD_eq_getD_getElem?, List.getElem?_toArray, List.getElem?_cons_succ, List.getElem?_cons_zero, Option.getD_some, List.setIfInBounds_toArray, List.set_cons_zero, List.set_cons_succ])
                      | (refine wk_pickf _ _ _ _ (by first | exact wanted_none rfl | exact wanted_yes _ _ rfl rfl) rfl rfl rfl ?_; simp only [Act.put, Act.eval, Array.getD_eq_getD_getElem?, List.getElem?_toArray, List.getElem?_cons_succ, List.getElem?_cons_zero, Option.getD_some, List.setIfInBounds_toArray, List.set_cons_zero, List.set_cons_succ])
                      | (refine wk_skip (wanted_not _ true false rfl rfl rfl) ?_; simp only [Act.put, List.setIfInBounds_toArray, List.set_cons_zero, List.set_cons_succ])
                      | (refine wk_skip (wanted_not _ false true rfl rfl rfl) ?_; simp only [Act.put, List.setIfInBounds_toArray, List.set_cons_zero, List.set_cons_succ])
                      | (refine wk_skip (wanted_undef _ _ rfl rfl) ?_; simp only [Act.put, List.setIfInBounds_toArray, List.set_cons_zero, List.set_cons_succ])
                      | (refine wk_not true _ _ (by first | exact wanted_none rfl | exact wanted_yes _ _ rfl rfl) rfl rfl ?_; simp only [Act.put, List.setIfInBounds_toArray, List.set_cons_zero, List.set_cons_succ])
                      | (refine wk_not false _ _ (by first | exact wanted_none rfl | exact wanted_yes _ _ rfl rfl) rfl rfl ?_; simp only [Act.put, List.setIfInBounds_toArray, List.set_cons_zero, List.set_cons_succ]))
                    refine wk_index 82 4 _ _ gs 0 64 64 y 1 .u32 (by first | exact wanted_none rfl | exact wanted_yes _ _ rfl rfl) rfl Try.underlying82 sizeBool rfl rfl hy64 ?_
                    simp only [Act.put, List.setIfInBounds_toArray, List.set_cons_zero, List.set_cons_succ, Nat.mul_one, Nat.zero_add]
                    refine wk_load1 _ _ _ _ _ rfl (by kernel_rfl) rfl rfl (fun w' hC => hC.cell (by have := R8.out.cell 4 y rfl (boolsV_get f y hy64); rwa [hfy] at this)) Try.underlying4 ?_
                    simp only [Act.put, List.setIfInBounds_toArray, List.set_cons_zero, List.set_cons_succ]
                    repeat (first
                      | (refine wk_move _ (by first | exact wanted_none rfl | exact wanted_yes _ _ rfl rfl) rfl ?_; simp only [Act.put, Act.eval, Array.getD_eq_getD_getElem?, List.getElem?_toArray, List.getElem?_cons_succ, List.getElem?_cons_zero, Option.getD_some, List.setIfInBounds_toArray, List.set_cons_zero, List.set_cons_succ])
                      | (refine wk_assign _ (by first | exact wanted_none rfl | exact wanted_yes _ _ rfl rfl) rfl ?_; simp only [Act.put, Act.eval, Array.getD_eq_getD_getElem?, List.getElem?_toArray, List.getElem?_cons_succ, List.getElem?_cons_zero, Option.getD_some, List.setIfInBounds_toArray, List.set_cons_zero, List.set_cons_succ])
                      | (refine wk_pickt _ _ _ _ (by first | exact wanted_none rfl | exact wanted_yes _ _ rfl rfl) rfl rfl rfl ?_; simp only [Act.put, Act.eval, Array.getD_eq_getD_getElem?, List.getElem?_toArray, List.getElem?_cons_succ, List.getElem?_cons_zero, Option.getD_some, List.setIfInBounds_toArray, List.set_cons_zero, List.set_cons_succ])
                      | (refine wk_pickf _ _ _ _ (by first | exact wanted_none rfl | exact wanted_yes _ _ rfl rfl) rfl rfl rfl ?_; simp only [Act.put, Act.eval, Array.getD_eq_getD_getElem?, List.getElem?_toArray, List.getElem?_cons_succ, List.getElem?_cons_zero, Option.getD_some, List.setIfInBounds_toArray, List.set_cons_zero, List.set_cons_succ])
                      | (refine wk_skip (wanted_not _ true false rfl rfl rfl) ?_; simp only [Act.put, List.setIfInBounds_toArray, List.set_cons_zero, List.set_cons_succ])
                      | (refine wk_skip (wanted_not _ false true rfl rfl rfl) ?_; simp only [Act.put, List.setIfInBounds_toArray, List.set_cons_zero, List.set_cons_succ])
                      | (refine wk_skip (wanted_undef _ _ rfl rfl) ?_; simp only [Act.put, List.setIfInBounds_toArray, List.set_cons_zero, List.set_cons_succ])
                      | (refine wk_not true _ _ (by first | exact wanted_none rfl | exact wanted_yes _ _ rfl rfl) rfl rfl ?_; simp only [Act.put, List.setIfInBounds_toArray, List.set_cons_zero, List.set_cons_succ])
                      | (refine wk_not false _ _ (by first | exact wanted_none rfl | exact wanted_yes _ _ rfl rfl) rfl rfl ?_; simp only [Act.put, List.setIfInBounds_toArray, List.set_cons_zero, List.set_cons_succ]))
                    refine wk_load_row 23 _ g6 23 (blk zeroBlk) (0, 0) _ (by kernel_rfl) rfl rfl (fun w' hC => hC.row (R8.out.get 1 rfl)) Try.underlying23 rfl (by rw [size_blk, length_zeroBlk]; exact sizeB) ?_
                    simp only [Act.put, List.setIfInBounds_toArray, List.set_cons_zero, List.set_cons_succ]
                    refine wk_build_none 23 _ (by first | exact wanted_none rfl | exact wanted_yes _ _ rfl rfl) rfl zeroB Try.underlying23 rfl ?_
                    simp only [Act.put, List.setIfInBounds_toArray, List.set_cons_zero, List.set_cons_succ]
                    refine wk_eql .neq (false) 23 23 _ _ (by first | exact wanted_none rfl | exact wanted_yes _ _ rfl rfl) rfl _ _ rfl rfl (by kernel_rfl) (fun w => by rw [zero_cells]; exact HNQ.out w) ?_
                    simp only [Act.put, List.setIfInBounds_toArray, List.set_cons_zero, List.set_cons_succ]
                    repeat (first
                      | (refine wk_move _ (by first | exact wanted_none rfl | exact wanted_yes _ _ rfl rfl) rfl ?_; simp only [Act.put, Act.eval, Array.getD_eq_getD_getElem?, List.getElem?_toArray, List.getElem?_cons_succ, List.getElem?_cons_zero, Option.getD_some, List.setIfInBounds_toArray, List.set_cons_zero, List.set_cons_succ])
                      | (refine wk_assign _ (by first | exact wanted_none rfl | exact wanted_yes _ _ rfl rfl) rfl ?_; simp only [Act.put, Act.eval, Array.getD_eq_getD_getElem?, List.getElem?_toArray, List.getElem?_cons_succ, List.getElem?_cons_zero, Option.getD_some, List.setIfInBounds_toArray, List.set_cons_zero, List.set_cons_succ])
                      | (refine wk_pickt _ _ _ _ (by first | exact wanted_none rfl | exact wanted_yes _ _ rfl rfl) rfl rfl rfl ?_; simp only [Act.put, Act.eval, Array.getD_eq_getD_getElem?, List.getElem?_toArray, List.getElem?_cons_succ, List.getElem?_cons_zero, Option.getD_some, List.setIfInBounds_toArray, List.set_cons_zero, List.set_cons_succ])
                      | (refine wk_pickf _ _ _ _ (by first | exact wanted_none rfl | exact wanted_yes _ _ rfl rfl) rfl rfl rfl ?_; simp only [Act.put, Act.eval, Array.getD_eq_getD_getElem?, List.getElem?_toArray, List.getElem?_cons_succ, List.getElem?_cons_zero, Option.getD_some, List.setIfInBounds_toArray, List.set_cons_zero, List.set_cons_succ])
                      | (refine wk_skip (wanted_not _ true false rfl rfl rfl) ?_; simp only [Act.put, List.setIfInBounds_toArray, List.set_cons_zero, List.set_cons_succ])
                      | (refine wk_skip (wanted_not _ false true rfl rfl rfl) ?_; simp only [Act.put, List.setIfInBounds_toArray, List.set_cons_zero, List.set_cons_succ])
                      | (refine wk_skip (wanted_undef _ _ rfl rfl) ?_; simp only [Act.put, List.setIfInBounds_toArray, List.set_cons_zero, List.set_cons_succ])
                      | (refine wk_not true _ _ (by first | exact wanted_none rfl | exact wanted_yes _ _ rfl rfl) rfl rfl ?_; simp only [Act.put, List.setIfInBounds_toArray, List.set_cons_zero, List.set_cons_succ])
                      | (refine wk_not false _ _ (by first | exact wanted_none rfl | exact wanted_yes _ _ rfl rfl) rfl rfl ?_; simp only [Act.put, List.setIfInBounds_toArray, List.set_cons_zero, List.set_cons_succ]))
                    refine wk_nil ?_
                    intro w' hC
                    have R9 := Lib.hid ((R8.out.since hC).drop 2)
                    clear hC R8
                    go_wp2_with fail
                    exact ⟨⟨y + 1, by omega, by simp, R9.out⟩, by simp [intOf]; omega⟩
                · obtain rfl : y = 64 := by omega
                  go_wp2_with (go_at_call 40; refine (devhead_any _).mono ?_; rintro e w9 ⟨rfl, hb⟩; have HB := Lib.hid (RY.out.call hb); clear hb)
                  go_ret
                  exact ⟨rfl, HB.out.below⟩
end Go.Proofs.Ytnbdnnlomgjlmaa
