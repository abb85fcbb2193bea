/- The node layer: Kids, the document's Kids; whether two rows of numbers are the same. -/
import Derived.Test.YtnhfkmfmmgaecaaDoorRef04
import Derived.Test.YtnhfkmfmmgaecaaDoorAppend
import Derived.Maps.AppendAt
namespace Go.Proofs.YtnhfkmfmmgaecaaDoor
open Go.RowKit
set_option linter.unusedSimpArgs false
set_option maxRecDepth 100000
def nu32 (x : Nat) : Value := .int .u32 (x : Int)
theorem infoU32 : (Tryd.prog.info? 52).map (fun i => (i.zero, i.size, i.bytes)) = some (some (.int .u32 0), 1, 4) := by kernel_rfl
theorem sizeOfU32 : (Tryd.prog.info? 52).map (·.size) = some 1 := by kernel_rfl
/-- The slice v is the call's own and holds the numbers L, of 32 bits each. -/
def OwnNums (w : World) (base : Nat) (v : Value) (L : List Nat) : Prop := w.ownsRow base 52 1 v L.length (L.map nu32)
/-- The slice v reads as the numbers x. -/
def NumsAt (w : World) (v : Value) (x : List Nat) : Prop := ∃ a c, v = .slice a x.length c ∧ (0 < x.length → ∃ g off, a = some ⟨g, off, none⟩ ∧ g < w.heap.size ∧ ∀ k, (hk : k < x.length) → w.cell? ⟨g, off + k, none⟩ = some (.int .u32 (x[k] : Int)))
theorem NumsAt.below {w w' : World} {v : Value} {x : List Nat} (h : NumsAt w v x) (hb : Below w.heap.size w w') : NumsAt w' v x := by
  obtain ⟨a, c, rfl, h⟩ := h
  refine ⟨a, c, rfl, fun h0 => ?_⟩
  obtain ⟨g, off, rfl, hg, hc⟩ := h h0
  exact ⟨g, off, rfl, Nat.lt_of_lt_of_le hg hb.size, fun k hk => by rw [hb.cell (p := ⟨g, off + k, none⟩) hg]; exact hc k hk⟩
theorem OwnNums.at {w : World} {base : Nat} {v : Value} {x : List Nat} (h : OwnNums w base v x) : NumsAt w v x := by
  obtain ⟨a, c, rfl, hk⟩ := own_form2 h
  refine ⟨a, c, rfl, fun h0 => ?_⟩
  obtain ⟨k, rfl, hb⟩ := hk h0
  have hc := World.ownsRow.cells h hb
  refine ⟨k, 0, rfl, (World.ownsRow.lt h k hb).2, fun j hj => ?_⟩
  have := hc j (nu32 x[j]) (by simp [hj])
  rw [Addr.add_lit] at this
  exact this
def notZero (l : List Nat) : List Nat := l.filter (fun x => x != 0)
theorem notZero_succ (l : List Nat) (k : Nat) (h : k < l.length) : notZero (l.take (k + 1)) = notZero (l.take k) ++ if l[k] = 0 then [] else [l[k]] := by
  unfold notZero
  rw [List.take_succ_eq_append_getElem h, List.filter_append]
  by_cases h0 : l[k] = 0 <;> simp [h0]
theorem notZero_len (l : List Nat) : (notZero l).length ≤ l.length := List.length_filter_le _ _
set_option maxHeartbeats 1000000 in
theorem some_any (w : World) (g off c : Nat) (l : List Nat) (hl : l.length = 32) (hg : g < w.heap.size) (hb : ∀ x ∈ l, x < 4294967296) (h : ∀ k, (hk : k < l.length) → w.cell? ⟨g, off + k, none⟩ = some (.int .u32 (l[k] : Int))) :
    Calls Tryd.prog 76 #[.slice (some ⟨g, off, none⟩) 32 c] w fun e w' => ∃ v, e = .returned v ∧ OwnNums w' w.heap.size v (notZero l) ∧ Below w.heap.size w w' := by
  have HLEN := Lib.hid hl
  have HALL : Hid (∀ k, (hk : k < l.length) → l[k] < 4294967296) := Lib.hid (fun k hk => hb _ (List.getElem_mem hk))
  have HCELL := Lib.hid h
  have HNS := Lib.hid (fun k (hk : k < l.length) => notZero_succ l k hk)
  have HNL := Lib.hid (fun k => Nat.le_trans (notZero_len (l.take k)) (List.length_take_le k l))
  obtain ⟨i0, hi, hz0, hz1, hz2⟩ := info_parts infoU32
  clear hl hb h
  go_enter Tryd.func76, Tryd.ntmps76
  go_wp2_with fail
  go_loopw [8, 2] (fun i v wr => ∃ k : Nat, k ≤ 32 ∧ i = .int .i64 k ∧ OwnNums wr w.heap.size v (notZero (l.take k)) ∧ Below w.heap.size w wr) (fun i _ _ => 32 - (intOf i).toNat)
  case atStart => exact ⟨0, by omega, rfl, World.ownsRow_nil _ _ _ _, Below.refl _ _⟩
  case round =>
    obtain ⟨k, hk, rfl, hwr, hbr⟩ := hrel
    have HO := Lib.hid hwr
    have HBR := Lib.hid hbr
    have hbs : w.heap.size ≤ wr.heap.size := hbr.size
    clear hwr hbr
    by_cases hlt : k < 32
    · have hkl : k < l.length := by rw [HLEN.out]; exact hlt
      have c1 : wr.cell? ⟨g, off + k, none⟩ = some (.int .u32 (l[k] : Int)) := by rw [HBR.out.cell (p := ⟨g, off + k, none⟩) hg]; exact HCELL.out k hkl
      have H4 := Lib.hid (HNS.out k hkl)
      have hx := HALL.out k hkl
      have hsl := HNL.out k
      obtain ⟨x, hxe⟩ : ∃ x, x = l[k] := ⟨_, rfl⟩
      rw [← hxe] at c1 H4 hx
      clear hxe hkl
      by_cases hx0 : x = 0
      · subst hx0
        have HE : Hid (notZero (l.take (k + 1)) = notZero (l.take k)) := Lib.hid (by rw [H4.out]; simp)
        go_wp2_with fail
        exact ⟨⟨k + 1, by omega, by go_num, by rw [HE.out]; exact HO.out, HBR.out⟩, by simp [intOf]; omega⟩
      · have hx1 : 0 < x := by omega
        have HE : Hid (notZero (l.take (k + 1)) = notZero (l.take k) ++ [x]) := Lib.hid (by rw [H4.out]; simp [hx0])
        go_wp2_with (at_builtin; refine wpList_append_own_at _ rfl _ _ 74 rfl w.heap.size 52 i0 (.int .u32 0) 1 4 Tryd.underlying74 hi hz0 hz1 hz2 rfl (by decide) _ _ _ rfl (World.ownsRow.alloc HO.out _) ⟨wr.heap.size, 0, none⟩ 1 1 [.int .u32 (x : Int)] rfl rfl (news_one _ _ _) (by intro u hu; simp at hu; subst hu; rfl) (by unfold maxLen; omega) (by omega) (by simp; omega) ?_; intro v' w1 hown' hgrow hq hat; have HOW := Lib.hid hown'; have HGR := Lib.hid hgrow; clear hown' hgrow hq hat)
        have HO1 : Hid (OwnNums w1 w.heap.size v' (notZero (l.take (k + 1)))) := Lib.hid (by
          rw [HE.out]; unfold OwnNums
          rw [List.length_append, List.map_append]; exact HOW.out)
        have HB1 : Hid (Below w.heap.size w w1) := Lib.hid ((HBR.out.alloc hbs _).grown HGR.out (by simp; omega) (fun j hj => (World.ownsRow.lt HO.out j hj).1))
        exact ⟨⟨k + 1, by omega, by go_num, HO1.out, HB1.out⟩, by simp [intOf]; omega⟩
    · obtain rfl : k = 32 := by omega
      have HT : Hid (l.take 32 = l) := Lib.hid (List.take_of_length_le (by rw [HLEN.out]; exact Nat.le_refl _))
      rw [HT.out] at HO
      go_wp2_with fail
      go_ret
      exact ⟨_, rfl, HO.out, HBR.out⟩
theorem nkids_any (h : Nat) (l : List Nat) (hn : NOk h l) (w : World) :
    Calls Tryd.prog 39 #[.agg (ncells h l)] w fun e w' => ∃ v, e = .returned v ∧ NumsAt w' v (notZero l) ∧ Below w.heap.size w w' := by
  obtain ⟨C, hC⟩ : ∃ C, C = ncells h l := ⟨_, rfl⟩
  have HCK : Hid (∀ k, (hk : k < l.length) → C[k + 1]? = some (.int .u32 (l[k] : Int))) := Lib.hid (fun k hk => by rw [hC]; exact pcells_get _ _ _ _ k hk)
  have HN := Lib.hid hn
  rw [← hC]
  clear hC hn
  have q1 := (Rows.start w).alloc C 70
  go_enter Tryd.func39, Tryd.ntmps39
  go_upto_region 1 with (fail)
  obtain ⟨W1, hW⟩ : ∃ W, W = w.alloc (.cells C 70) := ⟨_, rfl⟩
  rw [← hW] at q1 ⊢
  clear hW
  obtain ⟨g1, hg⟩ : ∃ g, g = w.heap.size := ⟨_, rfl⟩
  rw [← hg] at q1 ⊢
  clear hg
  have R1 := Lib.hid q1
  clear q1
  go_wp2_with fail
  refine (some_any W1 g1 1 32 l HN.out.len (R1.out.lt 0 rfl) (fun x hx => HN.out.all x hx) (fun k hk => R1.out.cell 0 (1 + k) rfl (by rw [Nat.add_comm]; exact HCK.out k hk))).mono ?_
  rintro e w2 ⟨v, rfl, hv, hb⟩
  have HV := Lib.hid hv.at
  have R2 := Lib.hid (R1.out.call hb)
  clear hv hb
  go_wp2_with fail
  go_ret
  exact ⟨_, rfl, HV.out, R2.out.below⟩
set_option maxHeartbeats 1000000 in
theorem refnkids_any (h : Nat) (l : List Nat) (hn : NOk h l) (w : World) :
    Calls Tryd.prog 40 #[.agg (ncells h l)] w fun e w' => ∃ v, e = .returned v ∧ NumsAt w' v (notZero l) ∧ Below w.heap.size w w' := by
  obtain ⟨C, hC⟩ : ∃ C, C = ncells h l := ⟨_, rfl⟩
  have HCK : Hid (∀ k, (hk : k < l.length) → C[k + 1]? = some (.int .u32 (l[k] : Int))) := Lib.hid (fun k hk => by rw [hC]; exact pcells_get _ _ _ _ k hk)
  have HLEN := Lib.hid hn.len
  have HALL : Hid (∀ k, (hk : k < l.length) → l[k] < 4294967296) := Lib.hid (fun k hk => hn.all _ (List.getElem_mem hk))
  have HNS := Lib.hid (fun k (hk : k < l.length) => notZero_succ l k hk)
  have HNL := Lib.hid (fun k => Nat.le_trans (notZero_len (l.take k)) (List.length_take_le k l))
  obtain ⟨i0, hi, hz0, hz1, hz2⟩ := info_parts infoU32
  rw [← hC]
  clear hC hn
  have q1 := (Rows.start w).alloc C 70
  go_enter Tryd.func40, Tryd.ntmps40
  go_upto_region 1 with (fail)
  obtain ⟨W1, hW⟩ : ∃ W, W = w.alloc (.cells C 70) := ⟨_, rfl⟩
  rw [← hW] at q1 ⊢
  clear hW
  obtain ⟨g1, hg⟩ : ∃ g, g = w.heap.size := ⟨_, rfl⟩
  rw [← hg] at q1 ⊢
  clear hg
  have R1 := Lib.hid q1
  clear q1
  have HG1 : Hid (g1 < W1.heap.size) := Lib.hid (R1.out.lt 0 rfl)
  go_wp2_with fail
  go_loopw [4, 3] (fun i v wr => ∃ k : Nat, k ≤ 32 ∧ i = .int .i64 k ∧ OwnNums wr W1.heap.size v (notZero (l.take k)) ∧ Below W1.heap.size W1 wr) (fun i _ _ => 32 - (intOf i).toNat)
  case atStart => exact ⟨0, by omega, rfl, World.ownsRow_nil _ _ _ _, Below.refl _ _⟩
  case round =>
    obtain ⟨k, hk, rfl, hwr, hbr⟩ := hrel
    have HO := Lib.hid hwr
    have HBR := Lib.hid hbr
    have hbs : W1.heap.size ≤ wr.heap.size := hbr.size
    clear hwr hbr
    by_cases hlt : k < 32
    · have hkl : k < l.length := by rw [HLEN.out]; exact hlt
      have d1 : wr.cell? ⟨g1, 1 + k, none⟩ = some (.int .u32 (l[k] : Int)) := by rw [HBR.out.cell (p := ⟨g1, 1 + k, none⟩) HG1.out]; exact R1.out.cell 0 (1 + k) rfl (by rw [Nat.add_comm]; exact HCK.out k hkl)
      have H4 := Lib.hid (HNS.out k hkl)
      have hx := HALL.out k hkl
      have hsl := HNL.out k
      obtain ⟨x, hxe⟩ : ∃ x, x = l[k] := ⟨_, rfl⟩
      rw [← hxe] at d1 H4 hx
      clear hxe hkl
      by_cases hx0 : x = 0
      · subst hx0
        have HE : Hid (notZero (l.take (k + 1)) = notZero (l.take k)) := Lib.hid (by rw [H4.out]; simp)
        go_wp2_with fail
        exact ⟨⟨k + 1, by omega, by go_num, by rw [HE.out]; exact HO.out, HBR.out⟩, by simp [intOf]; omega⟩
      · have hx1 : 0 < x := by omega
        have HE : Hid (notZero (l.take (k + 1)) = notZero (l.take k) ++ [x]) := Lib.hid (by rw [H4.out]; simp [hx0])
        go_wp2_with (at_builtin; refine wpList_append_own_at _ rfl _ _ 74 rfl W1.heap.size 52 i0 (.int .u32 0) 1 4 Tryd.underlying74 hi hz0 hz1 hz2 rfl (by decide) _ _ _ rfl (World.ownsRow.alloc HO.out _) ⟨wr.heap.size, 0, none⟩ 1 1 [.int .u32 (x : Int)] rfl rfl (news_one _ _ _) (by intro u hu; simp at hu; subst hu; rfl) (by unfold maxLen; omega) (by omega) (by simp; omega) ?_; intro v' w1 hown' hgrow hq hat; have HOW := Lib.hid hown'; have HGR := Lib.hid hgrow; clear hown' hgrow hq hat)
        have HO1 : Hid (OwnNums w1 W1.heap.size v' (notZero (l.take (k + 1)))) := Lib.hid (by
          rw [HE.out]; unfold OwnNums
          rw [List.length_append, List.map_append]; exact HOW.out)
        have HB1 : Hid (Below W1.heap.size W1 w1) := Lib.hid ((HBR.out.alloc hbs _).grown HGR.out (by simp; omega) (fun j hj => (World.ownsRow.lt HO.out j hj).1))
        exact ⟨⟨k + 1, by omega, by go_num, HO1.out, HB1.out⟩, by simp [intOf]; omega⟩
    · obtain rfl : k = 32 := by omega
      have HT : Hid (l.take 32 = l) := Lib.hid (List.take_of_length_le (by rw [HLEN.out]; exact Nat.le_refl _))
      rw [HT.out] at HO
      have HV := Lib.hid (OwnNums.at HO.out)
      have R2 := Lib.hid (R1.out.call HBR.out)
      go_wp2_with fail
      go_ret
      exact ⟨_, rfl, HV.out, R2.out.below⟩
set_option maxHeartbeats 1000000 in
theorem same_any (w : World) (u v : Value) (x y : List Nat) (hu : NumsAt w u x) (hv : NumsAt w v y) (hx : x.length ≤ 1000) (hy : y.length ≤ 1000) :
    Calls Tryd.prog 38 #[u, v] w fun e w' => e = .returned (.bool (decide (x = y))) ∧ Below w.heap.size w w' := by
  obtain ⟨a, c, rfl, hu⟩ := hu
  obtain ⟨b, d, rfl, hv⟩ := hv
  obtain ⟨m, hm⟩ : ∃ m, m = x.length := ⟨_, rfl⟩
  obtain ⟨n, hn⟩ : ∃ n, n = y.length := ⟨_, rfl⟩
  have HM := Lib.hid hm
  have HN := Lib.hid hn
  have HU := Lib.hid hu
  have HV := Lib.hid hv
  rw [← hm, ← hn]
  rw [← hm] at hx
  rw [← hn] at hy
  clear hm hn hu hv
  by_cases hmn : m = n
  · subst hmn
    go_enter Tryd.func38, Tryd.ntmps38
    go_wp2_with fail
    go_loopw [5] (fun i wr => ∃ k : Nat, k ≤ m ∧ i = .int .i64 k ∧ x.take k = y.take k ∧ Below w.heap.size w wr) (fun i _ => m - (intOf i).toNat)
    case atStart => exact ⟨0, by omega, rfl, by simp, Below.refl _ _⟩
    case round =>
      obtain ⟨k, hk, rfl, heq, hbr⟩ := hrel
      have HEQ := Lib.hid heq
      have HBR := Lib.hid hbr
      clear heq hbr
      by_cases hlt : k < m
      · have hkx : k < x.length := by rw [← HM.out]; exact hlt
        have hky : k < y.length := by rw [← HN.out]; exact hlt
        obtain ⟨g, off, rfl, hg, hc⟩ := HU.out (by omega)
        obtain ⟨g', off', rfl, hg', hc'⟩ := HV.out (by omega)
        have C1 : Hid (∀ w', Since wr w' → w'.cell? ⟨g, off + k, none⟩ = some (.int .u32 (x[k] : Int))) := Lib.hid (fun w' hC => by
          have hb := HBR.out.trans (Below.mono hC HBR.out.size)
          rw [hb.cell (p := ⟨g, off + k, none⟩) hg]; exact hc k hkx)
        have C2 : Hid (∀ w', Since wr w' → w'.cell? ⟨g', off' + k, none⟩ = some (.int .u32 (y[k] : Int))) := Lib.hid (fun w' hC => by
          have hb := HBR.out.trans (Below.mono hC HBR.out.size)
          rw [hb.cell (p := ⟨g', off' + k, none⟩) hg']; exact hc' k hky)
        have HT : Hid (x[k] = y[k] → x.take (k + 1) = y.take (k + 1)) := Lib.hid (fun h => by
          rw [List.take_succ_eq_append_getElem hkx, List.take_succ_eq_append_getElem hky, HEQ.out, h])
        have HF : Hid (x[k] ≠ y[k] → decide (x = y) = false) := Lib.hid (fun h => by
          rw [decide_eq_false_iff_not]
          intro e
          apply h
          subst e
          rfl)
        obtain ⟨p, hp⟩ : ∃ p, p = x[k] := ⟨_, rfl⟩
        obtain ⟨q, hq⟩ : ∃ q, q = y[k] := ⟨_, rfl⟩
        rw [← hp] at C1 HT HF
        rw [← hq] at C2 HT HF
        clear hp hq hc hc' hkx hky
        by_cases hpq : p = q
        · have HTT := Lib.hid (HT.out hpq)
          subst hpq
          go_upto_region 6 with (fail)
          refine wk_region_since (by kernel_rfl) (by kernel_rfl) ?_
          repeat (first
            | (refine wk_move _ (by first | exact wanted_none rfl | exact wanted_yes _ _ rfl rfl) rfl ?_; simp only [Act.put, Act.eval, Array.getD_eq_getD_getElem?, List.getElem?_toArray, List.getElem?_cons_succ, List.getElem?_cons_zero, Option.getD_some, List.setIfInBounds_toArray, List.set_cons_zero, List.set_cons_succ])
            | (refine wk_assign _ (by first | exact wanted_none rfl | exact wanted_yes _ _ rfl rfl) rfl ?_; simp only [Act.put, Act.eval, Array.getD_eq_getD_getElem?, List.getElem?_toArray, List.getElem?_cons_succ, List.getElem?_cons_zero, Option.getD_some, List.setIfInBounds_toArray, List.set_cons_zero, List.set_cons_succ])
            | (refine wk_pickt _ _ _ _ (by first | exact wanted_none rfl | exact wanted_yes _ _ rfl rfl) rfl rfl rfl ?_; simp only [Act.put, Act.eval, Array.getD_eq_getD_getElem?, List.getElem?_toArray, List.getElem?_cons_succ, List.getElem?_cons_zero, Option.getD_some, List.setIfInBounds_toArray, List.set_cons_zero, List.set_cons_succ])
            | (refine wk_pickf _ _ _ _ (by first | exact wanted_none rfl | exact wanted_yes _ _ rfl rfl) rfl rfl rfl ?_; simp only [Act.put, Act.eval, Array.getD_eq_getD_getElem?, List.getElem?_toArray, List.getElem?_cons_succ, List.getElem?_cons_zero, Option.getD_some, List.setIfInBounds_toArray, List.set_cons_zero, List.set_cons_succ])
            | (refine wk_skip (wanted_not _ true false rfl rfl rfl) ?_; simp only [Act.put, List.setIfInBounds_toArray, List.set_cons_zero, List.set_cons_succ])
            | (refine wk_skip (wanted_not _ false true rfl rfl rfl) ?_; simp only [Act.put, List.setIfInBounds_toArray, List.set_cons_zero, List.set_cons_succ])
            | (refine wk_skip (wanted_undef _ _ rfl rfl) ?_; simp only [Act.put, List.setIfInBounds_toArray, List.set_cons_zero, List.set_cons_succ])
            | (refine wk_not true _ _ (by first | exact wanted_none rfl | exact wanted_yes _ _ rfl rfl) rfl rfl ?_; simp only [Act.put, List.setIfInBounds_toArray, List.set_cons_zero, List.set_cons_succ])
            | (refine wk_not false _ _ (by first | exact wanted_none rfl | exact wanted_yes _ _ rfl rfl) rfl rfl ?_; simp only [Act.put, List.setIfInBounds_toArray, List.set_cons_zero, List.set_cons_succ]))
          refine wk_index _ _ _ _ _ _ (m) _ (k) 1 .i64 (by kernel_rfl) rfl Tryd.underlying74 sizeOfU32 rfl rfl (by omega) ?_
          simp only [Act.put, List.setIfInBounds_toArray, List.set_cons_zero, List.set_cons_succ, Nat.mul_one, Nat.zero_add]
          refine wk_load1 _ _ _ _ _ rfl (by kernel_rfl) rfl rfl (fun w' hC => C1.out w' hC) Tryd.underlying52 ?_
          simp only [Act.put, List.setIfInBounds_toArray, List.set_cons_zero, List.set_cons_succ]
          repeat (first
            | (refine wk_move _ (by first | exact wanted_none rfl | exact wanted_yes _ _ rfl rfl) rfl ?_; simp only [Act.put, Act.eval, Array.getD_eq_getD_getElem?, List.getElem?_toArray, List.getElem?_cons_succ, List.getElem?_cons_zero, Option.getD_some, List.setIfInBounds_toArray, List.set_cons_zero, List.set_cons_succ])
            | (refine wk_assign _ (by first | exact wanted_none rfl | exact wanted_yes _ _ rfl rfl) rfl ?_; simp only [Act.put, Act.eval, Array.getD_eq_getD_getElem?, List.getElem?_toArray, List.getElem?_cons_succ, List.getElem?_cons_zero, Option.getD_some, List.setIfInBounds_toArray, List.set_cons_zero, List.set_cons_succ])
            | (refine wk_pickt _ _ _ _ (by first | exact wanted_none rfl | exact wanted_yes _ _ rfl rfl) rfl rfl rfl ?_; simp only [Act.put, Act.eval, Array.getD_eq_getD_getElem?, List.getElem?_toArray, List.getElem?_cons_succ, List.getElem?_cons_zero, Option.getD_some, List.setIfInBounds_toArray, List.set_cons_zero, List.set_cons_succ])
            | (refine wk_pickf _ _ _ _ (by first | exact wanted_none rfl | exact wanted_yes _ _ rfl rfl) rfl rfl rfl ?_; simp only [Act.put, Act.eval, Array.getD_eq_getD_getElem?, List.getElem?_toArray, List.getElem?_cons_succ, List.getElem?_cons_zero, Option.getD_some, List.setIfInBounds_toArray, List.set_cons_zero, List.set_cons_succ])
            | (refine wk_skip (wanted_not _ true false rfl rfl rfl) ?_; simp only [Act.put, List.setIfInBounds_toArray, List.set_cons_zero, List.set_cons_succ])
            | (refine wk_skip (wanted_not _ false true rfl rfl rfl) ?_; simp only [Act.put, List.setIfInBounds_toArray, List.set_cons_zero, List.set_cons_succ])
            | (refine wk_skip (wanted_undef _ _ rfl rfl) ?_; simp only [Act.put, List.setIfInBounds_toArray, List.set_cons_zero, List.set_cons_succ])
            | (refine wk_not true _ _ (by first | exact wanted_none rfl | exact wanted_yes _ _ rfl rfl) rfl rfl ?_; simp only [Act.put, List.setIfInBounds_toArray, List.set_cons_zero, List.set_cons_succ])
            | (refine wk_not false _ _ (by first | exact wanted_none rfl | exact wanted_yes _ _ rfl rfl) rfl rfl ?_; simp only [Act.put, List.setIfInBounds_toArray, List.set_cons_zero, List.set_cons_succ]))
          refine wk_index _ _ _ _ _ _ (m) _ (k) 1 .i64 (by kernel_rfl) rfl Tryd.underlying74 sizeOfU32 rfl rfl (by omega) ?_
          simp only [Act.put, List.setIfInBounds_toArray, List.set_cons_zero, List.set_cons_succ, Nat.mul_one, Nat.zero_add]
          refine wk_load1 _ _ _ _ _ rfl (by kernel_rfl) rfl rfl (fun w' hC => C2.out w' hC) Tryd.underlying52 ?_
          simp only [Act.put, List.setIfInBounds_toArray, List.set_cons_zero, List.set_cons_succ]
          refine wk_cmp_int .neq (false) _ _ _ _ _ _ _ (by kernel_rfl) rfl rfl rfl (by simp [cmpInt]) ?_
          simp only [Act.put, List.setIfInBounds_toArray, List.set_cons_zero, List.set_cons_succ]
          refine wk_nil ?_
          intro w' hC
          have HB2 : Hid (Below w.heap.size w w') := Lib.hid (HBR.out.trans (Below.mono hC HBR.out.size))
          clear hC
          go_wp2_with fail
          exact ⟨⟨k + 1, by omega, by go_num, HTT.out, HB2.out⟩, by simp [intOf]; omega⟩
        · have HFF := Lib.hid (HF.out hpq)
          have HPQ : Hid ((((p : Int)) != (q : Int)) = true) := Lib.hid (by
            have : ¬ (p : Int) = (q : Int) := by omega
            simp [this])
          clear hpq
          go_upto_region 6 with (fail)
          refine wk_region_since (by kernel_rfl) (by kernel_rfl) ?_
          repeat (first
            | (refine wk_move _ (by first | exact wanted_none rfl | exact wanted_yes _ _ rfl rfl) rfl ?_; simp only [Act.put, Act.eval, Array.getD_eq_getD_getElem?, List.getElem?_toArray, List.getElem?_cons_succ, List.getElem?_cons_zero, Option.getD_some, List.setIfInBounds_toArray, List.set_cons_zero, List.set_cons_succ])
            | (refine wk_assign _ (by first | exact wanted_none rfl | exact wanted_yes _ _ rfl rfl) rfl ?_; simp only [Act.put, Act.eval, Array.getD_eq_getD_getElem?, List.getElem?_toArray, List.getElem?_cons_succ, List.getElem?_cons_zero, Option.getD_some, List.setIfInBounds_toArray, List.set_cons_zero, List.set_cons_succ])
            | (refine wk_pickt _ _ _ _ (by first | exact wanted_none rfl | exact wanted_yes _ _ rfl rfl) rfl rfl rfl ?_; simp only [Act.put, Act.eval, Array.getD_eq_getD_getElem?, List.getElem?_toArray, List.getElem?_cons_succ, List.getElem?_cons_zero, Option.getD_some, List.setIfInBounds_toArray, List.set_cons_zero, List.set_cons_succ])
            | (refine wk_pickf _ _ _ _ (by first | exact wanted_none rfl | exact wanted_yes _ _ rfl rfl) rfl rfl rfl ?_; simp only [Act.put, Act.eval, Array.getD_eq_getD_getElem?, List.getElem?_toArray, List.getElem?_cons_succ, List.getElem?_cons_zero, Option.getD_some, List.setIfInBounds_toArray, List.set_cons_zero, List.set_cons_succ])
            | (refine wk_skip (wanted_not _ true false rfl rfl rfl) ?_; simp only [Act.put, List.setIfInBounds_toArray, List.set_cons_zero, List.set_cons_succ])
            | (refine wk_skip (wanted_not _ false true rfl rfl rfl) ?_; simp only [Act.put, List.setIfInBounds_toArray, List.set_cons_zero, List.set_cons_succ])
            | (refine wk_skip (wanted_undef _ _ rfl rfl) ?_; simp only [Act.put, List.setIfInBounds_toArray, List.set_cons_zero, List.set_cons_succ])
            | (refine wk_not true _ _ (by first | exact wanted_none rfl | exact wanted_yes _ _ rfl rfl) rfl rfl ?_; simp only [Act.put, List.setIfInBounds_toArray, List.set_cons_zero, List.set_cons_succ])
            | (refine wk_not false _ _ (by first | exact wanted_none rfl | exact wanted_yes _ _ rfl rfl) rfl rfl ?_; simp only [Act.put, List.setIfInBounds_toArray, List.set_cons_zero, List.set_cons_succ]))
          refine wk_index _ _ _ _ _ _ (m) _ (k) 1 .i64 (by kernel_rfl) rfl Tryd.underlying74 sizeOfU32 rfl rfl (by omega) ?_
          simp only [Act.put, List.setIfInBounds_toArray, List.set_cons_zero, List.set_cons_succ, Nat.mul_one, Nat.zero_add]
          refine wk_load1 _ _ _ _ _ rfl (by kernel_rfl) rfl rfl (fun w' hC => C1.out w' hC) Tryd.underlying52 ?_
          simp only [Act.put, List.setIfInBounds_toArray, List.set_cons_zero, List.set_cons_succ]
          repeat (first
            | (refine wk_move _ (by first | exact wanted_none rfl | exact wanted_yes _ _ rfl rfl) rfl ?_; simp only [Act.put, Act.eval, Array.getD_eq_getD_getElem?, List.getElem?_toArray, List.getElem?_cons_succ, List.getElem?_cons_zero, Option.getD_some, List.setIfInBounds_toArray, List.set_cons_zero, List.set_cons_succ])
            | (refine wk_assign _ (by first | exact wanted_none rfl | exact wanted_yes _ _ rfl rfl) rfl ?_; simp only [Act.put, Act.eval, Array.getD_eq_getD_getElem?, List.getElem?_toArray, List.getElem?_cons_succ, List.getElem?_cons_zero, Option.getD_some, List.setIfInBounds_toArray, List.set_cons_zero, List.set_cons_succ])
            | (refine wk_pickt _ _ _ _ (by first | exact wanted_none rfl | exact wanted_yes _ _ rfl rfl) rfl rfl rfl ?_; simp only [Act.put, Act.eval, Array.getD_eq_getD_getElem?, List.getElem?_toArray, List.getElem?_cons_succ, List.getElem?_cons_zero, Option.getD_some, List.setIfInBounds_toArray, List.set_cons_zero, List.set_cons_succ])
            | (refine wk_pickf _ _ _ _ (by first | exact wanted_none rfl | exact wanted_yes _ _ rfl rfl) rfl rfl rfl ?_; simp only [Act.put, Act.eval, Array.getD_eq_getD_getElem?, List.getElem?_toArray, List.getElem?_cons_succ, List.getElem?_cons_zero, Option.getD_some, List.setIfInBounds_toArray, List.set_cons_zero, List.set_cons_succ])
            | (refine wk_skip (wanted_not _ true false rfl rfl rfl) ?_; simp only [Act.put, List.setIfInBounds_toArray, List.set_cons_zero, List.set_cons_succ])
            | (refine wk_skip (wanted_not _ false true rfl rfl rfl) ?_; simp only [Act.put, List.setIfInBounds_toArray, List.set_cons_zero, List.set_cons_succ])
            | (refine wk_skip (wanted_undef _ _ rfl rfl) ?_; simp only [Act.put, List.setIfInBounds_toArray, List.set_cons_zero, List.set_cons_succ])
            | (refine wk_not true _ _ (by first | exact wanted_none rfl | exact wanted_yes _ _ rfl rfl) rfl rfl ?_; simp only [Act.put, List.setIfInBounds_toArray, List.set_cons_zero, List.set_cons_succ])
            | (refine wk_not false _ _ (by first | exact wanted_none rfl | exact wanted_yes _ _ rfl rfl) rfl rfl ?_; simp only [Act.put, List.setIfInBounds_toArray, List.set_cons_zero, List.set_cons_succ]))
          refine wk_index _ _ _ _ _ _ (m) _ (k) 1 .i64 (by kernel_rfl) rfl Tryd.underlying74 sizeOfU32 rfl rfl (by omega) ?_
          simp only [Act.put, List.setIfInBounds_toArray, List.set_cons_zero, List.set_cons_succ, Nat.mul_one, Nat.zero_add]
          refine wk_load1 _ _ _ _ _ rfl (by kernel_rfl) rfl rfl (fun w' hC => C2.out w' hC) Tryd.underlying52 ?_
          simp only [Act.put, List.setIfInBounds_toArray, List.set_cons_zero, List.set_cons_succ]
          refine wk_cmp_int .neq (true) _ _ _ _ _ _ _ (by kernel_rfl) rfl rfl rfl (by rw [cmpInt, HPQ.out]) ?_
          simp only [Act.put, List.setIfInBounds_toArray, List.set_cons_zero, List.set_cons_succ]
          refine wk_nil ?_
          intro w' hC
          have HB2 : Hid (Below w.heap.size w w') := Lib.hid (HBR.out.trans (Below.mono hC HBR.out.size))
          clear hC
          go_wp2_with fail
          go_ret
          exact ⟨by rw [HFF.out]; rfl, HB2.out⟩
      · obtain rfl : k = m := by omega
        have HFF : Hid (decide (x = y) = true) := Lib.hid (by
          have := HEQ.out
          rw [List.take_of_length_le (by rw [← HM.out]; exact Nat.le_refl _), List.take_of_length_le (by rw [← HN.out]; exact Nat.le_refl _)] at this
          simp [this])
        go_wp2_with fail
        go_ret
        exact ⟨by rw [HFF.out]; rfl, HBR.out⟩
  · have HFF : Hid (decide (x = y) = false) := Lib.hid (by
      rw [decide_eq_false_iff_not]
      intro e
      exact hmn (by rw [HM.out, HN.out, e]))
    go_enter Tryd.func38, Tryd.ntmps38
    go_wp2_with fail
    go_ret
    exact ⟨by rw [HFF.out]; rfl, Below.refl _ _⟩
end Go.Proofs.YtnhfkmfmmgaecaaDoor
