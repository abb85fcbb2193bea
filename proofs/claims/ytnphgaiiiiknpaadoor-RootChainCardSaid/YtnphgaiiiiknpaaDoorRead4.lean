/- The field layer's reader: Num; the library's Trim at one byte; blank, End, Open. The field layer's reader: the library's Trim at the byte zero; blank, End, Open. -/
import Derived.Test.YtnphgaiiiiknpaaDoorRead
import Derived.Test.YtnphgaiiiiknpaaDoorField
namespace Go.Proofs.YtnphgaiiiiknpaaDoor
open Go.RowKit
set_option linter.unusedSimpArgs false
set_option maxRecDepth 100000
theorem rnum_ok (w : World) (g gb : Nat) (b : List UInt8) (i n : Nat) (hr : ReaderAt w g gb b i true) (hn : n = 1 ∨ n = 2 ∨ n = 4 ∨ n = 8) (hf : i + n ≤ 252) :
    Calls Tryd.prog 64 #[.pointer (some ⟨g, 0, none⟩), .int .i64 (n : Int)] w fun e w' => e = .returned (.int .u64 (num (seg b i n) : Int)) ∧ ReaderAt w' g gb b (i + n) true ∧ w.grownBy w' (some g) := by
  have HR := Lib.hid hr
  have HN := Lib.hid hn
  have h1 : 1 ≤ n := by omega
  have h8 : n ≤ 8 := by omega
  clear hr hn
  go_enter Tryd.func64, Tryd.ntmps64
  go_wp2_with (go_at_call 69; refine (width_any _ _ HN.out).mono ?_; rintro e w1 ⟨rfl, rfl⟩)
  refine (take_ok _ _ _ _ _ _ HR.out h1 h8 hf).mono ?_
  rintro e w1 ⟨rfl, hr1, hg1⟩
  have HR1 := Lib.hid hr1
  have HG1 := Lib.hid hg1
  clear hr1 hg1
  go_wp2_with fail
  go_ret
  exact ⟨rfl, HR1.out, HG1.out⟩
theorem rnum_no (w : World) (g gb : Nat) (b : List UInt8) (i n : Nat) (hr : ReaderAt w g gb b i false) (hn : n = 1 ∨ n = 2 ∨ n = 4 ∨ n = 8) :
    Calls Tryd.prog 64 #[.pointer (some ⟨g, 0, none⟩), .int .i64 (n : Int)] w fun e w' => e = .returned (.int .u64 0) ∧ ReaderAt w' g gb b i false ∧ w.grownBy w' (some g) := by
  have HR := Lib.hid hr
  have HN := Lib.hid hn
  have h8 : n ≤ 256 := by omega
  clear hr hn
  go_enter Tryd.func64, Tryd.ntmps64
  go_wp2_with (go_at_call 69; refine (width_any _ _ HN.out).mono ?_; rintro e w1 ⟨rfl, rfl⟩)
  refine (take_fail _ _ _ _ _ _ false true HR.out h8 rfl).mono ?_
  rintro e w1 ⟨rfl, hr1, hg1⟩
  have HR1 := Lib.hid hr1
  have HG1 := Lib.hid hg1
  clear hr1 hg1
  go_wp2_with fail
  go_ret
  exact ⟨rfl, HR1.out, HG1.out⟩
/-- Bytes of a block in memory, from a place on. -/
def BytesAt (w : World) (gb off : Nat) (l : List UInt8) : Prop := ∀ i, i < l.length → w.cell? ⟨gb, off + i, none⟩ = l[i]?.map vu8
/-- How many of the first n bytes are left without the zeros at their end. -/
def rlen (l : List UInt8) : Nat → Nat
  | 0 => 0
  | n + 1 => if l[n]? = some 0 then rlen l n else n + 1
theorem rlen_le (l : List UInt8) (n : Nat) : rlen l n ≤ n := by
  induction n with
  | zero => simp [rlen]
  | succ n ih => unfold rlen; split <;> omega
theorem rlen_last (l : List UInt8) (n : Nat) (h : 0 < rlen l n) : l[rlen l n - 1]? ≠ some 0 := by
  induction n with
  | zero => simp [rlen] at h
  | succ n ih =>
    unfold rlen at h ⊢
    split
    · rename_i h0; rw [if_pos h0] at h; exact ih h
    · rename_i h0; simpa using h0
theorem rlen_zero (l : List UInt8) (n : Nat) : rlen l n = 0 ↔ ∀ i, i < n → l[i]? = some 0 := by
  induction n with
  | zero => simp [rlen]
  | succ n ih =>
    unfold rlen
    split
    · rename_i h0
      rw [ih]
      constructor
      · intro h i hi
        by_cases he : i = n
        · subst he; exact h0
        · exact h i (by omega)
      · intro h i hi; exact h i (by omega)
    · rename_i h0
      constructor
      · intro h; omega
      · intro h; exact absurd (h n (by omega)) h0
/-- How many of the first bytes are zeros. -/
def zlen (l : List UInt8) : Nat := (l.takeWhile (· = 0)).length
theorem zlen_of : ∀ (l : List UInt8) (j : Nat), (∀ i, i < j → l[i]? = some 0) → (h : j < l.length) → l[j] ≠ 0 → zlen l = j
  | [], j, _, h, _ => by simp at h
  | x :: l, 0, _, _, hx => by
    have : ¬ x = 0 := by simpa using hx
    simp [zlen, List.takeWhile_cons, this]
  | x :: l, j + 1, hz, h, hx => by
    have h0 : x = 0 := by have := hz 0 (by omega); simpa using this
    have ih := zlen_of l j (fun i hi => by have := hz (i + 1) (by omega); simpa using this) (by simpa using h) (by simpa using hx)
    unfold zlen at ih ⊢
    simp [List.takeWhile_cons, h0, ih]
theorem trimRight_any (w : World) (gb off c : Nat) (l : List UInt8) (hl : l.length ≤ 256) (hc : l.length ≤ c) (hb : BytesAt w gb off l) :
    Calls Tryd.prog 83 #[.slice (some ⟨gb, off, none⟩) l.length c, .int .u8 0] w fun e w' => e = .returned (.slice (some ⟨gb, off, none⟩) (rlen l l.length) c) ∧ w = w' := by
  have HB := Lib.hid hb
  obtain ⟨n, hn⟩ : ∃ n, n = l.length := ⟨_, rfl⟩
  rw [← hn] at hl hc ⊢
  obtain ⟨R, hR⟩ : ∃ R, R = rlen l n := ⟨_, rfl⟩
  rw [← hR]
  have HR := Lib.hid hR
  have HN := Lib.hid hn
  clear hb hn hR
  go_enter Tryd.func83, Tryd.ntmps83
  go_wp2_with fail
  go_loop [0] (fun v => ∃ m : Nat, m ≤ n ∧ rlen l m = R ∧ v = .slice (some ⟨gb, off, none⟩) m c) (fun v => match v with | .slice _ m _ => m | _ => 0)
  case atStart => exact ⟨n, by omega, HR.out.symm, rfl⟩
  case round =>
    obtain ⟨m, hm, hz, rfl⟩ := hrel
    have HZ := Lib.hid hz
    clear hz
    by_cases h0 : 0 < m
    · have hml : m - 1 < l.length := by rw [← HN.out]; omega
      have h1 : w.cell? ⟨gb, off + (m - 1), none⟩ = some (.int .u8 (l[m - 1].toNat : Int)) := by rw [HB.out _ hml, List.getElem?_eq_getElem hml]; rfl
      obtain ⟨x, hx⟩ : ∃ x, x = l[m - 1] := ⟨_, rfl⟩
      rw [← hx] at h1
      have HX := Lib.hid hx
      clear hx
      have hmi : ((m : Int) - 1) = ((m - 1 : Nat) : Int) := by omega
      by_cases hx0 : x = 0
      · subst hx0
        go_wp2_with fail
        go_round
        case rel => exact ⟨m - 1, by omega, by
          obtain ⟨q, rfl⟩ : ∃ q, m = q + 1 := ⟨m - 1, by omega⟩
          have h2 := HZ.out
          simp only [Nat.add_sub_cancel] at hml HX ⊢
          rw [rlen, if_pos (by rw [List.getElem?_eq_getElem hml, ← HX.out])] at h2
          exact h2, rfl⟩
        case measure => simp; omega
      · have hx1 : ((x.toNat : Int) == 0) = false := by
          have : ¬ x.toNat = 0 := fun e => hx0 (UInt8.toNat_inj.1 (by simpa using e))
          simp [this]
        go_wp2_with fail
        go_ret
        have hRm : R = m := by
          obtain ⟨q, rfl⟩ : ∃ q, m = q + 1 := ⟨m - 1, by omega⟩
          have h2 := HZ.out
          simp only [Nat.add_sub_cancel] at hml HX
          rw [rlen, if_neg (fun e => hx0 (by rw [List.getElem?_eq_getElem hml, ← HX.out] at e; exact Option.some.inj e))] at h2
          exact h2.symm
        exact ⟨by rw [hRm]; rfl, rfl⟩
    · obtain rfl : m = 0 := by omega
      go_wp2_with fail
      go_ret
      exact ⟨by rw [← HZ.out]; rfl, rfl⟩
def ZeroTo (l : List UInt8) (j : Nat) : Prop := ∀ i, i < j → l[i]? = some 0
/-- What trimLeftByte answers. -/
def leftV (gb off n c : Nat) (l : List UInt8) : Value := if n = 0 then .slice none 0 0 else .slice (some ⟨gb, off + zlen l, none⟩) (n - zlen l) (c - zlen l)
theorem trimLeft_any (w : World) (gb off c n : Nat) (l : List UInt8) (hl : l.length ≤ 256) (hnl : n ≤ l.length) (hc : n ≤ c) (hc2 : c ≤ 256) (hb : BytesAt w gb off l) (hz : 0 < n → l[n - 1]? ≠ some 0) :
    Calls Tryd.prog 82 #[.slice (some ⟨gb, off, none⟩) n c, .int .u8 0] w fun e w' => e = .returned (leftV gb off n c l) ∧ w = w' := by
  have HB := Lib.hid hb
  have HZ := Lib.hid hz
  clear hb hz
  go_enter Tryd.func82, Tryd.ntmps82
  go_wp2_with fail
  go_loop [0] (fun v => ∃ j : Nat, (j < n ∨ j = 0) ∧ ZeroTo l j ∧ v = .slice (some ⟨gb, off + j, none⟩) (n - j) (c - j)) (fun v => match v with | .slice _ m _ => m | _ => 0)
  case atStart => exact ⟨0, .inr rfl, fun i hi => by omega, rfl⟩
  case round =>
    obtain ⟨j, hj, hzj, rfl⟩ := hrel
    have HZJ := Lib.hid hzj
    clear hzj
    by_cases h0 : n = 0
    · subst h0
      obtain rfl : j = 0 := by omega
      go_wp2_with fail
      go_ret
      exact ⟨rfl, rfl⟩
    · have hjn : j < n := by omega
      have hjl : j < l.length := by omega
      have h1 : w.cell? ⟨gb, off + j, none⟩ = some (.int .u8 (l[j].toNat : Int)) := by rw [HB.out _ hjl, List.getElem?_eq_getElem hjl]; rfl
      obtain ⟨x, hx⟩ : ∃ x, x = l[j] := ⟨_, rfl⟩
      rw [← hx] at h1
      have HX := Lib.hid hx
      clear hx
      have hlen0 : 0 < n - j := by omega
      by_cases hx0 : x = 0
      · have hj1 : j + 1 < n := by
          apply Classical.byContradiction
          intro hh
          have he : j = n - 1 := by omega
          refine HZ.out (by omega) ?_
          rw [← he, List.getElem?_eq_getElem hjl, ← HX.out, hx0]
        subst hx0
        obtain ⟨p, hp⟩ : ∃ p, p = n - j := ⟨_, rfl⟩
        obtain ⟨q, hq⟩ : ∃ q, q = c - j := ⟨_, rfl⟩
        rw [← hp, ← hq]
        have hp2 : 2 ≤ p := by omega
        have hpq : p ≤ q := by omega
        have hq2 : q ≤ 256 := by omega
        have hq1 : ¬ q = 1 := by omega
        have HP := Lib.hid hp
        have HQ := Lib.hid hq
        clear hp hq
        go_wp2_with fail
        go_round
        case rel => exact ⟨j + 1, .inl hj1, fun i hi => by
          by_cases he : i = j
          · subst he; rw [List.getElem?_eq_getElem hjl, ← HX.out]
          · exact HZJ.out i (by omega), by rw [HP.out, HQ.out, show n - (j + 1) = n - j - 1 by omega, show c - (j + 1) = c - j - 1 by omega]; rfl⟩
        case measure => simp; omega
      · have hx1 : ((x.toNat : Int) == 0) = false := by
          have : ¬ x.toNat = 0 := fun e => hx0 (UInt8.toNat_inj.1 (by simpa using e))
          simp [this]
        have hnj : n - j ≤ 256 := by omega
        have hne : ¬ n - j = 0 := by omega
        obtain ⟨p, hp⟩ : ∃ p, p = n - j := ⟨_, rfl⟩
        rw [← hp] at hnj hne hlen0 ⊢
        have HPP := Lib.hid hp
        clear hp
        go_wp2_with fail
        go_ret
        exact ⟨by rw [leftV, if_neg h0, zlen_of l j HZJ.out hjl (by rw [← HX.out]; exact hx0), ← HPP.out]; rfl, rfl⟩
end Go.Proofs.YtnphgaiiiiknpaaDoor
namespace Go.Proofs.YtnphgaiiiiknpaaDoor
open Go.RowKit
set_option linter.unusedSimpArgs false
set_option maxRecDepth 100000
theorem BytesAt.since {w w' : World} {gb off : Nat} {l : List UInt8} (h : BytesAt w gb off l) (hC : Since w w') : BytesAt w' gb off l := fun i hi => by
  have h1 := h i hi
  rw [List.getElem?_eq_getElem hi] at h1 ⊢
  exact hC.cell h1
theorem zlen_zero : ∀ (l : List UInt8) (i : Nat), i < zlen l → l[i]? = some 0
  | [], i, h => by simp [zlen] at h
  | x :: l, i, h => by
    unfold zlen at h
    rw [List.takeWhile_cons] at h
    by_cases hx : x = 0
    · simp only [hx, decide_true, if_true, List.length_cons] at h
      cases i with
      | zero => simp [hx]
      | succ i => simpa using zlen_zero l i (by unfold zlen; omega)
    · simp [hx] at h
theorem zlen_lt (l : List UInt8) (n : Nat) (h0 : 0 < n) (h : l[n - 1]? ≠ some 0) : zlen l < n := by
  apply Classical.byContradiction
  intro hh
  exact h (zlen_zero l (n - 1) (by omega))
def trimV (gb off c : Nat) (l : List UInt8) : Value := if l.length = 0 then .slice none 0 0 else leftV gb off (rlen l l.length) c l
theorem trim_any (w : World) (gb off c : Nat) (l : List UInt8) (hl : l.length ≤ 256) (hc : l.length ≤ c) (hc2 : c ≤ 256) (hb : BytesAt w gb off l) :
    Calls Tryd.prog 80 #[.slice (some ⟨gb, off, none⟩) l.length c, .string ⟨#[0]⟩] w fun e w' => e = .returned (trimV gb off c l) ∧ Below w.heap.size w w' := by
  have HB := Lib.hid hb
  obtain ⟨n, hn⟩ : ∃ n, n = l.length := ⟨_, rfl⟩
  have HN := Lib.hid hn
  have HV : Hid (trimV gb off c l = if n = 0 then .slice none 0 0 else leftV gb off (rlen l n) c l) := Lib.hid (by rw [hn]; rfl)
  have HR := Lib.hid (fun w' (h : BytesAt w' gb off l) => trimRight_any w' gb off c l hl hc h)
  have HL := Lib.hid (fun w' (h : BytesAt w' gb off l) => trimLeft_any w' gb off c (rlen l l.length) l hl (rlen_le _ _) (Nat.le_trans (rlen_le _ _) hc) hc2 h (fun h0 => rlen_last l _ h0))
  rw [← hn] at HR HL hl hc ⊢
  clear hb hn
  by_cases h0 : n = 0
  · subst h0
    rw [HV.out]
    go_enter Tryd.func80, Tryd.ntmps80
    go_wp2_with fail
    go_ret
    exact ⟨rfl, Below.refl _ _⟩
  · rw [HV.out, if_neg h0]
    have h1 : ((n : Int) == 0) = false := by
      simp [h0]
    go_enter Tryd.func80, Tryd.ntmps80
    go_wp2_with fail
    refine wk_region_since (by kernel_rfl) (by kernel_rfl) ?_
    repeat (first
      | (refine wk_move _ (by first | exact wanted_none rfl | exact wanted_yes _ _ rfl rfl) rfl ?_; simp only [Act.put, Act.eval, Array.getD_eq_getD_getElem?, List.getElem?_toArray, List.getElem?_cons_succ, List.getElem?_cons_zero, Option.getD_some, List.setIfInBounds_toArray, List.set_cons_zero, List.set_cons_succ])
      | (refine wk_assign _ (by first | exact wanted_none rfl | exact wanted_yes _ _ rfl rfl) rfl ?_; simp only [Act.put, Act.eval, Array.getD_eq_getD_getElem?, List.getElem?_toArray, List.getElem?_cons_succ, List.getElem?_cons_zero, Option.getD_some, List.setIfInBounds_toArray, List.set_cons_zero, List.set_cons_succ])
      | (refine wk_pickt _ _ _ _ (by first | exact wanted_none rfl | exact wanted_yes _ _ rfl rfl) rfl rfl rfl ?_; simp only [Act.put, Act.eval, Array.getD_eq_getD_getElem?, List.getElem?_toArray, List.getElem?_cons_succ, List.getElem?_cons_zero, Option.getD_some, List.setIfInBounds_toArray, List.set_cons_zero, List.set_cons_succ])
      | (refine wk_pickf _ _ _ _ (by first | exact wanted_none rfl | exact wanted_yes _ _ rfl rfl) rfl rfl rfl ?_; simp only [Act.put, Act.eval, Array.getD_eq_getD_getElem?, List.getElem?_toArray, List.getElem?_cons_succ, List.getElem?_cons_zero, Option.getD_some, List.setIfInBounds_toArray, List.set_cons_zero, List.set_cons_succ])
      | (refine wk_skip (wanted_not _ true false rfl rfl rfl) ?_; simp only [Act.put, List.setIfInBounds_toArray, List.set_cons_zero, List.set_cons_succ])
      | (refine wk_skip (wanted_not _ false true rfl rfl rfl) ?_; simp only [Act.put, List.setIfInBounds_toArray, List.set_cons_zero, List.set_cons_succ])
      | (refine wk_skip (wanted_undef _ _ rfl rfl) ?_; simp only [Act.put, List.setIfInBounds_toArray, List.set_cons_zero, List.set_cons_succ])
      | (refine wk_not true _ _ (by first | exact wanted_none rfl | exact wanted_yes _ _ rfl rfl) rfl rfl ?_; simp only [Act.put, List.setIfInBounds_toArray, List.set_cons_zero, List.set_cons_succ])
      | (refine wk_not false _ _ (by first | exact wanted_none rfl | exact wanted_yes _ _ rfl rfl) rfl rfl ?_; simp only [Act.put, List.setIfInBounds_toArray, List.set_cons_zero, List.set_cons_succ]))
    refine wk_index_str _ _ _ ⟨#[0]⟩ .i64 0 0 (by kernel_rfl) rfl Tryd.underlying9 rfl rfl rfl ?_
    simp only [Act.put, List.setIfInBounds_toArray, List.set_cons_zero, List.set_cons_succ]
    refine wk_call 83 _ _ _ _ _ (by kernel_rfl) rfl Tryd.func83 rfl (by kernel_rfl) (fun w' hC => hC.same (HR.out w' (HB.out.since hC))) ?_
    simp only [Act.put, List.setIfInBounds_toArray, List.set_cons_zero, List.set_cons_succ]
    repeat (first
      | (refine wk_move _ (by first | exact wanted_none rfl | exact wanted_yes _ _ rfl rfl) rfl ?_; simp only [Act.put, Act.eval, Array.getD_eq_getD_getElem?, List.getElem?_toArray, List.getElem?_cons_succ, List.getElem?_cons_zero, Option.getD_some, List.setIfInBounds_toArray, List.set_cons_zero, List.set_cons_succ])
      | (refine wk_assign _ (by first | exact wanted_none rfl | exact wanted_yes _ _ rfl rfl) rfl ?_; simp only [Act.put, Act.eval, Array.getD_eq_getD_getElem?, List.getElem?_toArray, List.getElem?_cons_succ, List.getElem?_cons_zero, Option.getD_some, List.setIfInBounds_toArray, List.set_cons_zero, List.set_cons_succ])
      | (refine wk_pickt _ _ _ _ (by first | exact wanted_none rfl | exact wanted_yes _ _ rfl rfl) rfl rfl rfl ?_; simp only [Act.put, Act.eval, Array.getD_eq_getD_getElem?, List.getElem?_toArray, List.getElem?_cons_succ, List.getElem?_cons_zero, Option.getD_some, List.setIfInBounds_toArray, List.set_cons_zero, List.set_cons_succ])
      | (refine wk_pickf _ _ _ _ (by first | exact wanted_none rfl | exact wanted_yes _ _ rfl rfl) rfl rfl rfl ?_; simp only [Act.put, Act.eval, Array.getD_eq_getD_getElem?, List.getElem?_toArray, List.getElem?_cons_succ, List.getElem?_cons_zero, Option.getD_some, List.setIfInBounds_toArray, List.set_cons_zero, List.set_cons_succ])
      | (refine wk_skip (wanted_not _ true false rfl rfl rfl) ?_; simp only [Act.put, List.setIfInBounds_toArray, List.set_cons_zero, List.set_cons_succ])
      | (refine wk_skip (wanted_not _ false true rfl rfl rfl) ?_; simp only [Act.put, List.setIfInBounds_toArray, List.set_cons_zero, List.set_cons_succ])
      | (refine wk_skip (wanted_undef _ _ rfl rfl) ?_; simp only [Act.put, List.setIfInBounds_toArray, List.set_cons_zero, List.set_cons_succ])
      | (refine wk_not true _ _ (by first | exact wanted_none rfl | exact wanted_yes _ _ rfl rfl) rfl rfl ?_; simp only [Act.put, List.setIfInBounds_toArray, List.set_cons_zero, List.set_cons_succ])
      | (refine wk_not false _ _ (by first | exact wanted_none rfl | exact wanted_yes _ _ rfl rfl) rfl rfl ?_; simp only [Act.put, List.setIfInBounds_toArray, List.set_cons_zero, List.set_cons_succ]))
    refine wk_index_str _ _ _ ⟨#[0]⟩ .i64 0 0 (by kernel_rfl) rfl Tryd.underlying9 rfl rfl rfl ?_
    simp only [Act.put, List.setIfInBounds_toArray, List.set_cons_zero, List.set_cons_succ]
    refine wk_call 82 _ _ _ _ _ (by kernel_rfl) rfl Tryd.func82 rfl (by kernel_rfl) (fun w' hC => hC.same (HL.out w' (HB.out.since hC))) ?_
    simp only [Act.put, List.setIfInBounds_toArray, List.set_cons_zero, List.set_cons_succ]
    repeat (first
      | (refine wk_move _ (by first | exact wanted_none rfl | exact wanted_yes _ _ rfl rfl) rfl ?_; simp only [Act.put, Act.eval, Array.getD_eq_getD_getElem?, List.getElem?_toArray, List.getElem?_cons_succ, List.getElem?_cons_zero, Option.getD_some, List.setIfInBounds_toArray, List.set_cons_zero, List.set_cons_succ])
      | (refine wk_assign _ (by first | exact wanted_none rfl | exact wanted_yes _ _ rfl rfl) rfl ?_; simp only [Act.put, Act.eval, Array.getD_eq_getD_getElem?, List.getElem?_toArray, List.getElem?_cons_succ, List.getElem?_cons_zero, Option.getD_some, List.setIfInBounds_toArray, List.set_cons_zero, List.set_cons_succ])
      | (refine wk_pickt _ _ _ _ (by first | exact wanted_none rfl | exact wanted_yes _ _ rfl rfl) rfl rfl rfl ?_; simp only [Act.put, Act.eval, Array.getD_eq_getD_getElem?, List.getElem?_toArray, List.getElem?_cons_succ, List.getElem?_cons_zero, Option.getD_some, List.setIfInBounds_toArray, List.set_cons_zero, List.set_cons_succ])
      | (refine wk_pickf _ _ _ _ (by first | exact wanted_none rfl | exact wanted_yes _ _ rfl rfl) rfl rfl rfl ?_; simp only [Act.put, Act.eval, Array.getD_eq_getD_getElem?, List.getElem?_toArray, List.getElem?_cons_succ, List.getElem?_cons_zero, Option.getD_some, List.setIfInBounds_toArray, List.set_cons_zero, List.set_cons_succ])
      | (refine wk_skip (wanted_not _ true false rfl rfl rfl) ?_; simp only [Act.put, List.setIfInBounds_toArray, List.set_cons_zero, List.set_cons_succ])
      | (refine wk_skip (wanted_not _ false true rfl rfl rfl) ?_; simp only [Act.put, List.setIfInBounds_toArray, List.set_cons_zero, List.set_cons_succ])
      | (refine wk_skip (wanted_undef _ _ rfl rfl) ?_; simp only [Act.put, List.setIfInBounds_toArray, List.set_cons_zero, List.set_cons_succ])
      | (refine wk_not true _ _ (by first | exact wanted_none rfl | exact wanted_yes _ _ rfl rfl) rfl rfl ?_; simp only [Act.put, List.setIfInBounds_toArray, List.set_cons_zero, List.set_cons_succ])
      | (refine wk_not false _ _ (by first | exact wanted_none rfl | exact wanted_yes _ _ rfl rfl) rfl rfl ?_; simp only [Act.put, List.setIfInBounds_toArray, List.set_cons_zero, List.set_cons_succ]))
    refine wk_nil ?_
    intro w' hC
    have HC := Lib.hid hC
    clear hC
    go_wp2_with fail
    go_ret
    exact ⟨rfl, HC.out⟩
/-- Zeros alone? -/
def allZero (l : List UInt8) : Bool := l.all (· == 0)
theorem allZero_iff (l : List UInt8) : allZero l = true ↔ ∀ i, i < l.length → l[i]? = some 0 := by
  unfold allZero
  rw [List.all_eq_true]
  constructor
  · intro h i hi
    rw [List.getElem?_eq_getElem hi]
    have := h _ (List.getElem_mem hi)
    simpa using this
  · intro h x hx
    obtain ⟨i, hi, rfl⟩ := List.mem_iff_getElem.1 hx
    have := h i hi
    rw [List.getElem?_eq_getElem hi] at this
    simpa using this
theorem trimV_form (gb off c : Nat) (l : List UInt8) : ∃ a m d, trimV gb off c l = .slice a m d ∧ (m = 0 ↔ allZero l = true) ∧ m ≤ l.length := by
  have hz := rlen_zero l l.length
  have hle := rlen_le l l.length
  unfold trimV leftV
  split
  · rename_i h0
    exact ⟨_, _, _, rfl, ⟨fun _ => (allZero_iff l).2 (fun i hi => by omega), fun _ => rfl⟩, by omega⟩
  · split
    · rename_i h1
      exact ⟨_, _, _, rfl, ⟨fun _ => (allZero_iff l).2 (hz.1 h1), fun _ => rfl⟩, by omega⟩
    · rename_i h1
      have hlt := zlen_lt l _ (by omega) (rlen_last l l.length (by omega))
      exact ⟨_, _, _, rfl, ⟨fun e => by omega, fun e => absurd (hz.2 ((allZero_iff l).1 e)) h1⟩, by omega⟩
theorem blank_any (w : World) (gb off c : Nat) (l : List UInt8) (hl : l.length ≤ 256) (hc : l.length ≤ c) (hc2 : c ≤ 256) (hb : BytesAt w gb off l) :
    Calls Tryd.prog 76 #[.slice (some ⟨gb, off, none⟩) l.length c] w fun e w' => e = .returned (.bool (allZero l)) ∧ Below w.heap.size w w' := by
  have HT := Lib.hid (trim_any w gb off c l hl hc hc2 hb)
  obtain ⟨n, hn⟩ : ∃ n, n = l.length := ⟨_, rfl⟩
  obtain ⟨a, m, d, he, hm, hml⟩ := trimV_form gb off c l
  rw [he, ← hn] at HT
  rw [← hn] at hl hc hml ⊢
  have hm0 : m ≤ 256 := by omega
  obtain ⟨z, hz⟩ : ∃ z, z = allZero l := ⟨_, rfl⟩
  rw [← hz] at hm ⊢
  have HZ : Hid (((m : Int) == 0) = z) := Lib.hid (by
    rw [Bool.eq_iff_iff, ← hm]
    simp)
  clear hb hn he hm hz hml
  go_enter Tryd.func76, Tryd.ntmps76
  go_wp2_with fail
  refine HT.out.mono ?_
  rintro e w' ⟨rfl, hb⟩
  have HB := Lib.hid hb
  clear hb
  go_wp2_with fail
  go_ret
  exact ⟨by rw [← HZ.out]; rfl, HB.out⟩
end Go.Proofs.YtnphgaiiiiknpaaDoor
