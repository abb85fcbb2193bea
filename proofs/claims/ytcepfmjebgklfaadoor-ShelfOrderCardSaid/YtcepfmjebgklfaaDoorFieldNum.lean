/- The field layer's writer: Num puts a number's bytes, low byte first. -/
import Derived.Test.YtcepfmjebgklfaaDoorField
import Derived.ScopeJumps
import Derived.WalkMore
namespace Go.Proofs.YtcepfmjebgklfaaDoor
open Go.RowKit
set_option maxRecDepth 100000
set_option linter.unusedSimpArgs false
theorem vu8_of (x : Nat) : vu8 (UInt8.ofNat x) = .int .u8 ((x : Int) % 256) := by simp [vu8, UInt8.toNat_ofNat']
theorem news_one (w : World) (v : Value) (t : TypeId) : ∀ (j : Nat) (u : Value), [v][j]? = some u → (w.alloc (.cells #[v] t)).cell? ((⟨w.heap.size, 0, none⟩ : Addr).add j) = some u := by
  intro j u hu
  cases j with
  | zero => rw [show (⟨w.heap.size, 0, none⟩ : Addr).add 0 = ⟨w.heap.size, 0, none⟩ from rfl, cell_of_row _ _ 0 _ _ _ (heap_alloc_new w _)]; exact hu
  | succ j => simp at hu
theorem own_form {w : World} {base : Nat} {e : TypeId} {size : Nat} {v : Value} {n : Nat} {xs : List Value} (h : w.ownsRow base e size v n xs) : ∃ a m c, v = .slice a m c := by
  rcases h.2 with ⟨rfl, _⟩ | ⟨g, cap, cur, rfl, _⟩
  · exact ⟨_, _, _, rfl⟩
  · exact ⟨_, _, _, rfl⟩
set_option maxRecDepth 100000 in
set_option maxHeartbeats 400000 in
theorem num_any (w : World) (base g : Nat) (X : List Nat) (bad : Bool) (L : List UInt8) (x n : Nat) (hn : n = 1 ∨ n = 2 ∨ n = 4 ∨ n = 8) (hL : L.length + n ≤ 100000) (hx : x < 2 ^ 64) (hw : WriterAt w base g X bad L) :
    Calls Tryd.prog 38 #[.pointer (some ⟨g, 0, none⟩), .int .u64 (x : Int), .int .i64 (n : Int)] w fun e w' => e = .returned (.tuple #[]) ∧ WriterAt w' base g X bad (L ++ lows x n) ∧ Leaves base X w w' := by
  have HW := Lib.hid hw
  have HN := Lib.hid hn
  have hn8 : n ≤ 8 := by omega
  have hn1 : 1 ≤ n := by omega
  clear hw hn
  go_enter Tryd.func38, Tryd.ntmps38
  go_wp2
  obtain ⟨i0, hi, hz0, hz1, hz2⟩ := info_parts infoU8
  refine wp_scope_jumps 0 (fun a' w' => ∃ (k m j : Nat) (u3 u4 u5 u6 u7 u8 u9 u10 u11 u12 u13 u14 u15 u16 u17 u18 u19 u20 u21 u22 u23 u24 u25 u26 u27 u28 u29 u30 : Value), a' = { tmps := #[.pointer (some ⟨g, 0, none⟩), .int .u64 (m : Int), .int .i64 (j : Int), u3, u4, u5, u6, u7, u8, u9, u10, u11, u12, u13, u14, u15, u16, u17, u18, u19, u20, u21, u22, u23, u24, u25, u26, u27, u28, u29, u30], defers := [] } ∧ j + k = n ∧ 1 ≤ k ∧ 1 ≤ j ∧ m = x / 256 ^ k ∧ m < 2 ^ 64 ∧ WriterAt w' base g X bad (L ++ lows x k) ∧ Leaves base X w w') (fun a' _ => (intOf (a'.tmps.getD 2 undef)).toNat) rfl ?_ ?_
  · go_wp2_with (first
      | (go_at_call 58; refine (none_any _ _ _ _ _ _ HW.out).mono ?_; rintro e w1 ⟨rfl, rfl⟩)
      | (go_at_call 59; refine (width_any _ _ HN.out).mono ?_; rintro e w1 ⟨rfl, rfl⟩))
    go_step3
    obtain ⟨v, hv⟩ := HW.out
    have HV := Lib.hid hv
    have hne := hv.ne
    have hold := hv.old
    have hgs : g < w.heap.size := (Array.getElem?_eq_some_iff.1 hv.row).1
    have h0 : w.cell? ⟨g, 0, none⟩ = some v := cell_of_row w g 0 _ _ _ hv.row
    clear hv
    go_wp2_with (at_builtin; refine wpList_append_own_at _ rfl _ _ 27 rfl base 5 i0 (.int .u8 0) 1 1 Tryd.underlying27 hi hz0 hz1 hz2 rfl (by decide) _ _ _ rfl (World.ownsRow.alloc HV.out.own _) ⟨w.heap.size, 0, none⟩ 1 1 [.int .u8 (x % 256)] rfl rfl ?c1 ?c2 ?c3 ?c4 ?c5 ?_)
    case c1 => exact news_one _ _ _
    case c2 => intro u hu; simp at hu; subst hu; rfl
    case c3 => unfold maxLen; omega
    case c4 => omega
    case c5 => simp; omega
    intro v' w1 hown' hgrow _ hat
    obtain ⟨a', n', c', rfl⟩ := own_form hown'
    have hown : w1.ownsRow base 5 1 (.slice a' n' c') (L ++ [UInt8.ofNat x]).length ((L ++ [UInt8.ofNat x]).map vu8) := by
      rw [List.length_append, List.map_append, List.map_cons, vu8_of]; exact hown'
    obtain ⟨hw1, hl1⟩ := writer_push HV.out (grown_trans (World.grownBy_alloc _ _ _) hgrow (.inl rfl)) (hat.imp id fun e => ⟨_, Nat.le_succ _, e⟩) (by simp; omega) hown
    have hg1 := HV.out.row
    rw [← Go.heap_alloc_old w _ hgs, ← hgrow.block g (by simp; omega) (fun e => hne e.symm)] at hg1
    have h1 : w1.cell? ⟨g, 0, none⟩ = some v := cell_of_row w1 g 0 _ _ _ hg1
    have f1 : w1.frozen? ⟨g, 0, none⟩ = false := frozen_of_row w1 g 0 _ _ hg1
    have HW1 : Hid (WriterAt _ _ _ _ _ _) := Lib.hid ⟨_, hw1⟩
    have HL1 := Lib.hid hl1
    clear hg1 hw1 hl1 hown hown' hgrow hat h0
    have e1 : ((x / 256 : Nat) : Int) = (x : Int) / 256 := by omega
    by_cases h2 : 1 < n
    · have e2 : ((n - 1 : Nat) : Int) = (n : Int) - 1 := by omega
      have E1 := Lib.hid e1
      have E2 := Lib.hid e2
      clear e1 e2
      go_wp2
      go_step3
      rw [← E1.out, ← E2.out]
      refine ⟨rfl, 1, x / 256, n - 1, _, _, _, _, _, _, _, _, _, _, _, _, _, _, _, _, _, _, _, _, _, _, _, _, _, _, _, _, rfl, by omega, by omega, by omega, by simp, by omega, HW1.out, HL1.out⟩
    · obtain rfl : n = 1 := by omega
      go_wp2
      simp only [Exit.jump]
      go_end0
      exact ⟨rfl, HW1.out, HL1.out⟩
  · rintro a' w2 ⟨k, m, j, u3, u4, u5, u6, u7, u8, u9, u10, u11, u12, u13, u14, u15, u16, u17, u18, u19, u20, u21, u22, u23, u24, u25, u26, u27, u28, u29, u30, rfl, hjk, hk, hj, hm, hm2, hw2, hl2⟩
    have hLk : (L ++ lows x k).length = L.length + k := by rw [List.length_append, length_lows]
    obtain ⟨L2, hL2⟩ : ∃ L2, L2 = L ++ lows x k := ⟨_, rfl⟩
    rw [← hL2] at hw2 hLk
    have HM := Lib.hid hm
    have HW := Lib.hid hw2
    have HL2 := Lib.hid hl2
    have hLk2 : L2.length ≤ L.length + k := by omega
    have HLL := Lib.hid hL2
    clear hw2 hl2 hm hLk hL2
    obtain ⟨v, hv⟩ := HW.out
    have HV := Lib.hid hv
    have hne := hv.ne
    have hold := hv.old
    have hgs : g < w2.heap.size := (Array.getElem?_eq_some_iff.1 hv.row).1
    have h0 : w2.cell? ⟨g, 0, none⟩ = some v := cell_of_row w2 g 0 _ _ _ hv.row
    clear hv
    go_wp2_with (at_builtin; refine wpList_append_own_at _ rfl _ _ 27 rfl base 5 i0 (.int .u8 0) 1 1 Tryd.underlying27 hi hz0 hz1 hz2 rfl (by decide) _ _ _ rfl (World.ownsRow.alloc HV.out.own _) ⟨w2.heap.size, 0, none⟩ 1 1 [.int .u8 (m % 256)] rfl rfl ?d1 ?d2 ?d3 ?d4 ?d5 ?_)
    case d1 => exact news_one _ _ _
    case d2 => intro u hu; simp at hu; subst hu; rfl
    case d3 => unfold maxLen; omega
    case d4 => omega
    case d5 => simp; omega
    intro v' w1 hown' hgrow _ hat
    obtain ⟨a', n', c', rfl⟩ := own_form hown'
    have hown : w1.ownsRow base 5 1 (.slice a' n' c') (L2 ++ [UInt8.ofNat m]).length ((L2 ++ [UInt8.ofNat m]).map vu8) := by
      rw [List.length_append, List.map_append, List.map_cons, vu8_of]; exact hown'
    obtain ⟨hw1, hl1⟩ := writer_push HV.out (grown_trans (World.grownBy_alloc _ _ _) hgrow (.inl rfl)) (hat.imp id fun e => ⟨_, Nat.le_succ _, e⟩) (by simp; omega) hown
    have hg1 := HV.out.row
    rw [← Go.heap_alloc_old w2 _ hgs, ← hgrow.block g (by simp; omega) (fun e => hne e.symm)] at hg1
    have h1 : w1.cell? ⟨g, 0, none⟩ = some v := cell_of_row w1 g 0 _ _ _ hg1
    have f1 : w1.frozen? ⟨g, 0, none⟩ = false := frozen_of_row w1 g 0 _ _ hg1
    have HW1 : Hid (WriterAt _ _ _ _ _ _) := Lib.hid ⟨_, hw1⟩
    have HL1 := Lib.hid hl1
    clear hg1 hw1 hl1 hown hown' hgrow hat h0
    have e1 : ((m / 256 : Nat) : Int) = (m : Int) / 256 := by omega
    have hm3 : m / 256 = x / 256 ^ (k + 1) := by rw [HM.out, Nat.div_div_eq_div_mul, Nat.pow_succ]
    have hl3 : L2 ++ [UInt8.ofNat m] = L ++ lows x (k + 1) := by rw [lows_snoc, HM.out, HLL.out, List.append_assoc]
    have HL3 := Lib.hid hl3
    have HM3 := Lib.hid hm3
    clear hm3 hl3
    by_cases h2 : 1 < j
    · have e2 : ((j - 1 : Nat) : Int) = (j : Int) - 1 := by omega
      have E1 := Lib.hid e1
      have E2 := Lib.hid e2
      clear e1 e2
      go_wp2
      go_step3
      rw [← E1.out, ← E2.out]
      refine ⟨rfl, ⟨k + 1, m / 256, j - 1, _, _, _, _, _, _, _, _, _, _, _, _, _, _, _, _, _, _, _, _, _, _, _, _, _, _, _, _, rfl, by omega, by omega, by omega, HM3.out, by omega, HL3.out ▸ HW1.out, HL2.out.trans HL1.out⟩, ?_⟩
      simp [intOf]; omega
    · obtain rfl : j = 1 := by omega
      obtain rfl : n = k + 1 := by omega
      go_wp2
      simp only [Exit.jump]
      go_end0
      exact ⟨rfl, HL3.out ▸ HW1.out, HL2.out.trans HL1.out⟩
end Go.Proofs.YtcepfmjebgklfaaDoor
