/- The field layer's writer: Num puts a number's bytes, low byte first. The field layer's writer: Text puts a length byte, the text, and zeros up to the room. The field layer's writer: Done tells the block. -/
import Derived.Test.YtnphgaiiiiknpaaDoorField
import Derived.ScopeJumps
import Derived.WalkMore
import Derived.Test.YtnphgaiiiiknpaaDoorAppend
import Derived.Laws.CopyOwn
import Derived.Deep.RegionLaw
namespace Go.Proofs.YtnphgaiiiiknpaaDoor
open Go.RowKit
set_option maxRecDepth 100000
set_option linter.unusedSimpArgs false
theorem vu8_of (x : Nat) : vu8 (UInt8.ofNat x) = .int .u8 ((x : Int) % 256) := by simp [vu8, UInt8.toNat_ofNat']
theorem news_one (w : World) (v : Value) (t : TypeId) : ∀ (j : Nat) (u : Value), [v][j]? = some u → (w.alloc (.cells #[v] t)).cell? ((⟨w.heap.size, 0, none⟩ : Addr).add j) = some u := by
  intro j u hu
  cases j with
  | zero => rw [show (⟨w.heap.size, 0, none⟩ : Addr).add 0 = ⟨w.heap.size, 0, none⟩ from rfl, cell_of_row _ _ 0 _ _ _ (heap_alloc_new w _)]; exact hu
  | succ j => simp at hu
theorem own_form {w : World} {base : Nat} {e : TypeId} {size : Nat} {v : Value} {n : Nat} {xs : List Value} (h : w.ownsRow base e size v n xs) : ∃ a m c, v = .slice a m c := by
  rcases h.2 with ⟨rfl, _⟩ | ⟨g, cap, cur, rfl, _⟩
  · exact ⟨_, _, _, rfl⟩
  · exact ⟨_, _, _, rfl⟩
set_option maxRecDepth 100000 in
set_option maxHeartbeats 400000 in
theorem num_any (w : World) (base g : Nat) (X : List Nat) (bad : Bool) (L : List UInt8) (x n : Nat) (hn : n = 1 ∨ n = 2 ∨ n = 4 ∨ n = 8) (hL : L.length + n ≤ 100000) (hx : x < 2 ^ 64) (hw : WriterAt w base g X bad L) :
    Calls Tryd.prog 60 #[.pointer (some ⟨g, 0, none⟩), .int .u64 (x : Int), .int .i64 (n : Int)] w fun e w' => e = .returned (.tuple #[]) ∧ WriterAt w' base g X bad (L ++ lows x n) ∧ Leaves base X w w' := by
  have HW := Lib.hid hw
  have HN := Lib.hid hn
  have hn8 : n ≤ 8 := by omega
  have hn1 : 1 ≤ n := by omega
  clear hw hn
  go_enter Tryd.func60, Tryd.ntmps60
  go_wp2
  obtain ⟨i0, hi, hz0, hz1, hz2⟩ := info_parts infoU8
  refine wp_scope_jumps 0 (fun a' w' => ∃ (k m j : Nat) (u3 u4 u5 u6 u7 u8 u9 u10 u11 u12 u13 u14 u15 u16 u17 u18 u19 u20 u21 u22 u23 u24 u25 u26 u27 u28 u29 u30 : Value), a' = { tmps := #[.pointer (some ⟨g, 0, none⟩), .int .u64 (m : Int), .int .i64 (j : Int), u3, u4, u5, u6, u7, u8, u9, u10, u11, u12, u13, u14, u15, u16, u17, u18, u19, u20, u21, u22, u23, u24, u25, u26, u27, u28, u29, u30], defers := [] } ∧ j + k = n ∧ 1 ≤ k ∧ 1 ≤ j ∧ m = x / 256 ^ k ∧ m < 2 ^ 64 ∧ WriterAt w' base g X bad (L ++ lows x k) ∧ Leaves base X w w') (fun a' _ => (intOf (a'.tmps.getD 2 undef)).toNat) rfl ?_ ?_
  · go_wp2_with (first
      | (go_at_call 68; refine (none_any _ _ _ _ _ _ HW.out).mono ?_; rintro e w1 ⟨rfl, rfl⟩)
      | (go_at_call 69; refine (width_any _ _ HN.out).mono ?_; rintro e w1 ⟨rfl, rfl⟩))
    go_step3
    obtain ⟨v, hv⟩ := HW.out
    have HV := Lib.hid hv
    have hne := hv.ne
    have hold := hv.old
    have hgs : g < w.heap.size := (Array.getElem?_eq_some_iff.1 hv.row).1
    have h0 : w.cell? ⟨g, 0, none⟩ = some v := cell_of_row w g 0 _ _ _ hv.row
    clear hv
    go_wp2_with (at_builtin; refine wpList_append_own_at _ rfl _ _ 99 rfl base 5 i0 (.int .u8 0) 1 1 Tryd.underlying99 hi hz0 hz1 hz2 rfl (by decide) _ _ _ rfl (World.ownsRow.alloc HV.out.own _) ⟨w.heap.size, 0, none⟩ 1 1 [.int .u8 (x % 256)] rfl rfl ?c1 ?c2 ?c3 ?c4 ?c5 ?_)
    case c1 => exact news_one _ _ _
    case c2 => intro u hu; simp at hu; subst hu; rfl
    case c3 => unfold maxLen; omega
    case c4 => omega
    case c5 => simp; omega
    intro v' w1 hown' hgrow _ hat
    obtain ⟨a', n', c', rfl⟩ := own_form hown'
    have hown : w1.ownsRow base 5 1 (.slice a' n' c') (L ++ [UInt8.ofNat x]).length ((L ++ [UInt8.ofNat x]).map vu8) := by
      rw [List.length_append, List.map_append, List.map_cons, vu8_of]; exact hown'
    obtain ⟨hw1, hl1⟩ := writer_push HV.out (grown_trans (World.grownBy_alloc _ _ _) hgrow (.inl rfl)) (hat.imp id fun e => ⟨_, Nat.le_succ _, e⟩) (by simp; omega) hown
    have hg1 := HV.out.row
    rw [← Go.heap_alloc_old w _ hgs, ← hgrow.block g (by simp; omega) (fun e => hne e.symm)] at hg1
    have h1 : w1.cell? ⟨g, 0, none⟩ = some v := cell_of_row w1 g 0 _ _ _ hg1
    have f1 : w1.frozen? ⟨g, 0, none⟩ = false := frozen_of_row w1 g 0 _ _ hg1
    have HW1 : Hid (WriterAt _ _ _ _ _ _) := Lib.hid ⟨_, hw1⟩
    have HL1 := Lib.hid hl1
    clear hg1 hw1 hl1 hown hown' hgrow hat h0
    have e1 : ((x / 256 : Nat) : Int) = (x : Int) / 256 := by omega
    by_cases h2 : 1 < n
    · have e2 : ((n - 1 : Nat) : Int) = (n : Int) - 1 := by omega
      have E1 := Lib.hid e1
      have E2 := Lib.hid e2
      clear e1 e2
      go_wp2
      go_step3
      rw [← E1.out, ← E2.out]
      refine ⟨rfl, 1, x / 256, n - 1, _, _, _, _, _, _, _, _, _, _, _, _, _, _, _, _, _, _, _, _, _, _, _, _, _, _, _, _, rfl, by omega, by omega, by omega, by simp, by omega, HW1.out, HL1.out⟩
    · obtain rfl : n = 1 := by omega
      go_wp2
      simp only [Exit.jump]
      go_end0
      exact ⟨rfl, HW1.out, HL1.out⟩
  · rintro a' w2 ⟨k, m, j, u3, u4, u5, u6, u7, u8, u9, u10, u11, u12, u13, u14, u15, u16, u17, u18, u19, u20, u21, u22, u23, u24, u25, u26, u27, u28, u29, u30, rfl, hjk, hk, hj, hm, hm2, hw2, hl2⟩
    have hLk : (L ++ lows x k).length = L.length + k := by rw [List.length_append, length_lows]
    obtain ⟨L2, hL2⟩ : ∃ L2, L2 = L ++ lows x k := ⟨_, rfl⟩
    rw [← hL2] at hw2 hLk
    have HM := Lib.hid hm
    have HW := Lib.hid hw2
    have HL2 := Lib.hid hl2
    have hLk2 : L2.length ≤ L.length + k := by omega
    have HLL := Lib.hid hL2
    clear hw2 hl2 hm hLk hL2
    obtain ⟨v, hv⟩ := HW.out
    have HV := Lib.hid hv
    have hne := hv.ne
    have hold := hv.old
    have hgs : g < w2.heap.size := (Array.getElem?_eq_some_iff.1 hv.row).1
    have h0 : w2.cell? ⟨g, 0, none⟩ = some v := cell_of_row w2 g 0 _ _ _ hv.row
    clear hv
    go_wp2_with (at_builtin; refine wpList_append_own_at _ rfl _ _ 99 rfl base 5 i0 (.int .u8 0) 1 1 Tryd.underlying99 hi hz0 hz1 hz2 rfl (by decide) _ _ _ rfl (World.ownsRow.alloc HV.out.own _) ⟨w2.heap.size, 0, none⟩ 1 1 [.int .u8 (m % 256)] rfl rfl ?d1 ?d2 ?d3 ?d4 ?d5 ?_)
    case d1 => exact news_one _ _ _
    case d2 => intro u hu; simp at hu; subst hu; rfl
    case d3 => unfold maxLen; omega
    case d4 => omega
    case d5 => simp; omega
    intro v' w1 hown' hgrow _ hat
    obtain ⟨a', n', c', rfl⟩ := own_form hown'
    have hown : w1.ownsRow base 5 1 (.slice a' n' c') (L2 ++ [UInt8.ofNat m]).length ((L2 ++ [UInt8.ofNat m]).map vu8) := by
      rw [List.length_append, List.map_append, List.map_cons, vu8_of]; exact hown'
    obtain ⟨hw1, hl1⟩ := writer_push HV.out (grown_trans (World.grownBy_alloc _ _ _) hgrow (.inl rfl)) (hat.imp id fun e => ⟨_, Nat.le_succ _, e⟩) (by simp; omega) hown
    have hg1 := HV.out.row
    rw [← Go.heap_alloc_old w2 _ hgs, ← hgrow.block g (by simp; omega) (fun e => hne e.symm)] at hg1
    have h1 : w1.cell? ⟨g, 0, none⟩ = some v := cell_of_row w1 g 0 _ _ _ hg1
    have f1 : w1.frozen? ⟨g, 0, none⟩ = false := frozen_of_row w1 g 0 _ _ hg1
    have HW1 : Hid (WriterAt _ _ _ _ _ _) := Lib.hid ⟨_, hw1⟩
    have HL1 := Lib.hid hl1
    clear hg1 hw1 hl1 hown hown' hgrow hat h0
    have e1 : ((m / 256 : Nat) : Int) = (m : Int) / 256 := by omega
    have hm3 : m / 256 = x / 256 ^ (k + 1) := by rw [HM.out, Nat.div_div_eq_div_mul, Nat.pow_succ]
    have hl3 : L2 ++ [UInt8.ofNat m] = L ++ lows x (k + 1) := by rw [lows_snoc, HM.out, HLL.out, List.append_assoc]
    have HL3 := Lib.hid hl3
    have HM3 := Lib.hid hm3
    clear hm3 hl3
    by_cases h2 : 1 < j
    · have e2 : ((j - 1 : Nat) : Int) = (j : Int) - 1 := by omega
      have E1 := Lib.hid e1
      have E2 := Lib.hid e2
      clear e1 e2
      go_wp2
      go_step3
      rw [← E1.out, ← E2.out]
      refine ⟨rfl, ⟨k + 1, m / 256, j - 1, _, _, _, _, _, _, _, _, _, _, _, _, _, _, _, _, _, _, _, _, _, _, _, _, _, _, _, _, rfl, by omega, by omega, by omega, HM3.out, by omega, HL3.out ▸ HW1.out, HL2.out.trans HL1.out⟩, ?_⟩
      simp [intOf]; omega
    · obtain rfl : j = 1 := by omega
      obtain rfl : n = k + 1 := by omega
      go_wp2
      simp only [Exit.jump]
      go_end0
      exact ⟨rfl, HL3.out ▸ HW1.out, HL2.out.trans HL1.out⟩
end Go.Proofs.YtnphgaiiiiknpaaDoor
namespace Go.Proofs.YtnphgaiiiiknpaaDoor
open Go.RowKit
set_option maxRecDepth 100000
set_option linter.unusedSimpArgs false
theorem strCells_vu8 (s : ByteArray) : Lib.strCells s = s.data.toList.map vu8 := rfl
theorem zeros_vu8 (n : Nat) : List.replicate n (Value.int .u8 0) = (List.replicate n (0 : UInt8)).map vu8 := by simp [vu8]
end Go.Proofs.YtnphgaiiiiknpaaDoor
namespace Go.Proofs.YtnphgaiiiiknpaaDoor
open Go.RowKit
set_option maxRecDepth 100000
set_option linter.unusedSimpArgs false
theorem own_form2 {w : World} {base : Nat} {e : TypeId} {size : Nat} {v : Value} {n : Nat} {xs : List Value} (h : w.ownsRow base e size v n xs) :
    ∃ a c, v = .slice a n c ∧ (0 < n → ∃ k, a = some ⟨k, 0, none⟩ ∧ v.ownBlock = some k) := by
  rcases h.2 with ⟨rfl, rfl⟩ | ⟨g, cap, cur, rfl, _⟩
  · exact ⟨_, _, rfl, fun h => absurd h (by omega)⟩
  · exact ⟨_, _, rfl, fun _ => ⟨g, rfl, rfl⟩⟩
theorem zeros_one : (zeros 256 (Value.int .u8 0)).all (·.oneCell') = true := by rw [zeros_blk]; exact blk_one _
set_option maxRecDepth 100000 in
set_option maxHeartbeats 400000 in
theorem done_any (w : World) (base g : Nat) (X : List Nat) (L : List UInt8) (m : UInt8) (hL : L.length ≤ 251) (hw : WriterAt w base g X false L) :
    Calls Tryd.prog 62 #[.pointer (some ⟨g, 0, none⟩), .int .u8 (m.toNat : Int)] w fun e w' => e = .returned (.tuple #[.agg (blk (doneB m L)), .int .i64 0]) ∧ Below w.heap.size w w' := by
  obtain ⟨v, hv⟩ := hw
  have hgs : g < w.heap.size := (Array.getElem?_eq_some_iff.1 hv.row).1
  obtain ⟨W, hW⟩ : ∃ W, W = (w.alloc (.cells (zeros 256 (.int .u8 0)) 45)).alloc (.cells (zeros 256 (.int .u8 0)) 45) := ⟨_, rfl⟩
  have hWB : Below w.heap.size w W := by rw [hW]; exact ((Below.refl _ _).alloc (Nat.le_refl _) _).alloc (by simp) _
  have hvr : W.heap[g]? = some (.cells #[v, .bool true, .bool false] 119 (0, 0)) := (hWB.block g hgs).trans hv.row
  have h0 : W.cell? ⟨g, 0, none⟩ = some v := cell_of_row W g 0 _ _ _ hvr
  have h1 : W.cell? ⟨g, 1, none⟩ = some (.bool true) := cell_of_row W g 1 _ _ _ hvr
  have h2 : W.cell? ⟨g, 2, none⟩ = some (.bool false) := cell_of_row W g 2 _ _ _ hvr
  have HW := Lib.hid hW
  have HV := Lib.hid hv
  have hcall : WriterAt W base g [] false L := by
    refine ⟨v, hv.old, hv.len, hvr, ?_, hv.ne, by simp⟩
    exact hv.own.kept (row := none) ⟨hWB.os, hWB.tape, hWB.output, hWB.size, fun k hk _ => hWB.block k hk⟩ (by cases v.ownBlock <;> simp)
  have HC := Lib.hid hcall
  obtain ⟨n, hn⟩ : ∃ n, n = L.length := ⟨_, rfl⟩
  have hown : w.ownsRow base 5 1 v n (L.map vu8) := hn ▸ hv.own
  obtain ⟨a, c, rfl, hac⟩ := own_form2 hown
  have hn2 : n ≤ 251 := by omega
  have HN := Lib.hid hn
  have HAC := Lib.hid hac
  have hgW : W.heap[w.heap.size + 1]? = some (.cells (zeros 256 (.int .u8 0)) 45 (0, 0)) := by rw [hW]; exact heap_alloc2_new w _ _
  have hg0 : W.heap[w.heap.size]? = some (.cells (zeros 256 (.int .u8 0)) 45 (0, 0)) := by rw [hW]; exact heap_alloc2_old w _ _
  have hb0 : W.cell? ⟨w.heap.size + 1, 0, none⟩ = some (.int .u8 0) := by rw [cell_of_row W _ 0 _ _ _ hgW]; simp [zeros]
  have fb0 : W.frozen? ⟨w.heap.size + 1, 0, none⟩ = false := frozen_of_row W _ 0 _ _ hgW
  have hWs : W.heap.size = w.heap.size + 2 := by rw [hW]; simp
  have HGW := Lib.hid hgW
  have HG0 := Lib.hid hg0
  have HWS := Lib.hid hWs
  clear hown hn hac hgW hg0 hWs
  clear hW hv hcall hvr
  go_enter Tryd.func62, Tryd.ntmps62
  go_wp2_with (first
   | refine wpList_alloc_row rfl 45 rfl _ zeroB ?_
   | (rw [← HW.out]; go_at_call 68; refine (none_any _ _ _ _ _ _ HC.out).mono ?_; rintro e w1 ⟨rfl, rfl⟩))
  obtain ⟨W1, hW1⟩ : ∃ W1, W1 = W.setCell ⟨w.heap.size + 1, 0, none⟩ (.int .u8 (m.toNat : Int)) := ⟨_, rfl⟩
  rw [← hW1]
  have hg1 : W1.heap[w.heap.size + 1]? = some (.cells (blk (m :: List.replicate 255 0)) 45 (0, 0)) := by
    rw [hW1, heap_setCell_same W _ 0 _ _ _ HGW.out]; congr 2
  have hoth : ∀ k, k ≠ w.heap.size + 1 → W1.heap[k]? = W.heap[k]? := fun k hk => by rw [hW1, heap_setCell_other _ _ _ _ hk]
  have hB1 : Below w.heap.size w W1 := by rw [hW1]; exact hWB.setCell (by simp) _
  have hs1 : W1.heap.size = w.heap.size + 2 := by rw [hW1, ← HWS.out]; simp [World.setCell]
  have hr1 : W1.heap[g]? = some (.cells #[.slice a n c, .bool true, .bool false] 119 (0, 0)) := by rw [hoth g (by omega), hWB.block g hgs]; exact HV.out.row
  have hx1 : W1.cell? ⟨g, 0, none⟩ = some (.slice a n c) := cell_of_row W1 g 0 _ _ _ hr1
  have HG1 := Lib.hid hg1
  have HS1 := Lib.hid hs1
  have HB1 := Lib.hid hB1
  have HR0 : Hid (W1.heap[w.heap.size]? = _) := Lib.hid ((hoth w.heap.size (by omega)).trans HG0.out)
  have HSRC : Hid (0 < n → ∃ ad, a = some ad ∧ ∀ j u, (L.map vu8)[j]? = some u → W1.cell? (ad.add j) = some u) := Lib.hid (by
    intro h0
    obtain ⟨k, rfl, hk⟩ := HAC.out h0
    refine ⟨_, rfl, fun j u hu => ?_⟩
    have hc := HV.out.own.cells hk j u hu
    have hlt := (HV.out.own.lt k hk).2
    rw [Addr.add_lit] at hc ⊢
    rw [← hc]
    exact World.cell?_of_block (by rw [hoth k (by omega), hWB.block k hlt]))
  have HB1' : Hid (Below (w.heap.size + 1) W1.drew W1.drew) := Lib.hid (Below.refl _ _)
  clear hW1 hg1 hoth hB1 hs1 hr1 h0 h1 h2 hb0 fb0
  have HL : Hid ((L.map vu8).length = Nat.min n 255) := Lib.hid (by rw [List.length_map, ← HN.out]; exact (Nat.min_eq_left (by omega)).symm)
  have HP : Hid (0 < (L.map vu8).length → some (⟨w.heap.size + 1, 1, none⟩ : Addr) = some ⟨w.heap.size + 1, 1, none⟩ ∧ ∃ ad, a = some ad ∧ ∀ j u, (L.map vu8)[j]? = some u → W1.drew.cell? (ad.add j) = some u) := Lib.hid (fun h => ⟨rfl, HSRC.out (by rw [List.length_map, ← HN.out] at h; exact h)⟩)
  have HF : Hid (1 + (L.map vu8).length ≤ ((m :: List.replicate 255 0).map vu8).length) := Lib.hid (by simp; omega)
  have HO : Hid (∀ u ∈ L.map vu8, u.oneCell' = true) := Lib.hid (by intro u hu; simp only [List.mem_map] at hu; obtain ⟨i, _, rfl⟩ := hu; rfl)
  go_region_law ((refine step_copy_splice rfl (.tmp 27) (.tmp 31) 99 99 rfl 5 Tryd.underlying99 sizeU8 _ _ _ _ _ _ rfl rfl (w.heap.size + 1) 1 ((m :: List.replicate 255 0).map vu8) 45 HG1.out (L.map vu8) HL.out HP.out HF.out HO.out (w.heap.size + 1) W1.drew HB1'.out (Nat.le_refl _) ?_; intro W2 hg2 hb2))
  have hLn := HN.out
  have hin : splice ((m :: List.replicate 255 0).map vu8) 1 (L.map vu8) = (insideB m L).map vu8 := by
    simp only [splice, insideB, List.map_cons, List.map_append, List.take_succ_cons, List.take_zero, List.length_map, List.map_replicate]
    rw [show 1 + L.length = L.length + 1 by omega, List.drop_succ_cons, List.drop_replicate]; rfl
  have hg3 : W2.heap[w.heap.size + 1]? = some (.cells (blk (insideB m L)) 45 (0, 0)) := by
    have := hg2.out; rw [hin] at this; exact this
  have hr2 : W2.heap[w.heap.size]? = some (.cells (zeros 256 (.int .u8 0)) 45 (0, 0)) := (hb2.block _ (Nat.lt_succ_self _)).trans HR0.out
  have hin2 : (insideB m L).length = 256 := length_insideB m L (by omega)
  have hB2 : Below w.heap.size w W2 := (Below.trans HB1.out (below_drewN (Below.refl _ _) 1)).trans (hb2.mono (by omega))
  have hsz2 : w.heap.size + 2 ≤ W2.heap.size := by rw [← HS1.out]; exact hb2.size
  have HG3 := Lib.hid hg3
  have HR2 := Lib.hid hr2
  have HI := Lib.hid hin2
  have HB2 := Lib.hid hB2
  clear hLn hin hg2 hg3 hr2 hin2 hb2 hB2 hx1
  go_wp2_with (first
   | refine wpList_load_row rfl 45 _ rfl (w.heap.size + 1) rfl 45 (blk (insideB m L)) (0, 0) _ HG3.out Tryd.underlying45 rfl (by rw [size_blk, HI.out]; exact sizeB) ?_
   | (go_at_call 71; refine (seal_any _ HI.out _).mono ?_))
  rintro e W3 rfl hb4
  have hr3 : W3.heap[w.heap.size]? = some (.cells (zeros 256 (.int .u8 0)) 45 (0, 0)) := (hb4.block _ (by omega)).trans HR2.out
  have hB3 := HB2.out.trans (hb4.mono (show w.heap.size ≤ W2.heap.size by omega))
  have hs3 : (blk (sealB (insideB m L))).size = 256 := by rw [size_blk, length_sealB _ HI.out]
  have HS3 := Lib.hid hs3
  have HB3 := Lib.hid hB3
  have HR3 := Lib.hid hr3
  clear hs3 hB3 hr3 hb4
  go_wp2_with (refine wpList_store_row rfl 45 _ _ rfl w.heap.size (blk (sealB (insideB m L))) rfl rfl 45 _ HR3.out (by rw [HS3.out]; exact sizeB) (by rw [HS3.out, size_zeros]) (blk_one _) ?_)
  refine bodyPost_ret (v := .tuple #[.agg (blk (sealB (insideB m L))), .int .i64 0]) (results_cell_slot rfl _ _ w.heap.size 45 _ (0, 0) _ _ rfl rfl (setRow_heap _ _ _ _ _ _ HR3.out) Tryd.underlying45 rfl (by rw [HS3.out]; exact sizeB)) rfl ⟨rfl, ?_⟩
  exact below_setRow HB3.out (Nat.le_refl _) _
/-- A writer that is bad, or has too much, tells ErrLong. -/
theorem done_long (w : World) (base g : Nat) (X : List Nat) (L : List UInt8) (m : UInt8) (bad : Bool) (hL : bad = true ∨ 251 < L.length) (hw : WriterAt w base g X bad L) :
    Calls Tryd.prog 62 #[.pointer (some ⟨g, 0, none⟩), .int .u8 (m.toNat : Int)] w fun e w' => e = .returned (.tuple #[.agg (zeros 256 (.int .u8 0)), .int .i64 3]) ∧ Below w.heap.size w w' := by
  obtain ⟨v, hv⟩ := hw
  have hgs : g < w.heap.size := (Array.getElem?_eq_some_iff.1 hv.row).1
  obtain ⟨W, hW⟩ : ∃ W, W = (w.alloc (.cells (zeros 256 (.int .u8 0)) 45)).alloc (.cells (zeros 256 (.int .u8 0)) 45) := ⟨_, rfl⟩
  have hWB : Below w.heap.size w W := by rw [hW]; exact ((Below.refl _ _).alloc (Nat.le_refl _) _).alloc (by simp) _
  have hvr : W.heap[g]? = some (.cells #[v, .bool true, .bool bad] 119 (0, 0)) := (hWB.block g hgs).trans hv.row
  have h0 : W.cell? ⟨g, 0, none⟩ = some v := cell_of_row W g 0 _ _ _ hvr
  have h1 : W.cell? ⟨g, 1, none⟩ = some (.bool true) := cell_of_row W g 1 _ _ _ hvr
  have h2 : W.cell? ⟨g, 2, none⟩ = some (.bool bad) := cell_of_row W g 2 _ _ _ hvr
  have HW := Lib.hid hW
  have hlen := hv.len
  have hcall : WriterAt W base g [] bad L := by
    refine ⟨v, hv.old, hv.len, hvr, ?_, hv.ne, by simp⟩
    exact hv.own.kept (row := none) ⟨hWB.os, hWB.tape, hWB.output, hWB.size, fun k hk _ => hWB.block k hk⟩ (by cases v.ownBlock <;> simp)
  have HC := Lib.hid hcall
  obtain ⟨n, hn⟩ : ∃ n, n = L.length := ⟨_, rfl⟩
  have hown : w.ownsRow base 5 1 v n (L.map vu8) := hn ▸ hv.own
  obtain ⟨a, c, rfl, _⟩ := own_form2 hown
  have hn2 : n ≤ 100000 := by omega
  have hgW : W.heap[w.heap.size + 1]? = some (.cells (zeros 256 (.int .u8 0)) 45 (0, 0)) := by rw [hW]; exact heap_alloc2_new w _ _
  have hg0 : W.heap[w.heap.size]? = some (.cells (zeros 256 (.int .u8 0)) 45 (0, 0)) := by rw [hW]; exact heap_alloc2_old w _ _
  have HGW := Lib.hid hgW
  have HG0 := Lib.hid hg0
  rw [← hn] at hL
  clear hW hv hcall hvr hgW hg0 hn hown hlen
  cases bad with
  | true =>
    clear hL
    go_enter Tryd.func62, Tryd.ntmps62
    go_wp2_with (first
     | refine wpList_alloc_row rfl 45 rfl _ zeroB ?_
     | (rw [← HW.out]; go_at_call 68; refine (none_any _ _ _ _ _ _ HC.out).mono ?_; rintro e w1 ⟨rfl, rfl⟩)
     | refine wpList_load_row rfl 45 _ rfl (w.heap.size + 1) rfl 45 (zeros 256 (.int .u8 0)) (0, 0) _ HGW.out Tryd.underlying45 rfl (by rw [size_zeros]; exact sizeB) ?_
     | refine wpList_store_row rfl 45 _ _ rfl w.heap.size (zeros 256 (.int .u8 0)) rfl rfl 45 _ HG0.out (by rw [size_zeros]; exact sizeB) (by rw [size_zeros]) zeros_one ?_)
    refine bodyPost_ret (v := .tuple #[.agg (zeros 256 (.int .u8 0)), .int .i64 3]) (results_cell_slot rfl _ _ w.heap.size 45 _ (0, 0) _ _ rfl rfl (setRow_heap _ _ _ _ _ _ HG0.out) Tryd.underlying45 rfl (by rw [size_zeros]; exact sizeB)) rfl ⟨rfl, ?_⟩
    exact below_setRow hWB (Nat.le_refl _) _
  | false =>
    have hL' : 251 < n := by simpa using hL
    clear hL
    go_enter Tryd.func62, Tryd.ntmps62
    go_wp2_with (first
     | refine wpList_alloc_row rfl 45 rfl _ zeroB ?_
     | (rw [← HW.out]; go_at_call 68; refine (none_any _ _ _ _ _ _ HC.out).mono ?_; rintro e w1 ⟨rfl, rfl⟩)
     | refine wpList_load_row rfl 45 _ rfl (w.heap.size + 1) rfl 45 (zeros 256 (.int .u8 0)) (0, 0) _ HGW.out Tryd.underlying45 rfl (by rw [size_zeros]; exact sizeB) ?_
     | refine wpList_store_row rfl 45 _ _ rfl w.heap.size (zeros 256 (.int .u8 0)) rfl rfl 45 _ HG0.out (by rw [size_zeros]; exact sizeB) (by rw [size_zeros]) zeros_one ?_)
    refine bodyPost_ret (v := .tuple #[.agg (zeros 256 (.int .u8 0)), .int .i64 3]) (results_cell_slot rfl _ _ w.heap.size 45 _ (0, 0) _ _ rfl rfl (setRow_heap _ _ _ _ _ _ HG0.out) Tryd.underlying45 rfl (by rw [size_zeros]; exact sizeB)) rfl ⟨rfl, ?_⟩
    exact below_setRow hWB (Nat.le_refl _) _
end Go.Proofs.YtnphgaiiiiknpaaDoor
