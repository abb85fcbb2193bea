/- The tally layer: Zeros, the document's Zeros. -/
import Derived.Test.YtnhfkmfmmgaecaaDoorTallyBit
import Derived.Test.YtnhfkmfmmgaecaaDoorPair
import Derived.Test.YtnhfkmfmmgaecaaDoorAppend
namespace Go.Proofs.YtnhfkmfmmgaecaaDoor
open Go.RowKit
set_option linter.unusedSimpArgs false
set_option maxRecDepth 100000
/-- How many of the numbers are nought. -/
def noughts (l : List Nat) : Nat := (l.filter (fun x => x == 0)).length
theorem noughts_succ (l : List Nat) (k : Nat) (h : k < l.length) : noughts (l.take (k + 1)) = noughts (l.take k) + if l[k] = 0 then 1 else 0 := by
  unfold noughts
  rw [List.take_succ_eq_append_getElem h, List.filter_append, List.length_append]
  by_cases h0 : l[k] = 0 <;> simp [h0]
theorem noughts_le (l : List Nat) : noughts l ≤ l.length := List.length_filter_le _ _
theorem refzeros_any (h : Nat) (l : List Nat) (hn : POk 4 2 64 h l) (w : World) :
    Calls Tryd.prog 51 #[.agg (pcells .u32 .u16 h l)] w fun e w' => e = .returned (.int .i64 (noughts l : Nat)) ∧ Below w.heap.size w w' := by
  obtain ⟨C, hC⟩ : ∃ C, C = pcells .u32 .u16 h l := ⟨_, rfl⟩
  have HCK : Hid (∀ k, (hk : k < l.length) → C[1 + k]? = some (.int .u16 (l[k] : Int))) := Lib.hid (fun k hk => by rw [hC, Nat.add_comm]; exact pcells_get _ _ _ _ k hk)
  have HLEN := Lib.hid hn.len
  have HNS := Lib.hid (fun k (hk : k < l.length) => noughts_succ l k hk)
  have HNL := Lib.hid (fun k => Nat.le_trans (noughts_le (l.take k)) (List.length_take_le k l))
  have HALL : Hid (∀ k, (hk : k < l.length) → l[k] < 65536) := Lib.hid (fun k hk => hn.all _ (List.getElem_mem hk))
  rw [← hC]
  clear hC hn
  have q1 := (Rows.start w).alloc C 90
  go_enter Tryd.func51, Tryd.ntmps51
  go_upto_region 1 with (fail)
  obtain ⟨W1, hW⟩ : ∃ W, W = w.alloc (.cells C 90) := ⟨_, rfl⟩
  rw [← hW] at q1 ⊢
  clear hW
  obtain ⟨g1, hg⟩ : ∃ g, g = w.heap.size := ⟨_, rfl⟩
  rw [← hg] at q1 ⊢
  clear hg
  have R1 := Lib.hid q1
  clear q1
  go_wp2_with fail
  go_loop [3, 4] (fun n i => ∃ k : Nat, k ≤ 64 ∧ i = .int .i64 k ∧ n = .int .i64 (noughts (l.take k) : Nat)) (fun _ i => 64 - (intOf i).toNat)
  case atStart => exact ⟨0, by omega, rfl, rfl⟩
  case round =>
    obtain ⟨k, hk, rfl, rfl⟩ := hrel
    by_cases hlt : k < 64
    · have hkl : k < l.length := by rw [HLEN.out]; exact hlt
      have c1 : W1.cell? ⟨g1, 1 + k, none⟩ = some (.int .u16 (l[k] : Int)) := R1.out.cell 0 (1 + k) rfl (HCK.out k hkl)
      have H4 := Lib.hid (HNS.out k hkl)
      have hx := HALL.out k hkl
      have hsl := HNL.out k
      obtain ⟨x, hxe⟩ : ∃ x, x = l[k] := ⟨_, rfl⟩
      rw [← hxe] at c1 H4 hx
      clear hxe hkl
      obtain ⟨n, hn⟩ : ∃ n, n = noughts (l.take k) := ⟨_, rfl⟩
      rw [← hn] at H4 hsl ⊢
      clear hn
      by_cases hx0 : x = 0
      · subst hx0
        have HE : Hid (noughts (l.take (k + 1)) = n + 1) := Lib.hid (by rw [H4.out]; simp)
        go_wp2_with fail
        exact ⟨⟨k + 1, by omega, by go_num, by rw [HE.out]; go_num⟩, by simp [intOf]; omega⟩
      · have hx1 : 0 < x := by omega
        have HE : Hid (noughts (l.take (k + 1)) = n) := Lib.hid (by rw [H4.out]; simp [hx0])
        go_wp2_with fail
        exact ⟨⟨k + 1, by omega, by go_num, by rw [HE.out]⟩, by simp [intOf]; omega⟩
    · obtain rfl : k = 64 := by omega
      have HT : Hid (l.take 64 = l) := Lib.hid (List.take_of_length_le (by rw [HLEN.out]; exact Nat.le_refl _))
      rw [HT.out]
      go_wp2_with fail
      go_ret
      exact ⟨rfl, R1.out.below⟩
theorem one_zero (W : World) (g n : Nat) (hn : n < 1000) (hc : W.cell? ⟨g, 0, none⟩ = some (.int .i64 (n : Int))) (hf : W.frozen? ⟨g, 0, none⟩ = false) :
    Calls Tryd.prog 80 #[.int .u16 0, .pointer (some ⟨g, 0, none⟩)] W fun e w' => e = .returned (.tuple #[]) ∧ w' = W.setCell ⟨g, 0, none⟩ (.int .i64 ((n + 1 : Nat) : Int)) := by
  go_enter Tryd.func80, Tryd.ntmps80
  go_wp2_with fail
  go_end0
  exact ⟨rfl, rfl⟩
theorem one_not (W : World) (g x : Nat) (hx : 0 < x) (hx2 : x < 65536) :
    Calls Tryd.prog 80 #[.int .u16 (x : Int), .pointer (some ⟨g, 0, none⟩)] W fun e w' => e = .returned (.tuple #[]) ∧ w' = W := by
  go_enter Tryd.func80, Tryd.ntmps80
  go_wp2_with fail
  go_end0
  exact ⟨rfl, rfl⟩
theorem zeros_any (h : Nat) (l : List Nat) (hn : POk 4 2 64 h l) (w : World) :
    Calls Tryd.prog 50 #[.agg (pcells .u32 .u16 h l)] w fun e w' => e = .returned (.int .i64 (noughts l : Nat)) ∧ Below w.heap.size w w' := by
  obtain ⟨C, hC⟩ : ∃ C, C = pcells .u32 .u16 h l := ⟨_, rfl⟩
  obtain ⟨A, hA⟩ : ∃ A, A = (l.map fun (x : Nat) => Value.int .u16 (x : Int)).toArray := ⟨_, rfl⟩
  have HAS : Hid (A.size = 64) := Lib.hid (by rw [hA]; simp [hn.len])
  have HAT : Hid (∀ (W : World) (g : Nat), W.heap[g]? = some (.cells C 90 (0, 0)) → W.rangeAt g 1 A.toList) := Lib.hid (fun W g hg => by
    intro k v hv
    rw [cell_of_row _ _ _ _ _ _ hg, hC]
    rw [hA] at hv
    simpa [pcells, Nat.add_comm] using hv)
  have HAK : Hid (∀ k, (hk : k < l.length) → A[k]? = some (.int .u16 (l[k] : Int))) := Lib.hid (fun k hk => by rw [hA]; simp [hk])
  have HLEN := Lib.hid hn.len
  have HNS := Lib.hid (fun k (hk : k < l.length) => noughts_succ l k hk)
  have HNL := Lib.hid (fun k => Nat.le_trans (noughts_le (l.take k)) (List.length_take_le k l))
  have HALL : Hid (∀ k, (hk : k < l.length) → l[k] < 65536) := Lib.hid (fun k hk => hn.all _ (List.getElem_mem hk))
  rw [← hC]
  clear hC hn hA
  have hmf : ∀ (fn : Fn) (first cap : Array Value) (w : World), (Instr.makeFunc fn first cap).run Tryd.prog w = .ok (.func fn first cap) w := fun _ _ _ _ => rfl
  have q1 := (Rows.start w).alloc C 90
  go_enter Tryd.func50, Tryd.ntmps50
  go_upto_region 1 with (fail)
  obtain ⟨W1, hW⟩ : ∃ W, W = w.alloc (.cells C 90) := ⟨_, rfl⟩
  rw [← hW] at q1 ⊢
  clear hW
  obtain ⟨g1, hg⟩ : ∃ g, g = w.heap.size := ⟨_, rfl⟩
  rw [← hg] at q1 ⊢
  clear hg
  have R1 := Lib.hid q1
  clear q1
  have q1 := R1.out.alloc #[.int .i64 0] 3
  go_upto_region 2 with (fail)
  obtain ⟨W2, hW⟩ : ∃ W, W = W1.alloc (.cells #[.int .i64 0] 3) := ⟨_, rfl⟩
  rw [← hW] at q1 ⊢
  clear hW
  obtain ⟨g3, hg⟩ : ∃ g, g = W1.heap.size := ⟨_, rfl⟩
  rw [← hg] at q1 ⊢
  clear hg
  have R2 := Lib.hid q1
  clear q1
  have HRNG := Lib.hid (HAT.out _ _ (R2.out.get 1 rfl))
  go_wp2_with (refine wpList_load_arr rfl 88 _ rfl g1 1 rfl A _ HRNG.out Tryd.underlying88 rfl (by rw [HAS.out]; kernel_rfl) ?_)
  go_loopw [10] (fun i wr => ∃ k : Nat, k ≤ 64 ∧ i = .int .i64 k ∧ Rows w wr [(g3, #[.int .i64 (noughts (l.take k) : Nat)], 3), (g1, C, 90)]) (fun i _ => 64 - (intOf i).toNat)
  case atStart => exact ⟨0, by omega, rfl, R2.out⟩
  case round =>
    obtain ⟨k, hk, rfl, hR⟩ := hrel
    have R3 := Lib.hid hR
    clear hR
    by_cases hlt : k < 64
    · have hkl : k < l.length := by rw [HLEN.out]; exact hlt
      have c1 := HAK.out k hkl
      have hA64 : A.size = 64 := HAS.out
      have H4 := Lib.hid (HNS.out k hkl)
      have hx := HALL.out k hkl
      have hsl := HNL.out k
      obtain ⟨x, hxe⟩ : ∃ x, x = l[k] := ⟨_, rfl⟩
      rw [← hxe] at c1 H4 hx
      clear hxe hkl
      obtain ⟨n, hn⟩ : ∃ n, n = noughts (l.take k) := ⟨_, rfl⟩
      rw [← hn] at H4 hsl R3
      clear hn
      have HC1 := Lib.hid c1
      have hn64 : n ≤ 64 := by omega
      clear c1
      have hidx : ∀ w : World, (Instr.index 88 (.agg A) (.int .i64 (k : Int))).run Tryd.prog w = .ok (.int .u16 (x : Int)) w := fun w => run_index_one w 88 87 64 A .i64 k _ _ Tryd.underlying88 Tryd.underlying87 rfl taelem hlt HC1.out
      by_cases hx0 : x = 0
      · subst hx0
        have HE : Hid (noughts (l.take (k + 1)) = n + 1) := Lib.hid (by rw [H4.out]; simp)
        go_wp2_with fail
        refine (one_zero wr g3 n (by omega) (R3.out.cell 0 0 rfl rfl) (R3.out.free 0 0 rfl)).mono ?_
        rintro e w4 ⟨rfl, rfl⟩
        have R4 := Lib.hid (R3.out.setCell 0 0 (.int .i64 ((n + 1 : Nat) : Int)) rfl)
        obtain ⟨V, hV⟩ : ∃ V, V = wr.setCell ⟨g3, 0, none⟩ (.int .i64 ((n + 1 : Nat) : Int)) := ⟨_, rfl⟩
        have q2 := R4.out
        rw [← hV] at q2 ⊢
        simp only [List.set_cons_zero] at q2
        have R5 := Lib.hid q2
        clear hV q2 R4
        go_wp2_with fail
        exact ⟨⟨k + 1, by omega, by go_num, by rw [HE.out]; exact R5.out⟩, by simp [intOf]; omega⟩
      · have hx1 : 0 < x := by omega
        have HE : Hid (noughts (l.take (k + 1)) = n) := Lib.hid (by rw [H4.out]; simp [hx0])
        go_wp2_with fail
        refine (one_not wr g3 x hx1 hx).mono ?_
        rintro e w4 ⟨rfl, rfl⟩
        go_wp2_with fail
        exact ⟨⟨k + 1, by omega, by go_num, by rw [HE.out]; exact R3.out⟩, by simp [intOf]; omega⟩
    · obtain rfl : k = 64 := by omega
      have HT : Hid (l.take 64 = l) := Lib.hid (List.take_of_length_le (by rw [HLEN.out]; exact Nat.le_refl _))
      rw [HT.out] at R3
      have c3 : wr.cell? ⟨g3, 0, none⟩ = some (.int .i64 (noughts l : Nat)) := R3.out.cell 0 0 rfl rfl
      go_wp2_with fail
      go_ret
      exact ⟨rfl, R3.out.below⟩
end Go.Proofs.YtnhfkmfmmgaecaaDoor
