/- NameSplits: of some names the one at the top splits the others, down to the last one: the law returns true for every row of texts. -/
import Derived.Test.YtnbdnnlomgjlmaaSplit2
namespace Go.Proofs.Ytnbdnnlomgjlmaa
open Go.RowKit
set_option linter.unusedSimpArgs false
/-- Does x stand in L? -/
def isIn (x : ByteArray) (L : List ByteArray) : Bool := L.any fun y => decide (y = x)
theorem isIn_iff (x : ByteArray) (L : List ByteArray) : isIn x L = true ↔ x ∈ L := by
  unfold isIn
  rw [List.any_eq_true]
  constructor
  · rintro ⟨y, hy, h⟩
    exact of_decide_eq_true h ▸ hy
  · exact fun h => ⟨x, h, decide_eq_true rfl⟩
/-- The first k texts, each once. -/
def once (f : Nat → ByteArray) : Nat → List ByteArray
  | 0 => []
  | k + 1 => if isIn (f k) (once f k) = true then once f k else once f k ++ [f k]
theorem once_len (f : Nat → ByteArray) : ∀ k, (once f k).length ≤ k
  | 0 => Nat.le_refl _
  | k + 1 => by
    have := once_len f k
    unfold once; split
    · omega
    · simp; omega
theorem once_nodup (f : Nat → ByteArray) : ∀ k, (once f k).Nodup
  | 0 => List.nodup_nil
  | k + 1 => by
    have := once_nodup f k
    unfold once; split
    · exact this
    · rename_i h
      rw [List.nodup_append]
      refine ⟨this, by simp, fun a ha b hb => ?_⟩
      simp at hb
      subst hb
      exact fun e => h ((isIn_iff _ _).2 (e ▸ ha))
theorem once_mem (f : Nat → ByteArray) : ∀ k s, s ∈ once f k → ∃ i, i < k ∧ s = f i
  | 0, s, h => by cases h
  | k + 1, s, h => by
    unfold once at h
    split at h
    · obtain ⟨i, hi, he⟩ := once_mem f k s h; exact ⟨i, by omega, he⟩
    · rcases List.mem_append.1 h with h | h
      · obtain ⟨i, hi, he⟩ := once_mem f k s h; exact ⟨i, by omega, he⟩
      · simp at h; exact ⟨k, by omega, h⟩
theorem fresh_step (D : List ByteArray) (x : ByteArray) (j : Nat) (h : j < D.length) : isIn x (D.take (j + 1)) = (isIn x (D.take j) || decide (atL D j = x)) := by
  rw [atL_take h]
  unfold isIn
  rw [List.any_append]
  simp
set_option maxRecDepth 100000 in
set_option maxHeartbeats 2000000 in
theorem namesplits_any (b off n c : Nat) (f : Nat → ByteArray) (w : World) (h0 : 0 < n) (hnc : n ≤ c) (hc : c ≤ maxLen) (ht : TextsAt w b off n f) :
    Calls Try.prog 10 #[.slice (some ⟨b, off, none⟩) n c] w fun e w' => e = .returned (.bool true) ∧ Below w.heap.size w w' := by
  have HT := Lib.hid ht
  have hbw : b < w.heap.size := World.block_lt_of_cell? w _ (ht 0 h0).1
  clear ht
  unfold maxLen at hc
  obtain ⟨i0, hi, hz0, hz1, hz2⟩ := info_parts Try.info9
  go_enter Try.func10, Try.ntmps10
  go_wp2_with fail
  refine (great_any b off n c f _ (by unfold maxLen; omega) (fun i hi => (HT.out i hi).1)).mono ?_
  rintro e w' ⟨g, rfl, hg, rfl⟩
  clear hg
  by_cases hg : g = true ∨ 20 < n
  · rcases hg with rfl | hgt
    · go_wp2_with (go_at_call 25; refine (namehead_any _).mono ?_; rintro e w1 ⟨rfl, hb1⟩)
      go_ret
      exact ⟨rfl, hb1⟩
    · have hgt2 : (20 : Int) < (n : Int) := by omega
      cases g <;>
      · go_wp2_with (go_at_call 25; refine (namehead_any _).mono ?_; rintro e w1 ⟨rfl, hb1⟩)
        go_ret
        exact ⟨rfl, hb1⟩
  · have h20 : n ≤ 20 := by omega
    obtain rfl : g = false := by cases g <;> simp_all
    clear hg
    go_wp2_with fail
    go_loopw [3, 4] (fun v i wr => ∃ k : Nat, k ≤ n ∧ i = .int .i64 k ∧ OwnList wr w.heap.size v (once f k) ∧ Below w.heap.size w wr) (fun _ i _ => n - (intOf i).toNat)
    case atStart => exact ⟨0, by omega, rfl, OwnList.nil _ _, Below.refl _ _⟩
    case round =>
      obtain ⟨k, hk, rfl, ho, hB⟩ := hrel
      have HSD := Lib.hid (show ∀ s ∈ once f k, s.size ≤ maxLen from fun s hs => by obtain ⟨i, hi, he⟩ := once_mem f k s hs; exact he ▸ (HT.out i (by omega)).2)
      obtain ⟨A, cA, rfl, hcA, hmA, hta⟩ := ho.read HSD.out
      have HO := Lib.hid ho
      have HTA := Lib.hid hta
      have HCA := Lib.hid hcA
      have HMA := Lib.hid hmA
      obtain ⟨D, hD⟩ : ∃ D, D = once f k := ⟨_, rfl⟩
      have HD := Lib.hid (show once f (k + 1) = if isIn (f k) D = true then D else D ++ [f k] from by rw [hD]; rfl)
      have HLD := Lib.hid (show D.length ≤ k from hD ▸ once_len f k)
      have HND := Lib.hid (show D.Nodup from hD ▸ once_nodup f k)
      have HDK := Lib.hid hD
      rw [← hD] at HO HTA HCA HSD ⊢
      clear ho hta hcA hmA hD
      have hBs : w.heap.size ≤ wr.heap.size := hB.size
      by_cases hkn : k < n
      · have hD20 : D.length ≤ 20 := by have := HLD.out; omega
        go_wp2_with fail
        go_loopw [5, 6] (fun s j wr2 => ∃ m : Nat, m ≤ D.length ∧ j = .int .i64 m ∧ s = .bool (!isIn (f k) (D.take m)) ∧ Since wr wr2) (fun _ j _ => D.length - (intOf j).toNat)
        case atStart => exact ⟨0, by omega, rfl, by simp [isIn], Below.refl _ _⟩
        case round =>
          obtain ⟨j, hj, rfl, rfl, hS⟩ := hrel
          by_cases hjd : j < D.length
          · obtain ⟨gb, goff, hA, htx⟩ := HTA.out.resolve_left (by omega)
            subst hA
            have H1 := Lib.hid (htx.below hS j hjd).1
            have H2 := Lib.hid ((HT.out.below (hB.trans (Below.mono hS hBs))) k hkn).1
            have HFS := Lib.hid (fresh_step D (f k) j hjd)
            clear htx
            go_upto_region 11 with (fail)
            cases hin : isIn (f k) (D.take j) with
            | true =>
              rw [hin] at HFS
              clear hin
              refine wk_region_since (by kernel_rfl) (by kernel_rfl) ?_
              refine wk_move _ (by kernel_rfl) rfl ?_
              simp only [Act.put, Act.eval, Array.getD_eq_getD_getElem?, List.getElem?_toArray, List.getElem?_cons_succ, List.getElem?_cons_zero, Option.getD_some, List.setIfInBounds_toArray, List.set_cons_zero, List.set_cons_succ]
              refine wk_move _ (by kernel_rfl) rfl ?_
              simp only [Act.put, Act.eval, Array.getD_eq_getD_getElem?, List.getElem?_toArray, List.getElem?_cons_succ, List.getElem?_cons_zero, Option.getD_some, List.setIfInBounds_toArray, List.set_cons_zero, List.set_cons_succ]
              refine wk_skip (by kernel_rfl) ?_
              simp only [Act.put, List.setIfInBounds_toArray, List.set_cons_zero, List.set_cons_succ]
              refine wk_skip (by kernel_rfl) ?_
              simp only [Act.put, List.setIfInBounds_toArray, List.set_cons_zero, List.set_cons_succ]
              refine wk_skip (by kernel_rfl) ?_
              simp only [Act.put, List.setIfInBounds_toArray, List.set_cons_zero, List.set_cons_succ]
              refine wk_skip (by kernel_rfl) ?_
              simp only [Act.put, List.setIfInBounds_toArray, List.set_cons_zero, List.set_cons_succ]
              refine wk_skip (by kernel_rfl) ?_
              simp only [Act.put, List.setIfInBounds_toArray, List.set_cons_zero, List.set_cons_succ]
              refine wk_skip (by kernel_rfl) ?_
              simp only [Act.put, List.setIfInBounds_toArray, List.set_cons_zero, List.set_cons_succ]
              refine wk_skip (by kernel_rfl) ?_
              simp only [Act.put, List.setIfInBounds_toArray, List.set_cons_zero, List.set_cons_succ]
              refine wk_skip (by kernel_rfl) ?_
              simp only [Act.put, List.setIfInBounds_toArray, List.set_cons_zero, List.set_cons_succ]
              refine wk_skip (by kernel_rfl) ?_
              simp only [Act.put, List.setIfInBounds_toArray, List.set_cons_zero, List.set_cons_succ]
              refine wk_pickf _ _ _ _ (by kernel_rfl) rfl rfl rfl ?_
              simp only [Act.put, Act.eval, Array.getD_eq_getD_getElem?, List.getElem?_toArray, List.getElem?_cons_succ, List.getElem?_cons_zero, Option.getD_some, List.setIfInBounds_toArray, List.set_cons_zero, List.set_cons_succ]
              refine wk_assign _ (by kernel_rfl) rfl ?_
              simp only [Act.put, Act.eval, Array.getD_eq_getD_getElem?, List.getElem?_toArray, List.getElem?_cons_succ, List.getElem?_cons_zero, Option.getD_some, List.setIfInBounds_toArray, List.set_cons_zero, List.set_cons_succ]
              refine wk_nil ?_
              intro w' hC
              go_wp2_with fail
              go_roundw
              case rel => exact ⟨j + 1, by omega, by go_num, by rw [HFS.out]; rfl, Below.trans hS (Below.mono hC (Below.size hS))⟩
              case measure => simp [intOf]; omega
            | false =>
              rw [hin] at HFS
              clear hin
              cases hne : decide (atL D j = f k) with
              | true =>
                rw [hne] at HFS
                have HNE := Lib.hid hne
                clear hne
                refine wk_region_since (by kernel_rfl) (by kernel_rfl) ?_
                refine wk_move _ (by kernel_rfl) rfl ?_
                simp only [Act.put, Act.eval, Array.getD_eq_getD_getElem?, List.getElem?_toArray, List.getElem?_cons_succ, List.getElem?_cons_zero, Option.getD_some, List.setIfInBounds_toArray, List.set_cons_zero, List.set_cons_succ]
                refine wk_move _ (by kernel_rfl) rfl ?_
                simp only [Act.put, Act.eval, Array.getD_eq_getD_getElem?, List.getElem?_toArray, List.getElem?_cons_succ, List.getElem?_cons_zero, Option.getD_some, List.setIfInBounds_toArray, List.set_cons_zero, List.set_cons_succ]
                refine wk_move _ (by kernel_rfl) rfl ?_
                simp only [Act.put, Act.eval, Array.getD_eq_getD_getElem?, List.getElem?_toArray, List.getElem?_cons_succ, List.getElem?_cons_zero, Option.getD_some, List.setIfInBounds_toArray, List.set_cons_zero, List.set_cons_succ]
                refine wk_move _ (by kernel_rfl) rfl ?_
                simp only [Act.put, Act.eval, Array.getD_eq_getD_getElem?, List.getElem?_toArray, List.getElem?_cons_succ, List.getElem?_cons_zero, Option.getD_some, List.setIfInBounds_toArray, List.set_cons_zero, List.set_cons_succ]
                refine wk_index _ _ _ _ _ _ (D.length) _ (j) 1 .i64 (by kernel_rfl) rfl Try.underlying38 (by kernel_rfl) rfl rfl (hjd) ?_
                simp only [Act.put, List.setIfInBounds_toArray, List.set_cons_zero, List.set_cons_succ, Nat.mul_one]
                refine wk_load1 _ _ _ _ .string rfl (by kernel_rfl) rfl rfl (fun w' hC => hC.cell H1.out) Try.underlying9 ?_
                simp only [Act.put, List.setIfInBounds_toArray, List.set_cons_zero, List.set_cons_succ]
                refine wk_move _ (by kernel_rfl) rfl ?_
                simp only [Act.put, Act.eval, Array.getD_eq_getD_getElem?, List.getElem?_toArray, List.getElem?_cons_succ, List.getElem?_cons_zero, Option.getD_some, List.setIfInBounds_toArray, List.set_cons_zero, List.set_cons_succ]
                refine wk_move _ (by kernel_rfl) rfl ?_
                simp only [Act.put, Act.eval, Array.getD_eq_getD_getElem?, List.getElem?_toArray, List.getElem?_cons_succ, List.getElem?_cons_zero, Option.getD_some, List.setIfInBounds_toArray, List.set_cons_zero, List.set_cons_succ]
                refine wk_index _ _ _ _ _ _ (n) _ (k) 1 .i64 (by kernel_rfl) rfl Try.underlying38 (by kernel_rfl) rfl rfl (hkn) ?_
                simp only [Act.put, List.setIfInBounds_toArray, List.set_cons_zero, List.set_cons_succ, Nat.mul_one]
                refine wk_load1 _ _ _ _ .string rfl (by kernel_rfl) rfl rfl (fun w' hC => hC.cell H2.out) Try.underlying9 ?_
                simp only [Act.put, List.setIfInBounds_toArray, List.set_cons_zero, List.set_cons_succ]
                refine wk_neq_str (false) _ _ _ _ _ _ (by kernel_rfl) rfl rfl rfl (by rw [HNE.out]; rfl) ?_
                simp only [Act.put, List.setIfInBounds_toArray, List.set_cons_zero, List.set_cons_succ]
                refine wk_pickt _ _ _ _ (by kernel_rfl) rfl rfl rfl ?_
                simp only [Act.put, Act.eval, Array.getD_eq_getD_getElem?, List.getElem?_toArray, List.getElem?_cons_succ, List.getElem?_cons_zero, Option.getD_some, List.setIfInBounds_toArray, List.set_cons_zero, List.set_cons_succ]
                refine wk_assign _ (by kernel_rfl) rfl ?_
                simp only [Act.put, Act.eval, Array.getD_eq_getD_getElem?, List.getElem?_toArray, List.getElem?_cons_succ, List.getElem?_cons_zero, Option.getD_some, List.setIfInBounds_toArray, List.set_cons_zero, List.set_cons_succ]
                refine wk_nil ?_
                intro w' hC
                go_wp2_with fail
                go_roundw
                case rel => exact ⟨j + 1, by omega, by go_num, by rw [HFS.out]; rfl, Below.trans hS (Below.mono hC (Below.size hS))⟩
                case measure => simp [intOf]; omega
              | false =>
                rw [hne] at HFS
                have HNE := Lib.hid hne
                clear hne
                refine wk_region_since (by kernel_rfl) (by kernel_rfl) ?_
                refine wk_move _ (by kernel_rfl) rfl ?_
                simp only [Act.put, Act.eval, Array.getD_eq_getD_getElem?, List.getElem?_toArray, List.getElem?_cons_succ, List.getElem?_cons_zero, Option.getD_some, List.setIfInBounds_toArray, List.set_cons_zero, List.set_cons_succ]
                refine wk_move _ (by kernel_rfl) rfl ?_
                simp only [Act.put, Act.eval, Array.getD_eq_getD_getElem?, List.getElem?_toArray, List.getElem?_cons_succ, List.getElem?_cons_zero, Option.getD_some, List.setIfInBounds_toArray, List.set_cons_zero, List.set_cons_succ]
                refine wk_move _ (by kernel_rfl) rfl ?_
                simp only [Act.put, Act.eval, Array.getD_eq_getD_getElem?, List.getElem?_toArray, List.getElem?_cons_succ, List.getElem?_cons_zero, Option.getD_some, List.setIfInBounds_toArray, List.set_cons_zero, List.set_cons_succ]
                refine wk_move _ (by kernel_rfl) rfl ?_
                simp only [Act.put, Act.eval, Array.getD_eq_getD_getElem?, List.getElem?_toArray, List.getElem?_cons_succ, List.getElem?_cons_zero, Option.getD_some, List.setIfInBounds_toArray, List.set_cons_zero, List.set_cons_succ]
                refine wk_index _ _ _ _ _ _ (D.length) _ (j) 1 .i64 (by kernel_rfl) rfl Try.underlying38 (by kernel_rfl) rfl rfl (hjd) ?_
                simp only [Act.put, List.setIfInBounds_toArray, List.set_cons_zero, List.set_cons_succ, Nat.mul_one]
                refine wk_load1 _ _ _ _ .string rfl (by kernel_rfl) rfl rfl (fun w' hC => hC.cell H1.out) Try.underlying9 ?_
                simp only [Act.put, List.setIfInBounds_toArray, List.set_cons_zero, List.set_cons_succ]
                refine wk_move _ (by kernel_rfl) rfl ?_
                simp only [Act.put, Act.eval, Array.getD_eq_getD_getElem?, List.getElem?_toArray, List.getElem?_cons_succ, List.getElem?_cons_zero, Option.getD_some, List.setIfInBounds_toArray, List.set_cons_zero, List.set_cons_succ]
                refine wk_move _ (by kernel_rfl) rfl ?_
                simp only [Act.put, Act.eval, Array.getD_eq_getD_getElem?, List.getElem?_toArray, List.getElem?_cons_succ, List.getElem?_cons_zero, Option.getD_some, List.setIfInBounds_toArray, List.set_cons_zero, List.set_cons_succ]
                refine wk_index _ _ _ _ _ _ (n) _ (k) 1 .i64 (by kernel_rfl) rfl Try.underlying38 (by kernel_rfl) rfl rfl (hkn) ?_
                simp only [Act.put, List.setIfInBounds_toArray, List.set_cons_zero, List.set_cons_succ, Nat.mul_one]
                refine wk_load1 _ _ _ _ .string rfl (by kernel_rfl) rfl rfl (fun w' hC => hC.cell H2.out) Try.underlying9 ?_
                simp only [Act.put, List.setIfInBounds_toArray, List.set_cons_zero, List.set_cons_succ]
                refine wk_neq_str (true) _ _ _ _ _ _ (by kernel_rfl) rfl rfl rfl (by rw [HNE.out]; rfl) ?_
                simp only [Act.put, List.setIfInBounds_toArray, List.set_cons_zero, List.set_cons_succ]
                refine wk_pickt _ _ _ _ (by kernel_rfl) rfl rfl rfl ?_
                simp only [Act.put, Act.eval, Array.getD_eq_getD_getElem?, List.getElem?_toArray, List.getElem?_cons_succ, List.getElem?_cons_zero, Option.getD_some, List.setIfInBounds_toArray, List.set_cons_zero, List.set_cons_succ]
                refine wk_assign _ (by kernel_rfl) rfl ?_
                simp only [Act.put, Act.eval, Array.getD_eq_getD_getElem?, List.getElem?_toArray, List.getElem?_cons_succ, List.getElem?_cons_zero, Option.getD_some, List.setIfInBounds_toArray, List.set_cons_zero, List.set_cons_succ]
                refine wk_nil ?_
                intro w' hC
                go_wp2_with fail
                go_roundw
                case rel => exact ⟨j + 1, by omega, by go_num, by rw [HFS.out]; rfl, Below.trans hS (Below.mono hC (Below.size hS))⟩
                case measure => simp [intOf]; omega
          · obtain rfl : j = D.length := by omega
            rw [List.take_length]
            cases hin : isIn (f k) D with
            | true =>
              have HE := Lib.hid (show once f (k + 1) = D from by rw [HD.out, hin]; rfl)
              clear hin
              go_wp2_with fail
              go_roundw
              case rel => exact ⟨k + 1, by omega, by go_num, by rw [HE.out]; exact OwnList.below HO.out hS, Below.trans hB (Below.mono hS hBs)⟩
              case measure => simp [intOf]; omega
            | false =>
              have HE := Lib.hid (show once f (k + 1) = D ++ [f k] from by rw [HD.out, hin]; rfl)
              clear hin
              have h2 : wr.cell? ⟨b, off + k, none⟩ = some (.string (f k)) := ((HT.out.below (hB.trans (Below.mono hS hBs))) k hkn).1
              go_wp2_with (at_builtin; refine wpList_append_own_at _ rfl _ _ 38 rfl w.heap.size 9 i0 (.string ⟨#[]⟩) 1 16 Try.underlying38 hi hz0 hz1 hz2 rfl (by decide) _ _ _ rfl (World.ownsRow.alloc (OwnList.below HO.out hS) _) ⟨wr.heap.size, 0, none⟩ 1 1 [.string (f k)] rfl rfl (cell_one_new _ _ _) (by intro u hu; simp at hu; subst hu; rfl) (by have := HLD.out; unfold maxLen; omega) (by have := HLD.out; omega) (by have := Below.size hS; simp; omega) ?_; intro v' w4 hown' hgrow _ hat; have HP := Lib.hid (rel_push hB hBs hS HO.out (OwnList.nil _ _) (.inl rfl) hown' hgrow hat); clear hown' hgrow hat)
              go_roundw
              case rel => exact ⟨k + 1, by omega, by go_num, by rw [HE.out]; exact HP.out.1, HP.out.2.2.2⟩
              case measure => simp [intOf]; omega
      · obtain rfl : k = n := by omega
        go_upto_region 14 with (fail)
        refine wk_plain_since ?_
        refine wk_move _ (by kernel_rfl) rfl ?_
        simp only [Act.put, Act.eval, Array.getD_eq_getD_getElem?, List.getElem?_toArray, List.getElem?_cons_succ, List.getElem?_cons_zero, Option.getD_some, List.setIfInBounds_toArray, List.set_cons_zero, List.set_cons_succ]
        refine wk_call 35 _ _ _ _ _ (by kernel_rfl) rfl Try.func35 rfl (by kernel_rfl) (fun w' hC => hC.call (split_any D.length D (Nat.le_refl _) (by have := HLD.out; omega) HND.out HSD.out A cA w' HCA.out HMA.out (HTA.out.below hC))) ?_
        simp only [Act.put, List.setIfInBounds_toArray, List.set_cons_zero, List.set_cons_succ]
        refine wk_move _ (by kernel_rfl) rfl ?_
        simp only [Act.put, Act.eval, Array.getD_eq_getD_getElem?, List.getElem?_toArray, List.getElem?_cons_succ, List.getElem?_cons_zero, Option.getD_some, List.setIfInBounds_toArray, List.set_cons_zero, List.set_cons_succ]
        refine wk_len_slice _ _ _ _ _ _ Try.underlying38 (by kernel_rfl) rfl rfl ?_
        simp only [Act.put, List.setIfInBounds_toArray, List.set_cons_zero, List.set_cons_succ]
        refine wk_eql_int true _ _ _ _ _ _ _ (by kernel_rfl) rfl rfl rfl (beq_self_eq_true _) ?_
        simp only [Act.put, List.setIfInBounds_toArray, List.set_cons_zero, List.set_cons_succ]
        refine wk_move _ (by kernel_rfl) rfl ?_
        simp only [Act.put, Act.eval, Array.getD_eq_getD_getElem?, List.getElem?_toArray, List.getElem?_cons_succ, List.getElem?_cons_zero, Option.getD_some, List.setIfInBounds_toArray, List.set_cons_zero, List.set_cons_succ]
        refine wk_call 25 _ _ _ _ _ (by kernel_rfl) rfl Try.func25 rfl (by kernel_rfl) (fun w' hC => hC.call (namehead_any w')) ?_
        simp only [Act.put, List.setIfInBounds_toArray, List.set_cons_zero, List.set_cons_succ]
        refine wk_pickt _ _ _ _ (by kernel_rfl) rfl rfl rfl ?_
        simp only [Act.put, Act.eval, Array.getD_eq_getD_getElem?, List.getElem?_toArray, List.getElem?_cons_succ, List.getElem?_cons_zero, Option.getD_some, List.setIfInBounds_toArray, List.set_cons_zero, List.set_cons_succ]
        refine wk_assign _ (by kernel_rfl) rfl ?_
        simp only [Act.put, Act.eval, Array.getD_eq_getD_getElem?, List.getElem?_toArray, List.getElem?_cons_succ, List.getElem?_cons_zero, Option.getD_some, List.setIfInBounds_toArray, List.set_cons_zero, List.set_cons_succ]
        refine wk_nil ?_
        intro w' hC
        go_wp2_with fail
        go_ret
        exact ⟨rfl, Below.trans hB (Below.mono hC hBs)⟩
theorem namesplits_none (A : Option Addr) (c : Nat) (w : World) : Calls Try.prog 10 #[.slice A 0 c] w fun e w' => e = .returned (.bool true) ∧ Below w.heap.size w w' := by
  go_enter Try.func10, Try.ntmps10
  go_wp2_with fail
  refine (great_none _ _ _).mono ?_
  rintro e w' ⟨g, rfl, _, rfl⟩
  cases g with
  | true =>
    go_wp2_with (go_at_call 25; refine (namehead_any _).mono ?_; rintro e w1 ⟨rfl, hb1⟩)
    go_ret
    exact ⟨rfl, hb1⟩
  | false =>
    go_wp2_with fail
    refine wp_loop_rounds 1 ?_
    rw [rounds_succ]
    go_upto_region 14 with (fail)
    refine wk_plain_since ?_
    refine wk_move _ (by kernel_rfl) rfl ?_
    simp only [Act.put, Act.eval, Array.getD_eq_getD_getElem?, List.getElem?_toArray, List.getElem?_cons_succ, List.getElem?_cons_zero, Option.getD_some, List.setIfInBounds_toArray, List.set_cons_zero, List.set_cons_succ]
    refine wk_call 35 _ _ _ _ _ (by kernel_rfl) rfl Try.func35 rfl (by kernel_rfl) (fun w' hC => hC.call (split_any 0 [] (Nat.le_refl _) (Nat.zero_le _) List.nodup_nil (fun s hs => by cases hs) none 0 w' (Nat.le_refl _) (Nat.zero_le _) (.inl rfl))) ?_
    simp only [Act.put, List.setIfInBounds_toArray, List.set_cons_zero, List.set_cons_succ]
    refine wk_move _ (by kernel_rfl) rfl ?_
    simp only [Act.put, Act.eval, Array.getD_eq_getD_getElem?, List.getElem?_toArray, List.getElem?_cons_succ, List.getElem?_cons_zero, Option.getD_some, List.setIfInBounds_toArray, List.set_cons_zero, List.set_cons_succ]
    refine wk_len_slice _ _ _ _ _ _ Try.underlying38 (by kernel_rfl) rfl rfl ?_
    simp only [Act.put, List.setIfInBounds_toArray, List.set_cons_zero, List.set_cons_succ]
    refine wk_eql_int true _ _ _ _ _ _ _ (by kernel_rfl) rfl rfl rfl (beq_self_eq_true _) ?_
    simp only [Act.put, List.setIfInBounds_toArray, List.set_cons_zero, List.set_cons_succ]
    refine wk_move _ (by kernel_rfl) rfl ?_
    simp only [Act.put, Act.eval, Array.getD_eq_getD_getElem?, List.getElem?_toArray, List.getElem?_cons_succ, List.getElem?_cons_zero, Option.getD_some, List.setIfInBounds_toArray, List.set_cons_zero, List.set_cons_succ]
    refine wk_call 25 _ _ _ _ _ (by kernel_rfl) rfl Try.func25 rfl (by kernel_rfl) (fun w' hC => hC.call (namehead_any w')) ?_
    simp only [Act.put, List.setIfInBounds_toArray, List.set_cons_zero, List.set_cons_succ]
    refine wk_pickt _ _ _ _ (by kernel_rfl) rfl rfl rfl ?_
    simp only [Act.put, Act.eval, Array.getD_eq_getD_getElem?, List.getElem?_toArray, List.getElem?_cons_succ, List.getElem?_cons_zero, Option.getD_some, List.setIfInBounds_toArray, List.set_cons_zero, List.set_cons_succ]
    refine wk_assign _ (by kernel_rfl) rfl ?_
    simp only [Act.put, Act.eval, Array.getD_eq_getD_getElem?, List.getElem?_toArray, List.getElem?_cons_succ, List.getElem?_cons_zero, Option.getD_some, List.setIfInBounds_toArray, List.set_cons_zero, List.set_cons_succ]
    refine wk_nil ?_
    intro w' hC
    go_wp2_with fail
    go_ret
    exact ⟨rfl, hC⟩
theorem namesplits_all (A : Option Addr) (n c : Nat) (f : Nat → ByteArray) (w : World) (hnc : n ≤ c) (hc : c ≤ maxLen) (ht : TextsIn w A n f) :
    Calls Try.prog 10 #[.slice A n c] w fun e w' => e = .returned (.bool true) ∧ Below w.heap.size w w' := by
  by_cases h0 : n = 0
  · subst h0; exact namesplits_none A c w
  · rcases ht with h | ⟨b, off, rfl, h⟩
    · exact absurd h h0
    · exact namesplits_any b off n c f w (by omega) hnc hc h
end Go.Proofs.Ytnbdnnlomgjlmaa
