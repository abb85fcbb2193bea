import Derived.Test.YtnbdnnlomgjlmaaName7
namespace Go.Proofs.Ytnbdnnlomgjlmaa
open Go.RowKit
/-- The one that stands above all of f 0 .. f k, as the loop finds it. -/
def bestF (f : Nat → ByteArray) : Nat → ByteArray
  | 0 => f 0
  | k + 1 => if aboveV (f (k + 1)).data.toList (bestF f k).data.toList then f (k + 1) else bestF f k
theorem bestF_is (f : Nat → ByteArray) : ∀ k, ∃ i, i ≤ k ∧ bestF f k = f i
  | 0 => ⟨0, Nat.le_refl _, rfl⟩
  | k + 1 => by
    unfold bestF
    obtain ⟨i, hi, he⟩ := bestF_is f k
    split
    · exact ⟨k + 1, Nat.le_refl _, rfl⟩
    · exact ⟨i, by omega, he⟩
/-- The slice that begins at cell off of block b has the texts f 0 .. f (n - 1). -/
def TextsAt (w : World) (b off n : Nat) (f : Nat → ByteArray) : Prop := ∀ i, i < n → w.cell? ⟨b, off + i, none⟩ = some (.string (f i)) ∧ (f i).size ≤ maxLen
theorem TextsAt.below {w w' : World} {b off n : Nat} {f : Nat → ByteArray} (h : TextsAt w b off n f) (hb : Below w.heap.size w w') : TextsAt w' b off n f := fun i hi =>
  ⟨(hb.cell (World.block_lt_of_cell? w _ (h i hi).1)).trans (h i hi).1, (h i hi).2⟩
set_option maxHeartbeats 400000 in
theorem ordertop_any (b off n c : Nat) (f : Nat → ByteArray) (w : World) (h0 : 0 < n) (hnc : n ≤ c) (hc : c ≤ maxLen) (ht : TextsAt w b off n f) :
    Calls Try.prog 58 #[.agg #[.func (.func 31) #[] #[]], .slice (some ⟨b, off, none⟩) n c] w fun e w' => e = .returned (.string (bestF f (n - 1))) ∧ Below w.heap.size w w' := by
  unfold maxLen at hc
  have HT := Lib.hid ht
  have h00 := (ht 0 h0).1
  simp only [Nat.add_zero] at h00
  have hbw : b < w.heap.size := World.block_lt_of_cell? w _ h00
  clear ht
  by_cases hc1 : c = 1
  · obtain rfl : n = 1 := by omega
    subst hc1
    go_enter Try.func58, Try.ntmps58
    go_wp2_with fail
    refine wp_loop_rounds 1 ?_
    rw [rounds_succ]
    go_wp2_with fail
    go_ret
    exact ⟨rfl, (Below.refl _ _).alloc (Nat.le_refl _) _⟩
  · have hcc : ¬ (c : Int) = 1 := by omega
    have HF := Lib.hid (heap_alloc_new w (.cells #[.func (.func 31) #[] #[]] 90))
    go_enter Try.func58, Try.ntmps58
    go_wp2_with fail
    have HTW := Lib.hid (HT.out.below ((Below.refl w.heap.size w).alloc (Nat.le_refl _) (.cells #[.func (.func 31) #[] #[]] 90)))
    have HB0 : Below w.heap.size w (w.alloc (.cells #[.func (.func 31) #[] #[]] 90)) := (Below.refl _ _).alloc (Nat.le_refl _) _
    have hzz : w.heap.size < (w.alloc (.cells #[.func (.func 31) #[] #[]] 90)).heap.size := by simp
    obtain ⟨W, hW⟩ : ∃ W, W = w.alloc (.cells #[.func (.func 31) #[] #[]] 90) := ⟨_, rfl⟩
    rw [← hW] at HTW HF HB0 hzz ⊢
    clear hW h00
    go_loopw [5, 7, 14] (fun s _ i wr => ∃ k : Nat, k ≤ n - 1 ∧ i = .int .i64 k ∧ s = .string (bestF f k) ∧ Since W wr) (fun _ _ i _ => n - (intOf i).toNat)
    case atStart => exact ⟨0, by omega, rfl, rfl, Below.refl _ _⟩
    case round =>
      obtain ⟨k, hk, rfl, rfl, hS⟩ := hrel
      by_cases hlt : k < n - 1
      · obtain ⟨j, hj, hbj⟩ := bestF_is f k
        have hsb : (bestF f k).size ≤ maxLen := by rw [hbj]; exact (HT.out j (by omega)).2
        have hsk : (f (k + 1)).size ≤ maxLen := (HT.out (k + 1) (by omega)).2
        have h1 : wr.cell? ⟨b, off + 1 + k, none⟩ = some (.string (f (k + 1))) := by
          have := (HTW.out.below hS (k + 1) (by omega)).1
          rwa [show off + (k + 1) = off + 1 + k by omega] at this
        have h2 : wr.cell? ⟨w.heap.size, 0, none⟩ = some (.func (.func 31) #[] #[]) :=
          cell_of_row wr _ 0 _ _ _ (hS.row HF.out)
        have HN := Lib.hid (show bestF f (k + 1) = if aboveV (f (k + 1)).data.toList (bestF f k).data.toList then f (k + 1) else bestF f k from rfl)
        have HSB := Lib.hid hsb
        have HSK := Lib.hid hsk
        clear hbj hsb hsk
        cases hab : aboveV (f (k + 1)).data.toList (bestF f k).data.toList with
        | true =>
          rw [hab] at HN
          have HAB := Lib.hid hab
          clear hab
          go_wp2_with (go_at_call 31; refine (above_is _ _ _ HSK.out HSB.out true HAB.out).mono ?_; rintro e w1 ⟨rfl, hb1⟩)
          go_roundw
          case rel => exact ⟨k + 1, by omega, by go_num, by rw [HN.out]; rfl, Below.trans hS (hb1.mono hS.size)⟩
          case measure => simp [intOf]; omega
        | false =>
          rw [hab] at HN
          have HAB := Lib.hid hab
          clear hab
          go_wp2_with (go_at_call 31; refine (above_is _ _ _ HSK.out HSB.out false HAB.out).mono ?_; rintro e w1 ⟨rfl, hb1⟩)
          go_roundw
          case rel => exact ⟨k + 1, by omega, by go_num, by rw [HN.out]; rfl, Below.trans hS (hb1.mono hS.size)⟩
          case measure => simp [intOf]; omega
      · obtain rfl : k = n - 1 := by omega
        go_wp2_with fail
        go_ret
        exact ⟨rfl, HB0.trans (hS.mono (by omega))⟩
theorem top_any (b off n c : Nat) (f : Nat → ByteArray) (w : World) (h0 : 0 < n) (hnc : n ≤ c) (hc : c ≤ maxLen) (ht : TextsAt w b off n f) :
    Calls Try.prog 33 #[.slice (some ⟨b, off, none⟩) n c] w fun e w' => e = .returned (.tuple #[.string (bestF f (n - 1)), .bool true]) ∧ Below w.heap.size w w' := by
  have HT := Lib.hid ht
  have hn : ((n : Int) == 0) = false := by simp; omega
  clear ht
  go_enter Try.func33, Try.ntmps33
  go_wp2_with (go_at_call 58; refine (ordertop_any b off n c f _ h0 hnc hc HT.out).mono ?_; rintro e w1 ⟨rfl, hb1⟩)
  go_ret2
  exact ⟨rfl, hb1⟩
