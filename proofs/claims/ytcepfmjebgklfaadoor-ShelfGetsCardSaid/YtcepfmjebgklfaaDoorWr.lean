/- A writer as a thing that a caller holds; what its methods do, may it be bad or not. -/
import Derived.Test.YtcepfmjebgklfaaDoorFieldNum
import Derived.Test.YtcepfmjebgklfaaDoorHeld
import Derived.Test.YtcepfmjebgklfaaDoorRefT
import Derived.Deep.Onto
namespace Go.Proofs.YtcepfmjebgklfaaDoor
open Go.RowKit
set_option linter.unusedSimpArgs false
set_option linter.unusedVariables false
set_option maxRecDepth 100000
theorem ownsRow_same {w w' : World} {base : Nat} {e : TypeId} {size : Nat} {v : Value} {n : Nat} {xs : List Value} (h : w.ownsRow base e size v n xs) (hb : ∀ b, v.ownBlock = some b → w'.heap[b]? = w.heap[b]?) : w'.ownsRow base e size v n xs := by
  refine ⟨h.1, ?_⟩
  rcases h.2 with h' | ⟨g, cap, cur, rfl, h1, h2, h3⟩
  · exact .inl h'
  · exact .inr ⟨g, cap, cur, rfl, h1, (hb g rfl).trans h2, h3⟩
def wrT (g : Nat) (bad : Bool) (L : List UInt8) : Thing where
  says F w := ∃ v, F = g :: v.ownBlock.toList ∧ WriterV w 0 g [] bad L v
  lt := by
    rintro F w ⟨v, rfl, h⟩ b hb
    rcases List.mem_cons.1 hb with rfl | hb
    · exact (Array.getElem?_eq_some_iff.1 h.row).1
    · exact (World.ownsRow.lt h.own b (by simpa using hb)).2
  loc := by
    rintro F w w' h ⟨v, rfl, hv⟩
    refine ⟨v, rfl, hv.old, hv.len, (h g (by simp)).trans hv.row, ?_, hv.ne, by simp⟩
    exact ownsRow_same hv.own (fun b hb => h b (by simp [hb]))
section
variable {w0 W : World} {g : Nat} {bad : Bool} {L : List UInt8} {l : List Thing}
theorem wr_act {f : FuncId} {args : Array Value} {bad' : Bool} {L' : List UInt8} (R : Held w0 W (wrT g bad L :: l))
    (h : ∀ X, WriterAt W 0 g X bad L → Calls Tryd.prog f args W fun e w' => e = .returned (.tuple #[]) ∧ WriterAt w' 0 g X bad' L' ∧ Leaves 0 X W w') :
    Calls Tryd.prog f args W fun e w' => e = .returned (.tuple #[]) ∧ Held w0 w' (wrT g bad' L' :: l) := by
  refine R.act (fun F hF hn => ?_)
  obtain ⟨v, rfl, hv⟩ := hF
  obtain ⟨X, hX⟩ : ∃ X, X = (List.range W.heap.size).filter (fun k => decide (k ∉ g :: v.ownBlock.toList)) := ⟨_, rfl⟩
  have hmem : ∀ k, k ∈ X ↔ k < W.heap.size ∧ k ∉ g :: v.ownBlock.toList := fun k => by rw [hX]; simp [List.mem_filter]
  refine (h X ⟨v, hv.old, hv.len, hv.row, hv.own, hv.ne, fun k hk => ?_⟩).mono ?_
  · obtain ⟨h1, h2⟩ := (hmem k).1 hk
    refine ⟨h1, fun e => h2 (by simp [e]), fun e => h2 (by simp [e])⟩
  · rintro e w' ⟨he, ⟨v', hv'⟩, hB, hL⟩
    refine ⟨he, g :: v'.ownBlock.toList, ⟨v', rfl, hv'.old, hv'.len, hv'.row, hv'.own, hv'.ne, by simp⟩, ⟨hB.os, hB.tape, hB.output, ?_, ?_⟩, ?_, ?_⟩
    · exact hB.size
    · intro k hk hF
      exact hL k ((hmem k).2 ⟨hk, hF⟩)
    · intro b hb
      rcases List.mem_cons.1 hb with rfl | hb
      · exact .inl (by simp)
      · by_cases hlt : b < W.heap.size
        · refine .inl (Classical.byContradiction fun h2 => ?_)
          exact (hv'.oth b ((hmem b).2 ⟨hlt, h2⟩)).2.2 (by simpa using hb)
        · exact .inr (by omega)
    · have := hv'.ne
      cases hq : v'.ownBlock with
      | none => simp
      | some q => rw [hq] at this; simp at this ⊢; exact fun e => this e.symm
/-- May a number have so many bytes? -/
def widthB (n : Int) : Bool := n == 1 || n == 2 || n == 4 || n == 8
theorem width_all (n : Int) (w : World) : Calls Tryd.prog 59 #[.int .i64 n] w fun e w' => e = .returned (.bool (widthB n)) ∧ w = w' := by
  by_cases hn : n = 1 ∨ n = 2 ∨ n = 4 ∨ n = 8
  · rcases hn with rfl | rfl | rfl | rfl
    · exact width_any 1 w (by omega)
    · exact width_any 2 w (by omega)
    · exact width_any 4 w (by omega)
    · exact width_any 8 w (by omega)
  · have h1 : n ≠ 1 := by omega
    have h2 : n ≠ 2 := by omega
    have h4 : n ≠ 4 := by omega
    have h8 : n ≠ 8 := by omega
    clear hn
    go_enter Tryd.func59, Tryd.ntmps59
    go_wp2
    go_ret
    exact ⟨rfl, rfl⟩
theorem writer_bad {w : World} {base g : Nat} {X : List Nat} {bad : Bool} {L : List UInt8} (h : WriterAt w base g X bad L) :
    WriterAt (w.setCell ⟨g, 2, none⟩ (.bool true)) base g X true L ∧ Leaves base X w (w.setCell ⟨g, 2, none⟩ (.bool true)) := by
  obtain ⟨v, hv⟩ := h
  refine ⟨⟨v, hv.old, hv.len, heap_setCell_same _ _ _ _ _ _ hv.row, ?_, hv.ne, fun k hk => ?_⟩, (Below.refl _ _).setCell hv.old _, fun k hk => heap_setCell_other _ _ _ _ (hv.oth k hk).2.1⟩
  · exact ownsRow_same hv.own (fun b hb => heap_setCell_other _ _ _ _ (fun e => hv.ne (by rw [hb, e])))
  · obtain ⟨a, b, c⟩ := hv.oth k hk
    exact ⟨by simpa [World.setCell] using a, b, c⟩
theorem num_bad (w : World) (base g : Nat) (X : List Nat) (bad : Bool) (L : List UInt8) (x n : Int) (hn : widthB n = false) (hw : WriterAt w base g X bad L) :
    Calls Tryd.prog 38 #[.pointer (some ⟨g, 0, none⟩), .int .u64 x, .int .i64 n] w fun e w' => e = .returned (.tuple #[]) ∧ WriterAt w' base g X true L ∧ Leaves base X w w' := by
  have HF := Lib.hid (writer_bad hw)
  have HW := Lib.hid hw
  have HN : Hid (∀ w, Calls Tryd.prog 59 #[.int .i64 n] w fun e w' => e = .returned (.bool false) ∧ w = w') := Lib.hid (fun w => by rw [← hn]; exact width_all n w)
  obtain ⟨v, hv⟩ := hw
  have h2 : w.cell? ⟨g, 2, none⟩ = some (.bool bad) := cell_of_row w g 2 _ _ _ hv.row
  have f2 := frozen_of_row w g 2 _ _ hv.row
  clear hv hn
  go_enter Tryd.func38, Tryd.ntmps38
  go_wp2
  refine wp_scope_jumps 0 (fun _ _ => False) (fun _ _ => 0) rfl ?_ ?_
  · go_wp2_with (first
      | (go_at_call 58; refine (none_any _ _ _ _ _ _ HW.out).mono ?_; rintro e w1 ⟨rfl, rfl⟩)
      | (go_at_call 59; refine (HN.out _).mono ?_; rintro e w1 ⟨rfl, rfl⟩))
    simp only [Exit.jump]
    exact bodyPost_ret (v := .tuple #[]) (results_none rfl _ _ _) rfl ⟨rfl, HF.out⟩
  · rintro a' w2 hh
    exact absurd hh id
/-- The writer turned bad behind reads. -/
theorem bad_since {w w' : World} {base g : Nat} {X : List Nat} {bad : Bool} {L : List UInt8} (h : WriterAt w base g X bad L) (hC : Below w.heap.size w w') :
    WriterAt (w'.setCell ⟨g, 2, none⟩ (.bool true)) base g X true L ∧ Leaves base X w (w'.setCell ⟨g, 2, none⟩ (.bool true)) := by
  obtain ⟨h1, h2⟩ := writer_bad (h.below hC)
  refine ⟨h1, Leaves.trans ?_ h2⟩
  obtain ⟨v, hv⟩ := h
  have hgs : g < w.heap.size := (Array.getElem?_eq_some_iff.1 hv.row).1
  exact ⟨hC.mono (by have := hv.old; omega), fun k hk => hC.block k (hv.oth k hk).1⟩
theorem wrnum_is (R : Held w0 W (wrT g bad L :: l)) (x n : Nat) (hn : n = 1 ∨ n = 2 ∨ n = 4 ∨ n = 8) (hL : L.length + n ≤ 100000) (hx : x < 2 ^ 64) :
    Calls Tryd.prog 38 #[.pointer (some ⟨g, 0, none⟩), .int .u64 (x : Int), .int .i64 (n : Int)] W fun e w' => e = .returned (.tuple #[]) ∧ Held w0 w' (wrT g bad (L ++ lows x n) :: l) :=
  wr_act R (fun X h => num_any W 0 g X bad L x n hn hL hx h)
theorem wrnum_bad (R : Held w0 W (wrT g bad L :: l)) (x n : Int) (hn : widthB n = false) :
    Calls Tryd.prog 38 #[.pointer (some ⟨g, 0, none⟩), .int .u64 x, .int .i64 n] W fun e w' => e = .returned (.tuple #[]) ∧ Held w0 w' (wrT g true L :: l) :=
  wr_act R (fun X h => num_bad W 0 g X bad L x n hn h)
theorem wrnew_is (R : Held w0 W l) : Calls Tryd.prog 37 #[] W fun e w' => ∃ g, e = .returned (.pointer (some ⟨g, 0, none⟩)) ∧ Held w0 w' (wrT g false [] :: l) := by
  refine (new_any W).mono ?_
  rintro e w' ⟨g, rfl, hg, ⟨v, hv⟩, hB⟩
  refine ⟨g, rfl, R.more hB (F := g :: v.ownBlock.toList) ⟨v, rfl, ⟨Nat.zero_le _, hv.len, hv.row, World.ownsRow.mono hv.own (Nat.zero_le _), hv.ne, by simp⟩⟩ ?_ ?_⟩
  · intro b hb
    rcases List.mem_cons.1 hb with rfl | hb
    · omega
    · exact (World.ownsRow.lt hv.own b (by simpa using hb)).1
  · have := hv.ne
    cases hq : v.ownBlock with
    | none => simp
    | some q => rw [hq] at this; simp at this ⊢; exact fun e => this e.symm
theorem wrdone_is (R : Held w0 W (wrT g false L :: l)) (m : UInt8) (hL : L.length ≤ 251) :
    Calls Tryd.prog 39 #[.pointer (some ⟨g, 0, none⟩), .int .u8 (m.toNat : Int)] W fun e w' => e = .returned (.tuple #[.agg (blk (doneB m L)), .int .i64 0]) ∧ Below W.heap.size W w' := by
  obtain ⟨F, v, _, hv⟩ := R.thing 0 rfl
  exact done_any W 0 g [] L m hL ⟨v, hv⟩
theorem wrdone_long (R : Held w0 W (wrT g bad L :: l)) (m : UInt8) (hL : bad = true ∨ 251 < L.length) :
    Calls Tryd.prog 39 #[.pointer (some ⟨g, 0, none⟩), .int .u8 (m.toNat : Int)] W fun e w' => e = .returned (.tuple #[.agg (zeros 256 (.int .u8 0)), .int .i64 3]) ∧ Below W.heap.size W w' := by
  obtain ⟨F, v, _, hv⟩ := R.thing 0 rfl
  exact done_long W 0 g [] L m bad hL ⟨v, hv⟩
end
end Go.Proofs.YtcepfmjebgklfaaDoor
