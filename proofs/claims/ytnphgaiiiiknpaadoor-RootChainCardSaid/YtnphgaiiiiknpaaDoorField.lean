/- The field layer's writer: what a writer is; New, none, width. -/
import Derived.Test.YtnphgaiiiiknpaaDoorFieldMath
import Derived.Test.YtnphgaiiiiknpaaDoorQuiet
import Derived.OwnWalk
import Derived.Maps.AppendAt
namespace Go.Proofs.YtnphgaiiiiknpaaDoor
open Go.RowKit
set_option maxRecDepth 100000
set_option linter.unusedSimpArgs false
theorem infoU8 : (Tryd.prog.info? 5).map (fun i => (i.zero, i.size, i.bytes)) = some (some (.int .u8 0), 1, 1) := by kernel_rfl
/-- The slice v is the call's own and holds the bytes of L. -/
def OwnBytes (w : World) (base : Nat) (v : Value) (L : List UInt8) : Prop := w.ownsRow base 5 1 v L.length (L.map vu8)
/-- A writer lies in block g: the bytes so far are the slice v's, whether it is bad. The blocks X are others'. -/
structure WriterV (w : World) (base g : Nat) (X : List Nat) (bad : Bool) (L : List UInt8) (v : Value) : Prop where
  old : base ≤ g
  len : L.length ≤ 100000
  row : w.heap[g]? = some (.cells #[v, .bool true, .bool bad] 119 (0, 0))
  own : OwnBytes w base v L
  ne : v.ownBlock ≠ some g
  oth : ∀ k ∈ X, k < w.heap.size ∧ k ≠ g ∧ v.ownBlock ≠ some k
def WriterAt (w : World) (base g : Nat) (X : List Nat) (bad : Bool) (L : List UInt8) : Prop := ∃ v, WriterV w base g X bad L v
/-- What a writer's method leaves of the rest of memory. -/
def Leaves (base : Nat) (X : List Nat) (w w' : World) : Prop := Below base w w' ∧ ∀ k ∈ X, w'.heap[k]? = w.heap[k]?
theorem Leaves.refl (base : Nat) (X : List Nat) (w : World) : Leaves base X w w := ⟨Below.refl _ _, fun _ _ => rfl⟩
theorem Leaves.trans {base : Nat} {X : List Nat} {a b c : World} (h : Leaves base X a b) (h' : Leaves base X b c) : Leaves base X a c := ⟨h.1.trans h'.1, fun k hk => (h'.2 k hk).trans (h.2 k hk)⟩
theorem width_any (n : Nat) (w : World) (hn : n = 1 ∨ n = 2 ∨ n = 4 ∨ n = 8) : Calls Tryd.prog 69 #[.int .i64 (n : Int)] w fun e w' => e = .returned (.bool true) ∧ w = w' := by
  rcases hn with rfl | rfl | rfl | rfl <;>
  · go_enter Tryd.func69, Tryd.ntmps69
    go_wp2
    go_ret
    exact ⟨rfl, rfl⟩
theorem new_any (w : World) : Calls Tryd.prog 59 #[] w fun e w' => ∃ g, e = .returned (.pointer (some ⟨g, 0, none⟩)) ∧ w.heap.size = g ∧ WriterAt w' w.heap.size g [] false [] ∧ Below w.heap.size w w' := by
  go_enter Tryd.func59, Tryd.ntmps59
  go_wp2
  go_ret
  exact ⟨w.heap.size, rfl, rfl, ⟨.slice none 0 0, Nat.le_refl _, by simp, heap_alloc_new w _, World.ownsRow_nil _ _ _ _, by simp [Value.ownBlock], by simp⟩, (Below.refl _ _).alloc (Nat.le_refl _) _⟩
theorem none_any (w : World) (base g : Nat) (X : List Nat) (bad : Bool) (L : List UInt8) (hw : WriterAt w base g X bad L) : Calls Tryd.prog 68 #[.pointer (some ⟨g, 0, none⟩)] w fun e w' => e = .returned (.bool false) ∧ w = w' := by
  obtain ⟨v, _, _, hr, _, _, _⟩ := hw
  have h0 : w.cell? ⟨g, 0, none⟩ = some v := cell_of_row w g 0 _ _ _ hr
  have h1 : w.cell? ⟨g, 1, none⟩ = some (.bool true) := cell_of_row w g 1 _ _ _ hr
  go_enter Tryd.func68, Tryd.ntmps68
  go_wp2
  go_ret
  exact ⟨rfl, rfl⟩
/-- More memory: the writer stands, and the new block is another's. -/
theorem WriterAt.alloc {w : World} {base g : Nat} {X : List Nat} {bad : Bool} {L : List UInt8} (h : WriterAt w base g X bad L) (o : Obj) : WriterAt (w.alloc o) base g (w.heap.size :: X) bad L := by
  obtain ⟨v, h1, h2, h3, h4, h5, h6⟩ := h
  have hg : g < w.heap.size := (Array.getElem?_eq_some_iff.1 h3).1
  refine ⟨v, h1, h2, ?_, World.ownsRow.alloc h4 o, h5, ?_⟩
  · rw [Go.heap_alloc_old w o hg]; exact h3
  · intro k hk
    rcases List.mem_cons.1 hk with rfl | hk
    · exact ⟨by simp, by omega, fun e => by have := (World.ownsRow.lt h4 _ e).2; omega⟩
    · obtain ⟨a, b, c⟩ := h6 k hk
      exact ⟨by simp; omega, b, c⟩
theorem grown_trans {a b c : World} {row row' : Option Nat} (h : a.grownBy b row) (h' : b.grownBy c row') (hr : row' = row ∨ ∃ k, a.heap.size ≤ k ∧ row' = some k) : a.grownBy c row :=
  ⟨h'.os.trans h.os, h'.tape.trans h.tape, h'.output.trans h.output, Nat.le_trans h.size h'.size, fun k hk hne => by
    have hs := h.size
    rw [h'.block k (by omega) (by
      rcases hr with rfl | ⟨j, hj, rfl⟩
      · exact hne
      · simp; omega), h.block k hk hne]⟩
/-- Behind an append, and the store of the new slice into the writer. -/
theorem writer_push {w w1 : World} {base g : Nat} {X : List Nat} {bad : Bool} {L M : List UInt8} {v v' : Value} (hW : WriterV w base g X bad L v) (hgrow : w.grownBy w1 v.ownBlock) (hat : v'.ownBlock = v.ownBlock ∨ ∃ k, w.heap.size ≤ k ∧ v'.ownBlock = some k) (hl : (L ++ M).length ≤ 100000)
    (hown' : w1.ownsRow base 5 1 v' (L ++ M).length ((L ++ M).map vu8)) :
    WriterV (w1.setCell ⟨g, 0, none⟩ v') base g X bad (L ++ M) v' ∧ Leaves base X w (w1.setCell ⟨g, 0, none⟩ v') := by
  obtain ⟨hb, _, hg, hown, hne, hX⟩ := hW
  have hgs : g < w.heap.size := (Array.getElem?_eq_some_iff.1 hg).1
  have hg1 : w1.heap[g]? = some (.cells #[v, .bool true, .bool bad] 119 (0, 0)) := by
    rw [hgrow.block g hgs (fun e => hne e.symm)]; exact hg
  have hne' : v'.ownBlock ≠ some g := by
    rcases hat with h | ⟨k, hk, h⟩ <;> rw [h]
    · exact hne
    · simp; omega
  have hX' : ∀ k ∈ X, w1.heap[k]? = w.heap[k]? := fun k hk => by
    obtain ⟨a, b, c⟩ := hX k hk
    rw [hgrow.block k a (fun e => c e.symm)]
  have hs : w.heap.size ≤ w1.heap.size := hgrow.size
  refine ⟨⟨hb, hl, ?_, ?_, hne', ?_⟩, ?_, ?_⟩
  · exact heap_setCell_same w1 g 0 _ _ v' hg1
  · unfold OwnBytes
    refine ⟨hown'.1, ?_⟩
    rcases hown'.2 with h | ⟨k, cap, cur, e1, e2, e3, rest⟩
    · exact .inl h
    · refine .inr ⟨k, cap, cur, e1, e2, ?_, rest⟩
      rw [heap_setCell_other _ _ _ _ (show k ≠ g from fun e => hne' (by rw [e1, ← e]; rfl))]
      exact e3
  · intro k hk
    obtain ⟨a, b, c⟩ := hX k hk
    refine ⟨by simp [World.setCell]; omega, b, ?_⟩
    rcases hat with h | ⟨j, hj, h⟩ <;> rw [h]
    · exact c
    · simp; omega
  · have hbs : base ≤ w.heap.size := by omega
    exact ((Below.refl base w).grown hgrow hbs (fun k hk => (World.ownsRow.lt hown k hk).1)).setCell hb _
  · intro k hk
    rw [heap_setCell_other _ _ _ _ (hX k hk).2.1]
    exact hX' k hk
theorem WriterAt.below {w w' : World} {base g : Nat} {X : List Nat} {bad : Bool} {L : List UInt8} (h : WriterAt w base g X bad L) (hb : Below w.heap.size w w') : WriterAt w' base g X bad L := by
  obtain ⟨v, h1, h2, h3, h4, h5, h6⟩ := h
  have hg : g < w.heap.size := (Array.getElem?_eq_some_iff.1 h3).1
  refine ⟨v, h1, h2, (hb.block g hg).trans h3, ?_, h5, fun k hk => ?_⟩
  · exact h4.kept (row := none) ⟨hb.os, hb.tape, hb.output, hb.size, fun k hk _ => hb.block k hk⟩ (by cases v.ownBlock <;> simp)
  · obtain ⟨a, b, c⟩ := h6 k hk
    exact ⟨Nat.lt_of_lt_of_le a hb.size, b, c⟩
/-- A new block that another owns. -/
theorem WriterAt.also {w w' : World} {base g : Nat} {X : List Nat} {bad : Bool} {L : List UInt8} (h : WriterAt w base g X bad L) (hb : Below w.heap.size w w') (hk : w.heap.size < w'.heap.size) : WriterAt w' base g (w.heap.size :: X) bad L := by
  have hg : g < w.heap.size := (Array.getElem?_eq_some_iff.1 h.choose_spec.row).1
  obtain ⟨v, h1, h2, h3, h4, h5, h6⟩ := h
  refine ⟨v, h1, h2, (hb.block g hg).trans h3, ?_, h5, fun k hk' => ?_⟩
  · exact h4.kept (row := none) ⟨hb.os, hb.tape, hb.output, hb.size, fun k hk _ => hb.block k hk⟩ (by cases v.ownBlock <;> simp)
  · rcases List.mem_cons.1 hk' with rfl | hk'
    · exact ⟨hk, by omega, fun e => by have := (World.ownsRow.lt h4 _ e).2; omega⟩
    · obtain ⟨a, b, c⟩ := h6 k hk'
      exact ⟨Nat.lt_of_lt_of_le a hb.size, b, c⟩
end Go.Proofs.YtnphgaiiiiknpaaDoor
