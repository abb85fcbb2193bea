/- The device layer: maps.Clone and slices.Clone at the device's types. -/
import Derived.Test.YtnbdnnlomgjlmaaDev12
import Derived.Shelf.SlMaps.Clone
import Derived.Shelf.SlicesE.Clone
namespace Go.Proofs.Ytnbdnnlomgjlmaa
open Go.RowKit Go.Shelf
set_option linter.unusedSimpArgs false
set_option linter.unusedVariables false
set_option maxRecDepth 100000
set_option maxHeartbeats 2000000 in
theorem mapclone_any (b : Nat) (es : Array MapEntry) (clock : Nat) (w : World) (hb : w.heap[b]? = some (.map es clock)) :
    Calls Try.prog 80 #[.map (some b)] w fun e w' => e = .returned (.map (some w.heap.size)) ∧ w' = w.alloc (.map es clock) := by
  have hq := fun w => run_eql_map_nil_sl (P := Try.prog) w 105 _ _ (some b) Try.underlying105
  go_enter Try.func80, Try.ntmps80
  go_wp2
  rw [run_callFunc_extern Try.func95 (by kernel_rfl) (by kernel_rfl) (by kernel_rfl) (e := Extern.MapsClone.clone) (by kernel_rfl), run_maps_clone_sl w 105 hb]
  simp only [Result.andThen]
  rw [Oper.upon_value]
  go_wp2
  rw [run_typeAssert_map_sl _ 105 20 _ _ _ Try.underlying105]
  simp only [Result.andThen]
  rw [Oper.upon_value]
  go_wp2
  go_ret
  exact ⟨rfl, rfl⟩
theorem mapclone_at (b : Nat) (f : Nat → List UInt8) (w : World) (h : MapAt w b f) :
    Calls Try.prog 80 #[.map (some b)] w fun e w' => ∃ b', e = .returned (.map (some b')) ∧ MapAt w' b' f ∧ w.heap.size ≤ b' ∧ Below w.heap.size w w' := by
  obtain ⟨D, ⟨es, clock, hb, F, hs, hD⟩, hf⟩ := h
  refine (mapclone_any b es clock w hb).mono ?_
  rintro e w' ⟨rfl, rfl⟩
  exact ⟨_, rfl, ⟨D, ⟨es, clock, (MapKept.heap_alloc w _).1, F, hs, hD⟩, hf⟩, Nat.le_refl _, (Below.refl _ w).alloc (Nat.le_refl _) _⟩
theorem ownsRow_base {w : World} {base base' : Nat} {e : TypeId} {size : Nat} {v : Value} {n : Nat} {xs : List Value} (h : w.ownsRow base e size v n xs) (hb : ∀ b, v.ownBlock = some b → base' ≤ b) : w.ownsRow base' e size v n xs := by
  refine ⟨h.1, ?_⟩
  rcases h.2 with h' | ⟨g, cap, cur, rfl, h1, h2⟩
  · exact .inl h'
  · exact .inr ⟨g, cap, cur, rfl, hb g rfl, h2⟩
theorem putCells_one (l : List (Nat × List UInt8)) : ∀ u ∈ putCells l, u.oneCell' = true := by
  intro u hu
  simp only [putCells, List.mem_flatMap, List.mem_cons, List.mem_map] at hu
  obtain ⟨x, _, rfl | ⟨y, _, rfl⟩⟩ := hu <;> rfl
set_option maxHeartbeats 2000000 in
theorem putsclone_at (v : Value) (l : List (Nat × List UInt8)) (w : World) (h : w.ownsRow 0 114 257 v l.length (putCells l)) (hlen : l.length < 100000) :
    Calls Try.prog 81 #[v] w fun e w' => ∃ v', e = .returned v' ∧ w'.ownsRow w.heap.size 114 257 v' l.length (putCells l) ∧ Below w.heap.size w w' := by
  have q22 : ∀ (w : World) (a : Option Addr) (n c n' c' : Nat), (binOp .eql 73 (.slice a n c) (.slice none n' c')).run Try.prog w = .ok (.bool a.isNone) w := fun w a n c n' c' => Lib.run_eql_slice_nil w _ _ a n c n' c' Try.underlying73
  rcases h.2 with ⟨rfl, h0⟩ | ⟨g, cap, cur, rfl, _, hg, hcap, hm, hsz, hcur⟩
  · have hl : l = [] := List.eq_nil_of_length_eq_zero h0
    subst hl
    clear h h0
    go_enter Try.func81, Try.ntmps81
    go_wp2
    go_ret
    exact ⟨_, rfl, World.ownsRow_nil _ _ _ _, Below.refl _ _⟩
  · obtain ⟨i, hi, hz, hs2, hby⟩ := info_parts Try.infoPut
    have hc : ∀ j u, (putCells l)[j]? = some u → w.cell? ⟨g, j, none⟩ = some u := by
      intro j u hj
      rw [cell_of_row w g j _ _ _ hg]
      rw [← hcur, List.getElem?_take] at hj
      split at hj
      · simpa using hj
      · cases hj
    have HC := Lib.hid hc
    have HL := Lib.hid h.1
    have u22 : ∀ w, Sem.run Try.prog (underlying 73) w = .ok (TypeDesc.slice 114) w := run_underlying Try.underlying73
    have hgl : g < w.heap.size := (Array.getElem?_eq_some_iff.1 hg).1
    clear hc h hg hcap hm hsz hcur
    go_enter Try.func81, Try.ntmps81
    go_wp2_with (at_builtin; refine wpList_append_own _ rfl _ _ 73 rfl w.heap.size 114 i _ 257 260 Try.underlying73 hi hz hs2 hby (size_putV 0 zeroBlk length_zeroBlk) (by decide) _ _ _ rfl (World.ownsRow_made w #[] 0 (Nat.le_refl _) (Nat.zero_le _) (by simp)) ⟨g, 0, none⟩ l.length cap (putCells l) rfl ?qc1 ?qc2 ?qc3 ?qc4 ?qc5 ?qc6 ?_)
    case qc1 => exact HL.out
    case qc2 =>
      intro j u hj
      rw [Addr.add_lit, Nat.zero_add]
      exact Lib.cell?_alloc_some _ (HC.out j u hj)
    case qc3 => exact putCells_one l
    case qc4 => unfold maxLen; omega
    case qc5 => omega
    case qc6 => simp
    intro v' w1 hown hgrow hnil
    go_wp2
    go_ret
    exact ⟨v', rfl, by simpa using hown, ((Below.refl _ w).alloc (Nat.le_refl _) _).grown hgrow (by simp) (by intro k hk; simp [Value.ownBlock] at hk; omega)⟩
end Go.Proofs.Ytnbdnnlomgjlmaa
