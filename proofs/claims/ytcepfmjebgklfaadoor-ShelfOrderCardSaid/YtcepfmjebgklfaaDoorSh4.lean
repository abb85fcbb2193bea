/- Shelves in memory: slices.Clone, copied: a shelf of one's own memory. -/
import Derived.Test.YtcepfmjebgklfaaDoorSh3
import Derived.Test.YtcepfmjebgklfaaDoorHeld
import Derived.Test.YtcepfmjebgklfaaDoorFlow
import Derived.Test.YtcepfmjebgklfaaDoorWpq
import Derived.Maps.AppendAt
namespace Go.Proofs.YtcepfmjebgklfaaDoor
open Go.RowKit
set_option linter.unusedSimpArgs false
set_option linter.unusedVariables false
set_option maxRecDepth 100000
theorem infoByte : (Tryd.prog.info? 5).map (fun i => (i.zero, i.size, i.bytes)) = some (some (.int .u8 0), 1, 1) := by kernel_rfl
theorem infoCell : (Tryd.prog.info? 41).map (fun i => (i.zero, i.size, i.bytes)) = some (some (.agg #[.int .u64 0, .slice none 0 0]), 2, 32) := by kernel_rfl
section
variable {w : World}
set_option maxHeartbeats 1000000 in
theorem clone8_any (A : Option Addr) (n c : Nat) (xs : List Value) (hl : xs.length = n * 1) (hn : n ≤ 1000) (hx1 : ∀ u ∈ xs, u.oneCell' = true)
    (h : n = 0 ∨ ∃ g off, A = some ⟨g, off, none⟩ ∧ ∀ j u, xs[j]? = some u → w.cell? ⟨g, off + j, none⟩ = some u) :
    Calls Tryd.prog 31 #[.slice A n c] w fun e w' => ∃ v', e = .returned v' ∧ w'.ownsRow w.heap.size 5 1 v' n xs ∧ Below w.heap.size w w' := by
  have q22 : ∀ (w : World) (a : Option Addr) (n c n' c' : Nat), (binOp .eql 27 (.slice a n c) (.slice none n' c')).run Tryd.prog w = .ok (.bool a.isNone) w := fun w a n c n' c' => Lib.run_eql_slice_nil w _ _ a n c n' c' Tryd.underlying27
  cases A with
  | none =>
    have h0 : n = 0 := by
      rcases h with h | ⟨g, off, e, _⟩
      · exact h
      · cases e
    subst h0
    have hxs : xs = [] := List.eq_nil_of_length_eq_zero (by omega)
    subst hxs
    clear h hl hx1
    go_enter Tryd.func31, Tryd.ntmps31
    go_wp2
    go_ret
    exact ⟨_, rfl, World.ownsRow_nil _ _ _ _, Below.refl _ _⟩
  | some a =>
    obtain ⟨i, hi, hz, hs2, hby⟩ := info_parts infoByte
    have hc : ∀ j u, xs[j]? = some u → w.cell? (a.add j) = some u := by
      intro j u hj
      rcases h with h | ⟨g, off, e, h⟩
      · subst h
        have : xs = [] := List.eq_nil_of_length_eq_zero (by omega)
        rw [this] at hj; simp at hj
      · cases e
        rw [Addr.add_lit]
        exact h j u hj
    have HC := Lib.hid hc
    have HL := Lib.hid hl
    have HX := Lib.hid hx1
    have HI := Lib.hid hi
    have HZ := Lib.hid hz
    have u22 : ∀ w, Sem.run Tryd.prog (underlying 27) w = .ok (TypeDesc.slice 5) w := run_underlying Tryd.underlying27
    clear hc h hl hx1 hi hz
    go_enter Tryd.func31, Tryd.ntmps31
    go_wp2_with (at_builtin; refine wpList_append_own _ rfl _ _ 27 rfl w.heap.size 5 i (.int .u8 0) 1 1 Tryd.underlying27 HI.out HZ.out hs2 hby rfl (by decide) _ _ _ rfl (World.ownsRow_made w #[] 0 (Nat.le_refl _) (Nat.zero_le _) (by simp)) a n c xs rfl ?qc1 ?qc2 ?qc3 ?qc4 ?qc5 ?qc6 ?_)
    case qc1 => exact HL.out
    case qc2 =>
      intro j u hj
      exact Lib.cell?_alloc_some _ (HC.out j u hj)
    case qc3 => exact HX.out
    case qc4 => unfold maxLen; omega
    case qc5 => omega
    case qc6 => simp
    intro v' w1 hown hgrow hnil
    go_wp2
    go_ret
    exact ⟨v', rfl, by simpa using hown, ((Below.refl _ w).alloc (Nat.le_refl _) _).grown hgrow (by simp) (by intro k hk; simp [Value.ownBlock] at hk; omega)⟩
set_option maxHeartbeats 1000000 in
theorem clonec_any (A : Option Addr) (n c : Nat) (xs : List Value) (hl : xs.length = n * 2) (hn : n ≤ 1000) (hx1 : ∀ u ∈ xs, u.oneCell' = true)
    (h : n = 0 ∨ ∃ g off, A = some ⟨g, off, none⟩ ∧ ∀ j u, xs[j]? = some u → w.cell? ⟨g, off + j, none⟩ = some u) :
    Calls Tryd.prog 57 #[.slice A n c] w fun e w' => ∃ v', e = .returned v' ∧ w'.ownsRow w.heap.size 41 2 v' n xs ∧ Below w.heap.size w w' := by
  have q22 : ∀ (w : World) (a : Option Addr) (n c n' c' : Nat), (binOp .eql 23 (.slice a n c) (.slice none n' c')).run Tryd.prog w = .ok (.bool a.isNone) w := fun w a n c n' c' => Lib.run_eql_slice_nil w _ _ a n c n' c' Tryd.underlying23
  cases A with
  | none =>
    have h0 : n = 0 := by
      rcases h with h | ⟨g, off, e, _⟩
      · exact h
      · cases e
    subst h0
    have hxs : xs = [] := List.eq_nil_of_length_eq_zero (by omega)
    subst hxs
    clear h hl hx1
    go_enter Tryd.func57, Tryd.ntmps57
    go_wp2
    go_ret
    exact ⟨_, rfl, World.ownsRow_nil _ _ _ _, Below.refl _ _⟩
  | some a =>
    obtain ⟨i, hi, hz, hs2, hby⟩ := info_parts infoCell
    have hc : ∀ j u, xs[j]? = some u → w.cell? (a.add j) = some u := by
      intro j u hj
      rcases h with h | ⟨g, off, e, h⟩
      · subst h
        have : xs = [] := List.eq_nil_of_length_eq_zero (by omega)
        rw [this] at hj; simp at hj
      · cases e
        rw [Addr.add_lit]
        exact h j u hj
    have HC := Lib.hid hc
    have HL := Lib.hid hl
    have HX := Lib.hid hx1
    have HI := Lib.hid hi
    have HZ := Lib.hid hz
    have u22 : ∀ w, Sem.run Tryd.prog (underlying 23) w = .ok (TypeDesc.slice 41) w := run_underlying Tryd.underlying23
    clear hc h hl hx1 hi hz
    go_enter Tryd.func57, Tryd.ntmps57
    go_wp2_with (at_builtin; refine wpList_append_own _ rfl _ _ 23 rfl w.heap.size 41 i (.agg #[.int .u64 0, .slice none 0 0]) 2 32 Tryd.underlying23 HI.out HZ.out hs2 hby rfl (by decide) _ _ _ rfl (World.ownsRow_made w #[] 0 (Nat.le_refl _) (Nat.zero_le _) (by simp)) a n c xs rfl ?qc1 ?qc2 ?qc3 ?qc4 ?qc5 ?qc6 ?_)
    case qc1 => exact HL.out
    case qc2 =>
      intro j u hj
      exact Lib.cell?_alloc_some _ (HC.out j u hj)
    case qc3 => exact HX.out
    case qc4 => unfold maxLen; omega
    case qc5 => omega
    case qc6 => simp
    intro v' w1 hown hgrow hnil
    go_wp2
    go_ret
    exact ⟨v', rfl, by simpa using hown, ((Below.refl _ w).alloc (Nat.le_refl _) _).grown hgrow (by simp) (by intro k hk; simp [Value.ownBlock] at hk; omega)⟩
end
/-- What a row of cells holds. -/
def RowHas (cur : Array Value) (hs : List CellH) : Prop := ∀ i, (hi : i < hs.length) → cur[i * 2]? = some (.int .u64 (hs[i].ser : Int)) ∧ cur[i * 2 + 1]? = some (.slice hs[i].A hs[i].m hs[i].c)
def rowOf (hs : List CellH) : List Value := hs.flatMap fun x => (cellV x).toList
theorem rowOf_length (hs : List CellH) : (rowOf hs).length = hs.length * 2 := by
  induction hs with
  | nil => rfl
  | cons x l ih =>
    unfold rowOf at ih ⊢
    rw [List.flatMap_cons, List.length_append, ih, List.length_cons]
    simp [cellV]; omega
theorem rowOf_get (hs : List CellH) (i : Nat) (hi : i < hs.length) : (rowOf hs)[i * 2]? = some (.int .u64 (hs[i].ser : Int)) ∧ (rowOf hs)[i * 2 + 1]? = some (.slice hs[i].A hs[i].m hs[i].c) := by
  induction hs generalizing i with
  | nil => simp at hi
  | cons x l ih =>
    have e : rowOf (x :: l) = [.int .u64 (x.ser : Int), .slice x.A x.m x.c] ++ rowOf l := by simp [rowOf, cellV]
    rw [e]
    cases i with
    | zero => exact ⟨rfl, rfl⟩
    | succ i =>
      have := ih i (by simpa using hi)
      rw [show (i + 1) * 2 = i * 2 + 2 by omega]
      simpa using this
theorem rowOf_one (hs : List CellH) : ∀ u ∈ rowOf hs, u.oneCell' = true := by
  intro u hu
  simp only [rowOf, List.mem_flatMap, cellV, List.mem_cons, List.not_mem_nil, or_false] at hu
  obtain ⟨x, _, rfl | rfl⟩ := hu <;> rfl
theorem rowHas_of_take {cur : Array Value} {hs : List CellH} {n : Nat} (h : cur.toList.take (n * 2) = rowOf hs) (hn : hs.length = n) : RowHas cur hs := by
  intro i hi
  obtain ⟨h1, h2⟩ := rowOf_get hs i hi
  rw [← h, List.getElem?_take] at h1 h2
  rw [if_pos (by omega), Array.getElem?_toList] at h1 h2
  exact ⟨h1, h2⟩
theorem RowHas.set {cur : Array Value} {hs : List CellH} (h : RowHas cur hs) (p : Nat) (hp : p < hs.length) (x : CellH) :
    RowHas ((cur.setIfInBounds (p * 2) (.int .u64 (x.ser : Int))).setIfInBounds (p * 2 + 1) (.slice x.A x.m x.c)) (hs.set p x) := by
  have hsz : p * 2 + 1 < cur.size := by
    have := (h p hp).2
    exact (Array.getElem?_eq_some_iff.1 this).1
  intro i hi
  rw [List.length_set] at hi
  obtain ⟨h1, h2⟩ := h i hi
  simp only [Array.getElem?_setIfInBounds, List.getElem_set, Array.size_setIfInBounds]
  by_cases e : p = i
  · subst e
    simp [show ¬ p * 2 + 1 = p * 2 by omega, show p * 2 < cur.size by omega, hsz]
  · rw [if_neg e, if_neg (by omega), if_neg (by omega), if_neg (by omega), if_neg (by omega)]
    exact ⟨h1, h2⟩
theorem RowHas.setData {cur : Array Value} {hs : List CellH} (h : RowHas cur hs) (p : Nat) (hp : p < hs.length) (A : Option Addr) (m c : Nat) (d : List UInt8) :
    RowHas (cur.setIfInBounds (p * 2 + 1) (.slice A m c)) (hs.set p ⟨hs[p].ser, A, m, c, d⟩) := by
  have hsz : p * 2 + 1 < cur.size := (Array.getElem?_eq_some_iff.1 (h p hp).2).1
  intro i hi
  rw [List.length_set] at hi
  obtain ⟨h1, h2⟩ := h i hi
  simp only [Array.getElem?_setIfInBounds, List.getElem_set]
  by_cases e : p = i
  · subst e
    rw [if_neg (by omega), if_pos rfl, if_pos hsz]
    exact ⟨by simpa using h1, by simp⟩
  · rw [if_neg e, if_neg (by omega), if_neg (by omega)]
    exact ⟨h1, h2⟩
/-- Bytes of one's own. -/
def datT (x : CellH) : Thing where
  says F w := x.data.length = x.m ∧ x.m ≤ x.c ∧ ((x.data = [] ∧ F = []) ∨ ∃ g cur, x.A = some ⟨g, 0, none⟩ ∧ F = [g] ∧ w.heap[g]? = some (.cells cur 5 (0, 0)) ∧ x.data.map vu8 = cur.toList.take x.m)
  lt := by
    rintro F w ⟨_, _, ⟨_, rfl⟩ | ⟨g, cur, _, rfl, h, _⟩⟩ b hb
    · simp at hb
    · obtain rfl : b = g := by simpa using hb
      exact (Array.getElem?_eq_some_iff.1 h).1
  loc := by
    rintro F w w' h ⟨h1, h2, h3⟩
    refine ⟨h1, h2, ?_⟩
    rcases h3 with h3 | ⟨g, cur, e, rfl, hg, hc⟩
    · exact .inl h3
    · exact .inr ⟨g, cur, e, rfl, (h g (by simp)).trans hg, hc⟩
theorem datT_bytes {x : CellH} {w : World} (h : (datT x).at w) : x.data.length = x.m ∧ x.m ≤ x.c ∧ BytesIn w x.A x.data := by
  obtain ⟨F, h1, h2, h3⟩ := h
  refine ⟨h1, h2, ?_⟩
  rcases h3 with ⟨h3, _⟩ | ⟨g, cur, e, _, hg, hc⟩
  · exact .inl h3
  · refine .inr ⟨g, 0, e, (Array.getElem?_eq_some_iff.1 hg).1, fun j hj => ?_⟩
    rw [Nat.zero_add, cell_of_row _ _ _ _ _ _ hg, ← List.getElem?_map, hc, List.getElem?_take, if_pos (by omega), Array.getElem?_toList]
/-- What a caller holds, and what a call has made since. -/
theorem Held.join {w0 W W' : World} {l l2 : List Thing} (R : Held w0 W l) (R2 : Held W W' l2) : Held w0 W' (l2 ++ l) := by
  obtain ⟨Z, rfl, R⟩ := R
  obtain ⟨Z2, rfl, R2⟩ := R2
  have R1 := R.call R2.below
  refine ⟨Z2 ++ Z, by simp, R1.below, ?_, ?_, ?_⟩
  · intro z hz
    rcases List.mem_append.1 hz with h | h
    · exact R2.says z h
    · exact R1.says z h
  · intro z hz b hb
    rcases List.mem_append.1 hz with h | h
    · exact Nat.le_trans R.below.size (R2.ge z h b hb)
    · exact R.ge z h b hb
  · rw [List.flatMap_append, List.nodup_append]
    refine ⟨R2.apart, R.apart, ?_⟩
    intro a ha b hb e
    subst e
    obtain ⟨z, hz, h1⟩ := List.mem_flatMap.1 ha
    obtain ⟨y, hy, h2⟩ := List.mem_flatMap.1 hb
    have := R2.ge z hz a h1
    have := R.lt y hy a h2
    omega
/-- A shelf in memory of one's own. -/
structure OwnSh (w0 W : World) (s : ShL) (gc : Nat) (c : Nat) (cur : Array Value) (hs : List CellH) (l : List Thing) : Prop where
  held : Held w0 W (rowT gc cur 41 :: (hs.map datT ++ l))
  row : RowHas cur hs
  dat : hs.map CellH.dat = s.cells
  cap : hs.length ≤ c
  ser : ∀ x ∈ hs, x.ser < 18446744073709551616
  cl : s.cl < 256
  prev : s.prev < 65536
  next : s.next < 65536
  small : smallL s
theorem OwnSh.cells {w0 W : World} {s : ShL} {gc c : Nat} {cur : Array Value} {hs : List CellH} {l : List Thing} (h : OwnSh w0 W s gc c cur hs l) : CellsIn W (some ⟨gc, 0, none⟩) hs.length hs := by
  refine ⟨rfl, .inr ⟨gc, 0, rfl, h.held.lt 0 rfl, fun i hi j v hv => ?_⟩, fun x hx => ?_⟩
  · obtain ⟨h1, h2⟩ := h.row i hi
    rw [Nat.zero_add]
    match j, hv with
    | 0, hv =>
      rw [Nat.add_zero, cell_of_row _ _ _ _ _ _ (h.held.get 0 rfl), h1]
      exact hv
    | 1, hv =>
      rw [cell_of_row _ _ _ _ _ _ (h.held.get 0 rfl), h2]
      exact hv
    | j + 2, hv => simp [cellV] at hv
  · obtain ⟨i, hi, rfl⟩ := List.mem_iff_getElem.1 hx
    have hat := h.held.thing (i + 1) (x := datT hs[i]) (by
      rw [List.getElem?_cons_succ, List.getElem?_append_left (by simpa using hi), List.getElem?_map, List.getElem?_eq_getElem hi]
      rfl)
    obtain ⟨h1, h2, h3⟩ := datT_bytes hat
    exact ⟨h1, h2, h.ser _ hx, h3⟩
theorem OwnSh.shelf {w0 W : World} {s : ShL} {gc c : Nat} {cur : Array Value} {hs : List CellH} {l : List Thing} (h : OwnSh w0 W s gc c cur hs l) : ShelfOf W s (some ⟨gc, 0, none⟩) hs.length c hs :=
  ⟨h.cells, h.dat, h.cap, h.cl, h.prev, h.next, h.small⟩
def CopyPost (w : World) (s : ShL) (e : Ending) (w' : World) : Prop :=
  ∃ v', e = .returned v' ∧ ((s.cells = [] ∧ ShelfIn w' v' s ∧ Below w.heap.size w w') ∨ ∃ gc c cur hs, v' = .agg (shV s (some ⟨gc, 0, none⟩) hs.length c) ∧ OwnSh w w' s gc c cur hs [])
end Go.Proofs.YtcepfmjebgklfaaDoor
