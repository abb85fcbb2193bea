/- Shelves in memory: slices.Clone, copied: a shelf of one's own memory. Shelves in memory: copied. Shelves in memory: find, part, Read. -/
import Derived.Test.YtcepfmjebgklfaaDoorSh
import Derived.Test.YtcepfmjebgklfaaDoorHeld
import Derived.Test.YtcepfmjebgklfaaDoorFlow
import Derived.Test.YtcepfmjebgklfaaDoorWpq
import Derived.Maps.AppendAt
import Derived.Test.YtcepfmjebgklfaaDoorPred
namespace Go.Proofs.YtcepfmjebgklfaaDoor
open Go.RowKit
set_option linter.unusedSimpArgs false
set_option linter.unusedVariables false
set_option maxRecDepth 100000
theorem infoByte : (Tryd.prog.info? 5).map (fun i => (i.zero, i.size, i.bytes)) = some (some (.int .u8 0), 1, 1) := by kernel_rfl
theorem infoCell : (Tryd.prog.info? 41).map (fun i => (i.zero, i.size, i.bytes)) = some (some (.agg #[.int .u64 0, .slice none 0 0]), 2, 32) := by kernel_rfl
section
variable {w : World}
set_option maxHeartbeats 1000000 in
theorem clone8_any (A : Option Addr) (n c : Nat) (xs : List Value) (hl : xs.length = n * 1) (hn : n ≤ 1000) (hx1 : ∀ u ∈ xs, u.oneCell' = true)
    (h : n = 0 ∨ ∃ g off, A = some ⟨g, off, none⟩ ∧ ∀ j u, xs[j]? = some u → w.cell? ⟨g, off + j, none⟩ = some u) :
    Calls Tryd.prog 31 #[.slice A n c] w fun e w' => ∃ v', e = .returned v' ∧ w'.ownsRow w.heap.size 5 1 v' n xs ∧ Below w.heap.size w w' := by
  have q22 : ∀ (w : World) (a : Option Addr) (n c n' c' : Nat), (binOp .eql 27 (.slice a n c) (.slice none n' c')).run Tryd.prog w = .ok (.bool a.isNone) w := fun w a n c n' c' => Lib.run_eql_slice_nil w _ _ a n c n' c' Tryd.underlying27
  cases A with
  | none =>
    have h0 : n = 0 := by
      rcases h with h | ⟨g, off, e, _⟩
      · exact h
      · cases e
    subst h0
    have hxs : xs = [] := List.eq_nil_of_length_eq_zero (by omega)
    subst hxs
    clear h hl hx1
    go_enter Tryd.func31, Tryd.ntmps31
    go_wp2
    go_ret
    exact ⟨_, rfl, World.ownsRow_nil _ _ _ _, Below.refl _ _⟩
  | some a =>
    obtain ⟨i, hi, hz, hs2, hby⟩ := info_parts infoByte
    have hc : ∀ j u, xs[j]? = some u → w.cell? (a.add j) = some u := by
      intro j u hj
      rcases h with h | ⟨g, off, e, h⟩
      · subst h
        have : xs = [] := List.eq_nil_of_length_eq_zero (by omega)
        rw [this] at hj; simp at hj
      · cases e
        rw [Addr.add_lit]
        exact h j u hj
    have HC := Lib.hid hc
    have HL := Lib.hid hl
    have HX := Lib.hid hx1
    have HI := Lib.hid hi
    have HZ := Lib.hid hz
    have u22 : ∀ w, Sem.run Tryd.prog (underlying 27) w = .ok (TypeDesc.slice 5) w := run_underlying Tryd.underlying27
    clear hc h hl hx1 hi hz
    go_enter Tryd.func31, Tryd.ntmps31
    go_wp2_with (at_builtin; refine wpList_append_own _ rfl _ _ 27 rfl w.heap.size 5 i (.int .u8 0) 1 1 Tryd.underlying27 HI.out HZ.out hs2 hby rfl (by decide) _ _ _ rfl (World.ownsRow_made w #[] 0 (Nat.le_refl _) (Nat.zero_le _) (by simp)) a n c xs rfl ?qc1 ?qc2 ?qc3 ?qc4 ?qc5 ?qc6 ?_)
    case qc1 => exact HL.out
    case qc2 =>
      intro j u hj
      exact Lib.cell?_alloc_some _ (HC.out j u hj)
    case qc3 => exact HX.out
    case qc4 => unfold maxLen; omega
    case qc5 => omega
    case qc6 => simp
    intro v' w1 hown hgrow hnil
    go_wp2
    go_ret
    exact ⟨v', rfl, by simpa using hown, ((Below.refl _ w).alloc (Nat.le_refl _) _).grown hgrow (by simp) (by intro k hk; simp [Value.ownBlock] at hk; omega)⟩
set_option maxHeartbeats 1000000 in
theorem clonec_any (A : Option Addr) (n c : Nat) (xs : List Value) (hl : xs.length = n * 2) (hn : n ≤ 1000) (hx1 : ∀ u ∈ xs, u.oneCell' = true)
    (h : n = 0 ∨ ∃ g off, A = some ⟨g, off, none⟩ ∧ ∀ j u, xs[j]? = some u → w.cell? ⟨g, off + j, none⟩ = some u) :
    Calls Tryd.prog 57 #[.slice A n c] w fun e w' => ∃ v', e = .returned v' ∧ w'.ownsRow w.heap.size 41 2 v' n xs ∧ Below w.heap.size w w' := by
  have q22 : ∀ (w : World) (a : Option Addr) (n c n' c' : Nat), (binOp .eql 23 (.slice a n c) (.slice none n' c')).run Tryd.prog w = .ok (.bool a.isNone) w := fun w a n c n' c' => Lib.run_eql_slice_nil w _ _ a n c n' c' Tryd.underlying23
  cases A with
  | none =>
    have h0 : n = 0 := by
      rcases h with h | ⟨g, off, e, _⟩
      · exact h
      · cases e
    subst h0
    have hxs : xs = [] := List.eq_nil_of_length_eq_zero (by omega)
    subst hxs
    clear h hl hx1
    go_enter Tryd.func57, Tryd.ntmps57
    go_wp2
    go_ret
    exact ⟨_, rfl, World.ownsRow_nil _ _ _ _, Below.refl _ _⟩
  | some a =>
    obtain ⟨i, hi, hz, hs2, hby⟩ := info_parts infoCell
    have hc : ∀ j u, xs[j]? = some u → w.cell? (a.add j) = some u := by
      intro j u hj
      rcases h with h | ⟨g, off, e, h⟩
      · subst h
        have : xs = [] := List.eq_nil_of_length_eq_zero (by omega)
        rw [this] at hj; simp at hj
      · cases e
        rw [Addr.add_lit]
        exact h j u hj
    have HC := Lib.hid hc
    have HL := Lib.hid hl
    have HX := Lib.hid hx1
    have HI := Lib.hid hi
    have HZ := Lib.hid hz
    have u22 : ∀ w, Sem.run Tryd.prog (underlying 23) w = .ok (TypeDesc.slice 41) w := run_underlying Tryd.underlying23
    clear hc h hl hx1 hi hz
    go_enter Tryd.func57, Tryd.ntmps57
    go_wp2_with (at_builtin; refine wpList_append_own _ rfl _ _ 23 rfl w.heap.size 41 i (.agg #[.int .u64 0, .slice none 0 0]) 2 32 Tryd.underlying23 HI.out HZ.out hs2 hby rfl (by decide) _ _ _ rfl (World.ownsRow_made w #[] 0 (Nat.le_refl _) (Nat.zero_le _) (by simp)) a n c xs rfl ?qc1 ?qc2 ?qc3 ?qc4 ?qc5 ?qc6 ?_)
    case qc1 => exact HL.out
    case qc2 =>
      intro j u hj
      exact Lib.cell?_alloc_some _ (HC.out j u hj)
    case qc3 => exact HX.out
    case qc4 => unfold maxLen; omega
    case qc5 => omega
    case qc6 => simp
    intro v' w1 hown hgrow hnil
    go_wp2
    go_ret
    exact ⟨v', rfl, by simpa using hown, ((Below.refl _ w).alloc (Nat.le_refl _) _).grown hgrow (by simp) (by intro k hk; simp [Value.ownBlock] at hk; omega)⟩
end
/-- What a row of cells holds. -/
def RowHas (cur : Array Value) (hs : List CellH) : Prop := ∀ i, (hi : i < hs.length) → cur[i * 2]? = some (.int .u64 (hs[i].ser : Int)) ∧ cur[i * 2 + 1]? = some (.slice hs[i].A hs[i].m hs[i].c)
def rowOf (hs : List CellH) : List Value := hs.flatMap fun x => (cellV x).toList
theorem rowOf_length (hs : List CellH) : (rowOf hs).length = hs.length * 2 := by
  induction hs with
  | nil => rfl
  | cons x l ih =>
    unfold rowOf at ih ⊢
    rw [List.flatMap_cons, List.length_append, ih, List.length_cons]
    simp [cellV]; omega
theorem rowOf_get (hs : List CellH) (i : Nat) (hi : i < hs.length) : (rowOf hs)[i * 2]? = some (.int .u64 (hs[i].ser : Int)) ∧ (rowOf hs)[i * 2 + 1]? = some (.slice hs[i].A hs[i].m hs[i].c) := by
  induction hs generalizing i with
  | nil => simp at hi
  | cons x l ih =>
    have e : rowOf (x :: l) = [.int .u64 (x.ser : Int), .slice x.A x.m x.c] ++ rowOf l := by simp [rowOf, cellV]
    rw [e]
    cases i with
    | zero => exact ⟨rfl, rfl⟩
    | succ i =>
      have := ih i (by simpa using hi)
      rw [show (i + 1) * 2 = i * 2 + 2 by omega]
      simpa using this
theorem rowOf_one (hs : List CellH) : ∀ u ∈ rowOf hs, u.oneCell' = true := by
  intro u hu
  simp only [rowOf, List.mem_flatMap, cellV, List.mem_cons, List.not_mem_nil, or_false] at hu
  obtain ⟨x, _, rfl | rfl⟩ := hu <;> rfl
theorem rowHas_of_take {cur : Array Value} {hs : List CellH} {n : Nat} (h : cur.toList.take (n * 2) = rowOf hs) (hn : hs.length = n) : RowHas cur hs := by
  intro i hi
  obtain ⟨h1, h2⟩ := rowOf_get hs i hi
  rw [← h, List.getElem?_take] at h1 h2
  rw [if_pos (by omega), Array.getElem?_toList] at h1 h2
  exact ⟨h1, h2⟩
theorem RowHas.set {cur : Array Value} {hs : List CellH} (h : RowHas cur hs) (p : Nat) (hp : p < hs.length) (x : CellH) :
    RowHas ((cur.setIfInBounds (p * 2) (.int .u64 (x.ser : Int))).setIfInBounds (p * 2 + 1) (.slice x.A x.m x.c)) (hs.set p x) := by
  have hsz : p * 2 + 1 < cur.size := by
    have := (h p hp).2
    exact (Array.getElem?_eq_some_iff.1 this).1
  intro i hi
  rw [List.length_set] at hi
  obtain ⟨h1, h2⟩ := h i hi
  simp only [Array.getElem?_setIfInBounds, List.getElem_set, Array.size_setIfInBounds]
  by_cases e : p = i
  · subst e
    simp [show ¬ p * 2 + 1 = p * 2 by omega, show p * 2 < cur.size by omega, hsz]
  · rw [if_neg e, if_neg (by omega), if_neg (by omega), if_neg (by omega), if_neg (by omega)]
    exact ⟨h1, h2⟩
theorem RowHas.setData {cur : Array Value} {hs : List CellH} (h : RowHas cur hs) (p : Nat) (hp : p < hs.length) (A : Option Addr) (m c : Nat) (d : List UInt8) :
    RowHas (cur.setIfInBounds (p * 2 + 1) (.slice A m c)) (hs.set p ⟨hs[p].ser, A, m, c, d⟩) := by
  have hsz : p * 2 + 1 < cur.size := (Array.getElem?_eq_some_iff.1 (h p hp).2).1
  intro i hi
  rw [List.length_set] at hi
  obtain ⟨h1, h2⟩ := h i hi
  simp only [Array.getElem?_setIfInBounds, List.getElem_set]
  by_cases e : p = i
  · subst e
    rw [if_neg (by omega), if_pos rfl, if_pos hsz]
    exact ⟨by simpa using h1, by simp⟩
  · rw [if_neg e, if_neg (by omega), if_neg (by omega)]
    exact ⟨h1, h2⟩
/-- Bytes of one's own. -/
def datT (x : CellH) : Thing where
  says F w := x.data.length = x.m ∧ x.m ≤ x.c ∧ ((x.data = [] ∧ F = []) ∨ ∃ g cur, x.A = some ⟨g, 0, none⟩ ∧ F = [g] ∧ w.heap[g]? = some (.cells cur 5 (0, 0)) ∧ x.data.map vu8 = cur.toList.take x.m)
  lt := by
    rintro F w ⟨_, _, ⟨_, rfl⟩ | ⟨g, cur, _, rfl, h, _⟩⟩ b hb
    · simp at hb
    · obtain rfl : b = g := by simpa using hb
      exact (Array.getElem?_eq_some_iff.1 h).1
  loc := by
    rintro F w w' h ⟨h1, h2, h3⟩
    refine ⟨h1, h2, ?_⟩
    rcases h3 with h3 | ⟨g, cur, e, rfl, hg, hc⟩
    · exact .inl h3
    · exact .inr ⟨g, cur, e, rfl, (h g (by simp)).trans hg, hc⟩
theorem datT_bytes {x : CellH} {w : World} (h : (datT x).at w) : x.data.length = x.m ∧ x.m ≤ x.c ∧ BytesIn w x.A x.data := by
  obtain ⟨F, h1, h2, h3⟩ := h
  refine ⟨h1, h2, ?_⟩
  rcases h3 with ⟨h3, _⟩ | ⟨g, cur, e, _, hg, hc⟩
  · exact .inl h3
  · refine .inr ⟨g, 0, e, (Array.getElem?_eq_some_iff.1 hg).1, fun j hj => ?_⟩
    rw [Nat.zero_add, cell_of_row _ _ _ _ _ _ hg, ← List.getElem?_map, hc, List.getElem?_take, if_pos (by omega), Array.getElem?_toList]
/-- What a caller holds, and what a call has made since. -/
theorem Held.join {w0 W W' : World} {l l2 : List Thing} (R : Held w0 W l) (R2 : Held W W' l2) : Held w0 W' (l2 ++ l) := by
  obtain ⟨Z, rfl, R⟩ := R
  obtain ⟨Z2, rfl, R2⟩ := R2
  have R1 := R.call R2.below
  refine ⟨Z2 ++ Z, by simp, R1.below, ?_, ?_, ?_⟩
  · intro z hz
    rcases List.mem_append.1 hz with h | h
    · exact R2.says z h
    · exact R1.says z h
  · intro z hz b hb
    rcases List.mem_append.1 hz with h | h
    · exact Nat.le_trans R.below.size (R2.ge z h b hb)
    · exact R.ge z h b hb
  · rw [List.flatMap_append, List.nodup_append]
    refine ⟨R2.apart, R.apart, ?_⟩
    intro a ha b hb e
    subst e
    obtain ⟨z, hz, h1⟩ := List.mem_flatMap.1 ha
    obtain ⟨y, hy, h2⟩ := List.mem_flatMap.1 hb
    have := R2.ge z hz a h1
    have := R.lt y hy a h2
    omega
/-- A shelf in memory of one's own. -/
structure OwnSh (w0 W : World) (s : ShL) (gc : Nat) (c : Nat) (cur : Array Value) (hs : List CellH) (l : List Thing) : Prop where
  held : Held w0 W (rowT gc cur 41 :: (hs.map datT ++ l))
  row : RowHas cur hs
  dat : hs.map CellH.dat = s.cells
  cap : hs.length ≤ c
  ser : ∀ x ∈ hs, x.ser < 18446744073709551616
  cl : s.cl < 256
  prev : s.prev < 65536
  next : s.next < 65536
  small : smallL s
theorem OwnSh.cells {w0 W : World} {s : ShL} {gc c : Nat} {cur : Array Value} {hs : List CellH} {l : List Thing} (h : OwnSh w0 W s gc c cur hs l) : CellsIn W (some ⟨gc, 0, none⟩) hs.length hs := by
  refine ⟨rfl, .inr ⟨gc, 0, rfl, h.held.lt 0 rfl, fun i hi j v hv => ?_⟩, fun x hx => ?_⟩
  · obtain ⟨h1, h2⟩ := h.row i hi
    rw [Nat.zero_add]
    match j, hv with
    | 0, hv =>
      rw [Nat.add_zero, cell_of_row _ _ _ _ _ _ (h.held.get 0 rfl), h1]
      exact hv
    | 1, hv =>
      rw [cell_of_row _ _ _ _ _ _ (h.held.get 0 rfl), h2]
      exact hv
    | j + 2, hv => simp [cellV] at hv
  · obtain ⟨i, hi, rfl⟩ := List.mem_iff_getElem.1 hx
    have hat := h.held.thing (i + 1) (x := datT hs[i]) (by
      rw [List.getElem?_cons_succ, List.getElem?_append_left (by simpa using hi), List.getElem?_map, List.getElem?_eq_getElem hi]
      rfl)
    obtain ⟨h1, h2, h3⟩ := datT_bytes hat
    exact ⟨h1, h2, h.ser _ hx, h3⟩
theorem OwnSh.shelf {w0 W : World} {s : ShL} {gc c : Nat} {cur : Array Value} {hs : List CellH} {l : List Thing} (h : OwnSh w0 W s gc c cur hs l) : ShelfOf W s (some ⟨gc, 0, none⟩) hs.length c hs :=
  ⟨h.cells, h.dat, h.cap, h.cl, h.prev, h.next, h.small⟩
def CopyPost (w : World) (s : ShL) (e : Ending) (w' : World) : Prop :=
  ∃ v', e = .returned v' ∧ ((s.cells = [] ∧ ShelfIn w' v' s ∧ Below w.heap.size w w') ∨ ∃ gc c cur hs, v' = .agg (shV s (some ⟨gc, 0, none⟩) hs.length c) ∧ OwnSh w w' s gc c cur hs [])
end Go.Proofs.YtcepfmjebgklfaaDoor
namespace Go.Proofs.YtcepfmjebgklfaaDoor
open Go.RowKit
set_option linter.unusedSimpArgs false
set_option linter.unusedVariables false
set_option maxRecDepth 100000
section
variable {P : Program} {o : Oper} {a : Act} {w : World} {K : Act → World → Prop} {Q : Exit → Act → World → Prop}
theorem wpg_move (x : Operand) (v : Value) (ho : o.op = .move x) (hx : a.eval x = v) (h : K (a.put o.dst v) w) : o.wp P a w K Q :=
  wp_value v (by unfold execOp; rw [ho, ← hx]; rfl) h
theorem wpg_field (T : TypeId) (i : Nat) (ft : TypeId) (off sz : Nat) (x : Operand) (g k : Nat) (ho : o.op = .fieldAddr T x i) (hT : P.underlying T = some (.struct (P.fieldsOf T)))
    (hF : ((P.fieldsOf T)[i]?).map (fun f => (f.type, f.offset)) = some (ft, off)) (hs : (P.info? ft).map (·.size) = some (sz + 1)) (hx : a.eval x = .pointer (some ⟨g, k, none⟩)) (h : K (a.put o.dst (.pointer (some ⟨g, k + off, none⟩))) w) : o.wp P a w K Q :=
  wp_value _ (by
    obtain ⟨f, hf, hf1⟩ := Option.map_eq_some_iff.1 hF
    simp only [Prod.mk.injEq] at hf1
    obtain ⟨q, hq, hq1⟩ := Option.map_eq_some_iff.1 hs
    unfold execOp
    simp [ho, hx, Instr.fieldAt, run_underlying hT, hf, Instr.sureAddr, fieldPlace, sizeOf, typeInfo, hf1.1, hq, hq1, hf1.2, Addr.add_lit]) h
/-- An element's address in a slice whose elements have m cells. -/
theorem wpg_index (t e : TypeId) (x ix : Operand) (g off i n c m : Nat) (kk : IntKind) (ho : o.op = .indexAddr t x ix)
    (ht : P.underlying t = some (.slice e)) (hs : (P.info? e).map (·.size) = some m) (hx : a.eval x = .slice (some ⟨g, off, none⟩) n c) (hi : a.eval ix = .int kk (i : Int)) (hk : i < n)
    (h : K (a.put o.dst (.pointer (some ⟨g, off + i * m, none⟩))) w) : o.wp P a w K Q :=
  wp_value _ (by
    obtain ⟨f, hf, hf1⟩ : ∃ f, P.info? e = some f ∧ f.size = m := by
      cases hq : P.info? e with
      | none => simp [hq] at hs
      | some f => exact ⟨f, rfl, by simpa [hq] using hs⟩
    have hb : (0 : Int) ≤ (i : Int) ∧ (i : Int) < (n : Int) := by omega
    unfold execOp
    simp [ho, hx, hi, Instr.indexAt, asIntOf, run_underlying ht, hb, hk, sizeOf, typeInfo, hf, hf1, Addr.add_lit, Instr.sureAddr]) h
end
theorem Held.keep {w0 W : World} {l l2 : List Thing} (R : Held w0 W (l ++ l2)) : Held w0 W l := by
  have := (R.perm List.perm_append_comm).drop l2.length
  simpa using this
theorem Held.keepR {w0 W : World} {l l2 : List Thing} (R : Held w0 W (l ++ l2)) : Held w0 W l2 := by
  have := R.drop l.length
  simpa using this
theorem ownsRow_below {w w' : World} {base : Nat} {e : TypeId} {size : Nat} {v : Value} {n : Nat} {xs : List Value} (h : w.ownsRow base e size v n xs) (hb : Below w.heap.size w w') : w'.ownsRow base e size v n xs := by
  refine ⟨h.1, ?_⟩
  rcases h.2 with h' | ⟨g, cap, cur, rfl, h1, h2, h3⟩
  · exact .inl h'
  · exact .inr ⟨g, cap, cur, rfl, h1, (hb.block g (Array.getElem?_eq_some_iff.1 h2).1).trans h2, h3⟩
/-- Bytes that a clone has made. -/
theorem datT_of_own {w : World} {base : Nat} {v : Value} {n : Nat} {b : List UInt8} (ser : Nat) (hl : b.length = n) (h : w.ownsRow base 5 1 v n (b.map vu8)) :
    ∃ A c F, v = .slice A n c ∧ (datT ⟨ser, A, n, c, b⟩).says F w ∧ (∀ k ∈ F, base ≤ k) ∧ F.Nodup := by
  rcases h.2 with ⟨rfl, h0⟩ | ⟨g, cap, cur, rfl, h1, h2, h3, h4, h5, h6⟩
  · subst h0
    refine ⟨none, 0, [], rfl, ⟨hl, Nat.le_refl _, .inl ⟨List.eq_nil_of_length_eq_zero hl, rfl⟩⟩, by simp, by simp⟩
  · by_cases hb : b = []
    · subst hb
      simp at hl
      subst hl
      exact ⟨some ⟨g, 0, none⟩, cap, [], rfl, ⟨rfl, h3, .inl ⟨rfl, rfl⟩⟩, by simp, by simp⟩
    · refine ⟨some ⟨g, 0, none⟩, cap, [g], rfl, ⟨hl, h3, .inr ⟨g, cur, rfl, rfl, h2, ?_⟩⟩, by simpa using h1, by simp⟩
      rw [← h6, Nat.mul_one]
def zeroShC : Array Value := #[.int .u8 0, .int .u16 0, .int .u16 0, .slice none 0 0]
theorem sizeShelf : (Tryd.prog.info? 25).map (·.size) = some 4 := by kernel_rfl
theorem sizeCell : (Tryd.prog.info? 41).map (·.size) = some 2 := by kernel_rfl
theorem rangeOf_cells {w : World} {A : Option Addr} {n : Nat} {l : List CellH} (h : CellsIn w A n l) : n = 0 ∨ ∃ g off, A = some ⟨g, off, none⟩ ∧ ∀ j u, (rowOf l)[j]? = some u → w.cell? ⟨g, off + j, none⟩ = some u := by
  rcases h.at_ with h0 | ⟨b, off, e, _, h2⟩
  · exact .inl h0
  · refine .inr ⟨b, off, e, fun j u hj => ?_⟩
    have hjl : j < l.length * 2 := by rw [← rowOf_length]; exact (List.getElem?_eq_some_iff.1 hj).1
    have hi : j / 2 < l.length := by omega
    obtain ⟨h3, h4⟩ := rowOf_get l (j / 2) hi
    have hr := h2 (j / 2) hi
    rcases Nat.mod_two_eq_zero_or_one j with hm | hm
    · have e2 : j / 2 * 2 = j := by omega
      rw [e2, hj] at h3
      have := hr 0 _ (show (cellV l[j / 2]).toList[0]? = some (.int .u64 (l[j / 2].ser : Int)) from rfl)
      rw [e2, Nat.add_zero] at this
      rw [this, ← Option.some.inj h3]
    · have e2 : j / 2 * 2 + 1 = j := by omega
      rw [e2, hj] at h4
      have := hr 1 _ (show (cellV l[j / 2]).toList[1]? = some (.slice l[j / 2].A l[j / 2].m l[j / 2].c) from rfl)
      rw [Nat.add_assoc, e2] at this
      rw [this, ← Option.some.inj h4]
/-- What the slots of copied's region hold. -/
def cpV (g1 g4 gc n c j : Nat) (x : CellH) (base : Nat) (t : Tmp) (v : Value) (w : World) : Prop :=
  match t with
  | 17 => v = .pointer (some ⟨g1, 3, none⟩)
  | 18 => v = .slice (some ⟨gc, 0, none⟩) n c
  | 19 => v = .int .i64 (j : Int)
  | 20 => v = .pointer (some ⟨g4, 1, none⟩)
  | 21 => v = .slice x.A x.m x.c
  | 22 => w.ownsRow base 5 1 v x.m (x.data.map vu8)
  | 23 => v = .pointer (some ⟨gc, j * 2, none⟩)
  | 24 => v = .pointer (some ⟨gc, j * 2 + 1, none⟩)
  | _ => True
theorem cpV_stab (g1 g4 gc n c j : Nat) (x : CellH) (base : Nat) : ∀ t v w w', cpV g1 g4 gc n c j x base t v w → Below w.heap.size w w' → cpV g1 g4 gc n c j x base t v w' := by
  intro t v w w' h hb
  unfold cpV at h ⊢
  split at h <;> first
    | exact h
    | exact ownsRow_below h hb
    | trivial
/-- No block of a shelf's lies below B. -/
def FreshAt (B : Nat) (A : Option Addr) (n : Nat) (l : List CellH) : Prop := (n ≠ 0 → ∀ a, A = some a → B ≤ a.block) ∧ ∀ x ∈ l, x.data ≠ [] → ∀ a, x.A = some a → B ≤ a.block
/-- A shelf that does not lie in block g. -/
def Avoids (g : Nat) (A : Option Addr) (n : Nat) (l : List CellH) : Prop := (n ≠ 0 → ∀ a, A = some a → a.block ≠ g) ∧ ∀ x ∈ l, x.data ≠ [] → ∀ a, x.A = some a → a.block ≠ g
theorem FreshAt.avoids {B g : Nat} {A : Option Addr} {n : Nat} {l : List CellH} (h : FreshAt B A n l) (hg : g < B) : Avoids g A n l :=
  ⟨fun h0 a ha => by have := h.1 h0 a ha; omega, fun x hx hd a ha => by have := h.2 x hx hd a ha; omega⟩
def ShelfFr (B : Nat) (w : World) (v : Value) (s : ShL) : Prop := ∃ A n c l, v = .agg (shV s A n c) ∧ ShelfOf w s A n c l ∧ FreshAt B A n l
theorem ShelfFr.in_ {B : Nat} {w : World} {v : Value} {s : ShL} (h : ShelfFr B w v s) : ShelfIn w v s := by
  obtain ⟨A, n, c, l, e, h, _⟩ := h
  exact ⟨A, n, c, l, e, h⟩
theorem Held.thingGe {w0 W : World} {l : List Thing} (R : Held w0 W l) (k : Nat) {x : Thing} (e : l[k]? = some x) : ∃ F, x.says F W ∧ ∀ b ∈ F, w0.heap.size ≤ b := by
  obtain ⟨Z, rfl, R⟩ := R
  rw [List.getElem?_map] at e
  obtain ⟨z, hz, rfl⟩ := Option.map_eq_some_iff.1 e
  exact ⟨_, R.says z (List.mem_of_getElem? hz), R.ge z (List.mem_of_getElem? hz)⟩
theorem OwnSh.fresh {w0 W : World} {s : ShL} {gc c : Nat} {cur : Array Value} {hs : List CellH} {l : List Thing} (h : OwnSh w0 W s gc c cur hs l) : FreshAt w0.heap.size (some ⟨gc, 0, none⟩) hs.length hs := by
  refine ⟨fun _ a ha => ?_, fun x hx hd a ha => ?_⟩
  · cases ha
    exact h.held.ge 0 rfl
  · obtain ⟨i, hi, rfl⟩ := List.mem_iff_getElem.1 hx
    obtain ⟨F, ⟨_, _, h3⟩, hge⟩ := h.held.thingGe (i + 1) (x := datT hs[i]) (by
      rw [List.getElem?_cons_succ, List.getElem?_append_left (by simpa using hi), List.getElem?_map, List.getElem?_eq_getElem hi]
      rfl)
    rcases h3 with ⟨h3, _⟩ | ⟨g, cu, hA, rfl, _, _⟩
    · exact absurd h3 hd
    · rw [hA] at ha
      cases ha
      exact hge g (by simp)
section
variable {w : World}
set_option maxHeartbeats 4000000 in
theorem copied_is {s : ShL} {v : Value} (hs : ShelfIn w v s) : Calls Tryd.prog 29 #[v] w fun e w' => CopyPost w s e w' := by
  obtain ⟨A, n, c, l, rfl, hs⟩ := hs
  have hR := ((Held.start w).alloc (shV s A n c) 25).alloc #[.int .u8 0, .int .u16 0, .int .u16 0, .slice none 0 0] 25
  obtain ⟨W, hW⟩ : ∃ W, W = (w.alloc (.cells (shV s A n c) 25)).alloc (.cells #[.int .u8 0, .int .u16 0, .int .u16 0, .slice none 0 0] 25) := ⟨_, rfl⟩
  obtain ⟨g, hg⟩ : ∃ g, g = w.heap.size := ⟨_, rfl⟩
  rw [← hW, show (w.alloc (.cells (shV s A n c) 25)).heap.size = g + 1 by rw [hg]; simp, ← hg] at hR
  have HR := Lib.hid hR
  have HW := Lib.hid hW
  have HG := Lib.hid hg
  have HS := Lib.hid hs
  have hn := hs.le30
  have a3 : W.cell? ⟨g, 3, none⟩ = some (.slice A n c) := hR.cell 1 3 rfl rfl
  have f3 : W.frozen? ⟨g, 3, none⟩ = false := hR.free 1 3 rfl
  have HCL := Lib.hid (clonec_any (w := W) A n c (rowOf l) (by rw [rowOf_length, hs.cells.len]) (by omega) (rowOf_one l) (rangeOf_cells (hs.cells.below hR.below)))
  clear hR hW hg hs
  go_enter Tryd.func29, Tryd.ntmps29
  go_upto_region 1 with (fail)
  rw [← HW.out, ← HG.out]
  go_wp2_with fail
  refine HCL.out.mono ?_
  rintro e w1 ⟨v1, rfl, hown, hb⟩
  obtain ⟨A1, c1, rfl, hr1⟩ : ∃ A1 c1, v1 = .slice A1 n c1 ∧ (n = 0 ∨ ∃ gc cur, A1 = some ⟨gc, 0, none⟩ ∧ W.heap.size ≤ gc ∧ w1.heap[gc]? = some (.cells cur 41 (0, 0)) ∧ n ≤ c1 ∧ cur.toList.take (n * 2) = rowOf l) := by
    rcases hown.2 with ⟨h, h0⟩ | ⟨gc, cap, cur, h, h1, h2, h3, h4, h5, h6⟩
    · exact ⟨none, 0, by rw [h, h0], .inl h0⟩
    · exact ⟨_, cap, h, .inr ⟨gc, cur, rfl, h1, h2, h3, h6⟩⟩
  have R1 := Lib.hid (HR.out.call hb)
  have HB1 := Lib.hid hb
  have HR1 := Lib.hid hr1
  clear hb hown a3 f3 hr1
  have a3 : w1.cell? ⟨g, 3, none⟩ = some (.slice A n c) := R1.out.cell 1 3 rfl rfl
  have f3 : w1.frozen? ⟨g, 3, none⟩ = false := R1.out.free 1 3 rfl
  go_upto_region 2 with (fail)
  clear a3 f3
  have R2 := Lib.hid (R1.out.setCell 1 3 (.slice A1 n c1) rfl)
  obtain ⟨W2, hW2⟩ : ∃ W2, W2 = w1.setCell ⟨g, 3, none⟩ (.slice A1 n c1) := ⟨_, rfl⟩
  have HW2 := Lib.hid hW2
  have q2 : Held w W2 [rowT (g + 1) #[.int .u8 0, .int .u16 0, .int .u16 0, .slice none 0 0] 25, rowT g (shV s A1 n c1) 25] := by rw [hW2]; exact R2.out
  clear R2
  have R2 := Lib.hid q2
  rw [← hW2]
  clear hW2 q2 HCL
  have hz0 : ∀ (Y : World) (L : List Thing) (R : Held w Y L) (k1 k2 : Nat), L[k1]? = some (rowT (g + 1) #[.int .u8 0, .int .u16 0, .int .u16 0, .slice none 0 0] 25) → L[k2]? = some (rowT g (shV s A1 n c1) 25) →
      Y.cell? ⟨g, 0, none⟩ = some (.int .u8 (s.cl : Int)) ∧ Y.cell? ⟨g, 1, none⟩ = some (.int .u16 (s.prev : Int)) ∧ Y.cell? ⟨g, 2, none⟩ = some (.int .u16 (s.next : Int)) ∧ Y.cell? ⟨g, 3, none⟩ = some (.slice A1 n c1) ∧
      Y.cell? ⟨g + 1, 0, none⟩ = some (.int .u8 0) ∧ Y.cell? ⟨g + 1, 1, none⟩ = some (.int .u16 0) ∧ Y.cell? ⟨g + 1, 2, none⟩ = some (.int .u16 0) ∧ Y.cell? ⟨g + 1, 3, none⟩ = some (.slice none 0 0) ∧
      Y.frozen? ⟨g + 1, 0, none⟩ = false ∧ Y.frozen? ⟨g + 1, 1, none⟩ = false ∧ Y.frozen? ⟨g + 1, 2, none⟩ = false ∧ Y.frozen? ⟨g + 1, 3, none⟩ = false ∧
      Held w ((((Y.setCell ⟨g + 1, 0, none⟩ (.int .u8 (s.cl : Int))).setCell ⟨g + 1, 1, none⟩ (.int .u16 (s.prev : Int))).setCell ⟨g + 1, 2, none⟩ (.int .u16 (s.next : Int))).setCell ⟨g + 1, 3, none⟩ (.slice A1 n c1)) (L.set k1 (rowT (g + 1) (shV s A1 n c1) 25)) := by
    intro Y L R k1 k2 e1 e2
    have hk : k1 < L.length := (List.getElem?_eq_some_iff.1 e1).1
    refine ⟨R.cell k2 0 e2 rfl, R.cell k2 1 e2 rfl, R.cell k2 2 e2 rfl, R.cell k2 3 e2 rfl, R.cell k1 0 e1 rfl, R.cell k1 1 e1 rfl, R.cell k1 2 e1 rfl, R.cell k1 3 e1 rfl, R.free k1 0 e1, R.free k1 1 e1, R.free k1 2 e1, R.free k1 3 e1, ?_⟩
    have q1 := R.setCell k1 0 (.int .u8 (s.cl : Int)) e1
    have q2 := q1.setCell k1 1 (.int .u16 (s.prev : Int)) (by rw [List.getElem?_set_self hk])
    have q3 := q2.setCell k1 2 (.int .u16 (s.next : Int)) (by rw [List.getElem?_set_self (by simpa using hk)])
    have q4 := q3.setCell k1 3 (.slice A1 n c1) (by rw [List.getElem?_set_self (by simpa using hk)])
    simp only [List.set_set] at q4
    exact q4
  have HZ := Lib.hid hz0
  clear hz0
  have b3 : W2.cell? ⟨g, 3, none⟩ = some (.slice A1 n c1) := R2.out.cell 1 3 rfl rfl
  by_cases h0 : n = 0
  · subst h0
    clear HR1
    go_wp2_with fail
    go_loopw [3, 4, 12] (fun _ _ i wr => i = .int .i64 0 ∧ wr = W2) (fun _ _ _ _ => 0)
    case atStart => exact ⟨rfl, rfl⟩
    case round =>
      obtain ⟨rfl, hw⟩ := hrel
      subst hw
      obtain ⟨p0, p1, p2, p3, z0, z1, z2, z3, f0, f1, f2, f3, hfin⟩ := HZ.out _ _ R2.out 0 1 rfl rfl
      have HF := Lib.hid hfin
      clear hfin b3
      go_wp2_with fail
      refine bodyPost_ret (v := .agg (shV s A1 0 c1)) (results_cell_row rfl _ _ (g + 1) 25 _ (0, 0) _ rfl (HF.out.get 0 rfl) Tryd.underlying25 rfl sizeShelf) rfl ?_
      have hl0 : s.cells = [] := List.eq_nil_of_length_eq_zero HS.out.len
      exact ⟨_, rfl, .inl ⟨hl0, ⟨A1, 0, c1, [], rfl, ⟨⟨rfl, .inl rfl, by simp⟩, by rw [hl0]; rfl, Nat.zero_le _, HS.out.cl, HS.out.prev, HS.out.next, HS.out.small⟩⟩, HF.out.below⟩⟩
  · obtain ⟨gc, cur, rfl, hge, hgc, hnc, htk⟩ := HR1.out.resolve_left h0
    clear HR1
    have hrow := rowHas_of_take htk HS.out.cells.len
    have R3 : Held w W2 [rowT gc cur 41, rowT (g + 1) #[.int .u8 0, .int .u16 0, .int .u16 0, .slice none 0 0] 25, rowT g (shV s (some ⟨gc, 0, none⟩) n c1) 25] := by
      have h1 : Held W w1 [rowT gc cur 41] := (Held.start W).more HB1.out (F := [gc]) ⟨rfl, hgc⟩ (by simpa using hge) (by simp)
      have h2 := (HR.out.join h1).setCell 2 3 (.slice (some ⟨gc, 0, none⟩) n c1) rfl
      rw [← HW2.out] at h2
      exact h2
    have HR3 := Lib.hid R3
    have HRW := Lib.hid hrow
    have HNC := Lib.hid hnc
    clear hge hgc htk hrow R3 hnc
    go_wp2_with fail
    go_loopw [3, 4, 12] (fun _ _ i wr => ∃ (j : Nat) (new : List CellH) (cu : Array Value), j ≤ n ∧ i = .int .i64 (j : Int) ∧ new.length = j ∧
      Held w wr (rowT gc cu 41 :: (new.map datT ++ [rowT (g + 1) #[.int .u8 0, .int .u16 0, .int .u16 0, .slice none 0 0] 25, rowT g (shV s (some ⟨gc, 0, none⟩) n c1) 25])) ∧ RowHas cu (new ++ l.drop j) ∧ new.map CellH.dat = (l.take j).map CellH.dat) (fun _ _ i _ => n - (intOf i).toNat)
    case atStart => exact ⟨0, [], cur, by omega, rfl, rfl, HR3.out, HRW.out, rfl⟩
    case round =>
      obtain ⟨j, new, cu, hj, rfl, hnl, hR, hrw, hnd⟩ := hrel
      have R4 := Lib.hid hR
      have HRW4 := Lib.hid hrw
      have HND := Lib.hid hnd
      have HNL := Lib.hid hnl
      have k1 : (rowT gc cu 41 :: (new.map datT ++ [rowT (g + 1) #[.int .u8 0, .int .u16 0, .int .u16 0, .slice none 0 0] 25, rowT g (shV s (some ⟨gc, 0, none⟩) n c1) 25]))[j + 1]? = some (rowT (g + 1) #[.int .u8 0, .int .u16 0, .int .u16 0, .slice none 0 0] 25) := by
        rw [List.getElem?_cons_succ, List.getElem?_append_right (by rw [List.length_map]; omega), List.length_map, hnl, Nat.sub_self]; rfl
      have k2 : (rowT gc cu 41 :: (new.map datT ++ [rowT (g + 1) #[.int .u8 0, .int .u16 0, .int .u16 0, .slice none 0 0] 25, rowT g (shV s (some ⟨gc, 0, none⟩) n c1) 25]))[j + 2]? = some (rowT g (shV s (some ⟨gc, 0, none⟩) n c1) 25) := by
        rw [List.getElem?_cons_succ, List.getElem?_append_right (by rw [List.length_map]; omega), List.length_map, hnl, show j + 1 - j = 1 by omega]; rfl
      have K1 := Lib.hid k1
      have K2 := Lib.hid k2
      clear hR hrw hnd HR3 HRW k1 k2 hnl b3
      by_cases hlt : j < n
      · have hjl : j < l.length := by rw [HS.out.cells.len]; exact hlt
        have hx := HS.out.cells.ok _ (List.getElem_mem hjl)
        have hd400 := HS.out.data400 _ (List.getElem_mem hjl)
        have hdrop : l.drop j = l[j] :: l.drop (j + 1) := List.drop_eq_getElem_cons hjl
        have htake : l.take (j + 1) = l.take j ++ [l[j]] := List.take_succ_eq_append_getElem hjl
        obtain ⟨h1, h2⟩ := HRW4.out j (by rw [List.length_append, HNL.out, List.length_drop]; omega)
        have hjx : (new ++ l.drop j)[j]'(by rw [List.length_append, HNL.out, List.length_drop]; omega) = l[j] := by
          rw [List.getElem_append_right (by rw [HNL.out]; omega)]
          simp [HNL.out]
        rw [hjx] at h1 h2
        generalize l[j] = x at *
        have c0 : wr.cell? ⟨gc, j * 2, none⟩ = some (.int .u64 (x.ser : Int)) := R4.out.cell 0 (j * 2) rfl h1
        have cc1 : wr.cell? ⟨gc, j * 2 + 1, none⟩ = some (.slice x.A x.m x.c) := R4.out.cell 0 (j * 2 + 1) rfl h2
        have HX := Lib.hid hx
        have HDR := Lib.hid hdrop
        have HTK := Lib.hid htake
        clear hx hdrop htake hjx h1 h2
        go_upto_region 5 with (fail)
        have q1 := R4.out.alloc #[.int .u64 (x.ser : Int), .slice x.A x.m x.c] 41
        clear c0 cc1
        obtain ⟨W5, hW⟩ : ∃ W, W = wr.alloc (.cells #[.int .u64 (x.ser : Int), .slice x.A x.m x.c] 41) := ⟨_, rfl⟩
        rw [← hW] at q1 ⊢
        clear hW
        obtain ⟨g4, hg⟩ : ∃ g, g = wr.heap.size := ⟨_, rfl⟩
        rw [← hg] at q1 ⊢
        clear hg
        have R5 := Lib.hid q1
        clear q1
        have HCL8 : Hid (∀ w', Below W5.heap.size W5 w' → Calls Tryd.prog 31 #[.slice x.A x.m x.c] w' fun e w'' => ∃ v', e = .returned v' ∧ w''.ownsRow W5.heap.size 5 1 v' x.m (x.data.map vu8) ∧ Below w'.heap.size w' w'') := Lib.hid (fun w' hb => by
          have hby := (HX.out.by_.below R5.out.below).below hb
          refine (clone8_any (w := w') x.A x.m x.c (x.data.map vu8) (by rw [List.length_map, HX.out.len, Nat.mul_one]) (by omega) (by intro u hu; obtain ⟨y, _, rfl⟩ := List.mem_map.1 hu; rfl) ?_).mono ?_
          · rcases hby with h | ⟨gd, off, e, _, h⟩
            · exact .inl (by rw [← HX.out.len, h]; rfl)
            · exact .inr ⟨gd, off, e, fun jj u hu => by
                have hjj : jj < x.data.length := by have := (List.getElem?_eq_some_iff.1 hu).1; simpa using this
                rw [h jj hjj, ← List.getElem?_map, hu]⟩
          · rintro e w'' ⟨v', he, ho, hb2⟩
            refine ⟨v', he, ?_, hb2⟩
            refine ⟨ho.1, ?_⟩
            rcases ho.2 with h | ⟨gg, cap, cuu, e1, e2, e3⟩
            · exact .inl h
            · exact .inr ⟨gg, cap, cuu, e1, Nat.le_trans hb.size e2, e3⟩)
        refine wp_region_flow (by kernel_rfl) 8 (cpV g g4 gc n c1 j x W5.heap.size) (cpV_stab g g4 gc n c1 j x W5.heap.size) (by kernel_rfl) (by kernel_rfl) (by kernel_rfl) (by kernel_rfl) ?heads ?tail
        case heads =>
          refine ⟨.inr ⟨rfl, 17, rfl, fun a v hB hO hD K hK => ?_⟩, .inr ⟨rfl, 18, rfl, fun a v hB hO hD K hK => ?_⟩, .inr ⟨rfl, 19, rfl, fun a v hB hO hD K hK => ?_⟩, .inr ⟨rfl, 20, rfl, fun a v hB hO hD K hK => ?_⟩, .inr ⟨rfl, 21, rfl, fun a v hB hO hD K hK => ?_⟩, .inr ⟨rfl, 22, rfl, fun a v hB hO hD K hK => ?_⟩, .inr ⟨rfl, 23, rfl, fun a v hB hO hD K hK => ?_⟩, .inr ⟨rfl, 24, rfl, fun a v hB hO hD K hK => ?_⟩, .inl (by decide), trivial⟩
          · exact wpg_field 25 3 23 3 0 _ g 0 rfl (by kernel_rfl) (by kernel_rfl) (by kernel_rfl) (eval_of (t := 1) (by rw [hO 1 (not_dst 1 (by kernel_rfl))]; rfl)) (hK _ _ rfl (Below.refl _ _))
          · obtain ⟨u, hu, hv⟩ := flow_of hD 0 (by kernel_rfl) 17 (by kernel_rfl)
            exact wp_load_cell 23 _ ⟨g, 3, none⟩ (.slice (some ⟨gc, 0, none⟩) n c1) _ rfl rfl (hu.trans hv) ((R5.out.call hB).cell (j + 3) 3 (by rw [List.getElem?_cons_succ]; exact K2.out) rfl) Tryd.underlying23 (hK _ _ rfl (Below.refl _ _))
          · exact wpg_move _ _ rfl (eval_of (t := 3) (by rw [hO 3 (not_dst 3 (by kernel_rfl))]; rfl)) (hK _ _ rfl (Below.refl _ _))
          · exact wpg_field 41 1 27 1 0 _ g4 0 rfl (by kernel_rfl) (by kernel_rfl) (by kernel_rfl) (eval_of (t := 4) (by rw [hO 4 (not_dst 4 (by kernel_rfl))]; rfl)) (hK _ _ rfl (Below.refl _ _))
          · obtain ⟨u, hu, hv⟩ := flow_of hD 3 (by kernel_rfl) 20 (by kernel_rfl)
            exact wp_load_cell 27 _ ⟨g4, 1, none⟩ (.slice x.A x.m x.c) _ rfl rfl (hu.trans hv) ((R5.out.call hB).cell 0 1 rfl rfl) Tryd.underlying27 (hK _ _ rfl (Below.refl _ _))
          · obtain ⟨u, hu, hv⟩ := flow_of hD 4 (by kernel_rfl) 21 (by kernel_rfl)
            exact wpo_call 31 [.tmp 21] _ #[.slice x.A x.m x.c] _ _ _ rfl Tryd.func31 rfl (by kernel_rfl) (by show #[a.eval (.tmp 21)] = _; rw [hu.trans hv]) (HCL8.out v hB) (fun v' w' hb h => hK v' w' h hb)
          · obtain ⟨u, hu, hv⟩ := flow_of hD 1 (by kernel_rfl) 18 (by kernel_rfl)
            obtain ⟨u', hu', hv'⟩ := flow_of hD 2 (by kernel_rfl) 19 (by kernel_rfl)
            refine wpg_index 23 41 _ _ gc 0 j n c1 2 .i64 rfl Tryd.underlying23 sizeCell (hu.trans hv) (hu'.trans hv') hlt (hK _ _ ?_ (Below.refl _ _))
            rw [Nat.zero_add]; rfl
          · obtain ⟨u, hu, hv⟩ := flow_of hD 6 (by kernel_rfl) 23 (by kernel_rfl)
            exact wpg_field 41 1 27 1 0 _ gc (j * 2) rfl (by kernel_rfl) (by kernel_rfl) (by kernel_rfl) (hu.trans hv) (hK _ _ rfl (Below.refl _ _))
        case tail =>
          intro F w6 hV hB
          have v22 : w6.ownsRow W5.heap.size 5 1 (F 22) x.m (x.data.map vu8) := hV _ (List.mem_of_getElem? (i := 5) rfl) 22 rfl
          have v24 : F 24 = .pointer (some ⟨gc, j * 2 + 1, none⟩) := hV _ (List.mem_of_getElem? (i := 7) rfl) 24 rfl
          have v17 : F 17 = .pointer (some ⟨g, 3, none⟩) := hV _ (List.mem_of_getElem? (i := 0) rfl) 17 rfl
          simp only [List.take_succ_cons, List.take_zero, List.drop_succ_cons, List.drop_zero, putAll, List.setIfInBounds_toArray, List.set_cons_zero, List.set_cons_succ]
          obtain ⟨A2, c2, FF, e22, hsay, hge, hnd⟩ := datT_of_own x.ser HX.out.len v22
          rw [e22, v24]
          have R6 := Lib.hid (R5.out.more hB hsay hge hnd)
          have cc1 : w6.cell? ⟨gc, j * 2 + 1, none⟩ = some (.slice x.A x.m x.c) := R6.out.cell 2 (j * 2 + 1) rfl (by
            obtain ⟨h1, h2⟩ := HRW4.out j (by rw [List.length_append, HNL.out, List.length_drop]; omega)
            have hjx : (new ++ l.drop j)[j]'(by rw [List.length_append, HNL.out, List.length_drop]; omega) = x := by
              rw [List.getElem_append_right (by rw [HNL.out]; omega)]
              simp [HNL.out, HDR.out]
            rw [hjx] at h2
            exact h2)
          have ff1 : w6.frozen? ⟨gc, j * 2 + 1, none⟩ = false := R6.out.free 2 (j * 2 + 1) rfl
          have R7 := Lib.hid (((R6.out.setCell 2 (j * 2 + 1) (.slice A2 x.m c2) rfl).perm (show List.Perm _ (rowT g4 #[.int .u64 (x.ser : Int), .slice x.A x.m x.c] 41 :: (rowT gc (cu.setIfInBounds (j * 2 + 1) (.slice A2 x.m c2)) 41 :: ((new ++ [CellH.mk x.ser A2 x.m c2 x.data]).map datT ++ [rowT (g + 1) #[.int .u8 0, .int .u16 0, .int .u16 0, .slice none 0 0] 25, rowT g (shV s (some ⟨gc, 0, none⟩) n c1) 25]))) from by
            refine (List.Perm.swap _ _ _).trans (List.Perm.cons _ ((List.Perm.swap _ _ _).trans (List.Perm.cons _ ?_)))
            rw [List.map_append, List.append_assoc]
            exact List.perm_middle.symm)).drop 1)
          have HRW7 : Hid (RowHas (cu.setIfInBounds (j * 2 + 1) (.slice A2 x.m c2)) ((new ++ [CellH.mk x.ser A2 x.m c2 x.data]) ++ l.drop (j + 1))) := Lib.hid (by
            have hp : j < (new ++ l.drop j).length := by rw [List.length_append, HNL.out, List.length_drop]; omega
            have h := HRW4.out.setData j hp A2 x.m c2 x.data
            have hjx : (new ++ l.drop j)[j] = x := by
              rw [List.getElem_append_right (by rw [HNL.out]; omega)]
              simp [HNL.out, HDR.out]
            rw [hjx, HDR.out, List.set_append_right _ _ (by rw [HNL.out]; omega), HNL.out, Nat.sub_self, List.set_cons_zero] at h
            rw [List.append_assoc]
            exact h)
          have HND7 : Hid ((new ++ [CellH.mk x.ser A2 x.m c2 x.data]).map CellH.dat = (l.take (j + 1)).map CellH.dat) := Lib.hid (by
            rw [HTK.out, List.map_append, List.map_append, HND.out]; rfl)
          clear hsay hge hnd R6 e22 v22 v24 v17 hV hB
          go_wp2_with fail
          go_roundw
          case rel => exact ⟨j + 1, new ++ [CellH.mk x.ser A2 x.m c2 x.data], _, by omega, by go_num, by rw [List.length_append, HNL.out]; rfl, R7.out, HRW7.out, HND7.out⟩
          case measure => simp [intOf]; omega
      · obtain rfl : j = n := by omega
        obtain ⟨p0, p1, p2, p3, z0, z1, z2, z3, f0, f1, f2, f3, hfin⟩ := HZ.out _ _ R4.out (j + 1) (j + 2) K1.out K2.out
        have HF := Lib.hid hfin
        clear hfin
        go_wp2_with fail
        have k1 := K1.out
        have hset : (rowT gc cu 41 :: (new.map datT ++ [rowT (g + 1) #[.int .u8 0, .int .u16 0, .int .u16 0, .slice none 0 0] 25, rowT g (shV s (some ⟨gc, 0, none⟩) j c1) 25])).set (j + 1) (rowT (g + 1) (shV s (some ⟨gc, 0, none⟩) j c1) 25)
            = (rowT gc cu 41 :: (new.map datT ++ [])) ++ [rowT (g + 1) (shV s (some ⟨gc, 0, none⟩) j c1) 25, rowT g (shV s (some ⟨gc, 0, none⟩) j c1) 25] := by
          rw [List.set_cons_succ, List.set_append_right _ _ (by rw [List.length_map, HNL.out]; omega), List.length_map, HNL.out, Nat.sub_self, List.set_cons_zero]
          simp
        have R8 := HF.out
        rw [hset] at R8
        have hg1 := R8.get (j + 1) (show ((rowT gc cu 41 :: (new.map datT ++ [])) ++ [rowT (g + 1) (shV s (some ⟨gc, 0, none⟩) j c1) 25, rowT g (shV s (some ⟨gc, 0, none⟩) j c1) 25])[j + 1]? = some (rowT (g + 1) (shV s (some ⟨gc, 0, none⟩) j c1) 25) from by
          rw [List.getElem?_append_right (by simp [HNL.out])]
          simp [HNL.out])
        refine bodyPost_ret (v := .agg (shV s (some ⟨gc, 0, none⟩) j c1)) (results_cell_row rfl _ _ (g + 1) 25 _ (0, 0) _ rfl hg1 Tryd.underlying25 rfl sizeShelf) rfl ?_
        have hdr : l.drop j = [] := List.drop_of_length_le (by rw [HS.out.cells.len]; omega)
        have htk : l.take j = l := List.take_of_length_le (by rw [HS.out.cells.len]; omega)
        have hrw := HRW4.out
        rw [hdr, List.append_nil] at hrw
        have hdt : new.map CellH.dat = s.cells := by rw [HND.out, htk, HS.out.dat]
        refine ⟨_, rfl, .inr ⟨gc, c1, cu, new, by rw [HNL.out], ⟨R8.keep, hrw, hdt, by rw [HNL.out]; exact HNC.out, ?_, HS.out.cl, HS.out.prev, HS.out.next, HS.out.small⟩⟩⟩
        intro x hx
        have hm : x.dat ∈ l.map CellH.dat := by rw [HS.out.dat, ← hdt]; exact List.mem_map_of_mem hx
        obtain ⟨y, hy, he⟩ := List.mem_map.1 hm
        have := (HS.out.cells.ok y hy).ser
        have e2 : y.ser = x.ser := congrArg Prod.fst he
        omega
end
end Go.Proofs.YtcepfmjebgklfaaDoor
namespace Go.Proofs.YtcepfmjebgklfaaDoor
open Go.RowKit
set_option linter.unusedSimpArgs false
set_option linter.unusedVariables false
set_option maxRecDepth 100000
section
variable {P : Program} {w : World}
theorem run_slice3 (t e : TypeId) (A : Option Addr) (m c lo hi : Nat) (ht : P.underlying t = some (.slice e)) (hs : (P.info? e).map (·.size) = some 1) (h1 : lo ≤ hi) (h2 : hi ≤ c) :
    (Instr.sliceAt t (.slice A m c) (some (.int .i64 (lo : Int))) (some (.int .i64 (hi : Int))) (some (.int .i64 (hi : Int)))).run P w = .ok (.slice (if hi = lo then A else A.map (·.add lo)) (hi - lo) (hi - lo)) w := by
  obtain ⟨f, hf, hf1⟩ : ∃ f, P.info? e = some f ∧ f.size = 1 := by
    cases hq : P.info? e with
    | none => simp [hq] at hs
    | some f => exact ⟨f, rfl, by simpa [hq] using hs⟩
  have b1 : (0 : Int) ≤ (hi : Int) ∧ (hi : Int) ≤ (c : Int) := by omega
  have b2 : (0 : Int) ≤ (lo : Int) ∧ (lo : Int) ≤ (hi : Int) := by omega
  simp [Instr.sliceAt, Instr.slice, run_underlying ht, Instr.sliceBounds, Instr.sliceBound, asIntOf, h1, h2, sizeOf, typeInfo, hf, hf1]
end
theorem ShelfOf.get {w : World} {s : ShL} {A : Option Addr} {n c : Nat} {l : List CellH} (h : ShelfOf w s A n c l) (p : Nat) (hp : p < n) :
    ∃ x, l[p]? = some x ∧ s.cells.getD p (0, []) = x.dat ∧ CellOk w x ∧ x.m ≤ 400 ∧ ∃ b off, A = some ⟨b, off, none⟩ ∧ b < w.heap.size ∧ w.rangeAt b (off + p * 2) (cellV x).toList := by
  have hpl : p < l.length := by rw [h.cells.len]; exact hp
  refine ⟨l[p], List.getElem?_eq_getElem hpl, ?_, h.cells.ok _ (List.getElem_mem hpl), h.data400 _ (List.getElem_mem hpl), h.cells.cells p hpl⟩
  rw [← h.dat, List.getD_eq_getElem?_getD, List.getElem?_map, List.getElem?_eq_getElem hpl]
  rfl
section
variable {w : World}
set_option maxHeartbeats 2000000 in
theorem find_is (hc : ClsAt w) {s : ShL} {v : Value} (hs : ShelfIn w v s) (place : Int) (ser : Nat) :
    Calls Tryd.prog 32 #[v, .int .i64 place, .int .u64 (ser : Int)] w fun e w' => e = .returned (.int .i64 (findE s place ser)) ∧ Below w.heap.size w w' := by
  obtain ⟨A, n, c, l, rfl, hs⟩ := hs
  have hR := (Rows.start w).alloc (shV s A n c) 25
  obtain ⟨W, hW⟩ : ∃ W, W = w.alloc (.cells (shV s A n c) 25) := ⟨_, rfl⟩
  obtain ⟨g, hg⟩ : ∃ g, g = w.heap.size := ⟨_, rfl⟩
  rw [← hW, ← hg] at hR
  have HR := Lib.hid hR
  have HW := Lib.hid hW
  have HG := Lib.hid hg
  have HS := Lib.hid hs
  have hlen := hs.len
  have HM := Lib.hid (may_is (w := W) (hc.below hR.below) ⟨A, n, c, l, rfl, hs.below hR.below⟩)
  have a0 : W.cell? ⟨g, 0, none⟩ = some (.int .u8 (s.cl : Int)) := hR.cell 0 0 rfl rfl
  have a1 : W.cell? ⟨g, 1, none⟩ = some (.int .u16 (s.prev : Int)) := hR.cell 0 1 rfl rfl
  have a2 : W.cell? ⟨g, 2, none⟩ = some (.int .u16 (s.next : Int)) := hR.cell 0 2 rfl rfl
  have a3 : W.cell? ⟨g, 3, none⟩ = some (.slice A n c) := hR.cell 0 3 rfl rfl
  have HF : Hid (findE s place ser = if mayL s then (if 0 ≤ place ∧ place < n ∧ ser ≠ 0 ∧ (s.cells.getD place.toNat (0, [])).1 = ser then 0 else 210) else 5) := Lib.hid (by unfold findE; rw [hlen])
  clear hR hW hg hs hc hlen
  generalize hmay : mayL s = may at HM HF
  generalize findE s place ser = E at HF ⊢
  go_enter Tryd.func32, Tryd.ntmps32
  go_upto_region 1 with (fail)
  rw [← HW.out, ← HG.out]
  go_wp2_with fail
  refine HM.out.mono ?_
  rintro e w1 ⟨rfl, hb⟩
  have R1 := Lib.hid (HR.out.call hb)
  clear hb a0 a1 a2 a3 HM
  have a3 : w1.cell? ⟨g, 3, none⟩ = some (.slice A n c) := R1.out.cell 0 3 rfl rfl
  cases may with
  | false =>
    have HV := Lib.hid (HF.out.trans (if_neg (by simp)))
    clear HF
    go_wp2_with fail
    go_ret
    exact ⟨by rw [HV.out]; rfl, R1.out.below⟩
  | true =>
    have HF := Lib.hid (HF.out.trans (if_pos rfl))
    by_cases h0 : place < 0
    · skip
      have HV := Lib.hid (HF.out.trans (if_neg (by omega)))
      clear HF
      go_wp2_with fail
      go_ret
      exact ⟨by rw [HV.out]; rfl, R1.out.below⟩
    · by_cases h1 : (n : Int) ≤ place
      · skip
        have HV := Lib.hid (HF.out.trans (if_neg (by omega)))
        clear HF
        go_wp2_with fail
        go_ret
        exact ⟨by rw [HV.out]; rfl, R1.out.below⟩
      · obtain ⟨p, rfl⟩ : ∃ p : Nat, place = (p : Int) := ⟨place.toNat, by omega⟩
        by_cases h2 : ser = 0
        · subst h2
          have HV := Lib.hid (HF.out.trans (if_neg (by simp)))
          clear HF
          go_wp2_with fail
          go_ret
          exact ⟨by rw [HV.out]; rfl, R1.out.below⟩
        · have h2' : ((ser : Int) == 0) = false := by simp; omega
          obtain ⟨x, hx, hd, hok, _, b, off, rfl, hb, hr⟩ := HS.out.get p (by omega)
          have c0 : w1.cell? ⟨b, off + p * 2, none⟩ = some (.int .u64 (x.ser : Int)) := (R1.out.below.cell hb).trans (hr 0 _ (show (cellV x).toList[0]? = some (.int .u64 (x.ser : Int)) from rfl))
          have HD : Hid ((s.cells.getD (p : Int).toNat (0, [])).1 = x.ser) := Lib.hid (by rw [Int.toNat_natCast, hd]; rfl)
          have hpn : p < n := by omega
          have hq0 : decide ((p : Int) < 0) = false := decide_eq_false h0
          have hq1 : decide (n ≤ p) = false := decide_eq_false (by omega)
          clear hx hd hok hb hr
          rw [HD.out] at HF
          by_cases h3 : x.ser = ser
          · have h3' : ((x.ser : Int) != (ser : Int)) = false := by simp; omega
            have HV := Lib.hid (HF.out.trans (if_pos ⟨by omega, by omega, h2, h3⟩))
            have H3 := Lib.hid h3'
            clear h3 h2 HF
            go_wp2_with fail
            go_ret
            exact ⟨by rw [HV.out]; rfl, R1.out.below⟩
          · have h3' : ((x.ser : Int) != (ser : Int)) = true := by simp; omega
            have HV := Lib.hid (HF.out.trans (if_neg (fun h => h3 h.2.2.2)))
            clear h3 h2 HF
            go_wp2_with fail
            go_ret
            exact ⟨by rw [HV.out]; rfl, R1.out.below⟩
def PartPost (w : World) (E : Int) (l : List CellH) (place off n : Int) (e : Ending) (w' : World) : Prop :=
  ∃ v, e = .returned (.tuple #[v, .int .i64 E]) ∧ Below w.heap.size w w' ∧
    ((E ≠ 0 ∧ v = .slice none 0 0) ∨ (E = 0 ∧ ∃ x, l[place.toNat]? = some x ∧ v = .slice (if off.toNat + n.toNat = off.toNat then x.A else x.A.map (·.add off.toNat)) n.toNat n.toNat))
set_option maxHeartbeats 2000000 in
theorem part_is (hc : ClsAt w) {s : ShL} {A : Option Addr} {N c : Nat} {l : List CellH} (hs : ShelfOf w s A N c l) (place : Int) (ser : Nat) (off n : Int) :
    Calls Tryd.prog 30 #[.agg (shV s A N c), .int .i64 place, .int .u64 (ser : Int), .int .i64 off, .int .i64 n] w fun e w' => PartPost w (partE s place ser off n) l place off n e w' := by
  have hR := (Rows.start w).alloc (shV s A N c) 25
  obtain ⟨W, hW⟩ : ∃ W, W = w.alloc (.cells (shV s A N c) 25) := ⟨_, rfl⟩
  obtain ⟨g, hg⟩ : ∃ g, g = w.heap.size := ⟨_, rfl⟩
  rw [← hW, ← hg] at hR
  have HR := Lib.hid hR
  have HW := Lib.hid hW
  have HG := Lib.hid hg
  have HS := Lib.hid hs
  have HFN := Lib.hid (find_is (w := W) (hc.below hR.below) ⟨A, N, c, l, rfl, hs.below hR.below⟩ place ser)
  have a0 : W.cell? ⟨g, 0, none⟩ = some (.int .u8 (s.cl : Int)) := hR.cell 0 0 rfl rfl
  have a1 : W.cell? ⟨g, 1, none⟩ = some (.int .u16 (s.prev : Int)) := hR.cell 0 1 rfl rfl
  have a2 : W.cell? ⟨g, 2, none⟩ = some (.int .u16 (s.next : Int)) := hR.cell 0 2 rfl rfl
  have a3 : W.cell? ⟨g, 3, none⟩ = some (.slice A N c) := hR.cell 0 3 rfl rfl
  have HF : Hid (partE s place ser off n = if findE s place ser = 0 then (if 0 ≤ off ∧ 0 ≤ n ∧ off + n ≤ (dataL s place).length then 0 else 211) else findE s place ser) := Lib.hid rfl
  have HFE : Hid (findE s place ser = 0 → mayL s = true ∧ 0 ≤ place ∧ place < s.cells.length ∧ ser ≠ 0 ∧ (s.cells.getD place.toNat (0, [])).1 = ser) := Lib.hid findE_zero
  generalize partE s place ser off n = E at HF ⊢
  generalize findE s place ser = q at HF HFE HFN
  have hlen := hs.len
  have HLEN := Lib.hid hlen
  clear hR hW hg hs hc hlen
  go_enter Tryd.func30, Tryd.ntmps30
  go_upto_region 1 with (fail)
  rw [← HW.out, ← HG.out]
  go_wp2_with fail
  refine HFN.out.mono ?_
  rintro e w1 ⟨rfl, hb⟩
  have R2 := Lib.hid (HR.out.call hb)
  clear hb a0 a1 a2 a3 HFN
  have a3 : w1.cell? ⟨g, 3, none⟩ = some (.slice A N c) := R2.out.cell 0 3 rfl rfl
  by_cases hq : q = 0
  · subst hq
    have HF := Lib.hid (HF.out.trans (if_pos rfl))
    obtain ⟨_, hp0, hp1, _, _⟩ := HFE.out rfl
    obtain ⟨p, rfl⟩ : ∃ p : Nat, place = (p : Int) := ⟨place.toNat, by omega⟩
    have hpn : p < N := by have := HLEN.out; omega
    obtain ⟨x, hx, hd, hok, hm400, b, o, rfl, hb, hr⟩ := HS.out.get p hpn
    have c1 : w1.cell? ⟨b, o + p * 2 + 1, none⟩ = some (.slice x.A x.m x.c) := (R2.out.below.cell hb).trans (hr 1 _ (show (cellV x).toList[1]? = some (.slice x.A x.m x.c) from rfl))
    have hdl : (dataL s (p : Int)).length = x.m := by unfold dataL; rw [Int.toNat_natCast, hd]; exact hok.len
    rw [hdl] at HF
    have HX := Lib.hid hx
    have hcap := hok.cap
    clear hx hd hok hb hr hdl HFE hp0 hp1
    by_cases h1 : off < 0
    · skip
      have HV := Lib.hid (HF.out.trans (if_neg (by omega)))
      clear HF
      go_wp2_with fail
      go_ret2
      exact ⟨.slice none 0 0, by rw [HV.out]; rfl, R2.out.below, .inl ⟨by rw [HV.out]; decide, rfl⟩⟩
    · by_cases h2 : n < 0
      · skip
        have HV := Lib.hid (HF.out.trans (if_neg (by omega)))
        clear HF
        go_wp2_with fail
        go_ret2
        exact ⟨.slice none 0 0, by rw [HV.out]; rfl, R2.out.below, .inl ⟨by rw [HV.out]; decide, rfl⟩⟩
      · by_cases h3 : (x.m : Int) < off
        · skip
          have HV := Lib.hid (HF.out.trans (if_neg (by omega)))
          clear HF
          go_wp2_with fail
          go_ret2
          exact ⟨.slice none 0 0, by rw [HV.out]; rfl, R2.out.below, .inl ⟨by rw [HV.out]; decide, rfl⟩⟩
        · by_cases h4 : (x.m : Int) - off < n
          · skip
            have HV := Lib.hid (HF.out.trans (if_neg (by omega)))
            clear HF
            go_wp2_with fail
            go_ret2
            exact ⟨.slice none 0 0, by rw [HV.out]; rfl, R2.out.below, .inl ⟨by rw [HV.out]; decide, rfl⟩⟩
          · obtain ⟨lo, rfl⟩ : ∃ k : Nat, off = (k : Int) := ⟨off.toNat, by omega⟩
            obtain ⟨k, rfl⟩ : ∃ k : Nat, n = (k : Int) := ⟨n.toNat, by omega⟩
            have HV := Lib.hid (HF.out.trans (if_pos ⟨by omega, by omega, by omega⟩))
            have hsl := fun w : World => run_slice3 (P := Tryd.prog) (w := w) 27 5 x.A x.m x.c lo (lo + k) Tryd.underlying27 (by kernel_rfl) (by omega) (by omega)
            rw [show ((lo + k : Nat) : Int) = (lo : Int) + (k : Int) by omega, show lo + k - lo = k by omega] at hsl
            obtain ⟨B, hB⟩ : ∃ B, B = (if lo + k = lo then x.A else x.A.map (·.add lo)) := ⟨_, rfl⟩
            rw [← hB] at hsl
            have HB := Lib.hid hB
            clear HF hB
            go_wp2_with fail
            go_ret2
            exact ⟨.slice B k k, by rw [HV.out]; rfl, R2.out.below, .inr ⟨HV.out, x, by rw [Int.toNat_natCast]; exact HX.out, by rw [HB.out]; simp only [Int.toNat_natCast]⟩⟩
  · have HV := Lib.hid (HF.out.trans (if_neg hq))
    have hq' : (q != 0) = true := by simpa using hq
    clear HF
    go_wp2_with fail
    go_ret2
    exact ⟨.slice none 0 0, by rw [HV.out]; rfl, R2.out.below, .inl ⟨by rw [HV.out]; exact hq, rfl⟩⟩
def ReadPost (w : World) (E : Int) (b : List UInt8) (e : Ending) (w' : World) : Prop :=
  ∃ A c, e = .returned (.tuple #[.slice A b.length c, .int .i64 E]) ∧ b.length ≤ c ∧ BytesIn w' A b ∧ Below w.heap.size w w'
theorem bytesIn_part {w : World} {A : Option Addr} {b : List UInt8} (h : BytesIn w A b) (lo k : Nat) (hk : lo + k ≤ b.length) : BytesIn w (if lo + k = lo then A else A.map (·.add lo)) ((b.drop lo).take k) := by
  by_cases h0 : k = 0
  · subst h0
    exact .inl (by simp)
  · rcases h with rfl | ⟨g, off, rfl, h1, h2⟩
    · simp at hk; omega
    · rw [if_neg (by omega)]
      refine .inr ⟨g, off + lo, by simp [Addr.add_lit], h1, fun j hj => ?_⟩
      rw [List.length_take, List.length_drop] at hj
      rw [Nat.add_assoc, h2 (lo + j) (by omega), List.getElem?_take, if_pos (by omega), List.getElem?_drop]
set_option maxHeartbeats 1000000 in
theorem read_is (hc : ClsAt w) {s : ShL} {v : Value} (hs : ShelfIn w v s) (place : Int) (ser : Nat) (off n : Int) :
    Calls Tryd.prog 12 #[v, .int .i64 place, .int .u64 (ser : Int), .int .i64 off, .int .i64 n] w fun e w' => ReadPost w (partE s place ser off n) (readB18 s place ser off n) e w' := by
  obtain ⟨A, N, c, l, rfl, hs⟩ := hs
  have hR := (Rows.start w).alloc (shV s A N c) 25
  obtain ⟨W, hW⟩ : ∃ W, W = w.alloc (.cells (shV s A N c) 25) := ⟨_, rfl⟩
  obtain ⟨g, hg⟩ : ∃ g, g = w.heap.size := ⟨_, rfl⟩
  rw [← hW, ← hg] at hR
  have HR := Lib.hid hR
  have HW := Lib.hid hW
  have HG := Lib.hid hg
  have HS := Lib.hid (hs.below hR.below)
  have HPT := Lib.hid (part_is (w := W) (hc.below hR.below) (hs.below hR.below) place ser off n)
  have a0 : W.cell? ⟨g, 0, none⟩ = some (.int .u8 (s.cl : Int)) := hR.cell 0 0 rfl rfl
  have a1 : W.cell? ⟨g, 1, none⟩ = some (.int .u16 (s.prev : Int)) := hR.cell 0 1 rfl rfl
  have a2 : W.cell? ⟨g, 2, none⟩ = some (.int .u16 (s.next : Int)) := hR.cell 0 2 rfl rfl
  have a3 : W.cell? ⟨g, 3, none⟩ = some (.slice A N c) := hR.cell 0 3 rfl rfl
  have HRB : Hid (readB18 s place ser off n = if partE s place ser off n = 0 then ((dataL s place).drop off.toNat).take n.toNat else []) := Lib.hid rfl
  have HPZ : Hid (partE s place ser off n = 0 → findE s place ser = 0 ∧ 0 ≤ off ∧ 0 ≤ n ∧ off + n ≤ (dataL s place).length) := Lib.hid partE_zero
  generalize readB18 s place ser off n = b at HRB ⊢
  generalize partE s place ser off n = E at HRB HPZ HPT ⊢
  have HLEN := Lib.hid hs.len
  clear hR hW hg hs hc
  go_enter Tryd.func12, Tryd.ntmps12
  go_upto_region 1 with (fail)
  rw [← HW.out, ← HG.out]
  go_wp2_with fail
  refine HPT.out.mono ?_
  rintro e w1 ⟨v1, rfl, hb, hv⟩
  clear HPT a0 a1 a2 a3
  obtain ⟨B, rfl, hby, hb4⟩ : ∃ B, v1 = .slice B b.length b.length ∧ BytesIn w1 B b ∧ b.length ≤ 400 := by
    rcases hv with ⟨he, rfl⟩ | ⟨he, x, hx, rfl⟩
    · have : b = [] := by rw [HRB.out, if_neg he]
      subst this
      exact ⟨none, rfl, .inl rfl, by simp⟩
    · obtain ⟨hf, h1, h2, h3⟩ := HPZ.out he
      obtain ⟨_, hp0, hp1, _, _⟩ := findE_zero hf
      obtain ⟨y, hy, hd, hok, hm4, _⟩ := HS.out.get place.toNat (by have := HLEN.out; omega)
      obtain rfl : x = y := by rw [hx] at hy; exact Option.some.inj hy
      have hdl : dataL s place = x.data := by unfold dataL; rw [hd]; rfl
      rw [hdl, hok.len] at h3
      have hbe : b = (x.data.drop off.toNat).take n.toNat := by rw [HRB.out, if_pos he, hdl]
      have hbl : b.length = n.toNat := by rw [hbe, List.length_take, List.length_drop, hok.len]; omega
      refine ⟨if off.toNat + n.toNat = off.toNat then x.A else x.A.map (·.add off.toNat), by rw [hbl], ?_, by omega⟩
      rw [hbe]
      exact bytesIn_part (hok.by_.below hb) _ _ (by rw [hok.len]; omega)
  have HCL := Lib.hid (clone8_any (w := w1) B b.length b.length (b.map vu8) (by simp) (by omega) (by intro u hu; obtain ⟨y, _, rfl⟩ := List.mem_map.1 hu; rfl) (by
    rcases hby with h | ⟨gd, o, e, _, h⟩
    · exact .inl (by rw [h]; rfl)
    · exact .inr ⟨gd, o, e, fun jj u hu => by
        have hjj : jj < b.length := by have := (List.getElem?_eq_some_iff.1 hu).1; simpa using this
        rw [h jj hjj, ← List.getElem?_map, hu]⟩))
  have HB := Lib.hid (HR.out.call hb)
  clear hb hv hby
  go_wp2_with fail
  refine HCL.out.mono ?_
  rintro e w2 ⟨v2, rfl, hown, hb⟩
  obtain ⟨A2, c2, FF, rfl, hsay, _, _⟩ := datT_of_own 0 rfl hown
  have HB2 := Lib.hid (HB.out.call hb)
  have HSY := Lib.hid (datT_bytes ⟨FF, hsay⟩)
  clear hb hown hsay
  go_wp2_with fail
  go_ret2
  exact ⟨A2, c2, rfl, HSY.out.2.1, HSY.out.2.2, HB2.out.below⟩
end
end Go.Proofs.YtcepfmjebgklfaaDoor
