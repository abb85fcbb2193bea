/- Shelves in memory: copied. -/
import Derived.Test.YtcepfmjebgklfaaDoorSh4
import Derived.Test.YtcepfmjebgklfaaDoorPred
namespace Go.Proofs.YtcepfmjebgklfaaDoor
open Go.RowKit
set_option linter.unusedSimpArgs false
set_option linter.unusedVariables false
set_option maxRecDepth 100000
section
variable {P : Program} {o : Oper} {a : Act} {w : World} {K : Act → World → Prop} {Q : Exit → Act → World → Prop}
theorem wpg_move (x : Operand) (v : Value) (ho : o.op = .move x) (hx : a.eval x = v) (h : K (a.put o.dst v) w) : o.wp P a w K Q :=
  wp_value v (by unfold execOp; rw [ho, ← hx]; rfl) h
theorem wpg_field (T : TypeId) (i : Nat) (ft : TypeId) (off sz : Nat) (x : Operand) (g k : Nat) (ho : o.op = .fieldAddr T x i) (hT : P.underlying T = some (.struct (P.fieldsOf T)))
    (hF : ((P.fieldsOf T)[i]?).map (fun f => (f.type, f.offset)) = some (ft, off)) (hs : (P.info? ft).map (·.size) = some (sz + 1)) (hx : a.eval x = .pointer (some ⟨g, k, none⟩)) (h : K (a.put o.dst (.pointer (some ⟨g, k + off, none⟩))) w) : o.wp P a w K Q :=
  wp_value _ (by
    obtain ⟨f, hf, hf1⟩ := Option.map_eq_some_iff.1 hF
    simp only [Prod.mk.injEq] at hf1
    obtain ⟨q, hq, hq1⟩ := Option.map_eq_some_iff.1 hs
    unfold execOp
    simp [ho, hx, Instr.fieldAt, run_underlying hT, hf, Instr.sureAddr, fieldPlace, sizeOf, typeInfo, hf1.1, hq, hq1, hf1.2, Addr.add_lit]) h
/-- An element's address in a slice whose elements have m cells. -/
theorem wpg_index (t e : TypeId) (x ix : Operand) (g off i n c m : Nat) (kk : IntKind) (ho : o.op = .indexAddr t x ix)
    (ht : P.underlying t = some (.slice e)) (hs : (P.info? e).map (·.size) = some m) (hx : a.eval x = .slice (some ⟨g, off, none⟩) n c) (hi : a.eval ix = .int kk (i : Int)) (hk : i < n)
    (h : K (a.put o.dst (.pointer (some ⟨g, off + i * m, none⟩))) w) : o.wp P a w K Q :=
  wp_value _ (by
    obtain ⟨f, hf, hf1⟩ : ∃ f, P.info? e = some f ∧ f.size = m := by
      cases hq : P.info? e with
      | none => simp [hq] at hs
      | some f => exact ⟨f, rfl, by simpa [hq] using hs⟩
    have hb : (0 : Int) ≤ (i : Int) ∧ (i : Int) < (n : Int) := by omega
    unfold execOp
    simp [ho, hx, hi, Instr.indexAt, asIntOf, run_underlying ht, hb, hk, sizeOf, typeInfo, hf, hf1, Addr.add_lit, Instr.sureAddr]) h
end
theorem Held.keep {w0 W : World} {l l2 : List Thing} (R : Held w0 W (l ++ l2)) : Held w0 W l := by
  have := (R.perm List.perm_append_comm).drop l2.length
  simpa using this
theorem Held.keepR {w0 W : World} {l l2 : List Thing} (R : Held w0 W (l ++ l2)) : Held w0 W l2 := by
  have := R.drop l.length
  simpa using this
theorem ownsRow_below {w w' : World} {base : Nat} {e : TypeId} {size : Nat} {v : Value} {n : Nat} {xs : List Value} (h : w.ownsRow base e size v n xs) (hb : Below w.heap.size w w') : w'.ownsRow base e size v n xs := by
  refine ⟨h.1, ?_⟩
  rcases h.2 with h' | ⟨g, cap, cur, rfl, h1, h2, h3⟩
  · exact .inl h'
  · exact .inr ⟨g, cap, cur, rfl, h1, (hb.block g (Array.getElem?_eq_some_iff.1 h2).1).trans h2, h3⟩
/-- Bytes that a clone has made. -/
theorem datT_of_own {w : World} {base : Nat} {v : Value} {n : Nat} {b : List UInt8} (ser : Nat) (hl : b.length = n) (h : w.ownsRow base 5 1 v n (b.map vu8)) :
    ∃ A c F, v = .slice A n c ∧ (datT ⟨ser, A, n, c, b⟩).says F w ∧ (∀ k ∈ F, base ≤ k) ∧ F.Nodup := by
  rcases h.2 with ⟨rfl, h0⟩ | ⟨g, cap, cur, rfl, h1, h2, h3, h4, h5, h6⟩
  · subst h0
    refine ⟨none, 0, [], rfl, ⟨hl, Nat.le_refl _, .inl ⟨List.eq_nil_of_length_eq_zero hl, rfl⟩⟩, by simp, by simp⟩
  · by_cases hb : b = []
    · subst hb
      simp at hl
      subst hl
      exact ⟨some ⟨g, 0, none⟩, cap, [], rfl, ⟨rfl, h3, .inl ⟨rfl, rfl⟩⟩, by simp, by simp⟩
    · refine ⟨some ⟨g, 0, none⟩, cap, [g], rfl, ⟨hl, h3, .inr ⟨g, cur, rfl, rfl, h2, ?_⟩⟩, by simpa using h1, by simp⟩
      rw [← h6, Nat.mul_one]
def zeroShC : Array Value := #[.int .u8 0, .int .u16 0, .int .u16 0, .slice none 0 0]
theorem sizeShelf : (Tryd.prog.info? 25).map (·.size) = some 4 := by kernel_rfl
theorem sizeCell : (Tryd.prog.info? 41).map (·.size) = some 2 := by kernel_rfl
theorem rangeOf_cells {w : World} {A : Option Addr} {n : Nat} {l : List CellH} (h : CellsIn w A n l) : n = 0 ∨ ∃ g off, A = some ⟨g, off, none⟩ ∧ ∀ j u, (rowOf l)[j]? = some u → w.cell? ⟨g, off + j, none⟩ = some u := by
  rcases h.at_ with h0 | ⟨b, off, e, _, h2⟩
  · exact .inl h0
  · refine .inr ⟨b, off, e, fun j u hj => ?_⟩
    have hjl : j < l.length * 2 := by rw [← rowOf_length]; exact (List.getElem?_eq_some_iff.1 hj).1
    have hi : j / 2 < l.length := by omega
    obtain ⟨h3, h4⟩ := rowOf_get l (j / 2) hi
    have hr := h2 (j / 2) hi
    rcases Nat.mod_two_eq_zero_or_one j with hm | hm
    · have e2 : j / 2 * 2 = j := by omega
      rw [e2, hj] at h3
      have := hr 0 _ (show (cellV l[j / 2]).toList[0]? = some (.int .u64 (l[j / 2].ser : Int)) from rfl)
      rw [e2, Nat.add_zero] at this
      rw [this, ← Option.some.inj h3]
    · have e2 : j / 2 * 2 + 1 = j := by omega
      rw [e2, hj] at h4
      have := hr 1 _ (show (cellV l[j / 2]).toList[1]? = some (.slice l[j / 2].A l[j / 2].m l[j / 2].c) from rfl)
      rw [Nat.add_assoc, e2] at this
      rw [this, ← Option.some.inj h4]
/-- What the slots of copied's region hold. -/
def cpV (g1 g4 gc n c j : Nat) (x : CellH) (base : Nat) (t : Tmp) (v : Value) (w : World) : Prop :=
  match t with
  | 17 => v = .pointer (some ⟨g1, 3, none⟩)
  | 18 => v = .slice (some ⟨gc, 0, none⟩) n c
  | 19 => v = .int .i64 (j : Int)
  | 20 => v = .pointer (some ⟨g4, 1, none⟩)
  | 21 => v = .slice x.A x.m x.c
  | 22 => w.ownsRow base 5 1 v x.m (x.data.map vu8)
  | 23 => v = .pointer (some ⟨gc, j * 2, none⟩)
  | 24 => v = .pointer (some ⟨gc, j * 2 + 1, none⟩)
  | _ => True
theorem cpV_stab (g1 g4 gc n c j : Nat) (x : CellH) (base : Nat) : ∀ t v w w', cpV g1 g4 gc n c j x base t v w → Below w.heap.size w w' → cpV g1 g4 gc n c j x base t v w' := by
  intro t v w w' h hb
  unfold cpV at h ⊢
  split at h <;> first
    | exact h
    | exact ownsRow_below h hb
    | trivial
/-- No block of a shelf's lies below B. -/
def FreshAt (B : Nat) (A : Option Addr) (n : Nat) (l : List CellH) : Prop := (n ≠ 0 → ∀ a, A = some a → B ≤ a.block) ∧ ∀ x ∈ l, x.data ≠ [] → ∀ a, x.A = some a → B ≤ a.block
/-- A shelf that does not lie in block g. -/
def Avoids (g : Nat) (A : Option Addr) (n : Nat) (l : List CellH) : Prop := (n ≠ 0 → ∀ a, A = some a → a.block ≠ g) ∧ ∀ x ∈ l, x.data ≠ [] → ∀ a, x.A = some a → a.block ≠ g
theorem FreshAt.avoids {B g : Nat} {A : Option Addr} {n : Nat} {l : List CellH} (h : FreshAt B A n l) (hg : g < B) : Avoids g A n l :=
  ⟨fun h0 a ha => by have := h.1 h0 a ha; omega, fun x hx hd a ha => by have := h.2 x hx hd a ha; omega⟩
def ShelfFr (B : Nat) (w : World) (v : Value) (s : ShL) : Prop := ∃ A n c l, v = .agg (shV s A n c) ∧ ShelfOf w s A n c l ∧ FreshAt B A n l
theorem ShelfFr.in_ {B : Nat} {w : World} {v : Value} {s : ShL} (h : ShelfFr B w v s) : ShelfIn w v s := by
  obtain ⟨A, n, c, l, e, h, _⟩ := h
  exact ⟨A, n, c, l, e, h⟩
theorem Held.thingGe {w0 W : World} {l : List Thing} (R : Held w0 W l) (k : Nat) {x : Thing} (e : l[k]? = some x) : ∃ F, x.says F W ∧ ∀ b ∈ F, w0.heap.size ≤ b := by
  obtain ⟨Z, rfl, R⟩ := R
  rw [List.getElem?_map] at e
  obtain ⟨z, hz, rfl⟩ := Option.map_eq_some_iff.1 e
  exact ⟨_, R.says z (List.mem_of_getElem? hz), R.ge z (List.mem_of_getElem? hz)⟩
theorem OwnSh.fresh {w0 W : World} {s : ShL} {gc c : Nat} {cur : Array Value} {hs : List CellH} {l : List Thing} (h : OwnSh w0 W s gc c cur hs l) : FreshAt w0.heap.size (some ⟨gc, 0, none⟩) hs.length hs := by
  refine ⟨fun _ a ha => ?_, fun x hx hd a ha => ?_⟩
  · cases ha
    exact h.held.ge 0 rfl
  · obtain ⟨i, hi, rfl⟩ := List.mem_iff_getElem.1 hx
    obtain ⟨F, ⟨_, _, h3⟩, hge⟩ := h.held.thingGe (i + 1) (x := datT hs[i]) (by
      rw [List.getElem?_cons_succ, List.getElem?_append_left (by simpa using hi), List.getElem?_map, List.getElem?_eq_getElem hi]
      rfl)
    rcases h3 with ⟨h3, _⟩ | ⟨g, cu, hA, rfl, _, _⟩
    · exact absurd h3 hd
    · rw [hA] at ha
      cases ha
      exact hge g (by simp)
section
variable {w : World}
set_option maxHeartbeats 4000000 in
theorem copied_is {s : ShL} {v : Value} (hs : ShelfIn w v s) : Calls Tryd.prog 29 #[v] w fun e w' => CopyPost w s e w' := by
  obtain ⟨A, n, c, l, rfl, hs⟩ := hs
  have hR := ((Held.start w).alloc (shV s A n c) 25).alloc #[.int .u8 0, .int .u16 0, .int .u16 0, .slice none 0 0] 25
  obtain ⟨W, hW⟩ : ∃ W, W = (w.alloc (.cells (shV s A n c) 25)).alloc (.cells #[.int .u8 0, .int .u16 0, .int .u16 0, .slice none 0 0] 25) := ⟨_, rfl⟩
  obtain ⟨g, hg⟩ : ∃ g, g = w.heap.size := ⟨_, rfl⟩
  rw [← hW, show (w.alloc (.cells (shV s A n c) 25)).heap.size = g + 1 by rw [hg]; simp, ← hg] at hR
  have HR := Lib.hid hR
  have HW := Lib.hid hW
  have HG := Lib.hid hg
  have HS := Lib.hid hs
  have hn := hs.le30
  have a3 : W.cell? ⟨g, 3, none⟩ = some (.slice A n c) := hR.cell 1 3 rfl rfl
  have f3 : W.frozen? ⟨g, 3, none⟩ = false := hR.free 1 3 rfl
  have HCL := Lib.hid (clonec_any (w := W) A n c (rowOf l) (by rw [rowOf_length, hs.cells.len]) (by omega) (rowOf_one l) (rangeOf_cells (hs.cells.below hR.below)))
  clear hR hW hg hs
  go_enter Tryd.func29, Tryd.ntmps29
  go_upto_region 1 with (fail)
  rw [← HW.out, ← HG.out]
  go_wp2_with fail
  refine HCL.out.mono ?_
  rintro e w1 ⟨v1, rfl, hown, hb⟩
  obtain ⟨A1, c1, rfl, hr1⟩ : ∃ A1 c1, v1 = .slice A1 n c1 ∧ (n = 0 ∨ ∃ gc cur, A1 = some ⟨gc, 0, none⟩ ∧ W.heap.size ≤ gc ∧ w1.heap[gc]? = some (.cells cur 41 (0, 0)) ∧ n ≤ c1 ∧ cur.toList.take (n * 2) = rowOf l) := by
    rcases hown.2 with ⟨h, h0⟩ | ⟨gc, cap, cur, h, h1, h2, h3, h4, h5, h6⟩
    · exact ⟨none, 0, by rw [h, h0], .inl h0⟩
    · exact ⟨_, cap, h, .inr ⟨gc, cur, rfl, h1, h2, h3, h6⟩⟩
  have R1 := Lib.hid (HR.out.call hb)
  have HB1 := Lib.hid hb
  have HR1 := Lib.hid hr1
  clear hb hown a3 f3 hr1
  have a3 : w1.cell? ⟨g, 3, none⟩ = some (.slice A n c) := R1.out.cell 1 3 rfl rfl
  have f3 : w1.frozen? ⟨g, 3, none⟩ = false := R1.out.free 1 3 rfl
  go_upto_region 2 with (fail)
  clear a3 f3
  have R2 := Lib.hid (R1.out.setCell 1 3 (.slice A1 n c1) rfl)
  obtain ⟨W2, hW2⟩ : ∃ W2, W2 = w1.setCell ⟨g, 3, none⟩ (.slice A1 n c1) := ⟨_, rfl⟩
  have HW2 := Lib.hid hW2
  have q2 : Held w W2 [rowT (g + 1) #[.int .u8 0, .int .u16 0, .int .u16 0, .slice none 0 0] 25, rowT g (shV s A1 n c1) 25] := by rw [hW2]; exact R2.out
  clear R2
  have R2 := Lib.hid q2
  rw [← hW2]
  clear hW2 q2 HCL
  have hz0 : ∀ (Y : World) (L : List Thing) (R : Held w Y L) (k1 k2 : Nat), L[k1]? = some (rowT (g + 1) #[.int .u8 0, .int .u16 0, .int .u16 0, .slice none 0 0] 25) → L[k2]? = some (rowT g (shV s A1 n c1) 25) →
      Y.cell? ⟨g, 0, none⟩ = some (.int .u8 (s.cl : Int)) ∧ Y.cell? ⟨g, 1, none⟩ = some (.int .u16 (s.prev : Int)) ∧ Y.cell? ⟨g, 2, none⟩ = some (.int .u16 (s.next : Int)) ∧ Y.cell? ⟨g, 3, none⟩ = some (.slice A1 n c1) ∧
      Y.cell? ⟨g + 1, 0, none⟩ = some (.int .u8 0) ∧ Y.cell? ⟨g + 1, 1, none⟩ = some (.int .u16 0) ∧ Y.cell? ⟨g + 1, 2, none⟩ = some (.int .u16 0) ∧ Y.cell? ⟨g + 1, 3, none⟩ = some (.slice none 0 0) ∧
      Y.frozen? ⟨g + 1, 0, none⟩ = false ∧ Y.frozen? ⟨g + 1, 1, none⟩ = false ∧ Y.frozen? ⟨g + 1, 2, none⟩ = false ∧ Y.frozen? ⟨g + 1, 3, none⟩ = false ∧
      Held w ((((Y.setCell ⟨g + 1, 0, none⟩ (.int .u8 (s.cl : Int))).setCell ⟨g + 1, 1, none⟩ (.int .u16 (s.prev : Int))).setCell ⟨g + 1, 2, none⟩ (.int .u16 (s.next : Int))).setCell ⟨g + 1, 3, none⟩ (.slice A1 n c1)) (L.set k1 (rowT (g + 1) (shV s A1 n c1) 25)) := by
    intro Y L R k1 k2 e1 e2
    have hk : k1 < L.length := (List.getElem?_eq_some_iff.1 e1).1
    refine ⟨R.cell k2 0 e2 rfl, R.cell k2 1 e2 rfl, R.cell k2 2 e2 rfl, R.cell k2 3 e2 rfl, R.cell k1 0 e1 rfl, R.cell k1 1 e1 rfl, R.cell k1 2 e1 rfl, R.cell k1 3 e1 rfl, R.free k1 0 e1, R.free k1 1 e1, R.free k1 2 e1, R.free k1 3 e1, ?_⟩
    have q1 := R.setCell k1 0 (.int .u8 (s.cl : Int)) e1
    have q2 := q1.setCell k1 1 (.int .u16 (s.prev : Int)) (by rw [List.getElem?_set_self hk])
    have q3 := q2.setCell k1 2 (.int .u16 (s.next : Int)) (by rw [List.getElem?_set_self (by simpa using hk)])
    have q4 := q3.setCell k1 3 (.slice A1 n c1) (by rw [List.getElem?_set_self (by simpa using hk)])
    simp only [List.set_set] at q4
    exact q4
  have HZ := Lib.hid hz0
  clear hz0
  have b3 : W2.cell? ⟨g, 3, none⟩ = some (.slice A1 n c1) := R2.out.cell 1 3 rfl rfl
  by_cases h0 : n = 0
  · subst h0
    clear HR1
    go_wp2_with fail
    go_loopw [3, 4, 12] (fun _ _ i wr => i = .int .i64 0 ∧ wr = W2) (fun _ _ _ _ => 0)
    case atStart => exact ⟨rfl, rfl⟩
    case round =>
      obtain ⟨rfl, hw⟩ := hrel
      subst hw
      obtain ⟨p0, p1, p2, p3, z0, z1, z2, z3, f0, f1, f2, f3, hfin⟩ := HZ.out _ _ R2.out 0 1 rfl rfl
      have HF := Lib.hid hfin
      clear hfin b3
      go_wp2_with fail
      refine bodyPost_ret (v := .agg (shV s A1 0 c1)) (results_cell_row rfl _ _ (g + 1) 25 _ (0, 0) _ rfl (HF.out.get 0 rfl) Tryd.underlying25 rfl sizeShelf) rfl ?_
      have hl0 : s.cells = [] := List.eq_nil_of_length_eq_zero HS.out.len
      exact ⟨_, rfl, .inl ⟨hl0, ⟨A1, 0, c1, [], rfl, ⟨⟨rfl, .inl rfl, by simp⟩, by rw [hl0]; rfl, Nat.zero_le _, HS.out.cl, HS.out.prev, HS.out.next, HS.out.small⟩⟩, HF.out.below⟩⟩
  · obtain ⟨gc, cur, rfl, hge, hgc, hnc, htk⟩ := HR1.out.resolve_left h0
    clear HR1
    have hrow := rowHas_of_take htk HS.out.cells.len
    have R3 : Held w W2 [rowT gc cur 41, rowT (g + 1) #[.int .u8 0, .int .u16 0, .int .u16 0, .slice none 0 0] 25, rowT g (shV s (some ⟨gc, 0, none⟩) n c1) 25] := by
      have h1 : Held W w1 [rowT gc cur 41] := (Held.start W).more HB1.out (F := [gc]) ⟨rfl, hgc⟩ (by simpa using hge) (by simp)
      have h2 := (HR.out.join h1).setCell 2 3 (.slice (some ⟨gc, 0, none⟩) n c1) rfl
      rw [← HW2.out] at h2
      exact h2
    have HR3 := Lib.hid R3
    have HRW := Lib.hid hrow
    have HNC := Lib.hid hnc
    clear hge hgc htk hrow R3 hnc
    go_wp2_with fail
    go_loopw [3, 4, 12] (fun _ _ i wr => ∃ (j : Nat) (new : List CellH) (cu : Array Value), j ≤ n ∧ i = .int .i64 (j : Int) ∧ new.length = j ∧
      Held w wr (rowT gc cu 41 :: (new.map datT ++ [rowT (g + 1) #[.int .u8 0, .int .u16 0, .int .u16 0, .slice none 0 0] 25, rowT g (shV s (some ⟨gc, 0, none⟩) n c1) 25])) ∧ RowHas cu (new ++ l.drop j) ∧ new.map CellH.dat = (l.take j).map CellH.dat) (fun _ _ i _ => n - (intOf i).toNat)
    case atStart => exact ⟨0, [], cur, by omega, rfl, rfl, HR3.out, HRW.out, rfl⟩
    case round =>
      obtain ⟨j, new, cu, hj, rfl, hnl, hR, hrw, hnd⟩ := hrel
      have R4 := Lib.hid hR
      have HRW4 := Lib.hid hrw
      have HND := Lib.hid hnd
      have HNL := Lib.hid hnl
      have k1 : (rowT gc cu 41 :: (new.map datT ++ [rowT (g + 1) #[.int .u8 0, .int .u16 0, .int .u16 0, .slice none 0 0] 25, rowT g (shV s (some ⟨gc, 0, none⟩) n c1) 25]))[j + 1]? = some (rowT (g + 1) #[.int .u8 0, .int .u16 0, .int .u16 0, .slice none 0 0] 25) := by
        rw [List.getElem?_cons_succ, List.getElem?_append_right (by rw [List.length_map]; omega), List.length_map, hnl, Nat.sub_self]; rfl
      have k2 : (rowT gc cu 41 :: (new.map datT ++ [rowT (g + 1) #[.int .u8 0, .int .u16 0, .int .u16 0, .slice none 0 0] 25, rowT g (shV s (some ⟨gc, 0, none⟩) n c1) 25]))[j + 2]? = some (rowT g (shV s (some ⟨gc, 0, none⟩) n c1) 25) := by
        rw [List.getElem?_cons_succ, List.getElem?_append_right (by rw [List.length_map]; omega), List.length_map, hnl, show j + 1 - j = 1 by omega]; rfl
      have K1 := Lib.hid k1
      have K2 := Lib.hid k2
      clear hR hrw hnd HR3 HRW k1 k2 hnl b3
      by_cases hlt : j < n
      · have hjl : j < l.length := by rw [HS.out.cells.len]; exact hlt
        have hx := HS.out.cells.ok _ (List.getElem_mem hjl)
        have hd400 := HS.out.data400 _ (List.getElem_mem hjl)
        have hdrop : l.drop j = l[j] :: l.drop (j + 1) := List.drop_eq_getElem_cons hjl
        have htake : l.take (j + 1) = l.take j ++ [l[j]] := List.take_succ_eq_append_getElem hjl
        obtain ⟨h1, h2⟩ := HRW4.out j (by rw [List.length_append, HNL.out, List.length_drop]; omega)
        have hjx : (new ++ l.drop j)[j]'(by rw [List.length_append, HNL.out, List.length_drop]; omega) = l[j] := by
          rw [List.getElem_append_right (by rw [HNL.out]; omega)]
          simp [HNL.out]
        rw [hjx] at h1 h2
        generalize l[j] = x at *
        have c0 : wr.cell? ⟨gc, j * 2, none⟩ = some (.int .u64 (x.ser : Int)) := R4.out.cell 0 (j * 2) rfl h1
        have cc1 : wr.cell? ⟨gc, j * 2 + 1, none⟩ = some (.slice x.A x.m x.c) := R4.out.cell 0 (j * 2 + 1) rfl h2
        have HX := Lib.hid hx
        have HDR := Lib.hid hdrop
        have HTK := Lib.hid htake
        clear hx hdrop htake hjx h1 h2
        go_upto_region 5 with (fail)
        have q1 := R4.out.alloc #[.int .u64 (x.ser : Int), .slice x.A x.m x.c] 41
        clear c0 cc1
        obtain ⟨W5, hW⟩ : ∃ W, W = wr.alloc (.cells #[.int .u64 (x.ser : Int), .slice x.A x.m x.c] 41) := ⟨_, rfl⟩
        rw [← hW] at q1 ⊢
        clear hW
        obtain ⟨g4, hg⟩ : ∃ g, g = wr.heap.size := ⟨_, rfl⟩
        rw [← hg] at q1 ⊢
        clear hg
        have R5 := Lib.hid q1
        clear q1
        have HCL8 : Hid (∀ w', Below W5.heap.size W5 w' → Calls Tryd.prog 31 #[.slice x.A x.m x.c] w' fun e w'' => ∃ v', e = .returned v' ∧ w''.ownsRow W5.heap.size 5 1 v' x.m (x.data.map vu8) ∧ Below w'.heap.size w' w'') := Lib.hid (fun w' hb => by
          have hby := (HX.out.by_.below R5.out.below).below hb
          refine (clone8_any (w := w') x.A x.m x.c (x.data.map vu8) (by rw [List.length_map, HX.out.len, Nat.mul_one]) (by omega) (by intro u hu; obtain ⟨y, _, rfl⟩ := List.mem_map.1 hu; rfl) ?_).mono ?_
          · rcases hby with h | ⟨gd, off, e, _, h⟩
            · exact .inl (by rw [← HX.out.len, h]; rfl)
            · exact .inr ⟨gd, off, e, fun jj u hu => by
                have hjj : jj < x.data.length := by have := (List.getElem?_eq_some_iff.1 hu).1; simpa using this
                rw [h jj hjj, ← List.getElem?_map, hu]⟩
          · rintro e w'' ⟨v', he, ho, hb2⟩
            refine ⟨v', he, ?_, hb2⟩
            refine ⟨ho.1, ?_⟩
            rcases ho.2 with h | ⟨gg, cap, cuu, e1, e2, e3⟩
            · exact .inl h
            · exact .inr ⟨gg, cap, cuu, e1, Nat.le_trans hb.size e2, e3⟩)
        refine wp_region_flow (by kernel_rfl) 8 (cpV g g4 gc n c1 j x W5.heap.size) (cpV_stab g g4 gc n c1 j x W5.heap.size) (by kernel_rfl) (by kernel_rfl) (by kernel_rfl) (by kernel_rfl) ?heads ?tail
        case heads =>
          refine ⟨.inr ⟨rfl, 17, rfl, fun a v hB hO hD K hK => ?_⟩, .inr ⟨rfl, 18, rfl, fun a v hB hO hD K hK => ?_⟩, .inr ⟨rfl, 19, rfl, fun a v hB hO hD K hK => ?_⟩, .inr ⟨rfl, 20, rfl, fun a v hB hO hD K hK => ?_⟩, .inr ⟨rfl, 21, rfl, fun a v hB hO hD K hK => ?_⟩, .inr ⟨rfl, 22, rfl, fun a v hB hO hD K hK => ?_⟩, .inr ⟨rfl, 23, rfl, fun a v hB hO hD K hK => ?_⟩, .inr ⟨rfl, 24, rfl, fun a v hB hO hD K hK => ?_⟩, .inl (by decide), trivial⟩
          · exact wpg_field 25 3 23 3 0 _ g 0 rfl (by kernel_rfl) (by kernel_rfl) (by kernel_rfl) (eval_of (t := 1) (by rw [hO 1 (not_dst 1 (by kernel_rfl))]; rfl)) (hK _ _ rfl (Below.refl _ _))
          · obtain ⟨u, hu, hv⟩ := flow_of hD 0 (by kernel_rfl) 17 (by kernel_rfl)
            exact wp_load_cell 23 _ ⟨g, 3, none⟩ (.slice (some ⟨gc, 0, none⟩) n c1) _ rfl rfl (hu.trans hv) ((R5.out.call hB).cell (j + 3) 3 (by rw [List.getElem?_cons_succ]; exact K2.out) rfl) Tryd.underlying23 (hK _ _ rfl (Below.refl _ _))
          · exact wpg_move _ _ rfl (eval_of (t := 3) (by rw [hO 3 (not_dst 3 (by kernel_rfl))]; rfl)) (hK _ _ rfl (Below.refl _ _))
          · exact wpg_field 41 1 27 1 0 _ g4 0 rfl (by kernel_rfl) (by kernel_rfl) (by kernel_rfl) (eval_of (t := 4) (by rw [hO 4 (not_dst 4 (by kernel_rfl))]; rfl)) (hK _ _ rfl (Below.refl _ _))
          · obtain ⟨u, hu, hv⟩ := flow_of hD 3 (by kernel_rfl) 20 (by kernel_rfl)
            exact wp_load_cell 27 _ ⟨g4, 1, none⟩ (.slice x.A x.m x.c) _ rfl rfl (hu.trans hv) ((R5.out.call hB).cell 0 1 rfl rfl) Tryd.underlying27 (hK _ _ rfl (Below.refl _ _))
          · obtain ⟨u, hu, hv⟩ := flow_of hD 4 (by kernel_rfl) 21 (by kernel_rfl)
            exact wpo_call 31 [.tmp 21] _ #[.slice x.A x.m x.c] _ _ _ rfl Tryd.func31 rfl (by kernel_rfl) (by show #[a.eval (.tmp 21)] = _; rw [hu.trans hv]) (HCL8.out v hB) (fun v' w' hb h => hK v' w' h hb)
          · obtain ⟨u, hu, hv⟩ := flow_of hD 1 (by kernel_rfl) 18 (by kernel_rfl)
            obtain ⟨u', hu', hv'⟩ := flow_of hD 2 (by kernel_rfl) 19 (by kernel_rfl)
            refine wpg_index 23 41 _ _ gc 0 j n c1 2 .i64 rfl Tryd.underlying23 sizeCell (hu.trans hv) (hu'.trans hv') hlt (hK _ _ ?_ (Below.refl _ _))
            rw [Nat.zero_add]; rfl
          · obtain ⟨u, hu, hv⟩ := flow_of hD 6 (by kernel_rfl) 23 (by kernel_rfl)
            exact wpg_field 41 1 27 1 0 _ gc (j * 2) rfl (by kernel_rfl) (by kernel_rfl) (by kernel_rfl) (hu.trans hv) (hK _ _ rfl (Below.refl _ _))
        case tail =>
          intro F w6 hV hB
          have v22 : w6.ownsRow W5.heap.size 5 1 (F 22) x.m (x.data.map vu8) := hV _ (List.mem_of_getElem? (i := 5) rfl) 22 rfl
          have v24 : F 24 = .pointer (some ⟨gc, j * 2 + 1, none⟩) := hV _ (List.mem_of_getElem? (i := 7) rfl) 24 rfl
          have v17 : F 17 = .pointer (some ⟨g, 3, none⟩) := hV _ (List.mem_of_getElem? (i := 0) rfl) 17 rfl
          simp only [List.take_succ_cons, List.take_zero, List.drop_succ_cons, List.drop_zero, putAll, List.setIfInBounds_toArray, List.set_cons_zero, List.set_cons_succ]
          obtain ⟨A2, c2, FF, e22, hsay, hge, hnd⟩ := datT_of_own x.ser HX.out.len v22
          rw [e22, v24]
          have R6 := Lib.hid (R5.out.more hB hsay hge hnd)
          have cc1 : w6.cell? ⟨gc, j * 2 + 1, none⟩ = some (.slice x.A x.m x.c) := R6.out.cell 2 (j * 2 + 1) rfl (by
            obtain ⟨h1, h2⟩ := HRW4.out j (by rw [List.length_append, HNL.out, List.length_drop]; omega)
            have hjx : (new ++ l.drop j)[j]'(by rw [List.length_append, HNL.out, List.length_drop]; omega) = x := by
              rw [List.getElem_append_right (by rw [HNL.out]; omega)]
              simp [HNL.out, HDR.out]
            rw [hjx] at h2
            exact h2)
          have ff1 : w6.frozen? ⟨gc, j * 2 + 1, none⟩ = false := R6.out.free 2 (j * 2 + 1) rfl
          have R7 := Lib.hid (((R6.out.setCell 2 (j * 2 + 1) (.slice A2 x.m c2) rfl).perm (show List.Perm _ (rowT g4 #[.int .u64 (x.ser : Int), .slice x.A x.m x.c] 41 :: (rowT gc (cu.setIfInBounds (j * 2 + 1) (.slice A2 x.m c2)) 41 :: ((new ++ [CellH.mk x.ser A2 x.m c2 x.data]).map datT ++ [rowT (g + 1) #[.int .u8 0, .int .u16 0, .int .u16 0, .slice none 0 0] 25, rowT g (shV s (some ⟨gc, 0, none⟩) n c1) 25]))) from by
            refine (List.Perm.swap _ _ _).trans (List.Perm.cons _ ((List.Perm.swap _ _ _).trans (List.Perm.cons _ ?_)))
            rw [List.map_append, List.append_assoc]
            exact List.perm_middle.symm)).drop 1)
          have HRW7 : Hid (RowHas (cu.setIfInBounds (j * 2 + 1) (.slice A2 x.m c2)) ((new ++ [CellH.mk x.ser A2 x.m c2 x.data]) ++ l.drop (j + 1))) := Lib.hid (by
            have hp : j < (new ++ l.drop j).length := by rw [List.length_append, HNL.out, List.length_drop]; omega
            have h := HRW4.out.setData j hp A2 x.m c2 x.data
            have hjx : (new ++ l.drop j)[j] = x := by
              rw [List.getElem_append_right (by rw [HNL.out]; omega)]
              simp [HNL.out, HDR.out]
            rw [hjx, HDR.out, List.set_append_right _ _ (by rw [HNL.out]; omega), HNL.out, Nat.sub_self, List.set_cons_zero] at h
            rw [List.append_assoc]
            exact h)
          have HND7 : Hid ((new ++ [CellH.mk x.ser A2 x.m c2 x.data]).map CellH.dat = (l.take (j + 1)).map CellH.dat) := Lib.hid (by
            rw [HTK.out, List.map_append, List.map_append, HND.out]; rfl)
          clear hsay hge hnd R6 e22 v22 v24 v17 hV hB
          go_wp2_with fail
          go_roundw
          case rel => exact ⟨j + 1, new ++ [CellH.mk x.ser A2 x.m c2 x.data], _, by omega, by go_num, by rw [List.length_append, HNL.out]; rfl, R7.out, HRW7.out, HND7.out⟩
          case measure => simp [intOf]; omega
      · obtain rfl : j = n := by omega
        obtain ⟨p0, p1, p2, p3, z0, z1, z2, z3, f0, f1, f2, f3, hfin⟩ := HZ.out _ _ R4.out (j + 1) (j + 2) K1.out K2.out
        have HF := Lib.hid hfin
        clear hfin
        go_wp2_with fail
        have k1 := K1.out
        have hset : (rowT gc cu 41 :: (new.map datT ++ [rowT (g + 1) #[.int .u8 0, .int .u16 0, .int .u16 0, .slice none 0 0] 25, rowT g (shV s (some ⟨gc, 0, none⟩) j c1) 25])).set (j + 1) (rowT (g + 1) (shV s (some ⟨gc, 0, none⟩) j c1) 25)
            = (rowT gc cu 41 :: (new.map datT ++ [])) ++ [rowT (g + 1) (shV s (some ⟨gc, 0, none⟩) j c1) 25, rowT g (shV s (some ⟨gc, 0, none⟩) j c1) 25] := by
          rw [List.set_cons_succ, List.set_append_right _ _ (by rw [List.length_map, HNL.out]; omega), List.length_map, HNL.out, Nat.sub_self, List.set_cons_zero]
          simp
        have R8 := HF.out
        rw [hset] at R8
        have hg1 := R8.get (j + 1) (show ((rowT gc cu 41 :: (new.map datT ++ [])) ++ [rowT (g + 1) (shV s (some ⟨gc, 0, none⟩) j c1) 25, rowT g (shV s (some ⟨gc, 0, none⟩) j c1) 25])[j + 1]? = some (rowT (g + 1) (shV s (some ⟨gc, 0, none⟩) j c1) 25) from by
          rw [List.getElem?_append_right (by simp [HNL.out])]
          simp [HNL.out])
        refine bodyPost_ret (v := .agg (shV s (some ⟨gc, 0, none⟩) j c1)) (results_cell_row rfl _ _ (g + 1) 25 _ (0, 0) _ rfl hg1 Tryd.underlying25 rfl sizeShelf) rfl ?_
        have hdr : l.drop j = [] := List.drop_of_length_le (by rw [HS.out.cells.len]; omega)
        have htk : l.take j = l := List.take_of_length_le (by rw [HS.out.cells.len]; omega)
        have hrw := HRW4.out
        rw [hdr, List.append_nil] at hrw
        have hdt : new.map CellH.dat = s.cells := by rw [HND.out, htk, HS.out.dat]
        refine ⟨_, rfl, .inr ⟨gc, c1, cu, new, by rw [HNL.out], ⟨R8.keep, hrw, hdt, by rw [HNL.out]; exact HNC.out, ?_, HS.out.cl, HS.out.prev, HS.out.next, HS.out.small⟩⟩⟩
        intro x hx
        have hm : x.dat ∈ l.map CellH.dat := by rw [HS.out.dat, ← hdt]; exact List.mem_map_of_mem hx
        obtain ⟨y, hy, he⟩ := List.mem_map.1 hm
        have := (HS.out.cells.ok y hy).ser
        have e2 : y.ser = x.ser := congrArg Prod.fst he
        omega
end
end Go.Proofs.YtcepfmjebgklfaaDoor
