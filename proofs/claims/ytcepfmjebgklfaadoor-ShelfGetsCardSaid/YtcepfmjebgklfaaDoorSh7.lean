/- Shelves in memory: New, Give. Shelves in memory: Take. Shelves in memory: Resize, Write. -/
import Derived.Test.YtcepfmjebgklfaaDoorSh4
import Derived.Test.YtcepfmjebgklfaaDoorRefT
import Derived.Scope
import Derived.Laws.CopyOwn
namespace Go.Proofs.YtcepfmjebgklfaaDoor
open Go.RowKit
set_option linter.unusedSimpArgs false
set_option linter.unusedVariables false
set_option maxRecDepth 100000
section
variable {P : Program} {w : World}
theorem wpList_make {ops : Array Oper} {rest : List Oper} {o : Oper} {a : Act} {Q : Exit → Act → World → Prop} (hgd : o.guard = none) (t e : TypeId) (x y : Operand) (i : TypeInfo) (z : Value) (n sz bytes : Nat) (ht : P.underlying t = some (.slice e)) (hi : P.info? e = some i) (hz : i.zero = some z)
    (hs : i.size = sz) (hb : i.bytes = bytes) (ho : o.op = .makeSlice t x y) (hx : a.eval x = .int .i64 (n : Int)) (hy : a.eval y = .int .i64 (n : Int)) (hn : n ≤ 1000) (hsz : sz ≤ 10) (hbz : bytes ≤ 100)
    (h : wpList P ops Q rest (a.put o.dst (.slice (some ⟨w.heap.size, 0, none⟩) n n)) (w.alloc (.cells (madeCells z.cells (n * sz)) e))) : wpList P ops Q (o :: rest) a w :=
  wpList_plain hgd fun _ hK => by
    have h1 : n * sz ≤ 1000 * 10 := Nat.mul_le_mul hn hsz
    have h2 : bytes * n ≤ 100 * 1000 := Nat.mul_le_mul hbz hn
    have h3 : ((bytes * n : Nat) : Int) = (bytes : Int) * (n : Int) := by push_cast; rfl
    have := run_makeSlice w t e i z ht hi hz .i64 .i64 (n : Int) (n : Int) (by omega) (by omega) (by simp only [Int.toNat_natCast]; rw [hs]; omega) (by rw [hb]; omega) (by omega)
    simp only [Int.toNat_natCast, hs] at this
    unfold Oper.wp execOp
    simp only [ho, hx, hy, Sem.run_bind, this, Result.andThen_ok, Sem.run_pure]
    exact hK _ _ h
/-- Three results: a variable of many cells, and two slots. -/
theorem results_cell_slots {fn : Func} {p q r : Tmp} {ty : TypeId} (h : fn.results = #[.cell p ty, .tmp q, .tmp r]) (tmps : Array Value) (w : World) (g : Nat) (t : TypeId) (cs : Array Value) (fr : Nat × Nat) (d : TypeDesc) (v u : Value)
    (hp : tmps.getD p undef = .pointer (some ⟨g, 0, none⟩)) (hq : tmps.getD q undef = v) (hr : tmps.getD r undef = u) (hg : w.heap[g]? = some (.cells cs t fr))
    (hu : P.underlying ty = some d) (hd : (match d with | .struct _ | .array _ _ => true | _ => false) = true) (hi : (P.info? ty).map (·.size) = some cs.size) :
    (results fn tmps).run P w = .ok (.tuple #[.agg cs, v, u]) w := by
  have hp' : tmps[p]?.getD undef = .pointer (some ⟨g, 0, none⟩) := by simpa using hp
  have hq' : tmps[q]?.getD undef = v := by simpa using hq
  have hr' : tmps[r]?.getD undef = u := by simpa using hr
  simp [results, h, hp', hq', hr', asAddr, run_loadVar_row w g t ty cs fr d hg hu hd hi]
end
theorem Held.store4 {w0 Y : World} {L : List Thing} (R : Held w0 Y L) (k : Nat) {g : Nat} {T : TypeId} {x0 x1 x2 x3 : Value} (e : L[k]? = some (rowT g #[x0, x1, x2, x3] T)) (y0 y1 y2 y3 : Value) :
    Held w0 ((((Y.setCell ⟨g, 0, none⟩ y0).setCell ⟨g, 1, none⟩ y1).setCell ⟨g, 2, none⟩ y2).setCell ⟨g, 3, none⟩ y3) (L.set k (rowT g #[y0, y1, y2, y3] T)) := by
  have hk : k < L.length := (List.getElem?_eq_some_iff.1 e).1
  have q1 := R.setCell k 0 y0 e
  have q2 := q1.setCell k 1 y1 (by rw [List.getElem?_set_self hk])
  have q3 := q2.setCell k 2 y2 (by rw [List.getElem?_set_self (by simpa using hk)])
  have q4 := q3.setCell k 3 y3 (by rw [List.getElem?_set_self (by simpa using hk)])
  simp only [List.set_set] at q4
  exact q4
theorem Held.cells4 {w0 Y : World} {L : List Thing} (R : Held w0 Y L) (k : Nat) {g : Nat} {T : TypeId} {x0 x1 x2 x3 : Value} (e : L[k]? = some (rowT g #[x0, x1, x2, x3] T)) :
    (Y.cell? ⟨g, 0, none⟩ = some x0 ∧ Y.cell? ⟨g, 1, none⟩ = some x1 ∧ Y.cell? ⟨g, 2, none⟩ = some x2 ∧ Y.cell? ⟨g, 3, none⟩ = some x3) ∧ Y.frozen? ⟨g, 0, none⟩ = false ∧ Y.frozen? ⟨g, 1, none⟩ = false ∧ Y.frozen? ⟨g, 2, none⟩ = false ∧ Y.frozen? ⟨g, 3, none⟩ = false :=
  ⟨⟨R.cell k 0 e rfl, R.cell k 1 e rfl, R.cell k 2 e rfl, R.cell k 3 e rfl⟩, R.free k 0 e, R.free k 1 e, R.free k 2 e, R.free k 3 e⟩
def freshL (n : Nat) : List CellH := List.replicate n ⟨0, none, 0, 0, []⟩
def newE (k : Nat) : Int := if placesL k = 0 then 2 else 0
def newS (k : Nat) : ShL := if placesL k = 0 then emptySh else ⟨k, 0, 0, List.replicate (placesL k) (0, [])⟩
theorem newS_small (k : Nat) : smallL (newS k) := by
  unfold newS
  split
  · exact emptySh_small
  · refine ⟨by simp; have := placesL_le k; omega, fun c hc => ?_⟩
    have := List.eq_of_mem_replicate hc
    rw [this]; simp
theorem rowHas_made (n : Nat) : RowHas (madeCells #[.int .u64 0, .slice none 0 0] (n * 2)) (freshL n) := by
  intro i hi
  have hin : i < n := by simpa [freshL] using hi
  have hh : (freshL n)[i] = ⟨0, none, 0, 0, []⟩ := by simp [freshL]
  rw [hh]
  unfold madeCells
  constructor
  · rw [Array.getElem?_map, Array.getElem?_range, if_pos (by omega)]
    simp
  · rw [Array.getElem?_map, Array.getElem?_range, if_pos (by omega)]
    simp [show (i * 2 + 1) % 2 = 1 by omega]
/-- A shelf, and an error. -/
def ShPost (w : World) (s : ShL) (E : Int) (e : Ending) (w' : World) : Prop := ∃ v, e = .returned (.tuple #[v, .int .i64 E]) ∧ ShelfFr w.heap.size w' v s ∧ Below w.heap.size w w'
theorem emptySh_in (B : Nat) (w : World) : ShelfFr B w (.agg #[.int .u8 0, .int .u16 0, .int .u16 0, .slice none 0 0]) emptySh :=
  ⟨none, 0, 0, [], rfl, ⟨⟨rfl, .inl rfl, by simp⟩, rfl, Nat.le_refl _, by decide, by decide, by decide, emptySh_small⟩, ⟨fun h => absurd rfl h, by simp⟩⟩
section
variable {w : World}
set_option maxHeartbeats 2000000 in
theorem new_is (hc : ClsAt w) (k : Nat) (hk : k < 256) : Calls Tryd.prog 16 #[.int .u8 (k : Int)] w fun e w' => ShPost w (newS k) (newE k) e w' := by
  have hR := (Held.start w).alloc #[.int .u8 0, .int .u16 0, .int .u16 0, .slice none 0 0] 25
  obtain ⟨W, hW⟩ : ∃ W, W = w.alloc (.cells #[.int .u8 0, .int .u16 0, .int .u16 0, .slice none 0 0] 25) := ⟨_, rfl⟩
  obtain ⟨g, hg⟩ : ∃ g, g = w.heap.size := ⟨_, rfl⟩
  rw [← hW, ← hg] at hR
  have HR := Lib.hid hR
  have HW := Lib.hid hW
  have HG := Lib.hid hg
  have HP : Hid (∀ w', Below W.heap.size W w' → Calls Tryd.prog 17 #[.int .u8 (k : Int)] w' fun e w'' => e = .returned (.int .i64 (placesL k : Int)) ∧ Below w'.heap.size w' w'') := Lib.hid (fun w' hb => places_is ((hc.below hR.below).below hb) k hk)
  have HE : Hid (newE k = if placesL k = 0 then 2 else 0) := Lib.hid rfl
  have HN : Hid (newS k = if placesL k = 0 then emptySh else ⟨k, 0, 0, List.replicate (placesL k) (0, [])⟩) := Lib.hid rfl
  have HSM := Lib.hid (newS_small k)
  generalize newE k = E at HE ⊢
  generalize newS k = s at HN HSM ⊢
  have hpl := placesL_le k
  generalize placesL k = p at HP HE HN hpl
  clear hW hg hR hc
  go_enter Tryd.func16, Tryd.ntmps16
  go_upto_region 1 with (fail)
  rw [← HW.out, ← HG.out]
  go_wp2_with fail
  refine (HP.out _ (Below.refl _ _)).mono ?_
  rintro e w1 ⟨rfl, hb⟩
  have R1 := Lib.hid (HR.out.call hb)
  have HB1 := Lib.hid hb
  clear hb
  by_cases h0 : p = 0
  · subst h0
    have HE2 := Lib.hid (HE.out.trans (if_pos rfl))
    have HN2 := Lib.hid (HN.out.trans (if_pos rfl))
    clear HE HN
    obtain ⟨⟨c0, c1, c2, c3⟩, f0, f1, f2, f3⟩ := R1.out.cells4 0 rfl
    go_wp2_with fail
    have R2 := R1.out.store4 0 rfl (.int .u8 0) (.int .u16 0) (.int .u16 0) (.slice none 0 0)
    refine bodyPost_ret (v := .tuple #[.agg #[.int .u8 0, .int .u16 0, .int .u16 0, .slice none 0 0], .int .i64 2]) (results_cell_slot rfl _ _ g 25 _ (0, 0) _ _ rfl rfl (R2.get 0 rfl) Tryd.underlying25 rfl sizeShelf) rfl ?_
    exact ⟨_, by rw [HE2.out], by rw [HN2.out]; exact emptySh_in _ _, R2.below⟩
  · have h0' : ((p : Int) == 0) = false := by simp; omega
    have HE2 := Lib.hid (HE.out.trans (if_neg h0))
    have HN2 := Lib.hid (HN.out.trans (if_neg h0))
    clear HE HN
    go_wp2_with fail
    refine (HP.out _ HB1.out).mono ?_
    rintro e w2 ⟨rfl, hb⟩
    have R2 := Lib.hid (R1.out.call hb)
    clear hb
    obtain ⟨i, hi, hz, hs2, hby⟩ := info_parts infoCell
    have HI := Lib.hid hi
    have HZ := Lib.hid hz
    clear hi hz
    have q1 := R2.out.alloc (madeCells #[.int .u64 0, .slice none 0 0] (p * 2)) 41
    obtain ⟨W3, hW3⟩ : ∃ W3, W3 = w2.alloc (.cells (madeCells #[.int .u64 0, .slice none 0 0] (p * 2)) 41) := ⟨_, rfl⟩
    obtain ⟨gc, hgc⟩ : ∃ gc, gc = w2.heap.size := ⟨_, rfl⟩
    rw [← hW3, ← hgc] at q1
    have R3 := Lib.hid q1
    have HW3 := Lib.hid hW3
    have HGC := Lib.hid hgc
    obtain ⟨⟨c0, c1, c2, c3⟩, f0, f1, f2, f3⟩ := q1.cells4 1 rfl
    clear hW3 hgc q1
    go_wp2_with (refine wpList_make rfl 23 41 _ _ i _ p 2 32 Tryd.underlying23 HI.out HZ.out hs2 hby rfl rfl rfl (by omega) (by decide) (by decide) ?_; rw [show (Value.agg #[.int .u64 0, .slice none 0 0]).cells = #[.int .u64 0, .slice none 0 0] from rfl, ← HW3.out, ← HGC.out])
    have R4 := R3.out.store4 1 rfl (.int .u8 (k : Int)) (.int .u16 0) (.int .u16 0) (.slice (some ⟨gc, 0, none⟩) p p)
    refine bodyPost_ret (v := .tuple #[.agg (shV ⟨k, 0, 0, List.replicate p (0, [])⟩ (some ⟨gc, 0, none⟩) p p), .int .i64 0]) (results_cell_slot rfl _ _ g 25 _ (0, 0) _ _ rfl rfl (R4.get 1 rfl) Tryd.underlying25 rfl sizeShelf) rfl ?_
    refine ⟨_, by rw [HE2.out], ?_, R4.below⟩
    rw [HN2.out]
    refine ⟨_, _, _, freshL p, rfl, ⟨⟨by simp [freshL], .inr ⟨gc, 0, rfl, R4.lt 0 rfl, fun j hj m v hv => ?_⟩, fun x hx => ?_⟩, by simp [freshL, CellH.dat], Nat.le_refl _, hk, Nat.zero_lt_of_lt (show 0 < 65536 by decide), Nat.zero_lt_of_lt (show 0 < 65536 by decide), by have := HSM.out; rwa [HN2.out] at this⟩, ⟨fun _ a ha => by cases ha; exact R4.ge 0 rfl, fun x hx hd => absurd (by rw [List.eq_of_mem_replicate hx]) hd⟩⟩
    · obtain ⟨h1, h2⟩ := rowHas_made p j hj
      rw [Nat.zero_add]
      match m, hv with
      | 0, hv => rw [Nat.add_zero, cell_of_row _ _ _ _ _ _ (R4.get 0 rfl), h1]; exact hv
      | 1, hv => rw [cell_of_row _ _ _ _ _ _ (R4.get 0 rfl), h2]; exact hv
      | m + 2, hv => simp [cellV] at hv
    · have := List.eq_of_mem_replicate hx
      rw [this]
      exact ⟨rfl, Nat.le_refl _, by decide, .inl rfl⟩
end
theorem put_perm (hs : List CellH) (p : Nat) (hp : p < hs.length) (x : CellH) (l : List Thing) : List.Perm (datT x :: (hs.map datT ++ l)) ((hs.set p x).map datT ++ (datT hs[p] :: l)) := by
  have e1 : hs = hs.take p ++ hs[p] :: hs.drop (p + 1) := by rw [← List.drop_eq_getElem_cons hp, List.take_append_drop]
  have e2 : hs.set p x = hs.take p ++ x :: hs.drop (p + 1) := by rw [List.set_eq_take_append_cons_drop, if_pos hp]
  generalize hs[p] = y at e1
  rw [e2]
  generalize hs.take p = A at *
  generalize hs.drop (p + 1) = B at *
  rw [e1]
  simp only [List.map_append, List.map_cons, List.append_assoc, List.cons_append]
  have q1 : List.Perm (datT x :: (A.map datT ++ datT y :: (B.map datT ++ l))) (A.map datT ++ datT x :: datT y :: (B.map datT ++ l)) := List.perm_middle.symm
  refine q1.trans (List.Perm.append_left _ (List.Perm.cons _ ?_))
  exact List.perm_middle.symm
theorem OwnSh.put {w0 W W' : World} {s : ShL} {gc c : Nat} {cur cur' : Array Value} {hs : List CellH} {l : List Thing} (h : OwnSh w0 W s gc c cur hs l) (p : Nat) (hp : p < hs.length) (x : CellH)
    (R : Held w0 W' (rowT gc cur' 41 :: (datT x :: (hs.map datT ++ l)))) (hrow : RowHas cur' (hs.set p x)) (h4 : x.data.length ≤ 400) (hser : x.ser < 18446744073709551616) : OwnSh w0 W' (putC s p x.dat) gc c cur' (hs.set p x) (datT hs[p] :: l) := by
  refine ⟨R.perm (List.Perm.cons _ (put_perm hs p hp x l)), hrow, ?_, by rw [List.length_set]; exact h.cap, ?_, h.cl, h.prev, h.next, putC_small h.small _ _ h4⟩
  · unfold putC
    rw [List.map_set, h.dat]
  · intro y hy
    rcases List.mem_or_eq_of_mem_set hy with h1 | rfl
    · exact h.ser y h1
    · exact hser
theorem OwnSh.putCell {w0 W W' : World} {s : ShL} {gc c : Nat} {cur : Array Value} {hs : List CellH} {l : List Thing} (h : OwnSh w0 W s gc c cur hs l) (p : Nat) (hp : p < hs.length) (x : CellH)
    (R : Held w0 W' (datT x :: rowT gc cur 41 :: (hs.map datT ++ l))) (h4 : x.data.length ≤ 400) (hser : x.ser < 18446744073709551616) :
    OwnSh w0 ((W'.setCell ⟨gc, p * 2, none⟩ (.int .u64 (x.ser : Int))).setCell ⟨gc, p * 2 + 1, none⟩ (.slice x.A x.m x.c)) (putC s p x.dat) gc c ((cur.setIfInBounds (p * 2) (.int .u64 (x.ser : Int))).setIfInBounds (p * 2 + 1) (.slice x.A x.m x.c)) (hs.set p x) (datT hs[p] :: l) := by
  have R2 := (R.setCell 1 (p * 2) (.int .u64 (x.ser : Int)) rfl).setCell 1 (p * 2 + 1) (.slice x.A x.m x.c) rfl
  simp only [List.set_cons_succ, List.set_cons_zero] at R2
  exact h.put p hp x (R2.perm (.swap _ _ _)) (h.row.set p hp x) h4 hser
/-- A cell with nothing owns nothing. -/
theorem Held.none_dat {w0 W : World} {l : List Thing} (R : Held w0 W l) (x : CellH) (h : x.data = []) (hm : x.m = 0) : Held w0 W (datT x :: l) :=
  R.more (Below.refl _ _) (F := []) ⟨by rw [h, hm]; rfl, by omega, .inl ⟨h, rfl⟩⟩ (by simp) (by simp)
/-- Behind a copy, with the variables ahead of it. -/
theorem own_join {w0 W W' : World} {s : ShL} {gc c : Nat} {cur : Array Value} {hs : List CellH} {l : List Thing} (R : Held w0 W l) (h : OwnSh W W' s gc c cur hs []) : OwnSh w0 W' s gc c cur hs l :=
  ⟨by have := R.join h.held; simpa using this, h.row, h.dat, h.cap, h.ser, h.cl, h.prev, h.next, h.small⟩
theorem OwnSh.turnTail {w0 W W' : World} {s : ShL} {gc c : Nat} {cur : Array Value} {hs : List CellH} {l l' : List Thing} (h : OwnSh w0 W s gc c cur hs l) (R : Held w0 W' (rowT gc cur 41 :: (hs.map datT ++ l'))) : OwnSh w0 W' s gc c cur hs l' :=
  ⟨R, h.row, h.dat, h.cap, h.ser, h.cl, h.prev, h.next, h.small⟩
theorem own_at {hs : List CellH} {l : List Thing} {x : Thing} (k : Nat) {y : Thing} (h : l[k]? = some y) : (x :: (hs.map datT ++ l))[hs.length + 1 + k]? = some y := by
  rw [show hs.length + 1 + k = (hs.length + k) + 1 by omega, List.getElem?_cons_succ, List.getElem?_append_right (by rw [List.length_map]; omega), List.length_map, show hs.length + k - hs.length = k by omega]
  exact h
theorem own_set {hs : List CellH} {l : List Thing} {x : Thing} (k : Nat) (y : Thing) : (x :: (hs.map datT ++ l)).set (hs.length + 1 + k) y = x :: (hs.map datT ++ l.set k y) := by
  rw [show hs.length + 1 + k = (hs.length + k) + 1 by omega, List.set_cons_succ, List.set_append_right _ _ (by rw [List.length_map]; omega), List.length_map, show hs.length + k - hs.length = k by omega]
section
variable {w : World}
set_option maxHeartbeats 4000000 in
theorem give_is (hc : ClsAt w) {s : ShL} {v : Value} (hs : ShelfIn w v s) (place : Int) (ser : Nat) :
    Calls Tryd.prog 14 #[v, .int .i64 place, .int .u64 (ser : Int)] w fun e w' => ShPost w (giveS s place ser) (findE s place ser) e w' := by
  obtain ⟨A, n, c, l, rfl, hs⟩ := hs
  have hR := ((Held.start w).alloc (shV s A n c) 25).alloc #[.int .u8 0, .int .u16 0, .int .u16 0, .slice none 0 0] 25
  obtain ⟨W, hW⟩ : ∃ W, W = (w.alloc (.cells (shV s A n c) 25)).alloc (.cells #[.int .u8 0, .int .u16 0, .int .u16 0, .slice none 0 0] 25) := ⟨_, rfl⟩
  obtain ⟨g, hg⟩ : ∃ g, g = w.heap.size := ⟨_, rfl⟩
  rw [← hW, show (w.alloc (.cells (shV s A n c) 25)).heap.size = g + 1 by rw [hg]; simp, ← hg] at hR
  have HR := Lib.hid hR
  have HW := Lib.hid hW
  have HG := Lib.hid hg
  have HS := Lib.hid hs
  have HFN := Lib.hid (find_is (w := W) (hc.below hR.below) ⟨A, n, c, l, rfl, hs.below hR.below⟩ place ser)
  have HFE : Hid (findE s place ser = 0 → mayL s = true ∧ 0 ≤ place ∧ place < s.cells.length ∧ ser ≠ 0 ∧ (s.cells.getD place.toNat (0, [])).1 = ser) := Lib.hid findE_zero
  have HGV : Hid (giveS s place ser = if findE s place ser = 0 then putC s place.toNat (0, []) else emptySh) := Lib.hid rfl
  generalize giveS s place ser = sg at HGV ⊢
  generalize findE s place ser = E at HFE HFN HGV ⊢
  obtain ⟨⟨a0, a1, a2, a3⟩, _, _, _, _⟩ := hR.cells4 1 rfl
  clear hR hW hg hs hc
  go_enter Tryd.func14, Tryd.ntmps14
  go_upto_region 1 with (fail)
  rw [← HW.out, ← HG.out]
  go_wp2_with fail
  refine HFN.out.mono ?_
  rintro e w1 ⟨rfl, hb⟩
  have R1 := Lib.hid (HR.out.call hb)
  clear hb a0 a1 a2 a3 HFN
  by_cases hE : E = 0
  · subst hE
    have HGV2 := Lib.hid (HGV.out.trans (if_pos rfl))
    obtain ⟨_, hp0, hp1, _, _⟩ := HFE.out rfl
    obtain ⟨p, rfl⟩ : ∃ p : Nat, place = (p : Int) := ⟨place.toNat, by omega⟩
    have hne : s.cells ≠ [] := by intro h; rw [h] at hp1; simp at hp1; omega
    have HP1 := Lib.hid hp1
    have HNE := Lib.hid hne
    clear HGV HFE hp0 hp1 hne
    obtain ⟨⟨a0, a1, a2, a3⟩, b0, b1, b2, b3⟩ := R1.out.cells4 1 rfl
    go_wp2_with fail
    refine (copied_is (w := w1) ⟨A, n, c, l, rfl, HS.out.below R1.out.below⟩).mono ?_
    rintro e w2 ⟨v2, rfl, h2⟩
    obtain ⟨gc, c2, cur, hs2, rfl, ho⟩ := h2.resolve_left (fun h => HNE.out h.1)
    have O2 := Lib.hid (own_join R1.out ho)
    have HLE : Hid (hs2.length = s.cells.length) := Lib.hid (by rw [← ho.dat, List.length_map])
    clear h2 ho a0 a1 a2 a3 b0 b1 b2 b3
    obtain ⟨⟨a0, a1, a2, a3⟩, b0, b1, b2, b3⟩ := O2.out.held.cells4 (hs2.length + 1 + 1) (own_at 1 rfl)
    unfold shV
    go_upto_region 5 with (fail)
    have q3 := O2.out.held.store4 (hs2.length + 1 + 1) (own_at 1 rfl) (.int .u8 (s.cl : Int)) (.int .u16 (s.prev : Int)) (.int .u16 (s.next : Int)) (.slice (some ⟨gc, 0, none⟩) hs2.length c2)
    rw [own_set] at q3
    obtain ⟨W3, hW3⟩ : ∃ W3, W3 = (((w2.setCell ⟨g, 0, none⟩ (.int .u8 (s.cl : Int))).setCell ⟨g, 1, none⟩ (.int .u16 (s.prev : Int))).setCell ⟨g, 2, none⟩ (.int .u16 (s.next : Int))).setCell ⟨g, 3, none⟩ (.slice (some ⟨gc, 0, none⟩) hs2.length c2) := ⟨_, rfl⟩
    rw [← hW3] at q3 ⊢
    have O3 := Lib.hid (O2.out.turnTail q3)
    clear hW3 q3 O2 a0 a1 a2 a3 b0 b1 b2 b3
    have hpl : p < hs2.length := by have := HLE.out; have := HP1.out; omega
    obtain ⟨⟨a0, a1, a2, a3⟩, _, _, _, _⟩ := O3.out.held.cells4 (hs2.length + 1 + 1) (own_at 1 rfl)
    obtain ⟨h1, h2⟩ := O3.out.row p hpl
    have c0 := O3.out.held.cell 0 (p * 2) rfl h1
    have c1 := O3.out.held.cell 0 (p * 2 + 1) rfl h2
    have f0 := O3.out.held.free 0 (p * 2) rfl
    have f1 := O3.out.held.free 0 (p * 2 + 1) rfl
    clear h1 h2
    go_upto_region 6 with (fail)
    have q4 := O3.out.putCell p hpl ⟨0, none, 0, 0, []⟩ (O3.out.held.none_dat ⟨0, none, 0, 0, []⟩ rfl rfl) (by simp) (by decide)
    obtain ⟨W4, hW4⟩ : ∃ W4, W4 = (W3.setCell ⟨gc, p * 2, none⟩ (.int .u64 0)).setCell ⟨gc, p * 2 + 1, none⟩ (.slice none 0 0) := ⟨_, rfl⟩
    have O4 : Hid (OwnSh w W4 (putC s p (0, [])) gc c2 _ (hs2.set p ⟨0, none, 0, 0, []⟩) _) := Lib.hid (hW4 ▸ q4)
    rw [← hW4]
    clear hW4 q4 O3 a0 a1 a2 a3 c0 c1 f0 f1
    rw [Int.toNat_natCast] at HGV2
    have HLN : Hid ((hs2.set p ⟨0, none, 0, 0, []⟩).length = hs2.length) := Lib.hid (by simp)
    generalize hs2.set p ⟨0, none, 0, 0, []⟩ = hs3 at O4 HLN
    obtain ⟨⟨a0, a1, a2, a3⟩, _, _, _, _⟩ := O4.out.held.cells4 (hs3.length + 1 + 2) (own_at 2 rfl)
    obtain ⟨⟨e0, e1, e2, e3⟩, b0, b1, b2, b3⟩ := O4.out.held.cells4 (hs3.length + 1 + 1) (own_at 1 rfl)
    go_wp2_with fail
    have q5 := O4.out.held.store4 (hs3.length + 1 + 1) (own_at 1 rfl) (.int .u8 (s.cl : Int)) (.int .u16 (s.prev : Int)) (.int .u16 (s.next : Int)) (.slice (some ⟨gc, 0, none⟩) hs2.length c2)
    rw [own_set] at q5
    have O5 := O4.out.turnTail q5
    refine bodyPost_ret (v := .tuple #[.agg #[.int .u8 (s.cl : Int), .int .u16 (s.prev : Int), .int .u16 (s.next : Int), .slice (some ⟨gc, 0, none⟩) hs2.length c2], .int .i64 0]) (results_cell_slot rfl _ _ (g + 1) 25 _ (0, 0) _ _ rfl rfl (O5.held.get (hs3.length + 1 + 1) (own_at 1 rfl)) Tryd.underlying25 rfl sizeShelf) rfl ?_
    have hsf := O5.shelf
    rw [HLN.out] at hsf
    exact ⟨_, rfl, by rw [HGV2.out]; exact ⟨_, _, _, _, rfl, hsf, HLN.out ▸ O5.fresh⟩, O5.held.below⟩
  · have HGV2 := Lib.hid (HGV.out.trans (if_neg hE))
    have hE' : (E != 0) = true := by simpa using hE
    obtain ⟨⟨a0, a1, a2, a3⟩, b0, b1, b2, b3⟩ := R1.out.cells4 0 rfl
    go_wp2_with fail
    have R2 := R1.out.store4 0 rfl (.int .u8 0) (.int .u16 0) (.int .u16 0) (.slice none 0 0)
    refine bodyPost_ret (v := .tuple #[.agg #[.int .u8 0, .int .u16 0, .int .u16 0, .slice none 0 0], .int .i64 E]) (results_cell_slot rfl _ _ (g + 1) 25 _ (0, 0) _ _ rfl rfl (R2.get 0 rfl) Tryd.underlying25 rfl sizeShelf) rfl ?_
    exact ⟨_, rfl, by rw [HGV2.out]; exact emptySh_in _ _, R2.below⟩
end
end Go.Proofs.YtcepfmjebgklfaaDoor
namespace Go.Proofs.YtcepfmjebgklfaaDoor
open Go.RowKit
set_option linter.unusedSimpArgs false
set_option linter.unusedVariables false
set_option maxRecDepth 100000
theorem builtCell (a : Int) (A : Option Addr) (n c : Nat) : Tryd.prog.built 41 [(0, .int .u64 a), (1, .slice A n c)] = some #[.int .u64 a, .slice A n c] := by kernel_rfl
/-- A shelf, a place and an error. -/
def TakePost (w : World) (s : ShL) (p : Nat) (E : Int) (e : Ending) (w' : World) : Prop := ∃ v, e = .returned (.tuple #[v, .int .i64 (p : Int), .int .i64 E]) ∧ ShelfFr w.heap.size w' v s ∧ Below w.heap.size w w'
theorem freeL_none {l : List (Nat × List UInt8)} (h : ∀ j, (hj : j < l.length) → l[j].1 ≠ 0) : freeL l = none := by
  unfold freeL
  rw [List.findIdx?_eq_none_iff]
  intro x hx
  obtain ⟨j, hj, rfl⟩ := List.mem_iff_getElem.1 hx
  simpa using h j hj
theorem freeL_some {l : List (Nat × List UInt8)} {i : Nat} (hi : i < l.length) (h0 : l[i].1 = 0) (h : ∀ j, (hj : j < i) → (l[j]'(by omega)).1 ≠ 0) : freeL l = some i := by
  unfold freeL
  rw [List.findIdx?_eq_some_iff_getElem]
  refine ⟨hi, by simpa using h0, fun j hj => ?_⟩
  simpa using h j hj
/-- What the slots of Take's region hold. -/
def tkV (g gc n c j ser m base : Nat) (t : Tmp) (v : Value) (w : World) : Prop :=
  match t with
  | 50 => v = .pointer (some ⟨g, 3, none⟩)
  | 51 => v = .slice (some ⟨gc, 0, none⟩) n c
  | 52 => v = .int .i64 (j : Int)
  | 53 => v = .int .u64 (ser : Int)
  | 54 => v = .int .i64 (m : Int)
  | 55 => ∃ k, v = .slice (some ⟨k, 0, none⟩) m m ∧ base ≤ k ∧ w.heap[k]? = some (.cells (List.replicate m (Value.int .u8 0)).toArray 5 (0, 0))
  | 56 => ∃ k, v = .agg #[.int .u64 (ser : Int), .slice (some ⟨k, 0, none⟩) m m] ∧ base ≤ k ∧ w.heap[k]? = some (.cells (List.replicate m (Value.int .u8 0)).toArray 5 (0, 0))
  | 57 => v = .pointer (some ⟨gc, j * 2, none⟩)
  | _ => True
theorem tkV_stab (g gc n c j ser m base : Nat) : ∀ t v w w', tkV g gc n c j ser m base t v w → Below w.heap.size w w' → tkV g gc n c j ser m base t v w' := by
  intro t v w w' h hb
  unfold tkV at h ⊢
  split at h <;> first
    | exact h
    | (obtain ⟨k, h1, h2, h3⟩ := h
       exact ⟨k, h1, h2, (hb.block k (Array.getElem?_eq_some_iff.1 h3).1).trans h3⟩)
    | trivial
section
variable {w : World}
set_option maxHeartbeats 4000000 in
theorem take_is (hc : ClsAt w) {s : ShL} {v : Value} (hs : ShelfIn w v s) (ser : Nat) (hser : ser < 18446744073709551616) (m : Int) :
    Calls Tryd.prog 10 #[v, .int .u64 (ser : Int), .int .i64 m] w fun e w' => TakePost w (takeS s ser m) (takeP s ser m) (takeE s ser m) e w' := by
  obtain ⟨A, n, c, l, rfl, hs⟩ := hs
  have hR := ((Held.start w).alloc (shV s A n c) 25).alloc #[.int .u8 0, .int .u16 0, .int .u16 0, .slice none 0 0] 25
  obtain ⟨W, hW⟩ : ∃ W, W = (w.alloc (.cells (shV s A n c) 25)).alloc (.cells #[.int .u8 0, .int .u16 0, .int .u16 0, .slice none 0 0] 25) := ⟨_, rfl⟩
  obtain ⟨g, hg⟩ : ∃ g, g = w.heap.size := ⟨_, rfl⟩
  rw [← hW, show (w.alloc (.cells (shV s A n c) 25)).heap.size = g + 1 by rw [hg]; simp, ← hg] at hR
  have HR := Lib.hid hR
  have HW := Lib.hid hW
  have HG := Lib.hid hg
  have HS := Lib.hid hs
  have HC : Hid (ClsAt W) := Lib.hid (hc.below hR.below)
  have HM := Lib.hid (may_is (w := W) HC.out ⟨A, n, c, l, rfl, hs.below hR.below⟩)
  have hcl := hs.cl
  have HOF : Hid (∀ w', Below W.heap.size W w' → Calls Tryd.prog 28 #[.int .u8 (s.cl : Int), .int .i64 m] w' fun e w'' => e = .returned (.bool (ofL s.cl m)) ∧ Below w'.heap.size w' w'') := Lib.hid (fun w' hb => of_is (HC.out.below hb) s.cl hcl m)
  have HTE : Hid (takeE s ser m = if mayL s then (if ser = 0 ∨ 8796093022207 < ser ∨ ofL s.cl m = false then 2 else if freeL s.cells = none then 6 else 0) else 5) := Lib.hid rfl
  have HTP : Hid (takeP s ser m = if takeE s ser m = 0 then (freeL s.cells).getD 0 else 0) := Lib.hid rfl
  have HTS : Hid (takeS s ser m = if takeE s ser m = 0 then putC s ((freeL s.cells).getD 0) (ser, List.replicate m.toNat 0) else emptySh) := Lib.hid rfl
  have HOL : Hid (ofL s.cl m = true → 1 ≤ m ∧ m ≤ 237) := Lib.hid (fun h => by have := ofL_le h; omega)
  generalize takeS s ser m = ts at HTS ⊢
  generalize takeP s ser m = tp at HTP ⊢
  generalize takeE s ser m = te at HTE HTP HTS ⊢
  have HB : Hid (te ≠ 0 → tp = 0 ∧ ts = emptySh) := Lib.hid (fun h => ⟨by rw [HTP.out, if_neg h], by rw [HTS.out, if_neg h]⟩)
  generalize hmay : mayL s = may at HM HTE
  generalize hof : ofL s.cl m = o at HOF HTE HOL
  obtain ⟨⟨a0, a1, a2, a3⟩, _, _, _, _⟩ := hR.cells4 1 rfl
  have HN := hs.le30
  clear hR hW hg hs hc hcl
  go_enter Tryd.func10, Tryd.ntmps10
  go_upto_region 1 with (fail)
  rw [← HW.out, ← HG.out]
  refine wp_scope_straight ?_
  go_wp2_with fail
  refine HM.out.mono ?_
  rintro e w1 ⟨rfl, hb⟩
  have R1 := Lib.hid (HR.out.call hb)
  have HB1 := Lib.hid hb
  clear hb a0 a1 a2 a3 HM
  cases may with
  | false =>
    have hte := HTE.out
    rw [if_neg (by simp)] at hte
    have HV : Hid (te = 5 ∧ tp = 0 ∧ ts = emptySh) := Lib.hid ⟨hte, HB.out (by rw [hte]; decide)⟩
    clear hte
    obtain ⟨⟨e0, e1, e2, e3⟩, b0, b1, b2, b3⟩ := R1.out.cells4 0 rfl
    go_wp2_with fail
    have R9 := R1.out.store4 0 rfl (.int .u8 0) (.int .u16 0) (.int .u16 0) (.slice none 0 0)
    refine bodyPost_ret (v := .tuple #[.agg #[.int .u8 0, .int .u16 0, .int .u16 0, .slice none 0 0], .int .i64 0, .int .i64 5]) (results_cell_slots rfl _ _ (g + 1) 25 _ (0, 0) _ _ _ rfl rfl rfl (R9.get 0 rfl) Tryd.underlying25 rfl sizeShelf) rfl ?_
    exact ⟨_, by rw [HV.out.2.1, HV.out.1]; rfl, by rw [HV.out.2.2]; exact emptySh_in _ _, R9.below⟩
  | true =>
    have HTE := Lib.hid (HTE.out.trans (if_pos rfl))
    by_cases h0 : ser = 0
    · subst h0
      have hte := HTE.out
      rw [if_pos (.inl rfl)] at hte
      have HV : Hid (te = 2 ∧ tp = 0 ∧ ts = emptySh) := Lib.hid ⟨hte, HB.out (by rw [hte]; decide)⟩
      clear hte
      obtain ⟨⟨e0, e1, e2, e3⟩, b0, b1, b2, b3⟩ := R1.out.cells4 0 rfl
      go_wp2_with fail
      have R9 := R1.out.store4 0 rfl (.int .u8 0) (.int .u16 0) (.int .u16 0) (.slice none 0 0)
      refine bodyPost_ret (v := .tuple #[.agg #[.int .u8 0, .int .u16 0, .int .u16 0, .slice none 0 0], .int .i64 0, .int .i64 2]) (results_cell_slots rfl _ _ (g + 1) 25 _ (0, 0) _ _ _ rfl rfl rfl (R9.get 0 rfl) Tryd.underlying25 rfl sizeShelf) rfl ?_
      exact ⟨_, by rw [HV.out.2.1, HV.out.1]; rfl, by rw [HV.out.2.2]; exact emptySh_in _ _, R9.below⟩
    · have h0' : ((ser : Int) == 0) = false := by simp; omega
      by_cases h1 : 8796093022207 < ser
      · have h1' : decide ((8796093022207 : Int) < (ser : Int)) = true := by simp; omega
        have hte := HTE.out
        rw [if_pos (.inr (.inl h1))] at hte
        have HV : Hid (te = 2 ∧ tp = 0 ∧ ts = emptySh) := Lib.hid ⟨hte, HB.out (by rw [hte]; decide)⟩
        clear hte h1 h0 hser
        obtain ⟨⟨e0, e1, e2, e3⟩, b0, b1, b2, b3⟩ := R1.out.cells4 0 rfl
        go_wp2_with fail
        have R9 := R1.out.store4 0 rfl (.int .u8 0) (.int .u16 0) (.int .u16 0) (.slice none 0 0)
        refine bodyPost_ret (v := .tuple #[.agg #[.int .u8 0, .int .u16 0, .int .u16 0, .slice none 0 0], .int .i64 0, .int .i64 2]) (results_cell_slots rfl _ _ (g + 1) 25 _ (0, 0) _ _ _ rfl rfl rfl (R9.get 0 rfl) Tryd.underlying25 rfl sizeShelf) rfl ?_
        exact ⟨_, by rw [HV.out.2.1, HV.out.1]; rfl, by rw [HV.out.2.2]; exact emptySh_in _ _, R9.below⟩
      · have h1' : decide ((8796093022207 : Int) < (ser : Int)) = false := by simp; omega
        obtain ⟨⟨a0, a1, a2, a3⟩, _, _, _, _⟩ := R1.out.cells4 1 rfl
        have HN0 : Hid (ser ≠ 0 ∧ ¬ 8796093022207 < ser) := Lib.hid ⟨h0, h1⟩
        clear h0 h1 hser
        go_wp2_with fail
        refine (HOF.out _ HB1.out).mono ?_
        rintro e w2 ⟨rfl, hb⟩
        have R2 := Lib.hid (R1.out.call hb)
        clear hb a0 a1 a2 a3
        cases o with
        | false =>
          have hte := HTE.out
          rw [if_pos (show ser = 0 ∨ 8796093022207 < ser ∨ false = false from .inr (.inr rfl))] at hte
          have HV : Hid (te = 2 ∧ tp = 0 ∧ ts = emptySh) := Lib.hid ⟨hte, HB.out (by rw [hte]; decide)⟩
          clear hte
          obtain ⟨⟨e0, e1, e2, e3⟩, b0, b1, b2, b3⟩ := R2.out.cells4 0 rfl
          go_wp2_with fail
          have R9 := R2.out.store4 0 rfl (.int .u8 0) (.int .u16 0) (.int .u16 0) (.slice none 0 0)
          refine bodyPost_ret (v := .tuple #[.agg #[.int .u8 0, .int .u16 0, .int .u16 0, .slice none 0 0], .int .i64 0, .int .i64 2]) (results_cell_slots rfl _ _ (g + 1) 25 _ (0, 0) _ _ _ rfl rfl rfl (R9.get 0 rfl) Tryd.underlying25 rfl sizeShelf) rfl ?_
          exact ⟨_, by rw [HV.out.2.1, HV.out.1]; rfl, by rw [HV.out.2.2]; exact emptySh_in _ _, R9.below⟩
        | true =>
          have HTE := Lib.hid (HTE.out.trans (if_neg (show ¬ (ser = 0 ∨ 8796093022207 < ser ∨ true = false) from fun h => h.elim HN0.out.1 (fun h => h.elim HN0.out.2 (fun h => by cases h)))))
          obtain ⟨⟨a0, a1, a2, a3⟩, _, _, _, _⟩ := R2.out.cells4 1 rfl
          go_wp2_with fail
          refine wp_label ?_
          go_wp2_with fail
          go_loopw [9, 10, 11, 35] (fun z _ _ i wr => ∃ j : Nat, j ≤ n ∧ i = .int .i64 (j : Int) ∧ z = .int .i64 (-1) ∧ Held w wr [rowT (g + 1) #[.int .u8 0, .int .u16 0, .int .u16 0, .slice none 0 0] 25, rowT g (shV s A n c) 25] ∧ (∀ i, (hi : i < j) → ∀ y, s.cells[i]? = some y → y.1 ≠ 0)) (fun _ _ _ i _ => n - (intOf i).toNat)
          case atStart => exact ⟨0, by omega, rfl, rfl, R2.out, fun i hi => absurd hi (by omega)⟩
          case round =>
            obtain ⟨j, hj, rfl, rfl, hR, hall⟩ := hrel
            have R3 := Lib.hid hR
            have HA := Lib.hid hall
            clear hR hall R2 a0 a1 a2 a3
            by_cases hlt : j < n
            · obtain ⟨x, hx, hd, hok, _, b, off, rfl, hb, hr⟩ := HS.out.get j hlt
              have hjs : j < s.cells.length := by rw [HS.out.len]; exact hlt
              have hsj : s.cells[j]? = some x.dat := by rw [← hd, List.getD_eq_getElem?_getD, List.getElem?_eq_getElem hjs]; rfl
              have HSJ := Lib.hid hsj
              have c0 : wr.cell? ⟨b, off + j * 2, none⟩ = some (.int .u64 (x.ser : Int)) := (R3.out.below.cell hb).trans (hr 0 _ (show (cellV x).toList[0]? = some (.int .u64 (x.ser : Int)) from rfl))
              have c1 : wr.cell? ⟨b, off + j * 2 + 1, none⟩ = some (.slice x.A x.m x.c) := (R3.out.below.cell hb).trans (hr 1 _ (show (cellV x).toList[1]? = some (.slice x.A x.m x.c) from rfl))
              clear hx hd hok hb hr hjs hsj
              go_upto_region 9 with (fail)
              have q1 := (R3.out.alloc #[.int .u64 (x.ser : Int), .slice x.A x.m x.c] 41)
              clear c0 c1
              obtain ⟨W5, hW⟩ : ∃ W, W = wr.alloc (.cells #[.int .u64 (x.ser : Int), .slice x.A x.m x.c] 41) := ⟨_, rfl⟩
              rw [← hW] at q1 ⊢
              clear hW
              obtain ⟨g5, hg⟩ : ∃ g, g = wr.heap.size := ⟨_, rfl⟩
              rw [← hg] at q1 ⊢
              clear hg
              have R5 := Lib.hid q1
              clear q1
              have c0 : W5.cell? ⟨g5, 0, none⟩ = some (.int .u64 (x.ser : Int)) := R5.out.cell 0 0 rfl rfl
              by_cases hz : x.ser = 0
              · have hz' : ((x.ser : Int) == 0) = true := by simp; omega
                have HFR : Hid (freeL s.cells = some j) := Lib.hid (by
                  obtain ⟨h1, h2⟩ := List.getElem?_eq_some_iff.1 HSJ.out
                  refine freeL_some h1 (by rw [h2]; exact hz) (fun i hi => HA.out i hi _ (List.getElem?_eq_getElem (by omega)))
                  )
                have hte := HTE.out
                rw [HFR.out, if_neg (by simp)] at hte
                have HTE2 := Lib.hid hte
                have HTS2 : Hid (ts = putC s j (ser, List.replicate m.toNat 0)) := Lib.hid (by rw [HTS.out, if_pos hte, HFR.out]; rfl)
                have HTP2 : Hid (tp = j) := Lib.hid (by rw [HTP.out, if_pos hte, HFR.out]; rfl)
                have hne : s.cells ≠ [] := by intro h; have := HSJ.out; rw [h] at this; simp at this
                have HNE := Lib.hid hne
                have HJN := Lib.hid hlt
                clear hz hte hne HTE HTS HTP HB
                obtain ⟨⟨a0, a1, a2, a3⟩, _, _, _, _⟩ := R5.out.cells4 2 rfl
                go_wp2_with fail
                refine (copied_is (w := W5) ⟨_, n, c, l, rfl, HS.out.below R5.out.below⟩).mono ?_
                rintro e w6 ⟨v2, rfl, h2⟩
                obtain ⟨gc, c2, cur, hs2, rfl, ho⟩ := h2.resolve_left (fun h => HNE.out h.1)
                have O2 := Lib.hid (own_join (R5.out.drop 1) ho)
                have HLE : Hid (hs2.length = s.cells.length) := Lib.hid (by rw [← ho.dat, List.length_map])
                clear h2 ho a0 a1 a2 a3 c0 hz'
                obtain ⟨⟨a0, a1, a2, a3⟩, b0, b1, b2, b3⟩ := O2.out.held.cells4 (hs2.length + 1 + 1) (own_at 1 rfl)
                unfold shV
                go_upto_region 15 with (fail)
                have q3 := O2.out.held.store4 (hs2.length + 1 + 1) (own_at 1 rfl) (.int .u8 (s.cl : Int)) (.int .u16 (s.prev : Int)) (.int .u16 (s.next : Int)) (.slice (some ⟨gc, 0, none⟩) hs2.length c2)
                rw [own_set] at q3
                obtain ⟨W3, hW3⟩ : ∃ W3, W3 = (((w6.setCell ⟨g, 0, none⟩ (.int .u8 (s.cl : Int))).setCell ⟨g, 1, none⟩ (.int .u16 (s.prev : Int))).setCell ⟨g, 2, none⟩ (.int .u16 (s.next : Int))).setCell ⟨g, 3, none⟩ (.slice (some ⟨gc, 0, none⟩) hs2.length c2) := ⟨_, rfl⟩
                rw [← hW3] at q3 ⊢
                have O3 := Lib.hid (O2.out.turnTail q3)
                clear hW3 q3 O2 a0 a1 a2 a3 b0 b1 b2 b3
                have hpl : j < hs2.length := by have := HLE.out; rw [HS.out.len] at this; omega
                obtain ⟨hm1, hm2⟩ := HOL.out (by simp)
                obtain ⟨mm, rfl⟩ : ∃ k : Nat, m = (k : Int) := ⟨m.toNat, by omega⟩
                have hmm : mm ≤ 237 := by omega
                obtain ⟨i, hi, hz, hs2', hby⟩ := info_parts infoByte
                have HI := Lib.hid hi
                have HZ := Lib.hid hz
                have HPL := Lib.hid hpl
                have HMM := Lib.hid hmm
                clear hi hz hm1 hm2
                refine wp_region_flow (by kernel_rfl) 8 (tkV g gc hs2.length c2 j ser mm W3.heap.size) (tkV_stab g gc hs2.length c2 j ser mm W3.heap.size) (by kernel_rfl) (by kernel_rfl) (by kernel_rfl) (by kernel_rfl) ?heads ?tail
                case heads =>
                  refine ⟨.inr ⟨rfl, 50, rfl, fun a v hB hO hD K hK => ?_⟩, .inr ⟨rfl, 51, rfl, fun a v hB hO hD K hK => ?_⟩, .inr ⟨rfl, 52, rfl, fun a v hB hO hD K hK => ?_⟩, .inr ⟨rfl, 53, rfl, fun a v hB hO hD K hK => ?_⟩, .inr ⟨rfl, 54, rfl, fun a v hB hO hD K hK => ?_⟩, .inr ⟨rfl, 55, rfl, fun a v hB hO hD K hK => ?_⟩, .inr ⟨rfl, 56, rfl, fun a v hB hO hD K hK => ?_⟩, .inr ⟨rfl, 57, rfl, fun a v hB hO hD K hK => ?_⟩, .inl (by decide), trivial⟩
                  · exact wpg_field 25 3 23 3 0 _ g 0 rfl (by kernel_rfl) (by kernel_rfl) (by kernel_rfl) (eval_of (t := 3) (by rw [hO 3 (not_dst 3 (by kernel_rfl))]; rfl)) (hK _ _ rfl (Below.refl _ _))
                  · obtain ⟨u, hu, hv⟩ := flow_of hD 0 (by kernel_rfl) 50 (by kernel_rfl)
                    exact wp_load_cell 23 _ ⟨g, 3, none⟩ (.slice (some ⟨gc, 0, none⟩) hs2.length c2) _ rfl rfl (hu.trans hv) ((O3.out.held.call hB).cell (hs2.length + 1 + 1) 3 (own_at 1 rfl) rfl) Tryd.underlying23 (hK _ _ rfl (Below.refl _ _))
                  · exact wpg_move _ _ rfl (eval_of (t := 9) (by rw [hO 9 (not_dst 9 (by kernel_rfl))]; rfl)) (hK _ _ rfl (Below.refl _ _))
                  · exact wpg_move _ _ rfl (eval_of (t := 1) (by rw [hO 1 (not_dst 1 (by kernel_rfl))]; rfl)) (hK _ _ rfl (Below.refl _ _))
                  · exact wpg_move _ _ rfl (eval_of (t := 2) (by rw [hO 2 (not_dst 2 (by kernel_rfl))]; rfl)) (hK _ _ rfl (Below.refl _ _))
                  · obtain ⟨u, hu, hv⟩ := flow_of hD 4 (by kernel_rfl) 54 (by kernel_rfl)
                    exact wpo_make 27 5 _ _ i (.int .u8 0) mm Tryd.underlying27 HI.out HZ.out hby hs2' rfl rfl (hu.trans hv) (hu.trans hv) (by have := HMM.out; omega) (hK _ _ ⟨_, rfl, hB.size, heap_alloc_new _ _⟩ ((Below.refl _ _).alloc (Nat.le_refl _) _))
                  · obtain ⟨u, hu, hv⟩ := flow_of hD 3 (by kernel_rfl) 53 (by kernel_rfl)
                    obtain ⟨u', hu', k, rfl, h1, h2⟩ := flow_of hD 5 (by kernel_rfl) 55 (by kernel_rfl)
                    refine wp_of_wq rfl (wk_build 41 _ [(0, .int .u64 (ser : Int)), (1, .slice (some ⟨k, 0, none⟩) mm mm)] _ (by exact wanted_none rfl) rfl (by simp only [List.map_toArray, List.map_cons, List.map_nil, hu.trans hv, hu']) (builtCell (ser : Int) (some ⟨k, 0, none⟩) mm mm) ?_)
                    refine wk_nil ?_
                    intro w' hC
                    exact hK _ _ ⟨k, rfl, h1, ((show Below v.heap.size v w' from hC).block k (Array.getElem?_eq_some_iff.1 h2).1).trans h2⟩ hC
                  · obtain ⟨u, hu, hv⟩ := flow_of hD 1 (by kernel_rfl) 51 (by kernel_rfl)
                    obtain ⟨u', hu', hv'⟩ := flow_of hD 2 (by kernel_rfl) 52 (by kernel_rfl)
                    refine wpg_index 23 41 _ _ gc 0 j hs2.length c2 2 .i64 rfl Tryd.underlying23 sizeCell (hu.trans hv) (hu'.trans hv') HPL.out (hK _ _ ?_ (Below.refl _ _))
                    rw [Nat.zero_add]; rfl
                case tail =>
                  intro F w7 hV hB
                  obtain ⟨k, v56, hk1, hk2⟩ : ∃ k, F 56 = .agg #[.int .u64 (ser : Int), .slice (some ⟨k, 0, none⟩) mm mm] ∧ W3.heap.size ≤ k ∧ w7.heap[k]? = some (.cells (List.replicate mm (Value.int .u8 0)).toArray 5 (0, 0)) := hV _ (List.mem_of_getElem? (i := 6) rfl) 56 rfl
                  have v57 : F 57 = .pointer (some ⟨gc, j * 2, none⟩) := hV _ (List.mem_of_getElem? (i := 7) rfl) 57 rfl
                  simp only [List.take_succ_cons, List.take_zero, List.drop_succ_cons, List.drop_zero, putAll, List.setIfInBounds_toArray, List.set_cons_zero, List.set_cons_succ]
                  rw [v56, v57]
                  have R7 := O3.out.held.more hB (x := datT ⟨ser, some ⟨k, 0, none⟩, mm, mm, List.replicate mm 0⟩) (F := [k]) ⟨by simp, Nat.le_refl _, .inr ⟨k, _, rfl, rfl, hk2, by simp [vu8]⟩⟩ (by simpa using hk1) (by simp)
                  have hser : ser < 18446744073709551616 := by have := HN0.out; omega
                  have q4 := O3.out.putCell j HPL.out ⟨ser, some ⟨k, 0, none⟩, mm, mm, List.replicate mm 0⟩ R7 (by rw [List.length_replicate]; have := HMM.out; omega) hser
                  obtain ⟨h1, h2⟩ := O3.out.row j HPL.out
                  have c0 : w7.cell? ⟨gc, j * 2, none⟩ = _ := R7.cell 1 (j * 2) rfl h1
                  have c1 : w7.cell? ⟨gc, j * 2 + 1, none⟩ = _ := R7.cell 1 (j * 2 + 1) rfl h2
                  have f0 := R7.free 1 (j * 2) rfl
                  have f1 := R7.free 1 (j * 2 + 1) rfl
                  have Q4 := Lib.hid q4
                  clear h1 h2 q4 R7 hV v56 v57 hk1 hk2 hB hser
                  go_upto_region 16 with (fail)
                  obtain ⟨W4, hW4⟩ : ∃ W4, W4 = (w7.setCell ⟨gc, j * 2, none⟩ (.int .u64 (ser : Int))).setCell ⟨gc, j * 2 + 1, none⟩ (.slice (some ⟨k, 0, none⟩) mm mm) := ⟨_, rfl⟩
                  have O4 : Hid (OwnSh w W4 (putC s j (ser, List.replicate mm 0)) gc c2 _ (hs2.set j ⟨ser, some ⟨k, 0, none⟩, mm, mm, List.replicate mm 0⟩) _) := Lib.hid (hW4 ▸ Q4.out)
                  rw [← hW4]
                  clear hW4 Q4 O3 c0 c1 f0 f1
                  have HLN : Hid ((hs2.set j ⟨ser, some ⟨k, 0, none⟩, mm, mm, List.replicate mm 0⟩).length = hs2.length) := Lib.hid (by simp)
                  generalize hs2.set j ⟨ser, some ⟨k, 0, none⟩, mm, mm, List.replicate mm 0⟩ = hs3 at O4 HLN
                  obtain ⟨⟨a0, a1, a2, a3⟩, _, _, _, _⟩ := O4.out.held.cells4 (hs3.length + 1 + 2) (own_at 2 rfl)
                  obtain ⟨⟨e0, e1, e2, e3⟩, b0, b1, b2, b3⟩ := O4.out.held.cells4 (hs3.length + 1 + 1) (own_at 1 rfl)
                  go_wp2_with fail
                  have q5 := O4.out.held.store4 (hs3.length + 1 + 1) (own_at 1 rfl) (.int .u8 (s.cl : Int)) (.int .u16 (s.prev : Int)) (.int .u16 (s.next : Int)) (.slice (some ⟨gc, 0, none⟩) hs2.length c2)
                  rw [own_set] at q5
                  have O5 := O4.out.turnTail q5
                  refine bodyPost_ret (v := .tuple #[.agg #[.int .u8 (s.cl : Int), .int .u16 (s.prev : Int), .int .u16 (s.next : Int), .slice (some ⟨gc, 0, none⟩) hs2.length c2], .int .i64 (j : Int), .int .i64 0]) (results_cell_slots rfl _ _ (g + 1) 25 _ (0, 0) _ _ _ rfl rfl rfl (O5.held.get (hs3.length + 1 + 1) (own_at 1 rfl)) Tryd.underlying25 rfl sizeShelf) rfl ?_
                  have hsf := O5.shelf
                  rw [HLN.out] at hsf
                  exact ⟨_, by rw [HTP2.out, HTE2.out], by rw [HTS2.out, Int.toNat_natCast]; exact ⟨_, _, _, _, rfl, hsf, HLN.out ▸ O5.fresh⟩, O5.held.below⟩
              · have hz' : ((x.ser : Int) == 0) = false := by simp; omega
                go_wp2_with fail
                go_roundw
                case rel => exact ⟨j + 1, by omega, by go_num, rfl, R5.out.drop 1, fun i hi y hy => by
                  by_cases e : i = j
                  · subst e
                    rw [HSJ.out] at hy
                    cases hy
                    exact hz
                  · exact HA.out i (by omega) y hy⟩
                case measure => simp [intOf]; omega
            · obtain rfl : j = n := by omega
              have hfr : freeL s.cells = none := freeL_none (fun i hi => HA.out i (by rw [← HS.out.len]; exact hi) _ (List.getElem?_eq_getElem hi))
              have hte := HTE.out
              rw [if_pos hfr] at hte
              have HV : Hid (te = 6 ∧ tp = 0 ∧ ts = emptySh) := Lib.hid ⟨hte, HB.out (by rw [hte]; decide)⟩
              clear hte hfr
              obtain ⟨⟨e0, e1, e2, e3⟩, b0, b1, b2, b3⟩ := R3.out.cells4 0 rfl
              go_wp2_with fail
              have R9 := R3.out.store4 0 rfl (.int .u8 0) (.int .u16 0) (.int .u16 0) (.slice none 0 0)
              refine bodyPost_ret (v := .tuple #[.agg #[.int .u8 0, .int .u16 0, .int .u16 0, .slice none 0 0], .int .i64 0, .int .i64 6]) (results_cell_slots rfl _ _ (g + 1) 25 _ (0, 0) _ _ _ rfl rfl rfl (R9.get 0 rfl) Tryd.underlying25 rfl sizeShelf) rfl ?_
              exact ⟨_, by rw [HV.out.2.1, HV.out.1]; rfl, by rw [HV.out.2.2]; exact emptySh_in _ _, R9.below⟩
end
end Go.Proofs.YtcepfmjebgklfaaDoor
namespace Go.Proofs.YtcepfmjebgklfaaDoor
open Go.RowKit
set_option linter.unusedSimpArgs false
set_option linter.unusedVariables false
set_option maxRecDepth 100000
theorem Held.weaken {w0 W : World} {x y : Thing} {l : List Thing} (R : Held w0 W (x :: l)) (h : ∀ F, x.says F W → y.says F W) : Held w0 W (y :: l) := by
  have := R.turn 0 rfl (y := y) (W' := W) (fun F hF hn => ⟨F, h F hF, Only.refl _ _, fun b hb => .inl hb, hn⟩)
  simpa using this
theorem RowHas.same {cur : Array Value} {hs : List CellH} (h : RowHas cur hs) (p : Nat) (hp : p < hs.length) (d : List UInt8) : RowHas cur (hs.set p ⟨hs[p].ser, hs[p].A, hs[p].m, hs[p].c, d⟩) := by
  intro i hi
  rw [List.length_set] at hi
  simp only [List.getElem_set]
  by_cases e : p = i
  · subst e
    rw [if_pos rfl]
    exact h p hp
  · rw [if_neg e]
    exact h i hi
theorem OwnSh.putData {w0 W W' : World} {s : ShL} {gc c : Nat} {cur : Array Value} {hs : List CellH} {l : List Thing} (h : OwnSh w0 W s gc c cur hs l) (p : Nat) (hp : p < hs.length) (x : CellH)
    (R : Held w0 W' (datT x :: rowT gc cur 41 :: (hs.map datT ++ l))) (h4 : x.data.length ≤ 400) (hx : x.ser = hs[p].ser) :
    OwnSh w0 (W'.setCell ⟨gc, p * 2 + 1, none⟩ (.slice x.A x.m x.c)) (putC s p x.dat) gc c (cur.setIfInBounds (p * 2 + 1) (.slice x.A x.m x.c)) (hs.set p x) (datT hs[p] :: l) := by
  have R2 := R.setCell 1 (p * 2 + 1) (.slice x.A x.m x.c) rfl
  simp only [List.set_cons_succ, List.set_cons_zero] at R2
  refine h.put p hp x (R2.perm (.swap _ _ _)) ?_ h4 (by rw [hx]; exact h.ser _ (List.getElem_mem hp))
  have := h.row.setData p hp x.A x.m x.c x.data
  rw [← hx] at this
  exact this
theorem OwnSh.datAt {w0 W : World} {s : ShL} {gc c : Nat} {cur : Array Value} {hs : List CellH} {l : List Thing} (h : OwnSh w0 W s gc c cur hs l) (p : Nat) (hp : p < hs.length) :
    (rowT gc cur 41 :: (hs.map datT ++ l))[p + 1]? = some (datT hs[p]) := by
  rw [List.getElem?_cons_succ, List.getElem?_append_left (by simpa using hp), List.getElem?_map, List.getElem?_eq_getElem hp]
  rfl
theorem over_map (b d : List UInt8) (L : List Value) (m off : Nat) (hc : b.map vu8 = L.take m) (hb : b.length = m) (hfit : off + d.length ≤ m) (hL : m ≤ L.length) :
    (overL b off d).map vu8 = (L.take off ++ (d.map vu8 ++ L.drop (off + d.length))).take m := by
  have e1 : (b.take off).map vu8 = L.take off := by rw [List.map_take, hc, List.take_take, Nat.min_eq_left (by omega)]
  have e2 : (b.drop (off + d.length)).map vu8 = (L.drop (off + d.length)).take (m - (off + d.length)) := by rw [List.map_drop, hc, List.drop_take]
  have l1 : (L.take off).length = off := by rw [List.length_take]; omega
  have l2 : (d.map vu8).length = d.length := List.length_map ..
  unfold overL
  rw [List.map_append, List.map_append, e1, e2, List.append_assoc, List.take_append, List.take_of_length_le (l := L.take off) (by omega), l1, List.take_append, List.take_of_length_le (l := d.map vu8) (by omega), l2]
  rw [show m - off - d.length = m - (off + d.length) by omega]
/-- Bytes are written over some of a cell's. -/
theorem OwnSh.over {w0 W : World} {s : ShL} {gc c : Nat} {cur : Array Value} {hs : List CellH} {l : List Thing} (h : OwnSh w0 W s gc c cur hs l) (p : Nat) (hp : p < hs.length) (off : Nat) (d : List UInt8) (hfit : off + d.length ≤ hs[p].data.length) (hd : d ≠ []) :
    ∃ g' curd, hs[p].A = some ⟨g', 0, none⟩ ∧ W.heap[g']? = some (.cells curd 5 (0, 0)) ∧ off + d.length ≤ curd.size ∧
      OwnSh w0 (W.setRow g' (curd.toList.take off ++ (d.map vu8 ++ curd.toList.drop (off + d.length))).toArray) (putC s p (hs[p].ser, overL hs[p].data off d)) gc c cur (hs.set p ⟨hs[p].ser, hs[p].A, hs[p].m, hs[p].c, overL hs[p].data off d⟩) l := by
  have hat := h.held.thing (p + 1) (h.datAt p hp)
  obtain ⟨F, h1, h2, h3⟩ := hat
  have hdl : 0 < d.length := by cases d with
    | nil => exact absurd rfl hd
    | cons a b => simp
  rcases h3 with ⟨h3, _⟩ | ⟨g', curd, hA, _, hg, hc⟩
  · have : hs[p].data.length = 0 := by rw [h3]; rfl
    omega
  have hcl : hs[p].data.length ≤ curd.size := by
    have := congrArg List.length hc
    rw [List.length_map, List.length_take, Array.length_toList] at this
    omega
  refine ⟨g', curd, hA, hg, by omega, ?_⟩
  have R2 := h.held.turn (p + 1) (h.datAt p hp) (y := datT ⟨hs[p].ser, hs[p].A, hs[p].m, hs[p].c, overL hs[p].data off d⟩) (W' := W.setRow g' (curd.toList.take off ++ (d.map vu8 ++ curd.toList.drop (off + d.length))).toArray) (fun F hF hn => by
    obtain ⟨_, _, h3⟩ := hF
    rcases h3 with ⟨h3, _⟩ | ⟨g2, cu2, hA2, hF2, hg2, hc2⟩
    · have : hs[p].data.length = 0 := by rw [h3]; rfl
      omega
    · rw [hA] at hA2
      cases hA2
      subst hF2
      refine ⟨[g'], ⟨by rw [length_overL _ _ _ hfit]; exact h1, h2, .inr ⟨g', _, hA, rfl, setRow_heap _ _ _ _ _ _ hg, ?_⟩⟩, ⟨rfl, rfl, rfl, by simp [World.setRow], fun b _ hb => setRow_other _ _ _ _ (by simpa using hb)⟩, fun b hb => .inl hb, by simp⟩
      exact over_map hs[p].data d curd.toList hs[p].m off hc h1 (by omega) (by rw [Array.length_toList]; omega))
  have hset : (rowT gc cur 41 :: (hs.map datT ++ l)).set (p + 1) (datT ⟨hs[p].ser, hs[p].A, hs[p].m, hs[p].c, overL hs[p].data off d⟩) = rowT gc cur 41 :: ((hs.set p ⟨hs[p].ser, hs[p].A, hs[p].m, hs[p].c, overL hs[p].data off d⟩).map datT ++ l) := by
    rw [List.set_cons_succ, List.set_append_left _ _ (by simpa using hp), List.map_set]
  rw [hset] at R2
  refine ⟨R2, h.row.same p hp _, ?_, by rw [List.length_set]; exact h.cap, ?_, h.cl, h.prev, h.next, putC_small h.small _ _ ?_⟩
  · unfold putC
    rw [List.map_set, h.dat]; rfl
  · intro y hy
    rcases List.mem_or_eq_of_mem_set hy with h1 | rfl
    · exact h.ser y h1
    · exact h.ser hs[p] (List.getElem_mem hp)
  · show (overL hs[p].data off d).length ≤ 400
    rw [length_overL _ _ _ hfit]
    have : (hs[p]).dat ∈ s.cells := by rw [← h.dat]; exact List.mem_map_of_mem (List.getElem_mem hp)
    exact h.small.2 _ this
section
variable {w : World}
set_option maxHeartbeats 4000000 in
theorem write_is (hc : ClsAt w) {s : ShL} {v : Value} (hs : ShelfIn w v s) (place : Int) (ser : Nat) (off : Int) (B : Option Addr) (k cB : Nat) (d : List UInt8) (hd : BytesIn w B d) (hk : d.length = k) (hk4 : k ≤ 400) :
    Calls Tryd.prog 13 #[v, .int .i64 place, .int .u64 (ser : Int), .int .i64 off, .slice B k cB] w fun e w' => ShPost w (writeS s place ser off d) (partE s place ser off (d.length : Int)) e w' := by
  obtain ⟨A, n, c, l, rfl, hs⟩ := hs
  have hR := ((Held.start w).alloc (shV s A n c) 25).alloc #[.int .u8 0, .int .u16 0, .int .u16 0, .slice none 0 0] 25
  obtain ⟨W, hW⟩ : ∃ W, W = (w.alloc (.cells (shV s A n c) 25)).alloc (.cells #[.int .u8 0, .int .u16 0, .int .u16 0, .slice none 0 0] 25) := ⟨_, rfl⟩
  obtain ⟨g, hg⟩ : ∃ g, g = w.heap.size := ⟨_, rfl⟩
  rw [← hW, show (w.alloc (.cells (shV s A n c) 25)).heap.size = g + 1 by rw [hg]; simp, ← hg] at hR
  have HR := Lib.hid hR
  have HW := Lib.hid hW
  have HG := Lib.hid hg
  have HS := Lib.hid hs
  have HC := Lib.hid hc
  have HD := Lib.hid hd
  rw [hk]
  have HWS : Hid (writeS s place ser off d = if partE s place ser off (k : Int) = 0 then putC s place.toNat (ser, overL (dataL s place) off.toNat d) else emptySh) := Lib.hid (by rw [← hk]; rfl)
  have HPZ : Hid (partE s place ser off (k : Int) = 0 → findE s place ser = 0 ∧ 0 ≤ off ∧ 0 ≤ (k : Int) ∧ off + (k : Int) ≤ (dataL s place).length) := Lib.hid partE_zero
  have HPT : Hid (∀ w' A N c l, Below w.heap.size w w' → ShelfOf w' s A N c l → Calls Tryd.prog 30 #[.agg (shV s A N c), .int .i64 place, .int .u64 (ser : Int), .int .i64 off, .int .i64 (k : Int)] w' fun e w'' => PartPost w' (partE s place ser off (k : Int)) l place off (k : Int) e w'') := Lib.hid (fun w' A N c l hb h => part_is (HC.out.below hb) h place ser off k)
  generalize writeS s place ser off d = ws at HWS ⊢
  generalize partE s place ser off (k : Int) = E at HWS HPZ HPT ⊢
  obtain ⟨⟨a0, a1, a2, a3⟩, _, _, _, _⟩ := hR.cells4 1 rfl
  have HK := Lib.hid hk
  have HK4 := Lib.hid hk4
  clear hR hW hg hs hc hd hk hk4
  go_enter Tryd.func13, Tryd.ntmps13
  go_upto_region 1 with (fail)
  rw [← HW.out, ← HG.out]
  go_wp2_with fail
  refine (copied_is (w := W) ⟨A, n, c, l, rfl, HS.out.below HR.out.below⟩).mono ?_
  rintro e w2 ⟨v2, rfl, h2⟩
  rcases h2 with ⟨hce, ⟨A2, n2, c2, l2, rfl, hs2⟩, hb⟩ | ⟨gc, c2, cur, hs2, rfl, ho⟩
  · have R2 := Lib.hid (HR.out.call hb)
    have HS2 := Lib.hid hs2
    have HE : Hid (E ≠ 0) := Lib.hid (fun h => by
      obtain ⟨hf, _⟩ := HPZ.out h
      obtain ⟨_, h0, h1, _⟩ := findE_zero hf
      rw [hce] at h1
      simp at h1
      omega)
    have HCE := Lib.hid hce
    clear hb hs2 hce a0 a1 a2 a3
    obtain ⟨⟨a0, a1, a2, a3⟩, b0, b1, b2, b3⟩ := R2.out.cells4 1 rfl
    unfold shV
    go_upto_region 2 with (fail)
    have q3 := R2.out.store4 1 rfl (.int .u8 (s.cl : Int)) (.int .u16 (s.prev : Int)) (.int .u16 (s.next : Int)) (.slice A2 n2 c2)
    obtain ⟨W3, hW3⟩ : ∃ W3, W3 = (((w2.setCell ⟨g, 0, none⟩ (.int .u8 (s.cl : Int))).setCell ⟨g, 1, none⟩ (.int .u16 (s.prev : Int))).setCell ⟨g, 2, none⟩ (.int .u16 (s.next : Int))).setCell ⟨g, 3, none⟩ (.slice A2 n2 c2) := ⟨_, rfl⟩
    rw [← hW3] at q3 ⊢
    have R3 := Lib.hid q3
    clear hW3 q3 a0 a1 a2 a3 b0 b1 b2 b3
    have HSF : Hid (ShelfOf W3 s A2 n2 c2 l2) := Lib.hid (by
      have h := HS2.out
      have hl : l2 = [] := by
        have := h.dat
        rw [HCE.out] at this
        exact List.map_eq_nil_iff.1 this
      subst hl
      have hn2 : n2 = 0 := h.cells.len.symm
      exact ⟨⟨h.cells.len, .inl hn2, by simp⟩, h.dat, h.cap, h.cl, h.prev, h.next, h.small⟩)
    obtain ⟨⟨a0, a1, a2, a3⟩, _, _, _, _⟩ := R3.out.cells4 1 rfl
    go_wp2_with fail
    refine (HPT.out W3 A2 n2 c2 l2 R3.out.below HSF.out).mono ?_
    rintro e w4 ⟨v3, rfl, hb, hv⟩
    have R4 := Lib.hid (R3.out.call hb)
    rcases hv with ⟨_, rfl⟩ | ⟨hE, _⟩
    · have HV : Hid (ws = emptySh) := Lib.hid (by rw [HWS.out, if_neg HE.out])
      have hE' : (E != 0) = true := by simpa using HE.out
      clear hb a0 a1 a2 a3 HWS
      obtain ⟨⟨e0, e1, e2, e3⟩, b0, b1, b2, b3⟩ := R4.out.cells4 0 rfl
      go_wp2_with fail
      have R9 := R4.out.store4 0 rfl (.int .u8 0) (.int .u16 0) (.int .u16 0) (.slice none 0 0)
      refine bodyPost_ret (v := .tuple #[.agg #[.int .u8 0, .int .u16 0, .int .u16 0, .slice none 0 0], .int .i64 E]) (results_cell_slot rfl _ _ (g + 1) 25 _ (0, 0) _ _ rfl rfl (R9.get 0 rfl) Tryd.underlying25 rfl sizeShelf) rfl ?_
      exact ⟨_, rfl, by rw [HV.out]; exact emptySh_in _ _, R9.below⟩
    · exact absurd hE HE.out
  · have O2 := Lib.hid (own_join HR.out ho)
    have HLE : Hid (hs2.length = s.cells.length) := Lib.hid (by rw [← ho.dat, List.length_map])
    clear ho a0 a1 a2 a3
    obtain ⟨⟨a0, a1, a2, a3⟩, b0, b1, b2, b3⟩ := O2.out.held.cells4 (hs2.length + 1 + 1) (own_at 1 rfl)
    unfold shV
    go_upto_region 2 with (fail)
    have q3 := O2.out.held.store4 (hs2.length + 1 + 1) (own_at 1 rfl) (.int .u8 (s.cl : Int)) (.int .u16 (s.prev : Int)) (.int .u16 (s.next : Int)) (.slice (some ⟨gc, 0, none⟩) hs2.length c2)
    rw [own_set] at q3
    obtain ⟨W3, hW3⟩ : ∃ W3, W3 = (((w2.setCell ⟨g, 0, none⟩ (.int .u8 (s.cl : Int))).setCell ⟨g, 1, none⟩ (.int .u16 (s.prev : Int))).setCell ⟨g, 2, none⟩ (.int .u16 (s.next : Int))).setCell ⟨g, 3, none⟩ (.slice (some ⟨gc, 0, none⟩) hs2.length c2) := ⟨_, rfl⟩
    rw [← hW3] at q3 ⊢
    have O3 := Lib.hid (O2.out.turnTail q3)
    clear hW3 q3 O2 a0 a1 a2 a3 b0 b1 b2 b3
    obtain ⟨⟨a0, a1, a2, a3⟩, _, _, _, _⟩ := O3.out.held.cells4 (hs2.length + 1 + 1) (own_at 1 rfl)
    go_wp2_with fail
    refine (HPT.out W3 _ _ c2 hs2 O3.out.held.below O3.out.shelf).mono ?_
    rintro e w4 ⟨v3, rfl, hb, hv⟩
    have O4 := Lib.hid (O3.out.turnTail (O3.out.held.call hb))
    clear hb a0 a1 a2 a3 O3
    rcases hv with ⟨hE, rfl⟩ | ⟨hE, x, hx, rfl⟩
    · have HV : Hid (ws = emptySh) := Lib.hid (by rw [HWS.out, if_neg hE])
      have hE' : (E != 0) = true := by simpa using hE
      have R4 : Hid (Held w w4 [rowT (g + 1) #[.int .u8 0, .int .u16 0, .int .u16 0, .slice none 0 0] 25, rowT g _ 25]) := Lib.hid (by
        have := O4.out.held
        rw [show (rowT gc cur 41 :: (hs2.map datT ++ _)) = (rowT gc cur 41 :: hs2.map datT) ++ _ from rfl] at this
        exact this.keepR)
      clear hE HWS
      obtain ⟨⟨e0, e1, e2, e3⟩, b0, b1, b2, b3⟩ := R4.out.cells4 0 rfl
      go_wp2_with fail
      have R9 := R4.out.store4 0 rfl (.int .u8 0) (.int .u16 0) (.int .u16 0) (.slice none 0 0)
      refine bodyPost_ret (v := .tuple #[.agg #[.int .u8 0, .int .u16 0, .int .u16 0, .slice none 0 0], .int .i64 E]) (results_cell_slot rfl _ _ (g + 1) 25 _ (0, 0) _ _ rfl rfl (R9.get 0 rfl) Tryd.underlying25 rfl sizeShelf) rfl ?_
      exact ⟨_, rfl, by rw [HV.out]; exact emptySh_in _ _, R9.below⟩
    · subst hE
      obtain ⟨hf, h0, _, hfit⟩ := HPZ.out rfl
      obtain ⟨_, hp0, hp1, _, hser⟩ := findE_zero hf
      obtain ⟨p, rfl⟩ : ∃ p : Nat, place = (p : Int) := ⟨place.toNat, by omega⟩
      obtain ⟨lo, rfl⟩ : ∃ q : Nat, off = (q : Int) := ⟨off.toNat, by omega⟩
      have hpl : p < hs2.length := by have := HLE.out; omega
      rw [Int.toNat_natCast, List.getElem?_eq_getElem hpl] at hx
      obtain rfl : hs2[p] = x := Option.some.inj hx
      have hdl : dataL s (p : Int) = hs2[p].data := by
        unfold dataL
        rw [Int.toNat_natCast, ← O4.out.dat, List.getD_eq_getElem?_getD, List.getElem?_map, List.getElem?_eq_getElem hpl]; rfl
      rw [Int.toNat_natCast, ← O4.out.dat, List.getD_eq_getElem?_getD, List.getElem?_map, List.getElem?_eq_getElem hpl] at hser
      rw [hdl] at hfit
      have HWS2 : Hid (ws = putC s p (hs2[p].ser, overL hs2[p].data lo d)) := Lib.hid (by
        rw [HWS.out, if_pos rfl, hdl, Int.toNat_natCast, Int.toNat_natCast, ← hser]; rfl)
      simp only [Int.toNat_natCast]
      by_cases h00 : d = []
      · subst h00
        have hk0 : k = 0 := HK.out.symm
        subst hk0
        have HWS3 : Hid (ws = s) := Lib.hid (by
          rw [HWS2.out]
          have e1 : overL hs2[p].data lo [] = hs2[p].data := by unfold overL; simp
          rw [e1]
          have hps : p < s.cells.length := by rw [← HLE.out]; exact hpl
          have e2 : s.cells[p]'hps = (hs2[p].ser, hs2[p].data) := by
            have : s.cells[p]? = some hs2[p].dat := by rw [← O4.out.dat, List.getElem?_map, List.getElem?_eq_getElem hpl]; rfl
            rw [List.getElem?_eq_getElem hps] at this
            exact Option.some.inj this
          obtain ⟨s1, s2, s3, s4⟩ := s
          unfold putC
          simp only at e2 ⊢
          rw [← e2, List.set_getElem_self])
        generalize (if lo + 0 = lo then hs2[p].A else Option.map (fun x => x.add lo) hs2[p].A) = Q
        clear hx HWS2 HWS hf h0 hfit hp0 hp1 hser hdl
        obtain ⟨⟨a0, a1, a2, a3⟩, _, _, _, _⟩ := O4.out.held.cells4 (hs2.length + 1 + 1) (own_at 1 rfl)
        obtain ⟨⟨e0, e1, e2, e3⟩, b0, b1, b2, b3⟩ := O4.out.held.cells4 (hs2.length + 1 + 0) (own_at 0 rfl)
        go_wp2_with (refine wpList_copy_nothing rfl _ _ 27 27 rfl 5 Tryd.underlying27 sizeU8 _ _ _ _ _ _ rfl rfl (by simp) ?_)
        have q5 := O4.out.held.store4 (hs2.length + 1 + 0) (own_at 0 rfl) (.int .u8 (s.cl : Int)) (.int .u16 (s.prev : Int)) (.int .u16 (s.next : Int)) (.slice (some ⟨gc, 0, none⟩) hs2.length c2)
        rw [own_set] at q5
        have O5 := O4.out.turnTail q5
        refine bodyPost_ret (v := .tuple #[.agg #[.int .u8 (s.cl : Int), .int .u16 (s.prev : Int), .int .u16 (s.next : Int), .slice (some ⟨gc, 0, none⟩) hs2.length c2], .int .i64 0]) (results_cell_slot rfl _ _ (g + 1) 25 _ (0, 0) _ _ rfl rfl (O5.held.get (hs2.length + 1 + 0) (own_at 0 rfl)) Tryd.underlying25 rfl sizeShelf) rfl ?_
        exact ⟨_, (by first | rfl | rw [hre]), by rw [HWS3.out]; exact ⟨_, _, _, _, rfl, O5.shelf, O5.fresh⟩, O5.held.below⟩
      · have hk0 : k ≠ 0 := fun h => h00 (List.eq_nil_of_length_eq_zero (by rw [HK.out, h]))
        obtain ⟨g', curd, hA, hg, hsz, hO⟩ := O4.out.over p hpl lo d (by have := HK.out; omega) h00
        have hQ : (if lo + k = lo then hs2[p].A else Option.map (fun x => x.add lo) hs2[p].A) = some ⟨g', lo, none⟩ := by
          rw [if_neg (by omega), hA]
          simp [Addr.add_lit]
        rw [hQ]
        obtain ⟨gb, ob, rfl, _, hsrc⟩ := (HD.out.below O4.out.held.below).resolve_left h00
        have HSRC : Hid (∀ j v, (d.map vu8)[j]? = some v → w4.cell? ((⟨gb, ob, none⟩ : Addr).add j) = some v) := Lib.hid (fun j v hj => by
          have hjd : j < d.length := by have := (List.getElem?_eq_some_iff.1 hj).1; simpa using this
          rw [Addr.add_lit, hsrc j hjd, ← List.getElem?_map, hj])
        have HGG := Lib.hid hg
        have HFI : Hid (lo + (d.map vu8).length ≤ curd.size) := Lib.hid (by rw [List.length_map]; exact hsz)
        have HNN : Hid ((d.map vu8).length = Nat.min k k) := Lib.hid (by rw [List.length_map, HK.out]; simp)
        have HON : Hid (∀ v ∈ d.map vu8, v.oneCell' = true) := Lib.hid (by intro u hu; obtain ⟨y, _, rfl⟩ := List.mem_map.1 hu; rfl)
        obtain ⟨W5, hW5⟩ : ∃ W5, W5 = w4.setRow g' (curd.toList.take lo ++ (d.map vu8 ++ curd.toList.drop (lo + (d.map vu8).length))).toArray := ⟨_, rfl⟩
        have O6 : Hid (OwnSh w W5 (putC s p (hs2[p].ser, overL hs2[p].data lo d)) gc c2 cur (hs2.set p ⟨hs2[p].ser, hs2[p].A, hs2[p].m, hs2[p].c, overL hs2[p].data lo d⟩) _) := Lib.hid (by
          rw [hW5, List.length_map]; exact hO)
        have HW5 := Lib.hid hW5
        have HLN : Hid ((hs2.set p ⟨hs2[p].ser, hs2[p].A, hs2[p].m, hs2[p].c, overL hs2[p].data lo d⟩).length = hs2.length) := Lib.hid (by simp)
        generalize hs2.set p ⟨hs2[p].ser, hs2[p].A, hs2[p].m, hs2[p].c, overL hs2[p].data lo d⟩ = hs3 at O6 HLN
        clear HWS hf h0 hfit hp0 hp1 hser hdl hA hg hsz hO hQ hsrc hW5
        go_upto_region 6 with (refine wpList_copy_own rfl _ _ 27 27 rfl 5 Tryd.underlying27 sizeU8 g' lo k k ⟨gb, ob, none⟩ k cB rfl rfl curd 5 HGG.out (d.map vu8) HNN.out HSRC.out HFI.out HON.out ?_; rw [← HW5.out])
        obtain ⟨⟨a0, a1, a2, a3⟩, _, _, _, _⟩ := O6.out.held.cells4 (hs3.length + 1 + 1) (own_at 1 rfl)
        obtain ⟨⟨e0, e1, e2, e3⟩, b0, b1, b2, b3⟩ := O6.out.held.cells4 (hs3.length + 1 + 0) (own_at 0 rfl)
        go_wp2_with fail
        have q5 := O6.out.held.store4 (hs3.length + 1 + 0) (own_at 0 rfl) (.int .u8 (s.cl : Int)) (.int .u16 (s.prev : Int)) (.int .u16 (s.next : Int)) (.slice (some ⟨gc, 0, none⟩) hs2.length c2)
        rw [own_set] at q5
        have O5 := O6.out.turnTail q5
        refine bodyPost_ret (v := .tuple #[.agg #[.int .u8 (s.cl : Int), .int .u16 (s.prev : Int), .int .u16 (s.next : Int), .slice (some ⟨gc, 0, none⟩) hs2.length c2], .int .i64 0]) (results_cell_slot rfl _ _ (g + 1) 25 _ (0, 0) _ _ rfl rfl (O5.held.get (hs3.length + 1 + 0) (own_at 0 rfl)) Tryd.underlying25 rfl sizeShelf) rfl ?_
        exact ⟨_, (by first | rfl | rw [hre]), by rw [HWS2.out]; exact ⟨_, _, _, _, rfl, HLN.out ▸ O5.shelf, HLN.out ▸ O5.fresh⟩, O5.held.below⟩
theorem made_zeros (n : Nat) : madeCells #[.int .u8 0] (n * 1) = (List.replicate n (Value.int .u8 0)).toArray := by
  unfold madeCells
  rw [Nat.mul_one]
  apply Array.ext
  · simp
  · intro k h1 h2
    simp [Nat.mod_one]
set_option maxHeartbeats 4000000 in
theorem resize_is (hc : ClsAt w) {s : ShL} {v : Value} (hs : ShelfIn w v s) (place : Int) (ser : Nat) (m : Int) :
    Calls Tryd.prog 26 #[v, .int .i64 place, .int .u64 (ser : Int), .int .i64 m] w fun e w' => ShPost w (resizeS s place ser m) (resizeE s place ser m) e w' := by
  obtain ⟨A, n, c, l, rfl, hs⟩ := hs
  have hR := ((Held.start w).alloc (shV s A n c) 25).alloc #[.int .u8 0, .int .u16 0, .int .u16 0, .slice none 0 0] 25
  obtain ⟨W, hW⟩ : ∃ W, W = (w.alloc (.cells (shV s A n c) 25)).alloc (.cells #[.int .u8 0, .int .u16 0, .int .u16 0, .slice none 0 0] 25) := ⟨_, rfl⟩
  obtain ⟨g, hg⟩ : ∃ g, g = w.heap.size := ⟨_, rfl⟩
  rw [← hW, show (w.alloc (.cells (shV s A n c) 25)).heap.size = g + 1 by rw [hg]; simp, ← hg] at hR
  have HR := Lib.hid hR
  have HW := Lib.hid hW
  have HG := Lib.hid hg
  have HS := Lib.hid hs
  have hcl := hs.cl
  have HC : Hid (ClsAt W) := Lib.hid (hc.below hR.below)
  have HM := Lib.hid (may_is (w := W) HC.out ⟨A, n, c, l, rfl, hs.below hR.below⟩)
  have HOF : Hid (∀ w', Below W.heap.size W w' → Calls Tryd.prog 28 #[.int .u8 (s.cl : Int), .int .i64 m] w' fun e w'' => e = .returned (.bool (ofL s.cl m)) ∧ Below w'.heap.size w' w'') := Lib.hid (fun w' hb => of_is (HC.out.below hb) s.cl hcl m)
  have HFN : Hid (∀ w', Below W.heap.size W w' → Calls Tryd.prog 32 #[.agg (shV s A n c), .int .i64 place, .int .u64 (ser : Int)] w' fun e w'' => e = .returned (.int .i64 (findE s place ser)) ∧ Below w'.heap.size w' w'') := Lib.hid (fun w' hb => find_is (HC.out.below hb) ⟨A, n, c, l, rfl, (hs.below hR.below).below hb⟩ place ser)
  have HRE : Hid (resizeE s place ser m = if mayL s ∧ ofL s.cl m = false then 2 else findE s place ser) := Lib.hid rfl
  have HRS : Hid (resizeS s place ser m = if resizeE s place ser m = 0 then putC s place.toNat (ser, sizedL (dataL s place) m.toNat) else emptySh) := Lib.hid rfl
  have HFZ : Hid (findE s place ser = 0 → mayL s = true ∧ 0 ≤ place ∧ place < s.cells.length ∧ ser ≠ 0 ∧ (s.cells.getD place.toNat (0, [])).1 = ser) := Lib.hid findE_zero
  have HOL : Hid (ofL s.cl m = true → 1 ≤ m ∧ m ≤ 237) := Lib.hid (fun h => by have := ofL_le h; omega)
  have HCO : Hid (∀ c ∈ s.cells, mayL s = true → c.1 ≠ 0 → 1 ≤ c.2.length) := Lib.hid (fun c hcm h h0 => by
    unfold mayL cellsOk at h
    rw [Bool.and_eq_true, List.all_eq_true] at h
    have := h.2 c hcm
    unfold cellOk at this
    rw [if_neg h0, Bool.and_eq_true] at this
    have := ofL_le this.2
    omega)
  generalize resizeS s place ser m = rs at HRS ⊢
  generalize resizeE s place ser m = re at HRE HRS ⊢
  generalize findE s place ser = E at HFN HRE HFZ
  generalize hmay : mayL s = may at HM HRE HFZ HCO
  generalize hof : ofL s.cl m = o at HOF HRE HOL
  obtain ⟨⟨a0, a1, a2, a3⟩, _, _, _, _⟩ := hR.cells4 1 rfl
  have HN := hs.le30
  clear hR hW hg hs hc hcl
  go_enter Tryd.func26, Tryd.ntmps26
  go_upto_region 1 with (fail)
  rw [← HW.out, ← HG.out]
  go_wp2_with fail
  refine HM.out.mono ?_
  rintro e w1 ⟨rfl, hb⟩
  have R1 := Lib.hid (HR.out.call hb)
  have HB1 := Lib.hid hb
  clear hb a0 a1 a2 a3 HM
  obtain ⟨⟨a0, a1, a2, a3⟩, _, _, _, _⟩ := R1.out.cells4 1 rfl
  cases may with
  | false =>
    have hE : E ≠ 0 := fun h => by have := (HFZ.out h).1; simp at this
    have hre : re = E := by rw [HRE.out, if_neg (by simp)]
    have HV : Hid (rs = emptySh) := Lib.hid (by rw [HRS.out, if_neg (by rw [hre]; exact hE)])
    have HRE2 := Lib.hid hre
    have hE' : (E != 0) = true := by simpa using hE
    clear hE hre HRE HRS
    go_wp2_with fail
    refine (HFN.out _ HB1.out).mono ?_
    rintro e w2 ⟨rfl, hb⟩
    have R2 := Lib.hid (R1.out.call hb)
    clear hb a0 a1 a2 a3
    obtain ⟨⟨e0, e1, e2, e3⟩, b0, b1, b2, b3⟩ := R2.out.cells4 0 rfl
    go_wp2_with fail
    have R9 := R2.out.store4 0 rfl (.int .u8 0) (.int .u16 0) (.int .u16 0) (.slice none 0 0)
    refine bodyPost_ret (v := .tuple #[.agg #[.int .u8 0, .int .u16 0, .int .u16 0, .slice none 0 0], .int .i64 E]) (results_cell_slot rfl _ _ (g + 1) 25 _ (0, 0) _ _ rfl rfl (R9.get 0 rfl) Tryd.underlying25 rfl sizeShelf) rfl ?_
    exact ⟨_, (by rw [HRE2.out]), by rw [HV.out]; exact emptySh_in _ _, R9.below⟩
  | true =>
    go_wp2_with fail
    refine (HOF.out _ HB1.out).mono ?_
    rintro e w2 ⟨rfl, hb⟩
    have R2 := Lib.hid (R1.out.call hb)
    have HB2 := Lib.hid (HB1.out.trans (hb.mono HB1.out.size))
    clear hb a0 a1 a2 a3
    cases o with
    | false =>
      have hre : re = 2 := by rw [HRE.out, if_pos (by simp)]
      have HV : Hid (rs = emptySh) := Lib.hid (by rw [HRS.out, if_neg (by rw [hre]; decide)])
      have HRE2 := Lib.hid hre
      clear hre HRE HRS
      obtain ⟨⟨e0, e1, e2, e3⟩, b0, b1, b2, b3⟩ := R2.out.cells4 0 rfl
      go_wp2_with fail
      have R9 := R2.out.store4 0 rfl (.int .u8 0) (.int .u16 0) (.int .u16 0) (.slice none 0 0)
      refine bodyPost_ret (v := .tuple #[.agg #[.int .u8 0, .int .u16 0, .int .u16 0, .slice none 0 0], .int .i64 2]) (results_cell_slot rfl _ _ (g + 1) 25 _ (0, 0) _ _ rfl rfl (R9.get 0 rfl) Tryd.underlying25 rfl sizeShelf) rfl ?_
      exact ⟨_, (by rw [HRE2.out]), by rw [HV.out]; exact emptySh_in _ _, R9.below⟩
    | true =>
      have hre : re = E := by rw [HRE.out, if_neg (by simp)]
      have HRE2 := Lib.hid hre
      obtain ⟨⟨a0, a1, a2, a3⟩, _, _, _, _⟩ := R2.out.cells4 1 rfl
      clear HRE hre
      go_wp2_with fail
      refine (HFN.out _ HB2.out).mono ?_
      rintro e w3 ⟨rfl, hb⟩
      have R3 := Lib.hid (R2.out.call hb)
      clear hb a0 a1 a2 a3
      by_cases hE : E = 0
      · subst hE
        obtain ⟨_, hp0, hp1, hs0, hser⟩ := HFZ.out rfl
        obtain ⟨p, rfl⟩ : ∃ p : Nat, place = (p : Int) := ⟨place.toNat, by omega⟩
        obtain ⟨hm1, hm2⟩ := HOL.out (by simp)
        obtain ⟨mm, rfl⟩ : ∃ k : Nat, m = (k : Int) := ⟨m.toNat, by omega⟩
        have hne : s.cells ≠ [] := by intro h; rw [h] at hp1; simp at hp1; omega
        have HNE := Lib.hid hne
        have HP1 := Lib.hid hp1
        have HSER := Lib.hid hser
        have HS0 := Lib.hid hs0
        have hmm : mm ≤ 237 := by omega
        have hmm1 : 1 ≤ mm := by omega
        clear hne hp1 hser hs0 hm1 hm2 hp0
        obtain ⟨⟨a0, a1, a2, a3⟩, _, _, _, _⟩ := R3.out.cells4 1 rfl
        go_wp2_with fail
        refine (copied_is (w := w3) ⟨A, n, c, l, rfl, HS.out.below R3.out.below⟩).mono ?_
        rintro e w4 ⟨v2, rfl, h2⟩
        obtain ⟨gc, c2, cur, hs2, rfl, ho⟩ := h2.resolve_left (fun h => HNE.out h.1)
        have O2 := Lib.hid (own_join R3.out ho)
        have HLE : Hid (hs2.length = s.cells.length) := Lib.hid (by rw [← ho.dat, List.length_map])
        clear h2 ho a0 a1 a2 a3
        obtain ⟨⟨a0, a1, a2, a3⟩, b0, b1, b2, b3⟩ := O2.out.held.cells4 (hs2.length + 1 + 1) (own_at 1 rfl)
        unfold shV
        go_upto_region 7 with (fail)
        have q3 := O2.out.held.store4 (hs2.length + 1 + 1) (own_at 1 rfl) (.int .u8 (s.cl : Int)) (.int .u16 (s.prev : Int)) (.int .u16 (s.next : Int)) (.slice (some ⟨gc, 0, none⟩) hs2.length c2)
        rw [own_set] at q3
        obtain ⟨W3, hW3⟩ : ∃ W3, W3 = (((w4.setCell ⟨g, 0, none⟩ (.int .u8 (s.cl : Int))).setCell ⟨g, 1, none⟩ (.int .u16 (s.prev : Int))).setCell ⟨g, 2, none⟩ (.int .u16 (s.next : Int))).setCell ⟨g, 3, none⟩ (.slice (some ⟨gc, 0, none⟩) hs2.length c2) := ⟨_, rfl⟩
        rw [← hW3] at q3 ⊢
        have O3 := Lib.hid (O2.out.turnTail q3)
        clear hW3 q3 O2 a0 a1 a2 a3 b0 b1 b2 b3
        have hpl : p < hs2.length := by have := HLE.out; have := HP1.out; omega
        have hpd : s.cells.getD (p : Int).toNat (0, []) = hs2[p].dat := by
          rw [Int.toNat_natCast, ← O3.out.dat, List.getD_eq_getElem?_getD, List.getElem?_map, List.getElem?_eq_getElem hpl]; rfl
        have hxs : hs2[p].ser = ser := by have := HSER.out; rw [hpd] at this; exact this
        have hdl : dataL s (p : Int) = hs2[p].data := by unfold dataL; rw [hpd]; rfl
        have hdm : hs2[p].dat ∈ s.cells := by rw [← O3.out.dat]; exact List.mem_map_of_mem (List.getElem_mem hpl)
        have hd1 : 1 ≤ hs2[p].data.length := HCO.out _ hdm (by simp) (by rw [show hs2[p].dat.1 = hs2[p].ser from rfl, hxs]; exact HS0.out)
        have hd4 : hs2[p].data.length ≤ 400 := O3.out.small.2 _ hdm
        obtain ⟨F, hl1, hl2, h3⟩ := O3.out.held.thing (p + 1) (O3.out.datAt p hpl)
        have hdA : ∃ gd curd, hs2[p].A = some ⟨gd, 0, none⟩ ∧ W3.heap[gd]? = some (.cells curd 5 (0, 0)) ∧ hs2[p].data.map vu8 = curd.toList.take hs2[p].m := by
          rcases h3 with ⟨h3, _⟩ | ⟨gd, curd, hA, _, hg, hc⟩
          · have : hs2[p].data.length = 0 := by rw [h3]; rfl
            omega
          · exact ⟨gd, curd, hA, hg, hc⟩
        obtain ⟨gd, curd, hA, hgd, hcd⟩ := hdA
        have HRS2 : Hid (rs = putC s p (hs2[p].ser, sizedL hs2[p].data mm)) := Lib.hid (by rw [HRS.out, if_pos HRE2.out, hdl, Int.toNat_natCast, Int.toNat_natCast, hxs])
        clear HRS hpd hdl hdm HSER HS0 h3
        obtain ⟨hc0, hc1⟩ := O3.out.row p hpl
        obtain ⟨x, hx⟩ : ∃ x, x = hs2[p] := ⟨_, rfl⟩
        rw [← hx] at hc0 hc1 hl1 hA hcd HRS2 hd1 hd4 hxs
        have HX := Lib.hid hx
        obtain ⟨i, hi, hz, hs2', hby⟩ := info_parts infoByte
        have HI := Lib.hid hi
        have HZ := Lib.hid hz
        clear hi hz
        have q5 := O3.out.held.alloc (List.replicate mm (Value.int .u8 0)).toArray 5
        obtain ⟨W5, hW5⟩ : ∃ W5, W5 = W3.alloc (.cells (List.replicate mm (Value.int .u8 0)).toArray 5) := ⟨_, rfl⟩
        obtain ⟨k5, hk5⟩ : ∃ k5, k5 = W3.heap.size := ⟨_, rfl⟩
        rw [← hW5, ← hk5] at q5
        have R5 := Lib.hid q5
        have HW5 := Lib.hid hW5
        have HK5 := Lib.hid hk5
        have hgd5 : W5.heap[gd]? = some (.cells curd 5 (0, 0)) := by rw [hW5, Go.heap_alloc_old _ _ (Array.getElem?_eq_some_iff.1 hgd).1]; exact hgd
        have HXM : Hid (x.data.length = x.m) := Lib.hid hl1
        have HSRC : Hid (∀ j v, ((x.data.take mm).map vu8)[j]? = some v → W5.cell? ((⟨gd, 0, none⟩ : Addr).add j) = some v) := Lib.hid (fun j v hj => by
          rw [List.map_take, hcd, List.take_take, List.getElem?_take] at hj
          split at hj
          · rw [Addr.add_lit, Nat.zero_add, cell_of_row _ _ _ _ _ _ hgd5]
            simpa using hj
          · cases hj)
        have HNN : Hid (((x.data.take mm).map vu8).length = Nat.min x.m mm) := Lib.hid (by
          rw [List.length_map, List.length_take, hl1, Nat.min_comm])
        have HFI : Hid (0 + ((x.data.take mm).map vu8).length ≤ (List.replicate mm (Value.int .u8 0)).toArray.size) := Lib.hid (by
          rw [List.length_map, List.length_take, List.size_toArray, List.length_replicate]; omega)
        have HON : Hid (∀ v ∈ (x.data.take mm).map vu8, v.oneCell' = true) := Lib.hid (by intro u hu; obtain ⟨y, _, rfl⟩ := List.mem_map.1 hu; rfl)
        have HNEW : Hid ((sizedL x.data mm).map vu8 = ((List.replicate mm (Value.int .u8 0)).take 0 ++ (((x.data.take mm).map vu8) ++ (List.replicate mm (Value.int .u8 0)).drop (0 + ((x.data.take mm).map vu8).length)))) := Lib.hid (by
          unfold sizedL
          rw [List.take_zero, List.nil_append, List.map_append, List.length_map, List.length_take, List.map_replicate]
          rw [List.drop_replicate]
          congr 2
          omega)
        obtain ⟨⟨a0, a1, a2, a3⟩, _, _, _, _⟩ := q5.cells4 (hs2.length + 1 + 1 + 1) (by rw [List.getElem?_cons_succ]; exact own_at 1 rfl)
        have c1 : W5.cell? ⟨gc, p * 2 + 1, none⟩ = some (.slice x.A x.m x.c) := q5.cell 1 (p * 2 + 1) rfl hc1
        rw [hA] at c1
        have HNEWL : Hid ((sizedL x.data mm).length = mm) := Lib.hid (length_sizedL _ _)
        have HD4 := Lib.hid hmm
        clear hW5 hk5 q5 hgd hcd hgd5 hl1 hl2 hc0 hA hxs hd1 hd4 hx
        go_upto_region 8 with (refine wpList_make rfl 27 5 _ _ i _ mm 1 1 Tryd.underlying27 HI.out HZ.out hs2' hby rfl rfl rfl (by omega) (by decide) (by decide) ?_; rw [show (Value.int .u8 0).cells = #[.int .u8 0] from rfl, made_zeros, ← HW5.out, ← HK5.out])
        go_upto_region 9 with (refine wpList_copy_own rfl _ _ 27 27 rfl 5 Tryd.underlying27 sizeU8 k5 0 mm mm ⟨gd, 0, none⟩ x.m x.c rfl rfl (List.replicate mm (Value.int .u8 0)).toArray 5 (R5.out.get 0 rfl) ((x.data.take mm).map vu8) HNN.out HSRC.out HFI.out HON.out ?_; rw [← HNEW.out])
        have R6 : Hid (Held w (W5.setRow k5 ((sizedL x.data mm).map vu8).toArray) (datT ⟨x.ser, some ⟨k5, 0, none⟩, mm, mm, sizedL x.data mm⟩ :: rowT gc cur 41 :: (hs2.map datT ++ _))) := Lib.hid ((R5.out.setRow 0 ((sizedL x.data mm).map vu8).toArray rfl).weaken (y := datT ⟨x.ser, some ⟨k5, 0, none⟩, mm, mm, sizedL x.data mm⟩) (fun F hF => by
          obtain ⟨hF1, hF2⟩ := hF
          subst hF1
          refine ⟨HNEWL.out, Nat.le_refl _, .inr ⟨k5, _, rfl, rfl, hF2, ?_⟩⟩
          show (sizedL x.data mm).map vu8 = ((sizedL x.data mm).map vu8).take mm
          rw [List.take_of_length_le]
          rw [List.length_map, HNEWL.out]
          exact Nat.le_refl _))
        obtain ⟨W6, hW6⟩ : ∃ W6, W6 = W5.setRow k5 ((sizedL x.data mm).map vu8).toArray := ⟨_, rfl⟩
        rw [← hW6] at R6 ⊢
        clear hW6 a0 a1 a2 a3 c1
        have O6 := Lib.hid (O3.out.putData p hpl ⟨x.ser, some ⟨k5, 0, none⟩, mm, mm, sizedL x.data mm⟩ R6.out (by rw [HNEWL.out]; have := HD4.out; omega) (by rw [HX.out]))
        have c1 := R6.out.cell 1 (p * 2 + 1) rfl hc1
        have f1 := R6.out.free 1 (p * 2 + 1) rfl
        obtain ⟨⟨a0, a1, a2, a3⟩, _, _, _, _⟩ := R6.out.cells4 (hs2.length + 1 + 1 + 1) (by rw [List.getElem?_cons_succ]; exact own_at 1 rfl)
        clear hc1
        go_upto_region 10 with (fail)
        clear a0 a1 a2 a3 c1 f1
        have HLN : Hid ((hs2.set p ⟨x.ser, some ⟨k5, 0, none⟩, mm, mm, sizedL x.data mm⟩).length = hs2.length) := Lib.hid (by simp)
        obtain ⟨W7, hW7⟩ : ∃ W7, W7 = W6.setCell ⟨gc, p * 2 + 1, none⟩ (.slice (some ⟨k5, 0, none⟩) mm mm) := ⟨_, rfl⟩
        have O7 : Hid (OwnSh w W7 (putC s p (x.ser, sizedL x.data mm)) gc c2 _ (hs2.set p ⟨x.ser, some ⟨k5, 0, none⟩, mm, mm, sizedL x.data mm⟩) _) := Lib.hid (hW7 ▸ O6.out)
        rw [← hW7]
        clear hW7 O6 R6 R5
        generalize hs2.set p ⟨x.ser, some ⟨k5, 0, none⟩, mm, mm, sizedL x.data mm⟩ = hs3 at O7 HLN
        obtain ⟨⟨a0, a1, a2, a3⟩, _, _, _, _⟩ := O7.out.held.cells4 (hs3.length + 1 + 2) (own_at 2 rfl)
        obtain ⟨⟨e0, e1, e2, e3⟩, b0, b1, b2, b3⟩ := O7.out.held.cells4 (hs3.length + 1 + 1) (own_at 1 rfl)
        go_wp2_with fail
        have hre := HRE2.out
        have q5 := O7.out.held.store4 (hs3.length + 1 + 1) (own_at 1 rfl) (.int .u8 (s.cl : Int)) (.int .u16 (s.prev : Int)) (.int .u16 (s.next : Int)) (.slice (some ⟨gc, 0, none⟩) hs2.length c2)
        rw [own_set] at q5
        have O5 := O7.out.turnTail q5
        refine bodyPost_ret (v := .tuple #[.agg #[.int .u8 (s.cl : Int), .int .u16 (s.prev : Int), .int .u16 (s.next : Int), .slice (some ⟨gc, 0, none⟩) hs2.length c2], .int .i64 0]) (results_cell_slot rfl _ _ (g + 1) 25 _ (0, 0) _ _ rfl rfl (O5.held.get (hs3.length + 1 + 1) (own_at 1 rfl)) Tryd.underlying25 rfl sizeShelf) rfl ?_
        exact ⟨_, (by first | rfl | rw [hre]), by rw [HRS2.out]; exact ⟨_, _, _, _, rfl, HLN.out ▸ O5.shelf, HLN.out ▸ O5.fresh⟩, O5.held.below⟩
      · have hre := HRE2.out
        have HV : Hid (rs = emptySh) := Lib.hid (by rw [HRS.out, if_neg (by rw [hre]; exact hE)])
        have hE' : (E != 0) = true := by simpa using hE
        clear hE hre HRS
        obtain ⟨⟨e0, e1, e2, e3⟩, b0, b1, b2, b3⟩ := R3.out.cells4 0 rfl
        go_wp2_with fail
        have R9 := R3.out.store4 0 rfl (.int .u8 0) (.int .u16 0) (.int .u16 0) (.slice none 0 0)
        refine bodyPost_ret (v := .tuple #[.agg #[.int .u8 0, .int .u16 0, .int .u16 0, .slice none 0 0], .int .i64 E]) (results_cell_slot rfl _ _ (g + 1) 25 _ (0, 0) _ _ rfl rfl (R9.get 0 rfl) Tryd.underlying25 rfl sizeShelf) rfl ?_
        exact ⟨_, (by rw [HRE2.out]), by rw [HV.out]; exact emptySh_in _ _, R9.below⟩
end
end Go.Proofs.YtcepfmjebgklfaaDoor
