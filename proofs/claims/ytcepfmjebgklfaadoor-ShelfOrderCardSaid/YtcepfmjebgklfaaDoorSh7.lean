/- Shelves in memory: New, Give. -/
import Derived.Test.YtcepfmjebgklfaaDoorSh6
namespace Go.Proofs.YtcepfmjebgklfaaDoor
open Go.RowKit
set_option linter.unusedSimpArgs false
set_option linter.unusedVariables false
set_option maxRecDepth 100000
section
variable {P : Program} {w : World}
theorem wpList_make {ops : Array Oper} {rest : List Oper} {o : Oper} {a : Act} {Q : Exit → Act → World → Prop} (hgd : o.guard = none) (t e : TypeId) (x y : Operand) (i : TypeInfo) (z : Value) (n sz bytes : Nat) (ht : P.underlying t = some (.slice e)) (hi : P.info? e = some i) (hz : i.zero = some z)
    (hs : i.size = sz) (hb : i.bytes = bytes) (ho : o.op = .makeSlice t x y) (hx : a.eval x = .int .i64 (n : Int)) (hy : a.eval y = .int .i64 (n : Int)) (hn : n ≤ 1000) (hsz : sz ≤ 10) (hbz : bytes ≤ 100)
    (h : wpList P ops Q rest (a.put o.dst (.slice (some ⟨w.heap.size, 0, none⟩) n n)) (w.alloc (.cells (madeCells z.cells (n * sz)) e))) : wpList P ops Q (o :: rest) a w :=
  wpList_plain hgd fun _ hK => by
    have h1 : n * sz ≤ 1000 * 10 := Nat.mul_le_mul hn hsz
    have h2 : bytes * n ≤ 100 * 1000 := Nat.mul_le_mul hbz hn
    have h3 : ((bytes * n : Nat) : Int) = (bytes : Int) * (n : Int) := by push_cast; rfl
    have := run_makeSlice w t e i z ht hi hz .i64 .i64 (n : Int) (n : Int) (by omega) (by omega) (by simp only [Int.toNat_natCast]; rw [hs]; omega) (by rw [hb]; omega) (by omega)
    simp only [Int.toNat_natCast, hs] at this
    unfold Oper.wp execOp
    simp only [ho, hx, hy, Sem.run_bind, this, Result.andThen_ok, Sem.run_pure]
    exact hK _ _ h
/-- Three results: a variable of many cells, and two slots. -/
theorem results_cell_slots {fn : Func} {p q r : Tmp} {ty : TypeId} (h : fn.results = #[.cell p ty, .tmp q, .tmp r]) (tmps : Array Value) (w : World) (g : Nat) (t : TypeId) (cs : Array Value) (fr : Nat × Nat) (d : TypeDesc) (v u : Value)
    (hp : tmps.getD p undef = .pointer (some ⟨g, 0, none⟩)) (hq : tmps.getD q undef = v) (hr : tmps.getD r undef = u) (hg : w.heap[g]? = some (.cells cs t fr))
    (hu : P.underlying ty = some d) (hd : (match d with | .struct _ | .array _ _ => true | _ => false) = true) (hi : (P.info? ty).map (·.size) = some cs.size) :
    (results fn tmps).run P w = .ok (.tuple #[.agg cs, v, u]) w := by
  have hp' : tmps[p]?.getD undef = .pointer (some ⟨g, 0, none⟩) := by simpa using hp
  have hq' : tmps[q]?.getD undef = v := by simpa using hq
  have hr' : tmps[r]?.getD undef = u := by simpa using hr
  simp [results, h, hp', hq', hr', asAddr, run_loadVar_row w g t ty cs fr d hg hu hd hi]
end
theorem Held.store4 {w0 Y : World} {L : List Thing} (R : Held w0 Y L) (k : Nat) {g : Nat} {T : TypeId} {x0 x1 x2 x3 : Value} (e : L[k]? = some (rowT g #[x0, x1, x2, x3] T)) (y0 y1 y2 y3 : Value) :
    Held w0 ((((Y.setCell ⟨g, 0, none⟩ y0).setCell ⟨g, 1, none⟩ y1).setCell ⟨g, 2, none⟩ y2).setCell ⟨g, 3, none⟩ y3) (L.set k (rowT g #[y0, y1, y2, y3] T)) := by
  have hk : k < L.length := (List.getElem?_eq_some_iff.1 e).1
  have q1 := R.setCell k 0 y0 e
  have q2 := q1.setCell k 1 y1 (by rw [List.getElem?_set_self hk])
  have q3 := q2.setCell k 2 y2 (by rw [List.getElem?_set_self (by simpa using hk)])
  have q4 := q3.setCell k 3 y3 (by rw [List.getElem?_set_self (by simpa using hk)])
  simp only [List.set_set] at q4
  exact q4
theorem Held.cells4 {w0 Y : World} {L : List Thing} (R : Held w0 Y L) (k : Nat) {g : Nat} {T : TypeId} {x0 x1 x2 x3 : Value} (e : L[k]? = some (rowT g #[x0, x1, x2, x3] T)) :
    (Y.cell? ⟨g, 0, none⟩ = some x0 ∧ Y.cell? ⟨g, 1, none⟩ = some x1 ∧ Y.cell? ⟨g, 2, none⟩ = some x2 ∧ Y.cell? ⟨g, 3, none⟩ = some x3) ∧ Y.frozen? ⟨g, 0, none⟩ = false ∧ Y.frozen? ⟨g, 1, none⟩ = false ∧ Y.frozen? ⟨g, 2, none⟩ = false ∧ Y.frozen? ⟨g, 3, none⟩ = false :=
  ⟨⟨R.cell k 0 e rfl, R.cell k 1 e rfl, R.cell k 2 e rfl, R.cell k 3 e rfl⟩, R.free k 0 e, R.free k 1 e, R.free k 2 e, R.free k 3 e⟩
def freshL (n : Nat) : List CellH := List.replicate n ⟨0, none, 0, 0, []⟩
def newE (k : Nat) : Int := if placesL k = 0 then 2 else 0
def newS (k : Nat) : ShL := if placesL k = 0 then emptySh else ⟨k, 0, 0, List.replicate (placesL k) (0, [])⟩
theorem newS_small (k : Nat) : smallL (newS k) := by
  unfold newS
  split
  · exact emptySh_small
  · refine ⟨by simp; have := placesL_le k; omega, fun c hc => ?_⟩
    have := List.eq_of_mem_replicate hc
    rw [this]; simp
theorem rowHas_made (n : Nat) : RowHas (madeCells #[.int .u64 0, .slice none 0 0] (n * 2)) (freshL n) := by
  intro i hi
  have hin : i < n := by simpa [freshL] using hi
  have hh : (freshL n)[i] = ⟨0, none, 0, 0, []⟩ := by simp [freshL]
  rw [hh]
  unfold madeCells
  constructor
  · rw [Array.getElem?_map, Array.getElem?_range, if_pos (by omega)]
    simp
  · rw [Array.getElem?_map, Array.getElem?_range, if_pos (by omega)]
    simp [show (i * 2 + 1) % 2 = 1 by omega]
/-- A shelf, and an error. -/
def ShPost (w : World) (s : ShL) (E : Int) (e : Ending) (w' : World) : Prop := ∃ v, e = .returned (.tuple #[v, .int .i64 E]) ∧ ShelfFr w.heap.size w' v s ∧ Below w.heap.size w w'
theorem emptySh_in (B : Nat) (w : World) : ShelfFr B w (.agg #[.int .u8 0, .int .u16 0, .int .u16 0, .slice none 0 0]) emptySh :=
  ⟨none, 0, 0, [], rfl, ⟨⟨rfl, .inl rfl, by simp⟩, rfl, Nat.le_refl _, by decide, by decide, by decide, emptySh_small⟩, ⟨fun h => absurd rfl h, by simp⟩⟩
section
variable {w : World}
set_option maxHeartbeats 2000000 in
theorem new_is (hc : ClsAt w) (k : Nat) (hk : k < 256) : Calls Tryd.prog 16 #[.int .u8 (k : Int)] w fun e w' => ShPost w (newS k) (newE k) e w' := by
  have hR := (Held.start w).alloc #[.int .u8 0, .int .u16 0, .int .u16 0, .slice none 0 0] 25
  obtain ⟨W, hW⟩ : ∃ W, W = w.alloc (.cells #[.int .u8 0, .int .u16 0, .int .u16 0, .slice none 0 0] 25) := ⟨_, rfl⟩
  obtain ⟨g, hg⟩ : ∃ g, g = w.heap.size := ⟨_, rfl⟩
  rw [← hW, ← hg] at hR
  have HR := Lib.hid hR
  have HW := Lib.hid hW
  have HG := Lib.hid hg
  have HP : Hid (∀ w', Below W.heap.size W w' → Calls Tryd.prog 17 #[.int .u8 (k : Int)] w' fun e w'' => e = .returned (.int .i64 (placesL k : Int)) ∧ Below w'.heap.size w' w'') := Lib.hid (fun w' hb => places_is ((hc.below hR.below).below hb) k hk)
  have HE : Hid (newE k = if placesL k = 0 then 2 else 0) := Lib.hid rfl
  have HN : Hid (newS k = if placesL k = 0 then emptySh else ⟨k, 0, 0, List.replicate (placesL k) (0, [])⟩) := Lib.hid rfl
  have HSM := Lib.hid (newS_small k)
  generalize newE k = E at HE ⊢
  generalize newS k = s at HN HSM ⊢
  have hpl := placesL_le k
  generalize placesL k = p at HP HE HN hpl
  clear hW hg hR hc
  go_enter Tryd.func16, Tryd.ntmps16
  go_upto_region 1 with (fail)
  rw [← HW.out, ← HG.out]
  go_wp2_with fail
  refine (HP.out _ (Below.refl _ _)).mono ?_
  rintro e w1 ⟨rfl, hb⟩
  have R1 := Lib.hid (HR.out.call hb)
  have HB1 := Lib.hid hb
  clear hb
  by_cases h0 : p = 0
  · subst h0
    have HE2 := Lib.hid (HE.out.trans (if_pos rfl))
    have HN2 := Lib.hid (HN.out.trans (if_pos rfl))
    clear HE HN
    obtain ⟨⟨c0, c1, c2, c3⟩, f0, f1, f2, f3⟩ := R1.out.cells4 0 rfl
    go_wp2_with fail
    have R2 := R1.out.store4 0 rfl (.int .u8 0) (.int .u16 0) (.int .u16 0) (.slice none 0 0)
    refine bodyPost_ret (v := .tuple #[.agg #[.int .u8 0, .int .u16 0, .int .u16 0, .slice none 0 0], .int .i64 2]) (results_cell_slot rfl _ _ g 25 _ (0, 0) _ _ rfl rfl (R2.get 0 rfl) Tryd.underlying25 rfl sizeShelf) rfl ?_
    exact ⟨_, by rw [HE2.out], by rw [HN2.out]; exact emptySh_in _ _, R2.below⟩
  · have h0' : ((p : Int) == 0) = false := by simp; omega
    have HE2 := Lib.hid (HE.out.trans (if_neg h0))
    have HN2 := Lib.hid (HN.out.trans (if_neg h0))
    clear HE HN
    go_wp2_with fail
    refine (HP.out _ HB1.out).mono ?_
    rintro e w2 ⟨rfl, hb⟩
    have R2 := Lib.hid (R1.out.call hb)
    clear hb
    obtain ⟨i, hi, hz, hs2, hby⟩ := info_parts infoCell
    have HI := Lib.hid hi
    have HZ := Lib.hid hz
    clear hi hz
    have q1 := R2.out.alloc (madeCells #[.int .u64 0, .slice none 0 0] (p * 2)) 41
    obtain ⟨W3, hW3⟩ : ∃ W3, W3 = w2.alloc (.cells (madeCells #[.int .u64 0, .slice none 0 0] (p * 2)) 41) := ⟨_, rfl⟩
    obtain ⟨gc, hgc⟩ : ∃ gc, gc = w2.heap.size := ⟨_, rfl⟩
    rw [← hW3, ← hgc] at q1
    have R3 := Lib.hid q1
    have HW3 := Lib.hid hW3
    have HGC := Lib.hid hgc
    obtain ⟨⟨c0, c1, c2, c3⟩, f0, f1, f2, f3⟩ := q1.cells4 1 rfl
    clear hW3 hgc q1
    go_wp2_with (refine wpList_make rfl 23 41 _ _ i _ p 2 32 Tryd.underlying23 HI.out HZ.out hs2 hby rfl rfl rfl (by omega) (by decide) (by decide) ?_; rw [show (Value.agg #[.int .u64 0, .slice none 0 0]).cells = #[.int .u64 0, .slice none 0 0] from rfl, ← HW3.out, ← HGC.out])
    have R4 := R3.out.store4 1 rfl (.int .u8 (k : Int)) (.int .u16 0) (.int .u16 0) (.slice (some ⟨gc, 0, none⟩) p p)
    refine bodyPost_ret (v := .tuple #[.agg (shV ⟨k, 0, 0, List.replicate p (0, [])⟩ (some ⟨gc, 0, none⟩) p p), .int .i64 0]) (results_cell_slot rfl _ _ g 25 _ (0, 0) _ _ rfl rfl (R4.get 1 rfl) Tryd.underlying25 rfl sizeShelf) rfl ?_
    refine ⟨_, by rw [HE2.out], ?_, R4.below⟩
    rw [HN2.out]
    refine ⟨_, _, _, freshL p, rfl, ⟨⟨by simp [freshL], .inr ⟨gc, 0, rfl, R4.lt 0 rfl, fun j hj m v hv => ?_⟩, fun x hx => ?_⟩, by simp [freshL, CellH.dat], Nat.le_refl _, hk, Nat.zero_lt_of_lt (show 0 < 65536 by decide), Nat.zero_lt_of_lt (show 0 < 65536 by decide), by have := HSM.out; rwa [HN2.out] at this⟩, ⟨fun _ a ha => by cases ha; exact R4.ge 0 rfl, fun x hx hd => absurd (by rw [List.eq_of_mem_replicate hx]) hd⟩⟩
    · obtain ⟨h1, h2⟩ := rowHas_made p j hj
      rw [Nat.zero_add]
      match m, hv with
      | 0, hv => rw [Nat.add_zero, cell_of_row _ _ _ _ _ _ (R4.get 0 rfl), h1]; exact hv
      | 1, hv => rw [cell_of_row _ _ _ _ _ _ (R4.get 0 rfl), h2]; exact hv
      | m + 2, hv => simp [cellV] at hv
    · have := List.eq_of_mem_replicate hx
      rw [this]
      exact ⟨rfl, Nat.le_refl _, by decide, .inl rfl⟩
end
theorem put_perm (hs : List CellH) (p : Nat) (hp : p < hs.length) (x : CellH) (l : List Thing) : List.Perm (datT x :: (hs.map datT ++ l)) ((hs.set p x).map datT ++ (datT hs[p] :: l)) := by
  have e1 : hs = hs.take p ++ hs[p] :: hs.drop (p + 1) := by rw [← List.drop_eq_getElem_cons hp, List.take_append_drop]
  have e2 : hs.set p x = hs.take p ++ x :: hs.drop (p + 1) := by rw [List.set_eq_take_append_cons_drop, if_pos hp]
  generalize hs[p] = y at e1
  rw [e2]
  generalize hs.take p = A at *
  generalize hs.drop (p + 1) = B at *
  rw [e1]
  simp only [List.map_append, List.map_cons, List.append_assoc, List.cons_append]
  have q1 : List.Perm (datT x :: (A.map datT ++ datT y :: (B.map datT ++ l))) (A.map datT ++ datT x :: datT y :: (B.map datT ++ l)) := List.perm_middle.symm
  refine q1.trans (List.Perm.append_left _ (List.Perm.cons _ ?_))
  exact List.perm_middle.symm
theorem OwnSh.put {w0 W W' : World} {s : ShL} {gc c : Nat} {cur cur' : Array Value} {hs : List CellH} {l : List Thing} (h : OwnSh w0 W s gc c cur hs l) (p : Nat) (hp : p < hs.length) (x : CellH)
    (R : Held w0 W' (rowT gc cur' 41 :: (datT x :: (hs.map datT ++ l)))) (hrow : RowHas cur' (hs.set p x)) (h4 : x.data.length ≤ 400) (hser : x.ser < 18446744073709551616) : OwnSh w0 W' (putC s p x.dat) gc c cur' (hs.set p x) (datT hs[p] :: l) := by
  refine ⟨R.perm (List.Perm.cons _ (put_perm hs p hp x l)), hrow, ?_, by rw [List.length_set]; exact h.cap, ?_, h.cl, h.prev, h.next, putC_small h.small _ _ h4⟩
  · unfold putC
    rw [List.map_set, h.dat]
  · intro y hy
    rcases List.mem_or_eq_of_mem_set hy with h1 | rfl
    · exact h.ser y h1
    · exact hser
theorem OwnSh.putCell {w0 W W' : World} {s : ShL} {gc c : Nat} {cur : Array Value} {hs : List CellH} {l : List Thing} (h : OwnSh w0 W s gc c cur hs l) (p : Nat) (hp : p < hs.length) (x : CellH)
    (R : Held w0 W' (datT x :: rowT gc cur 41 :: (hs.map datT ++ l))) (h4 : x.data.length ≤ 400) (hser : x.ser < 18446744073709551616) :
    OwnSh w0 ((W'.setCell ⟨gc, p * 2, none⟩ (.int .u64 (x.ser : Int))).setCell ⟨gc, p * 2 + 1, none⟩ (.slice x.A x.m x.c)) (putC s p x.dat) gc c ((cur.setIfInBounds (p * 2) (.int .u64 (x.ser : Int))).setIfInBounds (p * 2 + 1) (.slice x.A x.m x.c)) (hs.set p x) (datT hs[p] :: l) := by
  have R2 := (R.setCell 1 (p * 2) (.int .u64 (x.ser : Int)) rfl).setCell 1 (p * 2 + 1) (.slice x.A x.m x.c) rfl
  simp only [List.set_cons_succ, List.set_cons_zero] at R2
  exact h.put p hp x (R2.perm (.swap _ _ _)) (h.row.set p hp x) h4 hser
/-- A cell with nothing owns nothing. -/
theorem Held.none_dat {w0 W : World} {l : List Thing} (R : Held w0 W l) (x : CellH) (h : x.data = []) (hm : x.m = 0) : Held w0 W (datT x :: l) :=
  R.more (Below.refl _ _) (F := []) ⟨by rw [h, hm]; rfl, by omega, .inl ⟨h, rfl⟩⟩ (by simp) (by simp)
/-- Behind a copy, with the variables ahead of it. -/
theorem own_join {w0 W W' : World} {s : ShL} {gc c : Nat} {cur : Array Value} {hs : List CellH} {l : List Thing} (R : Held w0 W l) (h : OwnSh W W' s gc c cur hs []) : OwnSh w0 W' s gc c cur hs l :=
  ⟨by have := R.join h.held; simpa using this, h.row, h.dat, h.cap, h.ser, h.cl, h.prev, h.next, h.small⟩
theorem OwnSh.turnTail {w0 W W' : World} {s : ShL} {gc c : Nat} {cur : Array Value} {hs : List CellH} {l l' : List Thing} (h : OwnSh w0 W s gc c cur hs l) (R : Held w0 W' (rowT gc cur 41 :: (hs.map datT ++ l'))) : OwnSh w0 W' s gc c cur hs l' :=
  ⟨R, h.row, h.dat, h.cap, h.ser, h.cl, h.prev, h.next, h.small⟩
theorem own_at {hs : List CellH} {l : List Thing} {x : Thing} (k : Nat) {y : Thing} (h : l[k]? = some y) : (x :: (hs.map datT ++ l))[hs.length + 1 + k]? = some y := by
  rw [show hs.length + 1 + k = (hs.length + k) + 1 by omega, List.getElem?_cons_succ, List.getElem?_append_right (by rw [List.length_map]; omega), List.length_map, show hs.length + k - hs.length = k by omega]
  exact h
theorem own_set {hs : List CellH} {l : List Thing} {x : Thing} (k : Nat) (y : Thing) : (x :: (hs.map datT ++ l)).set (hs.length + 1 + k) y = x :: (hs.map datT ++ l.set k y) := by
  rw [show hs.length + 1 + k = (hs.length + k) + 1 by omega, List.set_cons_succ, List.set_append_right _ _ (by rw [List.length_map]; omega), List.length_map, show hs.length + k - hs.length = k by omega]
section
variable {w : World}
set_option maxHeartbeats 4000000 in
theorem give_is (hc : ClsAt w) {s : ShL} {v : Value} (hs : ShelfIn w v s) (place : Int) (ser : Nat) :
    Calls Tryd.prog 14 #[v, .int .i64 place, .int .u64 (ser : Int)] w fun e w' => ShPost w (giveS s place ser) (findE s place ser) e w' := by
  obtain ⟨A, n, c, l, rfl, hs⟩ := hs
  have hR := ((Held.start w).alloc (shV s A n c) 25).alloc #[.int .u8 0, .int .u16 0, .int .u16 0, .slice none 0 0] 25
  obtain ⟨W, hW⟩ : ∃ W, W = (w.alloc (.cells (shV s A n c) 25)).alloc (.cells #[.int .u8 0, .int .u16 0, .int .u16 0, .slice none 0 0] 25) := ⟨_, rfl⟩
  obtain ⟨g, hg⟩ : ∃ g, g = w.heap.size := ⟨_, rfl⟩
  rw [← hW, show (w.alloc (.cells (shV s A n c) 25)).heap.size = g + 1 by rw [hg]; simp, ← hg] at hR
  have HR := Lib.hid hR
  have HW := Lib.hid hW
  have HG := Lib.hid hg
  have HS := Lib.hid hs
  have HFN := Lib.hid (find_is (w := W) (hc.below hR.below) ⟨A, n, c, l, rfl, hs.below hR.below⟩ place ser)
  have HFE : Hid (findE s place ser = 0 → mayL s = true ∧ 0 ≤ place ∧ place < s.cells.length ∧ ser ≠ 0 ∧ (s.cells.getD place.toNat (0, [])).1 = ser) := Lib.hid findE_zero
  have HGV : Hid (giveS s place ser = if findE s place ser = 0 then putC s place.toNat (0, []) else emptySh) := Lib.hid rfl
  generalize giveS s place ser = sg at HGV ⊢
  generalize findE s place ser = E at HFE HFN HGV ⊢
  obtain ⟨⟨a0, a1, a2, a3⟩, _, _, _, _⟩ := hR.cells4 1 rfl
  clear hR hW hg hs hc
  go_enter Tryd.func14, Tryd.ntmps14
  go_upto_region 1 with (fail)
  rw [← HW.out, ← HG.out]
  go_wp2_with fail
  refine HFN.out.mono ?_
  rintro e w1 ⟨rfl, hb⟩
  have R1 := Lib.hid (HR.out.call hb)
  clear hb a0 a1 a2 a3 HFN
  by_cases hE : E = 0
  · subst hE
    have HGV2 := Lib.hid (HGV.out.trans (if_pos rfl))
    obtain ⟨_, hp0, hp1, _, _⟩ := HFE.out rfl
    obtain ⟨p, rfl⟩ : ∃ p : Nat, place = (p : Int) := ⟨place.toNat, by omega⟩
    have hne : s.cells ≠ [] := by intro h; rw [h] at hp1; simp at hp1; omega
    have HP1 := Lib.hid hp1
    have HNE := Lib.hid hne
    clear HGV HFE hp0 hp1 hne
    obtain ⟨⟨a0, a1, a2, a3⟩, b0, b1, b2, b3⟩ := R1.out.cells4 1 rfl
    go_wp2_with fail
    refine (copied_is (w := w1) ⟨A, n, c, l, rfl, HS.out.below R1.out.below⟩).mono ?_
    rintro e w2 ⟨v2, rfl, h2⟩
    obtain ⟨gc, c2, cur, hs2, rfl, ho⟩ := h2.resolve_left (fun h => HNE.out h.1)
    have O2 := Lib.hid (own_join R1.out ho)
    have HLE : Hid (hs2.length = s.cells.length) := Lib.hid (by rw [← ho.dat, List.length_map])
    clear h2 ho a0 a1 a2 a3 b0 b1 b2 b3
    obtain ⟨⟨a0, a1, a2, a3⟩, b0, b1, b2, b3⟩ := O2.out.held.cells4 (hs2.length + 1 + 1) (own_at 1 rfl)
    unfold shV
    go_upto_region 5 with (fail)
    have q3 := O2.out.held.store4 (hs2.length + 1 + 1) (own_at 1 rfl) (.int .u8 (s.cl : Int)) (.int .u16 (s.prev : Int)) (.int .u16 (s.next : Int)) (.slice (some ⟨gc, 0, none⟩) hs2.length c2)
    rw [own_set] at q3
    obtain ⟨W3, hW3⟩ : ∃ W3, W3 = (((w2.setCell ⟨g, 0, none⟩ (.int .u8 (s.cl : Int))).setCell ⟨g, 1, none⟩ (.int .u16 (s.prev : Int))).setCell ⟨g, 2, none⟩ (.int .u16 (s.next : Int))).setCell ⟨g, 3, none⟩ (.slice (some ⟨gc, 0, none⟩) hs2.length c2) := ⟨_, rfl⟩
    rw [← hW3] at q3 ⊢
    have O3 := Lib.hid (O2.out.turnTail q3)
    clear hW3 q3 O2 a0 a1 a2 a3 b0 b1 b2 b3
    have hpl : p < hs2.length := by have := HLE.out; have := HP1.out; omega
    obtain ⟨⟨a0, a1, a2, a3⟩, _, _, _, _⟩ := O3.out.held.cells4 (hs2.length + 1 + 1) (own_at 1 rfl)
    obtain ⟨h1, h2⟩ := O3.out.row p hpl
    have c0 := O3.out.held.cell 0 (p * 2) rfl h1
    have c1 := O3.out.held.cell 0 (p * 2 + 1) rfl h2
    have f0 := O3.out.held.free 0 (p * 2) rfl
    have f1 := O3.out.held.free 0 (p * 2 + 1) rfl
    clear h1 h2
    go_upto_region 6 with (fail)
    have q4 := O3.out.putCell p hpl ⟨0, none, 0, 0, []⟩ (O3.out.held.none_dat ⟨0, none, 0, 0, []⟩ rfl rfl) (by simp) (by decide)
    obtain ⟨W4, hW4⟩ : ∃ W4, W4 = (W3.setCell ⟨gc, p * 2, none⟩ (.int .u64 0)).setCell ⟨gc, p * 2 + 1, none⟩ (.slice none 0 0) := ⟨_, rfl⟩
    have O4 : Hid (OwnSh w W4 (putC s p (0, [])) gc c2 _ (hs2.set p ⟨0, none, 0, 0, []⟩) _) := Lib.hid (hW4 ▸ q4)
    rw [← hW4]
    clear hW4 q4 O3 a0 a1 a2 a3 c0 c1 f0 f1
    rw [Int.toNat_natCast] at HGV2
    have HLN : Hid ((hs2.set p ⟨0, none, 0, 0, []⟩).length = hs2.length) := Lib.hid (by simp)
    generalize hs2.set p ⟨0, none, 0, 0, []⟩ = hs3 at O4 HLN
    obtain ⟨⟨a0, a1, a2, a3⟩, _, _, _, _⟩ := O4.out.held.cells4 (hs3.length + 1 + 2) (own_at 2 rfl)
    obtain ⟨⟨e0, e1, e2, e3⟩, b0, b1, b2, b3⟩ := O4.out.held.cells4 (hs3.length + 1 + 1) (own_at 1 rfl)
    go_wp2_with fail
    have q5 := O4.out.held.store4 (hs3.length + 1 + 1) (own_at 1 rfl) (.int .u8 (s.cl : Int)) (.int .u16 (s.prev : Int)) (.int .u16 (s.next : Int)) (.slice (some ⟨gc, 0, none⟩) hs2.length c2)
    rw [own_set] at q5
    have O5 := O4.out.turnTail q5
    refine bodyPost_ret (v := .tuple #[.agg #[.int .u8 (s.cl : Int), .int .u16 (s.prev : Int), .int .u16 (s.next : Int), .slice (some ⟨gc, 0, none⟩) hs2.length c2], .int .i64 0]) (results_cell_slot rfl _ _ (g + 1) 25 _ (0, 0) _ _ rfl rfl (O5.held.get (hs3.length + 1 + 1) (own_at 1 rfl)) Tryd.underlying25 rfl sizeShelf) rfl ?_
    have hsf := O5.shelf
    rw [HLN.out] at hsf
    exact ⟨_, rfl, by rw [HGV2.out]; exact ⟨_, _, _, _, rfl, hsf, HLN.out ▸ O5.fresh⟩, O5.held.below⟩
  · have HGV2 := Lib.hid (HGV.out.trans (if_neg hE))
    have hE' : (E != 0) = true := by simpa using hE
    obtain ⟨⟨a0, a1, a2, a3⟩, b0, b1, b2, b3⟩ := R1.out.cells4 0 rfl
    go_wp2_with fail
    have R2 := R1.out.store4 0 rfl (.int .u8 0) (.int .u16 0) (.int .u16 0) (.slice none 0 0)
    refine bodyPost_ret (v := .tuple #[.agg #[.int .u8 0, .int .u16 0, .int .u16 0, .slice none 0 0], .int .i64 E]) (results_cell_slot rfl _ _ (g + 1) 25 _ (0, 0) _ _ rfl rfl (R2.get 0 rfl) Tryd.underlying25 rfl sizeShelf) rfl ?_
    exact ⟨_, rfl, by rw [HGV2.out]; exact emptySh_in _ _, R2.below⟩
end
end Go.Proofs.YtcepfmjebgklfaaDoor
