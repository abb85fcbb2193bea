/- Shelves in memory: what a shelf is there; May. -/
import Derived.Test.YtcepfmjebgklfaaDoorSh
import Derived.Test.YtcepfmjebgklfaaDoorRead4
namespace Go.Proofs.YtcepfmjebgklfaaDoor
open Go.RowKit
set_option linter.unusedSimpArgs false
set_option linter.unusedVariables false
set_option maxRecDepth 100000
/-- Some bytes stand behind a slice. -/
def BytesIn (w : World) (A : Option Addr) (b : List UInt8) : Prop := b = [] ∨ ∃ g off, A = some ⟨g, off, none⟩ ∧ g < w.heap.size ∧ BytesAt w g off b
theorem BytesAt.under {w w' : World} {g off : Nat} {b : List UInt8} (h : BytesAt w g off b) (hg : g < w.heap.size) (hb : Below w.heap.size w w') : BytesAt w' g off b := by
  intro j hj
  have h1 := h j hj
  rw [List.getElem?_eq_getElem hj] at h1 ⊢
  exact (hb.cell hg).trans h1
theorem BytesIn.below {w w' : World} {A : Option Addr} {b : List UInt8} (h : BytesIn w A b) (hb : Below w.heap.size w w') : BytesIn w' A b := by
  rcases h with h | ⟨g, off, rfl, h1, h2⟩
  · exact .inl h
  · exact .inr ⟨g, off, rfl, Nat.lt_of_lt_of_le h1 hb.size, h2.under h1 hb⟩
/-- A cell as it stands in memory: its number, its bytes' slice, the bytes. -/
structure CellH where
  ser : Nat
  A : Option Addr
  m : Nat
  c : Nat
  data : List UInt8
def cellV (x : CellH) : Array Value := #[.int .u64 (x.ser : Int), .slice x.A x.m x.c]
def CellH.dat (x : CellH) : Nat × List UInt8 := (x.ser, x.data)
structure CellOk (w : World) (x : CellH) : Prop where
  len : x.data.length = x.m
  cap : x.m ≤ x.c
  ser : x.ser < 18446744073709551616
  by_ : BytesIn w x.A x.data
theorem CellOk.below {w w' : World} {x : CellH} (h : CellOk w x) (hb : Below w.heap.size w w') : CellOk w' x := ⟨h.len, h.cap, h.ser, h.by_.below hb⟩
structure CellsIn (w : World) (A : Option Addr) (n : Nat) (l : List CellH) : Prop where
  len : l.length = n
  at_ : n = 0 ∨ ∃ b off, A = some ⟨b, off, none⟩ ∧ b < w.heap.size ∧ ∀ i, (hi : i < l.length) → w.rangeAt b (off + i * 2) (cellV l[i]).toList
  ok : ∀ x ∈ l, CellOk w x
theorem CellsIn.below {w w' : World} {A : Option Addr} {n : Nat} {l : List CellH} (h : CellsIn w A n l) (hb : Below w.heap.size w w') : CellsIn w' A n l := by
  refine ⟨h.len, ?_, fun x hx => (h.ok x hx).below hb⟩
  rcases h.at_ with h0 | ⟨b, off, rfl, h1, h2⟩
  · exact .inl h0
  · exact .inr ⟨b, off, rfl, Nat.lt_of_lt_of_le h1 hb.size, fun i hi => rangeAt_below (h2 i hi) h1 hb⟩
theorem CellsIn.cells {w : World} {A : Option Addr} {n : Nat} {l : List CellH} (h : CellsIn w A n l) (i : Nat) (hi : i < l.length) : ∃ b off, A = some ⟨b, off, none⟩ ∧ b < w.heap.size ∧ w.rangeAt b (off + i * 2) (cellV l[i]).toList := by
  rcases h.at_ with h0 | ⟨b, off, e, h1, h2⟩
  · have := h.len; omega
  · exact ⟨b, off, e, h1, h2 i hi⟩
def shV (s : ShL) (A : Option Addr) (n c : Nat) : Array Value := #[.int .u8 (s.cl : Int), .int .u16 (s.prev : Int), .int .u16 (s.next : Int), .slice A n c]
/-- A shelf's value, and what stands behind it. -/
structure ShelfOf (w : World) (s : ShL) (A : Option Addr) (n c : Nat) (l : List CellH) : Prop where
  cells : CellsIn w A n l
  dat : l.map CellH.dat = s.cells
  cap : n ≤ c
  cl : s.cl < 256
  prev : s.prev < 65536
  next : s.next < 65536
  small : smallL s
def ShelfIn (w : World) (v : Value) (s : ShL) : Prop := ∃ A n c l, v = .agg (shV s A n c) ∧ ShelfOf w s A n c l
theorem ShelfOf.below {w w' : World} {s : ShL} {A : Option Addr} {n c : Nat} {l : List CellH} (h : ShelfOf w s A n c l) (hb : Below w.heap.size w w') : ShelfOf w' s A n c l := ⟨h.cells.below hb, h.dat, h.cap, h.cl, h.prev, h.next, h.small⟩
theorem ShelfIn.below {w w' : World} {v : Value} {s : ShL} (h : ShelfIn w v s) (hb : Below w.heap.size w w') : ShelfIn w' v s := by
  obtain ⟨A, n, c, l, e, h⟩ := h
  exact ⟨A, n, c, l, e, h.below hb⟩
theorem ShelfOf.len {w : World} {s : ShL} {A : Option Addr} {n c : Nat} {l : List CellH} (h : ShelfOf w s A n c l) : s.cells.length = n := by
  rw [← h.dat, List.length_map]; exact h.cells.len
theorem ShelfOf.le30 {w : World} {s : ShL} {A : Option Addr} {n c : Nat} {l : List CellH} (h : ShelfOf w s A n c l) : n ≤ 30 := by
  rw [← h.len]; exact h.small.1
theorem ShelfOf.data400 {w : World} {s : ShL} {A : Option Addr} {n c : Nat} {l : List CellH} (h : ShelfOf w s A n c l) : ∀ x ∈ l, x.m ≤ 400 := by
  intro x hx
  rw [← (h.cells.ok x hx).len]
  exact h.small.2 x.dat (by rw [← h.dat]; exact List.mem_map_of_mem hx)
section
variable {w : World}
set_option maxHeartbeats 1000000 in
theorem maycl_is (hc : ClsAt w) (k : Nat) (hk : k < 256) (gb : Nat) (hgb : w.cell? ⟨gb, 0, none⟩ = some (.int .u8 (k : Int))) (hlt : gb < w.heap.size) (x : CellH) (hx : CellOk w x) :
    Calls Tryd.prog 56 #[.agg (cellV x), .pointer (some ⟨gb, 0, none⟩)] w fun e w' => e = .returned (.bool (!cellOk k x.dat)) ∧ Below w.heap.size w w' := by
  obtain ⟨W, hW⟩ : ∃ W, W = w.alloc (.cells (cellV x) 41) := ⟨_, rfl⟩
  have hR := (Rows.start w).alloc (cellV x) 41
  rw [← hW] at hR
  obtain ⟨g, hg⟩ : ∃ g, g = w.heap.size := ⟨_, rfl⟩
  have HC : Hid (ClsAt W) := Lib.hid (hc.below hR.below)
  have d0 : W.cell? ⟨gb, 0, none⟩ = some (.int .u8 (k : Int)) := (hR.below.cell hlt).trans hgb
  rw [← hg] at hR
  have HR := Lib.hid hR
  have HW := Lib.hid hW
  have HG := Lib.hid hg
  obtain ⟨ser, A, m, c, data⟩ := x
  have hlen : data.length = m := hx.len
  have c0 : W.cell? ⟨g, 0, none⟩ = some (.int .u64 (ser : Int)) := HR.out.cell 0 0 rfl rfl
  have c1 : W.cell? ⟨g, 1, none⟩ = some (.slice A m c) := HR.out.cell 0 1 rfl rfl
  have HOF : Hid (∀ w', Below W.heap.size W w' → Calls Tryd.prog 28 #[.int .u8 (k : Int), .int .i64 (m : Int)] w' fun e w'' => e = .returned (.bool (ofL k (m : Int))) ∧ Below w'.heap.size w' w'') := Lib.hid (fun w' hb => of_is (HC.out.below hb) k hk m)
  have HF := Lib.hid hlen
  have hco : cellOk k (CellH.dat ⟨ser, A, m, c, data⟩) = if ser = 0 then decide (m = 0) else decide (ser ≤ 8796093022207) && ofL k (m : Int) := by
    unfold cellOk CellH.dat
    simp only [hlen]
    congr 1
    rw [← hlen, Bool.eq_iff_iff]
    simp
  rw [hco]
  clear hW hg hc hR hx hgb hco hlen
  by_cases h0 : ser = 0
  · subst h0
    rw [if_pos rfl]
    by_cases hm : m = 0
    · subst hm
      go_enter Tryd.func56, Tryd.ntmps56
      go_upto_region 1 with (fail)
      rw [← HW.out, ← HG.out]
      go_wp2_with fail
      go_ret
      exact ⟨rfl, HR.out.below⟩
    · have hm' : ((m : Int) == 0) = false := by simp; omega
      rw [decide_eq_false hm]
      clear hm
      go_enter Tryd.func56, Tryd.ntmps56
      go_upto_region 1 with (fail)
      rw [← HW.out, ← HG.out]
      go_wp2_with fail
      go_ret
      exact ⟨rfl, HR.out.below⟩
  · have h0' : ((ser : Int) == 0) = false := by simp; omega
    rw [if_neg h0]
    by_cases h1 : 8796093022207 < ser
    · have h1' : decide ((8796093022207 : Int) < (ser : Int)) = true := by simp; omega
      rw [show decide (ser ≤ 8796093022207) = false by simp; omega]
      clear h1 h0
      go_enter Tryd.func56, Tryd.ntmps56
      go_upto_region 1 with (fail)
      rw [← HW.out, ← HG.out]
      go_wp2_with fail
      go_ret
      exact ⟨rfl, HR.out.below⟩
    · have h1' : decide ((8796093022207 : Int) < (ser : Int)) = false := by simp; omega
      rw [show decide (ser ≤ 8796093022207) = true by simp; omega]
      clear h1 h0
      rw [Bool.true_and]
      generalize ofL k (m : Int) = o at HOF ⊢
      go_enter Tryd.func56, Tryd.ntmps56
      go_upto_region 1 with (fail)
      rw [← HW.out, ← HG.out]
      go_wp2_with fail
      refine (HOF.out _ (Below.refl _ _)).mono ?_
      rintro e w1 ⟨rfl, hb⟩
      have HB := Lib.hid (HR.out.call hb)
      clear hb
      go_wp2_with fail
      go_ret
      exact ⟨rfl, HB.out.below⟩
def IdxPost (ok : Bool) (w : World) (e : Ending) (w' : World) : Prop := ∃ z : Int, e = .returned (.int .i64 z) ∧ decide (0 ≤ z) = !ok ∧ Below w.heap.size w w'
set_option maxHeartbeats 1000000 in
theorem index_is (hc : ClsAt w) (k : Nat) (hk : k < 256) (gb : Nat) (hgb : w.cell? ⟨gb, 0, none⟩ = some (.int .u8 (k : Int))) (hlt : gb < w.heap.size) (A : Option Addr) (n c : Nat) (l : List CellH) (hl : CellsIn w A n l) (hn : n ≤ 30) :
    Calls Tryd.prog 77 #[.slice A n c, .func (.func 56) #[] #[.pointer (some ⟨gb, 0, none⟩)]] w fun e w' => IdxPost (cellsOk k (l.map CellH.dat)) w e w' := by
  have HC := Lib.hid hc
  have HGB := Lib.hid hgb
  have HLT := Lib.hid hlt
  have HL := Lib.hid hl
  clear hc hgb hlt hl
  go_enter Tryd.func77, Tryd.ntmps77
  go_wp2_with fail
  go_loopw [5, 8] (fun _ i wr => ∃ j : Nat, j ≤ n ∧ i = .int .i64 (j : Int) ∧ Below w.heap.size w wr ∧ cellsOk k ((l.map CellH.dat).take j) = true) (fun _ i _ => n - (intOf i).toNat)
  case atStart => exact ⟨0, by omega, rfl, Below.refl _ _, rfl⟩
  case round =>
    obtain ⟨j, hj, rfl, hb, hall⟩ := hrel
    have HB := Lib.hid hb
    have HA := Lib.hid hall
    clear hb hall
    by_cases hlt : j < n
    · have hjl : j < l.length := by rw [HL.out.len]; exact hlt
      obtain ⟨b, off, hA, hb, hr⟩ := HL.out.cells j hjl
      subst hA
      have hx := HL.out.ok _ (List.getElem_mem hjl)
      have hs : cellsOk k ((l.map CellH.dat).take (j + 1)) = cellOk k (l[j]).dat := by
        unfold cellsOk at HA ⊢
        rw [List.take_succ_eq_append_getElem (by rw [List.length_map]; exact hjl), List.all_append, HA.out]
        simp
      have ha : cellOk k (l[j]).dat = false → cellsOk k (l.map CellH.dat) = false := by
        intro h
        unfold cellsOk
        rw [List.all_eq_false]
        exact ⟨(l[j]).dat, List.mem_map_of_mem (List.getElem_mem hjl), by simpa using h⟩
      generalize l[j] = x at hr hx hs ha
      have HS := Lib.hid hs
      have HAL := Lib.hid ha
      have HX := Lib.hid (hx.below HB.out)
      have c0 : wr.cell? ⟨b, off + j * 2, none⟩ = some (.int .u64 (x.ser : Int)) := (HB.out.cell hb).trans (hr 0 _ (show (cellV x).toList[0]? = some (.int .u64 (x.ser : Int)) from rfl))
      have c1 : wr.cell? ⟨b, off + j * 2 + 1, none⟩ = some (.slice x.A x.m x.c) := (HB.out.cell hb).trans (hr 1 _ (show (cellV x).toList[1]? = some (.slice x.A x.m x.c) from rfl))
      clear hr hx hs ha hb
      go_wp2_with fail
      refine (maycl_is (HC.out.below HB.out) k hk gb ((HB.out.cell HLT.out).trans HGB.out) (Nat.lt_of_lt_of_le HLT.out HB.out.size) x HX.out).mono ?_
      rintro e w1 ⟨rfl, hb⟩
      have HB2 := Lib.hid (HB.out.trans (hb.mono HB.out.size))
      clear hb
      cases ho : cellOk k x.dat with
      | true =>
        rw [ho] at HS
        clear ho
        go_wp2_with fail
        go_roundw
        case rel => exact ⟨j + 1, by omega, by go_num, HB2.out, HS.out⟩
        case measure => simp [intOf]; omega
      | false =>
        have HF := Lib.hid (HAL.out ho)
        clear ho
        go_wp2_with fail
        go_ret
        exact ⟨j, rfl, by rw [HF.out]; simp, HB2.out⟩
    · obtain rfl : j = n := by omega
      have HF : Hid (cellsOk k (l.map CellH.dat) = true) := Lib.hid (by
        have := HA.out
        rw [List.take_of_length_le (by rw [List.length_map, HL.out.len]; omega)] at this
        exact this)
      go_wp2_with fail
      go_ret
      exact ⟨-1, rfl, by rw [HF.out]; rfl, HB.out⟩
theorem contains_is (hc : ClsAt w) (k : Nat) (hk : k < 256) (gb : Nat) (hgb : w.cell? ⟨gb, 0, none⟩ = some (.int .u8 (k : Int))) (hlt : gb < w.heap.size) (A : Option Addr) (n c : Nat) (l : List CellH) (hl : CellsIn w A n l) (hn : n ≤ 30) :
    Calls Tryd.prog 55 #[.slice A n c, .func (.func 56) #[] #[.pointer (some ⟨gb, 0, none⟩)]] w fun e w' => e = .returned (.bool (!cellsOk k (l.map CellH.dat))) ∧ Below w.heap.size w w' := by
  have HI := Lib.hid (index_is hc k hk gb hgb hlt A n c l hl hn)
  clear hc hgb hlt hl
  go_enter Tryd.func55, Tryd.ntmps55
  go_wp2_with fail
  refine HI.out.mono ?_
  rintro e w1 ⟨z, rfl, hz, hb⟩
  have HB := Lib.hid hb
  have HZ := Lib.hid hz
  clear hb hz
  go_wp2_with fail
  go_ret
  exact ⟨by rw [← HZ.out]; rfl, HB.out⟩
section
variable {P : Program} {ops : Array Oper} {C : World → Prop} {o : Oper} {a : Act} {rest : List Oper} {Q : Act → Prop}
theorem wk_max16 (x y : Operand) (ts : Array TypeId) (m n : Int) (hw : Region.wanted o (yielded ops a.tmps) = true) (ho : o.op = .call { callee := .builtin .max, args := #[x, y], argTypes := ts })
    (hx : a.eval x = .int .u16 m) (hy : a.eval y = .int .u16 n) (h : WQ P ops C Q rest (a.put o.dst (.int .u16 (max m n)))) : WQ P ops C Q (o :: rest) a :=
  wk_val _ hw (fun w _ => by
    unfold execOp
    simp [ho, hx, hy, resolve, invoke, builtin, Builtin.max_, Builtin.max2]
    split <;> omega) h
end
set_option maxHeartbeats 1000000 in
theorem may_is (hc : ClsAt w) {s : ShL} {v : Value} (hs : ShelfIn w v s) :
    Calls Tryd.prog 27 #[v] w fun e w' => e = .returned (.bool (mayL s)) ∧ Below w.heap.size w w' := by
  obtain ⟨A, n, c, l, rfl, hs⟩ := hs
  obtain ⟨W, hW⟩ : ∃ W, W = w.alloc (.cells (shV s A n c) 25) := ⟨_, rfl⟩
  have hR := (Rows.start w).alloc (shV s A n c) 25
  rw [← hW] at hR
  obtain ⟨g, hg⟩ : ∃ g, g = w.heap.size := ⟨_, rfl⟩
  have HC : Hid (ClsAt W) := Lib.hid (hc.below hR.below)
  have HSH : Hid (ShelfOf W s A n c l) := Lib.hid (hs.below hR.below)
  rw [← hg] at hR
  have HR := Lib.hid hR
  have HW := Lib.hid hW
  have HG := Lib.hid hg
  have hcl := hs.cl
  have hn := hs.le30
  have hlen := hs.len
  have C0 : Hid (W.cell? ⟨g, 0, none⟩ = some (.int .u8 (s.cl : Int))) := Lib.hid (HR.out.cell 0 0 rfl rfl)
  have C1 : Hid (W.cell? ⟨g, 1, none⟩ = some (.int .u16 (s.prev : Int))) := Lib.hid (HR.out.cell 0 1 rfl rfl)
  have C2 : Hid (W.cell? ⟨g, 2, none⟩ = some (.int .u16 (s.next : Int))) := Lib.hid (HR.out.cell 0 2 rfl rfl)
  have C3 : Hid (W.cell? ⟨g, 3, none⟩ = some (.slice A n c)) := Lib.hid (HR.out.cell 0 3 rfl rfl)
  have HP : Hid (∀ w', Since W w' → Calls Tryd.prog 17 #[.int .u8 (s.cl : Int)] w' fun e w'' => e = .returned (.int .i64 (placesL s.cl : Int)) ∧ Below w'.heap.size w' w'') := Lib.hid (fun w' hb => places_is (HC.out.below hb) s.cl hcl)
  have HCT : Hid (∀ w', Since W w' → Calls Tryd.prog 55 #[.slice A n c, .func (.func 56) #[] #[.pointer (some ⟨g, 0, none⟩)]] w' fun e w'' => e = .returned (.bool (!cellsOk s.cl s.cells)) ∧ Below w'.heap.size w' w'') := Lib.hid (fun w' hb => by
    have := contains_is (HC.out.below hb) s.cl hcl g (hb.cell C0.out) (Nat.lt_of_lt_of_le (HR.out.lt 0 rfl) (show Below W.heap.size W w' from hb).size) A n c l (HSH.out.cells.below hb) hn
    rwa [hs.dat] at this)
  have hmf : ∀ (fn : Fn) (first cap : Array Value) (w : World), (Instr.makeFunc fn first cap).run Tryd.prog w = .ok (.func fn first cap) w := fun _ _ _ _ => rfl
  obtain ⟨p, hp⟩ : ∃ p, p = placesL s.cl := ⟨_, rfl⟩
  rw [← hp] at HP
  have hho : headOk s = (decide (p ≠ 0) && decide (n = p) && decide (s.prev < 32768 ∧ s.next < 32768)) := by unfold headOk; rw [hlen, ← hp]
  unfold mayL
  rw [hho]
  generalize cellsOk s.cl s.cells = ok at HCT ⊢
  have HH := Lib.hid hho
  clear hW hg hc hR hs hlen hho hp
  have HFIN : Hid (∀ W' : World, Since W W' → Below w.heap.size w W') := Lib.hid (fun _ h => (HR.out.since h).below)
  by_cases h0 : p = 0
  · subst h0
    go_enter Tryd.func27, Tryd.ntmps27
    go_upto_region 1 with (fail)
    rw [← HW.out, ← HG.out]
    refine wk_region_since (by kernel_rfl) (by kernel_rfl) ?_
    refine wk_field 25 _ 5 0 0 _ _ _ (by first | exact wanted_none rfl | exact wanted_yes _ _ rfl rfl) rfl (by kernel_rfl) (by kernel_rfl) (by kernel_rfl) rfl ?_
    simp only [Act.put, List.setIfInBounds_toArray, List.set_cons_zero, List.set_cons_succ, Nat.zero_add]
    refine wk_load1 _ _ _ _ _ rfl (by kernel_rfl) rfl rfl (fun w' hC => hC.cell C0.out) Tryd.underlying5 ?_
    simp only [Act.put, List.setIfInBounds_toArray, List.set_cons_zero, List.set_cons_succ]
    refine wk_call 17 _ _ _ _ _ (by kernel_rfl) rfl Tryd.func17 rfl (by kernel_rfl) (fun w' hC => hC.call (HP.out w' hC)) ?_
    simp only [Act.put, List.setIfInBounds_toArray, List.set_cons_zero, List.set_cons_succ]
    refine wk_eql_int true _ _ _ _ _ _ _ (by kernel_rfl) rfl rfl rfl (by decide) ?_
    simp only [Act.put, List.setIfInBounds_toArray, List.set_cons_zero, List.set_cons_succ]
    repeat (first
      | (refine wk_move _ (by first | exact wanted_none rfl | exact wanted_yes _ _ rfl rfl) rfl ?_; simp only [Act.put, Act.eval, Array.getD_eq_getD_getElem?, List.getElem?_toArray, List.getElem?_cons_succ, List.getElem?_cons_zero, Option.getD_some, List.setIfInBounds_toArray, List.set_cons_zero, List.set_cons_succ])
      | (refine wk_assign _ (by first | exact wanted_none rfl | exact wanted_yes _ _ rfl rfl) rfl ?_; simp only [Act.put, Act.eval, Array.getD_eq_getD_getElem?, List.getElem?_toArray, List.getElem?_cons_succ, List.getElem?_cons_zero, Option.getD_some, List.setIfInBounds_toArray, List.set_cons_zero, List.set_cons_succ])
      | (refine wk_pickt _ _ _ _ (by first | exact wanted_none rfl | exact wanted_yes _ _ rfl rfl) rfl rfl rfl ?_; simp only [Act.put, Act.eval, Array.getD_eq_getD_getElem?, List.getElem?_toArray, List.getElem?_cons_succ, List.getElem?_cons_zero, Option.getD_some, List.setIfInBounds_toArray, List.set_cons_zero, List.set_cons_succ])
      | (refine wk_pickf _ _ _ _ (by first | exact wanted_none rfl | exact wanted_yes _ _ rfl rfl) rfl rfl rfl ?_; simp only [Act.put, Act.eval, Array.getD_eq_getD_getElem?, List.getElem?_toArray, List.getElem?_cons_succ, List.getElem?_cons_zero, Option.getD_some, List.setIfInBounds_toArray, List.set_cons_zero, List.set_cons_succ])
      | (refine wk_skip (wanted_not _ true false rfl rfl rfl) ?_; simp only [Act.put, List.setIfInBounds_toArray, List.set_cons_zero, List.set_cons_succ])
      | (refine wk_skip (wanted_not _ false true rfl rfl rfl) ?_; simp only [Act.put, List.setIfInBounds_toArray, List.set_cons_zero, List.set_cons_succ])
      | (refine wk_skip (wanted_undef _ _ rfl rfl) ?_; simp only [Act.put, List.setIfInBounds_toArray, List.set_cons_zero, List.set_cons_succ])
      | (refine wk_not true _ _ (by first | exact wanted_none rfl | exact wanted_yes _ _ rfl rfl) rfl rfl ?_; simp only [Act.put, List.setIfInBounds_toArray, List.set_cons_zero, List.set_cons_succ])
      | (refine wk_not false _ _ (by first | exact wanted_none rfl | exact wanted_yes _ _ rfl rfl) rfl rfl ?_; simp only [Act.put, List.setIfInBounds_toArray, List.set_cons_zero, List.set_cons_succ]))
    refine wk_nil ?_
    intro w' hC
    have HB := Lib.hid (HFIN.out _ hC)
    clear hC
    go_wp2_with fail
    go_ret
    exact ⟨rfl, HB.out⟩
  · have h0' : ((p : Int) == 0) = false := by simp; omega
    have H0 := Lib.hid h0'
    by_cases h1 : n = p
    · subst h1
      by_cases h2 : s.prev < 32768 ∧ s.next < 32768
      · have HM : Hid (cmpInt .geq (max (s.prev : Int) (s.next : Int)) 32768 = some false) := Lib.hid (by simp [cmpInt]; omega)
        have hb : (decide (n ≠ 0) && decide (n = n) && decide (s.prev < 32768 ∧ s.next < 32768)) = true := by simp [h0, h2]
        rw [hb, Bool.true_and]
        clear hb h2
        go_enter Tryd.func27, Tryd.ntmps27
        go_upto_region 1 with (fail)
        rw [← HW.out, ← HG.out]
        refine wk_region_since (by kernel_rfl) (by kernel_rfl) ?_
        refine wk_field 25 _ 5 0 0 _ _ _ (by first | exact wanted_none rfl | exact wanted_yes _ _ rfl rfl) rfl (by kernel_rfl) (by kernel_rfl) (by kernel_rfl) rfl ?_
        simp only [Act.put, List.setIfInBounds_toArray, List.set_cons_zero, List.set_cons_succ, Nat.zero_add]
        refine wk_load1 _ _ _ _ _ rfl (by kernel_rfl) rfl rfl (fun w' hC => hC.cell C0.out) Tryd.underlying5 ?_
        simp only [Act.put, List.setIfInBounds_toArray, List.set_cons_zero, List.set_cons_succ]
        refine wk_call 17 _ _ _ _ _ (by kernel_rfl) rfl Tryd.func17 rfl (by kernel_rfl) (fun w' hC => hC.call (HP.out w' hC)) ?_
        simp only [Act.put, List.setIfInBounds_toArray, List.set_cons_zero, List.set_cons_succ]
        refine wk_eql_int false _ _ _ _ _ _ _ (by kernel_rfl) rfl rfl rfl (H0.out) ?_
        simp only [Act.put, List.setIfInBounds_toArray, List.set_cons_zero, List.set_cons_succ]
        repeat (first
          | (refine wk_move _ (by first | exact wanted_none rfl | exact wanted_yes _ _ rfl rfl) rfl ?_; simp only [Act.put, Act.eval, Array.getD_eq_getD_getElem?, List.getElem?_toArray, List.getElem?_cons_succ, List.getElem?_cons_zero, Option.getD_some, List.setIfInBounds_toArray, List.set_cons_zero, List.set_cons_succ])
          | (refine wk_assign _ (by first | exact wanted_none rfl | exact wanted_yes _ _ rfl rfl) rfl ?_; simp only [Act.put, Act.eval, Array.getD_eq_getD_getElem?, List.getElem?_toArray, List.getElem?_cons_succ, List.getElem?_cons_zero, Option.getD_some, List.setIfInBounds_toArray, List.set_cons_zero, List.set_cons_succ])
          | (refine wk_pickt _ _ _ _ (by first | exact wanted_none rfl | exact wanted_yes _ _ rfl rfl) rfl rfl rfl ?_; simp only [Act.put, Act.eval, Array.getD_eq_getD_getElem?, List.getElem?_toArray, List.getElem?_cons_succ, List.getElem?_cons_zero, Option.getD_some, List.setIfInBounds_toArray, List.set_cons_zero, List.set_cons_succ])
          | (refine wk_pickf _ _ _ _ (by first | exact wanted_none rfl | exact wanted_yes _ _ rfl rfl) rfl rfl rfl ?_; simp only [Act.put, Act.eval, Array.getD_eq_getD_getElem?, List.getElem?_toArray, List.getElem?_cons_succ, List.getElem?_cons_zero, Option.getD_some, List.setIfInBounds_toArray, List.set_cons_zero, List.set_cons_succ])
          | (refine wk_skip (wanted_not _ true false rfl rfl rfl) ?_; simp only [Act.put, List.setIfInBounds_toArray, List.set_cons_zero, List.set_cons_succ])
          | (refine wk_skip (wanted_not _ false true rfl rfl rfl) ?_; simp only [Act.put, List.setIfInBounds_toArray, List.set_cons_zero, List.set_cons_succ])
          | (refine wk_skip (wanted_undef _ _ rfl rfl) ?_; simp only [Act.put, List.setIfInBounds_toArray, List.set_cons_zero, List.set_cons_succ])
          | (refine wk_not true _ _ (by first | exact wanted_none rfl | exact wanted_yes _ _ rfl rfl) rfl rfl ?_; simp only [Act.put, List.setIfInBounds_toArray, List.set_cons_zero, List.set_cons_succ])
          | (refine wk_not false _ _ (by first | exact wanted_none rfl | exact wanted_yes _ _ rfl rfl) rfl rfl ?_; simp only [Act.put, List.setIfInBounds_toArray, List.set_cons_zero, List.set_cons_succ]))
        refine wk_field 25 _ 23 3 0 _ _ _ (by first | exact wanted_none rfl | exact wanted_yes _ _ rfl rfl) rfl (by kernel_rfl) (by kernel_rfl) (by kernel_rfl) rfl ?_
        simp only [Act.put, List.setIfInBounds_toArray, List.set_cons_zero, List.set_cons_succ, Nat.zero_add]
        refine wk_load1 _ _ _ _ _ rfl (by kernel_rfl) rfl rfl (fun w' hC => hC.cell C3.out) Tryd.underlying23 ?_
        simp only [Act.put, List.setIfInBounds_toArray, List.set_cons_zero, List.set_cons_succ]
        refine wk_len_slice _ _ _ _ _ _ Tryd.underlying23 (by kernel_rfl) rfl rfl ?_
        simp only [Act.put, List.setIfInBounds_toArray, List.set_cons_zero, List.set_cons_succ]
        refine wk_field 25 _ 5 0 0 _ _ _ (by first | exact wanted_none rfl | exact wanted_yes _ _ rfl rfl) rfl (by kernel_rfl) (by kernel_rfl) (by kernel_rfl) rfl ?_
        simp only [Act.put, List.setIfInBounds_toArray, List.set_cons_zero, List.set_cons_succ, Nat.zero_add]
        refine wk_load1 _ _ _ _ _ rfl (by kernel_rfl) rfl rfl (fun w' hC => hC.cell C0.out) Tryd.underlying5 ?_
        simp only [Act.put, List.setIfInBounds_toArray, List.set_cons_zero, List.set_cons_succ]
        refine wk_call 17 _ _ _ _ _ (by kernel_rfl) rfl Tryd.func17 rfl (by kernel_rfl) (fun w' hC => hC.call (HP.out w' hC)) ?_
        simp only [Act.put, List.setIfInBounds_toArray, List.set_cons_zero, List.set_cons_succ]
        refine wk_cmp_int .neq (false) _ _ _ _ _ _ _ (by kernel_rfl) rfl rfl rfl (by simp [cmpInt]) ?_
        simp only [Act.put, List.setIfInBounds_toArray, List.set_cons_zero, List.set_cons_succ]
        repeat (first
          | (refine wk_move _ (by first | exact wanted_none rfl | exact wanted_yes _ _ rfl rfl) rfl ?_; simp only [Act.put, Act.eval, Array.getD_eq_getD_getElem?, List.getElem?_toArray, List.getElem?_cons_succ, List.getElem?_cons_zero, Option.getD_some, List.setIfInBounds_toArray, List.set_cons_zero, List.set_cons_succ])
          | (refine wk_assign _ (by first | exact wanted_none rfl | exact wanted_yes _ _ rfl rfl) rfl ?_; simp only [Act.put, Act.eval, Array.getD_eq_getD_getElem?, List.getElem?_toArray, List.getElem?_cons_succ, List.getElem?_cons_zero, Option.getD_some, List.setIfInBounds_toArray, List.set_cons_zero, List.set_cons_succ])
          | (refine wk_pickt _ _ _ _ (by first | exact wanted_none rfl | exact wanted_yes _ _ rfl rfl) rfl rfl rfl ?_; simp only [Act.put, Act.eval, Array.getD_eq_getD_getElem?, List.getElem?_toArray, List.getElem?_cons_succ, List.getElem?_cons_zero, Option.getD_some, List.setIfInBounds_toArray, List.set_cons_zero, List.set_cons_succ])
          | (refine wk_pickf _ _ _ _ (by first | exact wanted_none rfl | exact wanted_yes _ _ rfl rfl) rfl rfl rfl ?_; simp only [Act.put, Act.eval, Array.getD_eq_getD_getElem?, List.getElem?_toArray, List.getElem?_cons_succ, List.getElem?_cons_zero, Option.getD_some, List.setIfInBounds_toArray, List.set_cons_zero, List.set_cons_succ])
          | (refine wk_skip (wanted_not _ true false rfl rfl rfl) ?_; simp only [Act.put, List.setIfInBounds_toArray, List.set_cons_zero, List.set_cons_succ])
          | (refine wk_skip (wanted_not _ false true rfl rfl rfl) ?_; simp only [Act.put, List.setIfInBounds_toArray, List.set_cons_zero, List.set_cons_succ])
          | (refine wk_skip (wanted_undef _ _ rfl rfl) ?_; simp only [Act.put, List.setIfInBounds_toArray, List.set_cons_zero, List.set_cons_succ])
          | (refine wk_not true _ _ (by first | exact wanted_none rfl | exact wanted_yes _ _ rfl rfl) rfl rfl ?_; simp only [Act.put, List.setIfInBounds_toArray, List.set_cons_zero, List.set_cons_succ])
          | (refine wk_not false _ _ (by first | exact wanted_none rfl | exact wanted_yes _ _ rfl rfl) rfl rfl ?_; simp only [Act.put, List.setIfInBounds_toArray, List.set_cons_zero, List.set_cons_succ]))
        refine wk_field 25 _ 22 1 0 _ _ _ (by first | exact wanted_none rfl | exact wanted_yes _ _ rfl rfl) rfl (by kernel_rfl) (by kernel_rfl) (by kernel_rfl) rfl ?_
        simp only [Act.put, List.setIfInBounds_toArray, List.set_cons_zero, List.set_cons_succ, Nat.zero_add]
        refine wk_load1 _ _ _ _ _ rfl (by kernel_rfl) rfl rfl (fun w' hC => hC.cell C1.out) Tryd.underlying22 ?_
        simp only [Act.put, List.setIfInBounds_toArray, List.set_cons_zero, List.set_cons_succ]
        refine wk_field 25 _ 22 2 0 _ _ _ (by first | exact wanted_none rfl | exact wanted_yes _ _ rfl rfl) rfl (by kernel_rfl) (by kernel_rfl) (by kernel_rfl) rfl ?_
        simp only [Act.put, List.setIfInBounds_toArray, List.set_cons_zero, List.set_cons_succ, Nat.zero_add]
        refine wk_load1 _ _ _ _ _ rfl (by kernel_rfl) rfl rfl (fun w' hC => hC.cell C2.out) Tryd.underlying22 ?_
        simp only [Act.put, List.setIfInBounds_toArray, List.set_cons_zero, List.set_cons_succ]
        refine wk_max16 _ _ _ _ _ (by first | exact wanted_none rfl | exact wanted_yes _ _ rfl rfl) rfl rfl rfl ?_
        simp only [Act.put, List.setIfInBounds_toArray, List.set_cons_zero, List.set_cons_succ]
        refine wk_cmp_int .geq (false) _ _ _ _ _ _ _ (by kernel_rfl) rfl rfl rfl (HM.out) ?_
        simp only [Act.put, List.setIfInBounds_toArray, List.set_cons_zero, List.set_cons_succ]
        repeat (first
          | (refine wk_move _ (by first | exact wanted_none rfl | exact wanted_yes _ _ rfl rfl) rfl ?_; simp only [Act.put, Act.eval, Array.getD_eq_getD_getElem?, List.getElem?_toArray, List.getElem?_cons_succ, List.getElem?_cons_zero, Option.getD_some, List.setIfInBounds_toArray, List.set_cons_zero, List.set_cons_succ])
          | (refine wk_assign _ (by first | exact wanted_none rfl | exact wanted_yes _ _ rfl rfl) rfl ?_; simp only [Act.put, Act.eval, Array.getD_eq_getD_getElem?, List.getElem?_toArray, List.getElem?_cons_succ, List.getElem?_cons_zero, Option.getD_some, List.setIfInBounds_toArray, List.set_cons_zero, List.set_cons_succ])
          | (refine wk_pickt _ _ _ _ (by first | exact wanted_none rfl | exact wanted_yes _ _ rfl rfl) rfl rfl rfl ?_; simp only [Act.put, Act.eval, Array.getD_eq_getD_getElem?, List.getElem?_toArray, List.getElem?_cons_succ, List.getElem?_cons_zero, Option.getD_some, List.setIfInBounds_toArray, List.set_cons_zero, List.set_cons_succ])
          | (refine wk_pickf _ _ _ _ (by first | exact wanted_none rfl | exact wanted_yes _ _ rfl rfl) rfl rfl rfl ?_; simp only [Act.put, Act.eval, Array.getD_eq_getD_getElem?, List.getElem?_toArray, List.getElem?_cons_succ, List.getElem?_cons_zero, Option.getD_some, List.setIfInBounds_toArray, List.set_cons_zero, List.set_cons_succ])
          | (refine wk_skip (wanted_not _ true false rfl rfl rfl) ?_; simp only [Act.put, List.setIfInBounds_toArray, List.set_cons_zero, List.set_cons_succ])
          | (refine wk_skip (wanted_not _ false true rfl rfl rfl) ?_; simp only [Act.put, List.setIfInBounds_toArray, List.set_cons_zero, List.set_cons_succ])
          | (refine wk_skip (wanted_undef _ _ rfl rfl) ?_; simp only [Act.put, List.setIfInBounds_toArray, List.set_cons_zero, List.set_cons_succ])
          | (refine wk_not true _ _ (by first | exact wanted_none rfl | exact wanted_yes _ _ rfl rfl) rfl rfl ?_; simp only [Act.put, List.setIfInBounds_toArray, List.set_cons_zero, List.set_cons_succ])
          | (refine wk_not false _ _ (by first | exact wanted_none rfl | exact wanted_yes _ _ rfl rfl) rfl rfl ?_; simp only [Act.put, List.setIfInBounds_toArray, List.set_cons_zero, List.set_cons_succ]))
        refine wk_nil ?_
        intro w' hC
        have c3 := hC.cell C3.out
        have HB := Lib.hid hC
        clear hC
        go_wp2_with fail
        refine (HCT.out _ HB.out).mono ?_
        rintro e w1 ⟨rfl, hb⟩
        have HB1 := Lib.hid (HFIN.out _ ((show Below W.heap.size W _ from HB.out).trans (hb.mono (show Below W.heap.size W _ from HB.out).size)))
        clear hb c3
        go_wp2_with fail
        go_ret
        exact ⟨by simp, HB1.out⟩
      · have HM : Hid (cmpInt .geq (max (s.prev : Int) (s.next : Int)) 32768 = some true) := Lib.hid (by simp [cmpInt]; omega)
        have hb : (decide (n ≠ 0) && decide (n = n) && decide (s.prev < 32768 ∧ s.next < 32768)) = false := by simp; intro _ ; omega
        rw [hb, Bool.false_and]
        clear hb h2
        go_enter Tryd.func27, Tryd.ntmps27
        go_upto_region 1 with (fail)
        rw [← HW.out, ← HG.out]
        refine wk_region_since (by kernel_rfl) (by kernel_rfl) ?_
        refine wk_field 25 _ 5 0 0 _ _ _ (by first | exact wanted_none rfl | exact wanted_yes _ _ rfl rfl) rfl (by kernel_rfl) (by kernel_rfl) (by kernel_rfl) rfl ?_
        simp only [Act.put, List.setIfInBounds_toArray, List.set_cons_zero, List.set_cons_succ, Nat.zero_add]
        refine wk_load1 _ _ _ _ _ rfl (by kernel_rfl) rfl rfl (fun w' hC => hC.cell C0.out) Tryd.underlying5 ?_
        simp only [Act.put, List.setIfInBounds_toArray, List.set_cons_zero, List.set_cons_succ]
        refine wk_call 17 _ _ _ _ _ (by kernel_rfl) rfl Tryd.func17 rfl (by kernel_rfl) (fun w' hC => hC.call (HP.out w' hC)) ?_
        simp only [Act.put, List.setIfInBounds_toArray, List.set_cons_zero, List.set_cons_succ]
        refine wk_eql_int false _ _ _ _ _ _ _ (by kernel_rfl) rfl rfl rfl (H0.out) ?_
        simp only [Act.put, List.setIfInBounds_toArray, List.set_cons_zero, List.set_cons_succ]
        repeat (first
          | (refine wk_move _ (by first | exact wanted_none rfl | exact wanted_yes _ _ rfl rfl) rfl ?_; simp only [Act.put, Act.eval, Array.getD_eq_getD_getElem?, List.getElem?_toArray, List.getElem?_cons_succ, List.getElem?_cons_zero, Option.getD_some, List.setIfInBounds_toArray, List.set_cons_zero, List.set_cons_succ])
          | (refine wk_assign _ (by first | exact wanted_none rfl | exact wanted_yes _ _ rfl rfl) rfl ?_; simp only [Act.put, Act.eval, Array.getD_eq_getD_getElem?, List.getElem?_toArray, List.getElem?_cons_succ, List.getElem?_cons_zero, Option.getD_some, List.setIfInBounds_toArray, List.set_cons_zero, List.set_cons_succ])
          | (refine wk_pickt _ _ _ _ (by first | exact wanted_none rfl | exact wanted_yes _ _ rfl rfl) rfl rfl rfl ?_; simp only [Act.put, Act.eval, Array.getD_eq_getD_getElem?, List.getElem?_toArray, List.getElem?_cons_succ, List.getElem?_cons_zero, Option.getD_some, List.setIfInBounds_toArray, List.set_cons_zero, List.set_cons_succ])
          | (refine wk_pickf _ _ _ _ (by first | exact wanted_none rfl | exact wanted_yes _ _ rfl rfl) rfl rfl rfl ?_; simp only [Act.put, Act.eval, Array.getD_eq_getD_getElem?, List.getElem?_toArray, List.getElem?_cons_succ, List.getElem?_cons_zero, Option.getD_some, List.setIfInBounds_toArray, List.set_cons_zero, List.set_cons_succ])
          | (refine wk_skip (wanted_not _ true false rfl rfl rfl) ?_; simp only [Act.put, List.setIfInBounds_toArray, List.set_cons_zero, List.set_cons_succ])
          | (refine wk_skip (wanted_not _ false true rfl rfl rfl) ?_; simp only [Act.put, List.setIfInBounds_toArray, List.set_cons_zero, List.set_cons_succ])
          | (refine wk_skip (wanted_undef _ _ rfl rfl) ?_; simp only [Act.put, List.setIfInBounds_toArray, List.set_cons_zero, List.set_cons_succ])
          | (refine wk_not true _ _ (by first | exact wanted_none rfl | exact wanted_yes _ _ rfl rfl) rfl rfl ?_; simp only [Act.put, List.setIfInBounds_toArray, List.set_cons_zero, List.set_cons_succ])
          | (refine wk_not false _ _ (by first | exact wanted_none rfl | exact wanted_yes _ _ rfl rfl) rfl rfl ?_; simp only [Act.put, List.setIfInBounds_toArray, List.set_cons_zero, List.set_cons_succ]))
        refine wk_field 25 _ 23 3 0 _ _ _ (by first | exact wanted_none rfl | exact wanted_yes _ _ rfl rfl) rfl (by kernel_rfl) (by kernel_rfl) (by kernel_rfl) rfl ?_
        simp only [Act.put, List.setIfInBounds_toArray, List.set_cons_zero, List.set_cons_succ, Nat.zero_add]
        refine wk_load1 _ _ _ _ _ rfl (by kernel_rfl) rfl rfl (fun w' hC => hC.cell C3.out) Tryd.underlying23 ?_
        simp only [Act.put, List.setIfInBounds_toArray, List.set_cons_zero, List.set_cons_succ]
        refine wk_len_slice _ _ _ _ _ _ Tryd.underlying23 (by kernel_rfl) rfl rfl ?_
        simp only [Act.put, List.setIfInBounds_toArray, List.set_cons_zero, List.set_cons_succ]
        refine wk_field 25 _ 5 0 0 _ _ _ (by first | exact wanted_none rfl | exact wanted_yes _ _ rfl rfl) rfl (by kernel_rfl) (by kernel_rfl) (by kernel_rfl) rfl ?_
        simp only [Act.put, List.setIfInBounds_toArray, List.set_cons_zero, List.set_cons_succ, Nat.zero_add]
        refine wk_load1 _ _ _ _ _ rfl (by kernel_rfl) rfl rfl (fun w' hC => hC.cell C0.out) Tryd.underlying5 ?_
        simp only [Act.put, List.setIfInBounds_toArray, List.set_cons_zero, List.set_cons_succ]
        refine wk_call 17 _ _ _ _ _ (by kernel_rfl) rfl Tryd.func17 rfl (by kernel_rfl) (fun w' hC => hC.call (HP.out w' hC)) ?_
        simp only [Act.put, List.setIfInBounds_toArray, List.set_cons_zero, List.set_cons_succ]
        refine wk_cmp_int .neq (false) _ _ _ _ _ _ _ (by kernel_rfl) rfl rfl rfl (by simp [cmpInt]) ?_
        simp only [Act.put, List.setIfInBounds_toArray, List.set_cons_zero, List.set_cons_succ]
        repeat (first
          | (refine wk_move _ (by first | exact wanted_none rfl | exact wanted_yes _ _ rfl rfl) rfl ?_; simp only [Act.put, Act.eval, Array.getD_eq_getD_getElem?, List.getElem?_toArray, List.getElem?_cons_succ, List.getElem?_cons_zero, Option.getD_some, List.setIfInBounds_toArray, List.set_cons_zero, List.set_cons_succ])
          | (refine wk_assign _ (by first | exact wanted_none rfl | exact wanted_yes _ _ rfl rfl) rfl ?_; simp only [Act.put, Act.eval, Array.getD_eq_getD_getElem?, List.getElem?_toArray, List.getElem?_cons_succ, List.getElem?_cons_zero, Option.getD_some, List.setIfInBounds_toArray, List.set_cons_zero, List.set_cons_succ])
          | (refine wk_pickt _ _ _ _ (by first | exact wanted_none rfl | exact wanted_yes _ _ rfl rfl) rfl rfl rfl ?_; simp only [Act.put, Act.eval, Array.getD_eq_getD_getElem?, List.getElem?_toArray, List.getElem?_cons_succ, List.getElem?_cons_zero, Option.getD_some, List.setIfInBounds_toArray, List.set_cons_zero, List.set_cons_succ])
          | (refine wk_pickf _ _ _ _ (by first | exact wanted_none rfl | exact wanted_yes _ _ rfl rfl) rfl rfl rfl ?_; simp only [Act.put, Act.eval, Array.getD_eq_getD_getElem?, List.getElem?_toArray, List.getElem?_cons_succ, List.getElem?_cons_zero, Option.getD_some, List.setIfInBounds_toArray, List.set_cons_zero, List.set_cons_succ])
          | (refine wk_skip (wanted_not _ true false rfl rfl rfl) ?_; simp only [Act.put, List.setIfInBounds_toArray, List.set_cons_zero, List.set_cons_succ])
          | (refine wk_skip (wanted_not _ false true rfl rfl rfl) ?_; simp only [Act.put, List.setIfInBounds_toArray, List.set_cons_zero, List.set_cons_succ])
          | (refine wk_skip (wanted_undef _ _ rfl rfl) ?_; simp only [Act.put, List.setIfInBounds_toArray, List.set_cons_zero, List.set_cons_succ])
          | (refine wk_not true _ _ (by first | exact wanted_none rfl | exact wanted_yes _ _ rfl rfl) rfl rfl ?_; simp only [Act.put, List.setIfInBounds_toArray, List.set_cons_zero, List.set_cons_succ])
          | (refine wk_not false _ _ (by first | exact wanted_none rfl | exact wanted_yes _ _ rfl rfl) rfl rfl ?_; simp only [Act.put, List.setIfInBounds_toArray, List.set_cons_zero, List.set_cons_succ]))
        refine wk_field 25 _ 22 1 0 _ _ _ (by first | exact wanted_none rfl | exact wanted_yes _ _ rfl rfl) rfl (by kernel_rfl) (by kernel_rfl) (by kernel_rfl) rfl ?_
        simp only [Act.put, List.setIfInBounds_toArray, List.set_cons_zero, List.set_cons_succ, Nat.zero_add]
        refine wk_load1 _ _ _ _ _ rfl (by kernel_rfl) rfl rfl (fun w' hC => hC.cell C1.out) Tryd.underlying22 ?_
        simp only [Act.put, List.setIfInBounds_toArray, List.set_cons_zero, List.set_cons_succ]
        refine wk_field 25 _ 22 2 0 _ _ _ (by first | exact wanted_none rfl | exact wanted_yes _ _ rfl rfl) rfl (by kernel_rfl) (by kernel_rfl) (by kernel_rfl) rfl ?_
        simp only [Act.put, List.setIfInBounds_toArray, List.set_cons_zero, List.set_cons_succ, Nat.zero_add]
        refine wk_load1 _ _ _ _ _ rfl (by kernel_rfl) rfl rfl (fun w' hC => hC.cell C2.out) Tryd.underlying22 ?_
        simp only [Act.put, List.setIfInBounds_toArray, List.set_cons_zero, List.set_cons_succ]
        refine wk_max16 _ _ _ _ _ (by first | exact wanted_none rfl | exact wanted_yes _ _ rfl rfl) rfl rfl rfl ?_
        simp only [Act.put, List.setIfInBounds_toArray, List.set_cons_zero, List.set_cons_succ]
        refine wk_cmp_int .geq (true) _ _ _ _ _ _ _ (by kernel_rfl) rfl rfl rfl (HM.out) ?_
        simp only [Act.put, List.setIfInBounds_toArray, List.set_cons_zero, List.set_cons_succ]
        repeat (first
          | (refine wk_move _ (by first | exact wanted_none rfl | exact wanted_yes _ _ rfl rfl) rfl ?_; simp only [Act.put, Act.eval, Array.getD_eq_getD_getElem?, List.getElem?_toArray, List.getElem?_cons_succ, List.getElem?_cons_zero, Option.getD_some, List.setIfInBounds_toArray, List.set_cons_zero, List.set_cons_succ])
          | (refine wk_assign _ (by first | exact wanted_none rfl | exact wanted_yes _ _ rfl rfl) rfl ?_; simp only [Act.put, Act.eval, Array.getD_eq_getD_getElem?, List.getElem?_toArray, List.getElem?_cons_succ, List.getElem?_cons_zero, Option.getD_some, List.setIfInBounds_toArray, List.set_cons_zero, List.set_cons_succ])
          | (refine wk_pickt _ _ _ _ (by first | exact wanted_none rfl | exact wanted_yes _ _ rfl rfl) rfl rfl rfl ?_; simp only [Act.put, Act.eval, Array.getD_eq_getD_getElem?, List.getElem?_toArray, List.getElem?_cons_succ, List.getElem?_cons_zero, Option.getD_some, List.setIfInBounds_toArray, List.set_cons_zero, List.set_cons_succ])
          | (refine wk_pickf _ _ _ _ (by first | exact wanted_none rfl | exact wanted_yes _ _ rfl rfl) rfl rfl rfl ?_; simp only [Act.put, Act.eval, Array.getD_eq_getD_getElem?, List.getElem?_toArray, List.getElem?_cons_succ, List.getElem?_cons_zero, Option.getD_some, List.setIfInBounds_toArray, List.set_cons_zero, List.set_cons_succ])
          | (refine wk_skip (wanted_not _ true false rfl rfl rfl) ?_; simp only [Act.put, List.setIfInBounds_toArray, List.set_cons_zero, List.set_cons_succ])
          | (refine wk_skip (wanted_not _ false true rfl rfl rfl) ?_; simp only [Act.put, List.setIfInBounds_toArray, List.set_cons_zero, List.set_cons_succ])
          | (refine wk_skip (wanted_undef _ _ rfl rfl) ?_; simp only [Act.put, List.setIfInBounds_toArray, List.set_cons_zero, List.set_cons_succ])
          | (refine wk_not true _ _ (by first | exact wanted_none rfl | exact wanted_yes _ _ rfl rfl) rfl rfl ?_; simp only [Act.put, List.setIfInBounds_toArray, List.set_cons_zero, List.set_cons_succ])
          | (refine wk_not false _ _ (by first | exact wanted_none rfl | exact wanted_yes _ _ rfl rfl) rfl rfl ?_; simp only [Act.put, List.setIfInBounds_toArray, List.set_cons_zero, List.set_cons_succ]))
        refine wk_nil ?_
        intro w' hC
        have HB := Lib.hid (HFIN.out _ hC)
        clear hC
        go_wp2_with fail
        go_ret
        exact ⟨rfl, HB.out⟩
    · have HM : Hid (cmpInt .neq (n : Int) (p : Int) = some true) := Lib.hid (by simp [cmpInt]; omega)
      have hb : (decide (p ≠ 0) && decide (n = p) && decide (s.prev < 32768 ∧ s.next < 32768)) = false := by simp [h1]
      rw [hb, Bool.false_and]
      clear hb h1
      go_enter Tryd.func27, Tryd.ntmps27
      go_upto_region 1 with (fail)
      rw [← HW.out, ← HG.out]
      refine wk_region_since (by kernel_rfl) (by kernel_rfl) ?_
      refine wk_field 25 _ 5 0 0 _ _ _ (by first | exact wanted_none rfl | exact wanted_yes _ _ rfl rfl) rfl (by kernel_rfl) (by kernel_rfl) (by kernel_rfl) rfl ?_
      simp only [Act.put, List.setIfInBounds_toArray, List.set_cons_zero, List.set_cons_succ, Nat.zero_add]
      refine wk_load1 _ _ _ _ _ rfl (by kernel_rfl) rfl rfl (fun w' hC => hC.cell C0.out) Tryd.underlying5 ?_
      simp only [Act.put, List.setIfInBounds_toArray, List.set_cons_zero, List.set_cons_succ]
      refine wk_call 17 _ _ _ _ _ (by kernel_rfl) rfl Tryd.func17 rfl (by kernel_rfl) (fun w' hC => hC.call (HP.out w' hC)) ?_
      simp only [Act.put, List.setIfInBounds_toArray, List.set_cons_zero, List.set_cons_succ]
      refine wk_eql_int false _ _ _ _ _ _ _ (by kernel_rfl) rfl rfl rfl (H0.out) ?_
      simp only [Act.put, List.setIfInBounds_toArray, List.set_cons_zero, List.set_cons_succ]
      repeat (first
        | (refine wk_move _ (by first | exact wanted_none rfl | exact wanted_yes _ _ rfl rfl) rfl ?_; simp only [Act.put, Act.eval, Array.getD_eq_getD_getElem?, List.getElem?_toArray, List.getElem?_cons_succ, List.getElem?_cons_zero, Option.getD_some, List.setIfInBounds_toArray, List.set_cons_zero, List.set_cons_succ])
        | (refine wk_assign _ (by first | exact wanted_none rfl | exact wanted_yes _ _ rfl rfl) rfl ?_; simp only [Act.put, Act.eval, Array.getD_eq_getD_getElem?, List.getElem?_toArray, List.getElem?_cons_succ, List.getElem?_cons_zero, Option.getD_some, List.setIfInBounds_toArray, List.set_cons_zero, List.set_cons_succ])
        | (refine wk_pickt _ _ _ _ (by first | exact wanted_none rfl | exact wanted_yes _ _ rfl rfl) rfl rfl rfl ?_; simp only [Act.put, Act.eval, Array.getD_eq_getD_getElem?, List.getElem?_toArray, List.getElem?_cons_succ, List.getElem?_cons_zero, Option.getD_some, List.setIfInBounds_toArray, List.set_cons_zero, List.set_cons_succ])
        | (refine wk_pickf _ _ _ _ (by first | exact wanted_none rfl | exact wanted_yes _ _ rfl rfl) rfl rfl rfl ?_; simp only [Act.put, Act.eval, Array.getD_eq_getD_getElem?, List.getElem?_toArray, List.getElem?_cons_succ, List.getElem?_cons_zero, Option.getD_some, List.setIfInBounds_toArray, List.set_cons_zero, List.set_cons_succ])
        | (refine wk_skip (wanted_not _ true false rfl rfl rfl) ?_; simp only [Act.put, List.setIfInBounds_toArray, List.set_cons_zero, List.set_cons_succ])
        | (refine wk_skip (wanted_not _ false true rfl rfl rfl) ?_; simp only [Act.put, List.setIfInBounds_toArray, List.set_cons_zero, List.set_cons_succ])
        | (refine wk_skip (wanted_undef _ _ rfl rfl) ?_; simp only [Act.put, List.setIfInBounds_toArray, List.set_cons_zero, List.set_cons_succ])
        | (refine wk_not true _ _ (by first | exact wanted_none rfl | exact wanted_yes _ _ rfl rfl) rfl rfl ?_; simp only [Act.put, List.setIfInBounds_toArray, List.set_cons_zero, List.set_cons_succ])
        | (refine wk_not false _ _ (by first | exact wanted_none rfl | exact wanted_yes _ _ rfl rfl) rfl rfl ?_; simp only [Act.put, List.setIfInBounds_toArray, List.set_cons_zero, List.set_cons_succ]))
      refine wk_field 25 _ 23 3 0 _ _ _ (by first | exact wanted_none rfl | exact wanted_yes _ _ rfl rfl) rfl (by kernel_rfl) (by kernel_rfl) (by kernel_rfl) rfl ?_
      simp only [Act.put, List.setIfInBounds_toArray, List.set_cons_zero, List.set_cons_succ, Nat.zero_add]
      refine wk_load1 _ _ _ _ _ rfl (by kernel_rfl) rfl rfl (fun w' hC => hC.cell C3.out) Tryd.underlying23 ?_
      simp only [Act.put, List.setIfInBounds_toArray, List.set_cons_zero, List.set_cons_succ]
      refine wk_len_slice _ _ _ _ _ _ Tryd.underlying23 (by kernel_rfl) rfl rfl ?_
      simp only [Act.put, List.setIfInBounds_toArray, List.set_cons_zero, List.set_cons_succ]
      refine wk_field 25 _ 5 0 0 _ _ _ (by first | exact wanted_none rfl | exact wanted_yes _ _ rfl rfl) rfl (by kernel_rfl) (by kernel_rfl) (by kernel_rfl) rfl ?_
      simp only [Act.put, List.setIfInBounds_toArray, List.set_cons_zero, List.set_cons_succ, Nat.zero_add]
      refine wk_load1 _ _ _ _ _ rfl (by kernel_rfl) rfl rfl (fun w' hC => hC.cell C0.out) Tryd.underlying5 ?_
      simp only [Act.put, List.setIfInBounds_toArray, List.set_cons_zero, List.set_cons_succ]
      refine wk_call 17 _ _ _ _ _ (by kernel_rfl) rfl Tryd.func17 rfl (by kernel_rfl) (fun w' hC => hC.call (HP.out w' hC)) ?_
      simp only [Act.put, List.setIfInBounds_toArray, List.set_cons_zero, List.set_cons_succ]
      refine wk_cmp_int .neq (true) _ _ _ _ _ _ _ (by kernel_rfl) rfl rfl rfl (HM.out) ?_
      simp only [Act.put, List.setIfInBounds_toArray, List.set_cons_zero, List.set_cons_succ]
      repeat (first
        | (refine wk_move _ (by first | exact wanted_none rfl | exact wanted_yes _ _ rfl rfl) rfl ?_; simp only [Act.put, Act.eval, Array.getD_eq_getD_getElem?, List.getElem?_toArray, List.getElem?_cons_succ, List.getElem?_cons_zero, Option.getD_some, List.setIfInBounds_toArray, List.set_cons_zero, List.set_cons_succ])
        | (refine wk_assign _ (by first | exact wanted_none rfl | exact wanted_yes _ _ rfl rfl) rfl ?_; simp only [Act.put, Act.eval, Array.getD_eq_getD_getElem?, List.getElem?_toArray, List.getElem?_cons_succ, List.getElem?_cons_zero, Option.getD_some, List.setIfInBounds_toArray, List.set_cons_zero, List.set_cons_succ])
        | (refine wk_pickt _ _ _ _ (by first | exact wanted_none rfl | exact wanted_yes _ _ rfl rfl) rfl rfl rfl ?_; simp only [Act.put, Act.eval, Array.getD_eq_getD_getElem?, List.getElem?_toArray, List.getElem?_cons_succ, List.getElem?_cons_zero, Option.getD_some, List.setIfInBounds_toArray, List.set_cons_zero, List.set_cons_succ])
        | (refine wk_pickf _ _ _ _ (by first | exact wanted_none rfl | exact wanted_yes _ _ rfl rfl) rfl rfl rfl ?_; simp only [Act.put, Act.eval, Array.getD_eq_getD_getElem?, List.getElem?_toArray, List.getElem?_cons_succ, List.getElem?_cons_zero, Option.getD_some, List.setIfInBounds_toArray, List.set_cons_zero, List.set_cons_succ])
        | (refine wk_skip (wanted_not _ true false rfl rfl rfl) ?_; simp only [Act.put, List.setIfInBounds_toArray, List.set_cons_zero, List.set_cons_succ])
        | (refine wk_skip (wanted_not _ false true rfl rfl rfl) ?_; simp only [Act.put, List.setIfInBounds_toArray, List.set_cons_zero, List.set_cons_succ])
        | (refine wk_skip (wanted_undef _ _ rfl rfl) ?_; simp only [Act.put, List.setIfInBounds_toArray, List.set_cons_zero, List.set_cons_succ])
        | (refine wk_not true _ _ (by first | exact wanted_none rfl | exact wanted_yes _ _ rfl rfl) rfl rfl ?_; simp only [Act.put, List.setIfInBounds_toArray, List.set_cons_zero, List.set_cons_succ])
        | (refine wk_not false _ _ (by first | exact wanted_none rfl | exact wanted_yes _ _ rfl rfl) rfl rfl ?_; simp only [Act.put, List.setIfInBounds_toArray, List.set_cons_zero, List.set_cons_succ]))
      refine wk_nil ?_
      intro w' hC
      have HB := Lib.hid (HFIN.out _ hC)
      clear hC
      go_wp2_with fail
      go_ret
      exact ⟨rfl, HB.out⟩
end
end Go.Proofs.YtcepfmjebgklfaaDoor
