/- The shelf layer: does: an act on a shelf and on the document's. -/
import Derived.Test.YtcepfmjebgklfaaDoorRef18E
import Derived.Test.YtcepfmjebgklfaaDoorOpenShelf
namespace Go.Proofs.YtcepfmjebgklfaaDoor
open Go.RowKit
set_option linter.unusedSimpArgs false
set_option linter.unusedVariables false
set_option maxRecDepth 100000
theorem Held.two {w0 W W' : World} {l : List Thing} (R : Held w0 W l) (hb : Below W.heap.size W W') {x y : Thing} {F G : List Nat} (hx : x.says F W') (hy : y.says G W') (hF : ∀ b ∈ F, W.heap.size ≤ b) (hG : ∀ b ∈ G, W.heap.size ≤ b) (hn : (F ++ G).Nodup) : Held w0 W' (x :: y :: l) := by
  refine R.join (l2 := [x, y]) ⟨[(x, F), (y, G)], rfl, hb, ?_, ?_, by simpa using hn⟩
  · intro z hz
    rcases List.mem_cons.1 hz with rfl | hz
    · exact hx
    · obtain rfl : z = (y, G) := by simpa using hz
      exact hy
  · intro z hz b hb'
    rcases List.mem_cons.1 hz with rfl | hz
    · exact hF b hb'
    · obtain rfl : z = (y, G) := by simpa using hz
      exact hG b hb'
theorem Only.nil {a b : World} (h : Only [] a b) : Below a.heap.size a b := ⟨h.os, h.tape, h.output, h.size, fun k hk => h.block k hk (by simp)⟩
theorem results_cells2_slot {P : Program} {fn : Func} {p q r : Tmp} {ty : TypeId} (h : fn.results = #[.cell p ty, .cell q ty, .tmp r]) (tmps : Array Value) (w : World) (g g' : Nat) (t : TypeId) (cs cs' : Array Value) (fr fr' : Nat × Nat) (d : TypeDesc) (u : Value)
    (hp : tmps.getD p undef = .pointer (some ⟨g, 0, none⟩)) (hq : tmps.getD q undef = .pointer (some ⟨g', 0, none⟩)) (hr : tmps.getD r undef = u) (hg : w.heap[g]? = some (.cells cs t fr)) (hg' : w.heap[g']? = some (.cells cs' t fr'))
    (hu : P.underlying ty = some d) (hd : (match d with | .struct _ | .array _ _ => true | _ => false) = true) (hi : (P.info? ty).map (·.size) = some cs.size) (hi' : (P.info? ty).map (·.size) = some cs'.size) :
    (results fn tmps).run P w = .ok (.tuple #[.agg cs, .agg cs', u]) w := by
  have hp' : tmps[p]?.getD undef = .pointer (some ⟨g, 0, none⟩) := by simpa using hp
  have hq' : tmps[q]?.getD undef = .pointer (some ⟨g', 0, none⟩) := by simpa using hq
  have hr' : tmps[r]?.getD undef = u := by simpa using hr
  simp [results, h, hp', hq', hr', asAddr, run_loadVar_row w g t ty cs fr d hg hu hd hi, run_loadVar_row w g' t ty cs' fr' d hg' hu hd hi']
/-- A slot that holds this very shelf. -/
def xV (S : ShL) (A : Option Addr) (n c : Nat) (l : List CellH) (v : Value) (F : List Nat) (w : World) : Prop := F = foot A n l ∧ v = .agg (shV S A n c) ∧ ShelfOf w S A n c l
theorem xV_lt {S : ShL} {A : Option Addr} {n c : Nat} {l : List CellH} {v : Value} {F : List Nat} {w : World} (h : xV S A n c l v F w) : ∀ k ∈ F, k < w.heap.size := by
  obtain ⟨rfl, _, h1⟩ := h
  exact h1.foot_lt
theorem xV_loc {S : ShL} {A : Option Addr} {n c : Nat} {l : List CellH} {v : Value} {F : List Nat} {w w' : World} (h : xV S A n c l v F w) (hk : ∀ k ∈ F, w'.heap[k]? = w.heap[k]?) : xV S A n c l v F w' := by
  obtain ⟨rfl, e, h1⟩ := h
  exact ⟨rfl, e, h1.loc hk⟩
theorem xV.ex {S : ShL} {A : Option Addr} {n c : Nat} {l : List CellH} {v : Value} {F : List Nat} {w : World} (h : xV S A n c l v F w) : ∃ C, v = .agg C ∧ (Tryd.prog.info? 25).map (·.size) = some C.size ∧ zeroShC.size = C.size ∧ C.all (·.oneCell') = true := by
  obtain ⟨_, rfl, _⟩ := h
  exact ⟨_, rfl, sizeShelf, rfl, (by
    rw [Array.all_eq_true']
    intro x hx
    simp [shV] at hx
    rcases hx with rfl | rfl | rfl | rfl <;> rfl)⟩
/-- The slots of the regions that hand two shelves on. -/
def twoV (i j b : Tmp) (r : Bool) (S T : ShL) (A : Option Addr) (n c : Nat) (l : List CellH) (A' : Option Addr) (n' c' : Nat) (l' : List CellH) (t : Tmp) : Value → List Nat → World → Prop :=
  if t = i then xV S A n c l else if t = j then xV T A' n' c' l' else if t = b then pV (.bool r) else fun _ F _ => F = []
theorem twoV_lt (i j b : Tmp) (r : Bool) (S T : ShL) (A : Option Addr) (n c : Nat) (l : List CellH) (A' : Option Addr) (n' c' : Nat) (l' : List CellH) : ∀ t v F w, twoV i j b r S T A n c l A' n' c' l' t v F w → ∀ k ∈ F, k < w.heap.size := by
  intro t v F w h
  unfold twoV at h
  split at h
  · exact xV_lt h
  · split at h
    · exact xV_lt h
    · split at h
      · exact pV_lt h
      · rw [h]; simp
theorem twoV_loc (i j b : Tmp) (r : Bool) (S T : ShL) (A : Option Addr) (n c : Nat) (l : List CellH) (A' : Option Addr) (n' c' : Nat) (l' : List CellH) : ∀ t v F w w', twoV i j b r S T A n c l A' n' c' l' t v F w → (∀ k ∈ F, w'.heap[k]? = w.heap[k]?) → twoV i j b r S T A n c l A' n' c' l' t v F w' := by
  intro t v F w w' h hk
  unfold twoV at h ⊢
  split at h
  · rename_i e; rw [if_pos e]; exact xV_loc h hk
  · rename_i e1
    rw [if_neg e1]
    split at h
    · rename_i e; rw [if_pos e]; exact xV_loc h hk
    · rename_i e2
      rw [if_neg e2]
      by_cases e3 : t = b
      · rw [if_pos e3] at h ⊢; exact h
      · rw [if_neg e3] at h ⊢; exact h
theorem Held.cellsAct {w0 W : World} {l : List Thing} (R : Held w0 W l) (k : Nat) {g : Nat} {T : TypeId} {x : ActH} (e : l[k]? = some (rowT g (actHV x) T)) : W.cell? ⟨g, 0, none⟩ = some (.int .u8 (x.what : Int)) ∧ W.cell? ⟨g, 1, none⟩ = some (.int .i64 x.place) ∧ W.cell? ⟨g, 2, none⟩ = some (.int .u64 (x.ser : Int)) ∧ W.cell? ⟨g, 3, none⟩ = some (.int .i64 x.off) ∧ W.cell? ⟨g, 4, none⟩ = some (.int .i64 x.n) ∧ W.cell? ⟨g, 5, none⟩ = some (.slice x.A x.m x.c) :=
  ⟨R.cell k 0 e rfl, R.cell k 1 e rfl, R.cell k 2 e rfl, R.cell k 3 e rfl, R.cell k 4 e rfl, R.cell k 5 e rfl⟩
theorem two_old {x0 y0 : BoxD} (hne : x0.old ≠ y0.old) : ∀ (j k : Nat) (x y : BoxD) (g : Nat), [x0, y0][j]? = some x → [x0, y0][k]? = some y → x.old = some g → y.old = some g → j = k := by
  intro j k x y g hj hk h1 h2
  match j, k, hj, hk with
  | 0, 0, _, _ => rfl
  | 1, 1, _, _ => rfl
  | 0, 1, hj, hk => cases hj; cases hk; exact absurd (h1.trans h2.symm) hne
  | 1, 0, hj, hk => cases hj; cases hk; exact absurd (h2.trans h1.symm) hne
  | j + 2, _, hj, _ => simp at hj
  | 0, k + 2, _, hk => simp at hk
  | 1, k + 2, _, hk => simp at hk
/-- The shelf behind an act. -/
def does18S (S : ShL) (x : ActH) : ShL :=
  match x.what % 5 with
  | 0 => if takeE S x.ser x.n = 0 then takeS S x.ser x.n else S
  | 1 => if findE S x.place x.ser = 0 then giveS S x.place x.ser else S
  | 2 => if resizeE S x.place x.ser x.n = 0 then resizeS S x.place x.ser x.n else S
  | 3 => S
  | _ => if partE S x.place x.ser x.off x.data.length = 0 then writeS S x.place x.ser x.off x.data else S
def Does18 (w : World) (U U' : List Nat) (S : ShL) (e : Ending) (w' : World) : Prop := ∃ va vb, e = .returned (.tuple #[va, vb, .bool true]) ∧ ShelfVia U w.heap.size w' va S ∧ ShelfVia U' w.heap.size w' vb S ∧ Below w.heap.size w w'
section
variable {w : World}
set_option maxHeartbeats 8000000 in
theorem shdoes_is (hc : ClsAt w) {S : ShL} {A : Option Addr} {n c : Nat} {l : List CellH} (hs : ShelfOf w S A n c l) {A' : Option Addr} {n' c' : Nat} {l' : List CellH} (ht : ShelfOf w S A' n' c' l') (x : ActH) (hx : ActOk w x) (h4 : x.m ≤ 400) :
    Calls Tryd.prog 20 #[.agg (shV S A n c), .agg (shV S A' n' c'), .agg (actHV x)] w fun e w' => Does18 w (foot A n l) (foot A' n' l') (does18S S x) e w' := by
  have hR := (((((Held.start w).alloc (shV S A n c) 25).alloc (shV S A' n' c') 25).alloc (actHV x) 29).alloc zeroShC 25).alloc zeroShC 25
  obtain ⟨W, hW⟩ : ∃ W, W = ((((w.alloc (.cells (shV S A n c) 25)).alloc (.cells (shV S A' n' c') 25)).alloc (.cells (actHV x) 29)).alloc (.cells zeroShC 25)).alloc (.cells zeroShC 25) := ⟨_, rfl⟩
  have z1 : (w.alloc (.cells (shV S A n c) 25)).heap.size = w.heap.size + 1 := by simp
  have z2 : ((w.alloc (.cells (shV S A n c) 25)).alloc (.cells (shV S A' n' c') 25)).heap.size = w.heap.size + 1 + 1 := by simp
  have z3 : (((w.alloc (.cells (shV S A n c) 25)).alloc (.cells (shV S A' n' c') 25)).alloc (.cells (actHV x) 29)).heap.size = w.heap.size + 1 + 1 + 1 := by simp
  have z4 : ((((w.alloc (.cells (shV S A n c) 25)).alloc (.cells (shV S A' n' c') 25)).alloc (.cells (actHV x) 29)).alloc (.cells zeroShC 25)).heap.size = w.heap.size + 1 + 1 + 1 + 1 := by simp
  rw [← hW, z1, z2, z3, z4] at hR
  obtain ⟨g3, hg3⟩ : ∃ g, g = w.heap.size := ⟨_, rfl⟩
  obtain ⟨g4, hg4⟩ : ∃ g, g = g3 + 1 := ⟨_, rfl⟩
  obtain ⟨g5, hg5⟩ : ∃ g, g = g4 + 1 := ⟨_, rfl⟩
  obtain ⟨g6, hg6⟩ : ∃ g, g = g5 + 1 := ⟨_, rfl⟩
  obtain ⟨g7, hg7⟩ : ∃ g, g = g6 + 1 := ⟨_, rfl⟩
  rw [← hg3, ← hg4, ← hg5, ← hg6, ← hg7] at hR
  have HW := Lib.hid hW
  have G3 := Lib.hid hg3
  have G4 := Lib.hid hg4
  have G5 := Lib.hid hg5
  have G6 := Lib.hid hg6
  have G7 := Lib.hid hg7
  have HC := Lib.hid hc
  have HS := Lib.hid hs
  have HT := Lib.hid ht
  have HX := Lib.hid hx
  have H4 := Lib.hid h4
  have R0 := Lib.hid hR
  have hser := hx.ser
  unfold shV zeroShC actHV at HW
  unfold shV actHV
  clear hW hg3 hg4 hg5 hg6 hg7 hc hs ht hx h4 hR z1 z2 z3 z4
  go_enter Tryd.func20, Tryd.ntmps20
  go_upto_region 1 with (fail)
  rw [← HW.out, ← G3.out, ← G4.out, ← G5.out, ← G6.out, ← G7.out]
  have HFS : Hid (∀ k ∈ foot A n l, k < W.heap.size) := Lib.hid (fun k hk => Nat.lt_of_lt_of_le (HS.out.foot_lt k hk) R0.out.below.size)
  have HFT : Hid (∀ k ∈ foot A' n' l', k < W.heap.size) := Lib.hid (fun k hk => Nat.lt_of_lt_of_le (HT.out.foot_lt k hk) R0.out.below.size)
  refine wp_region_boxes (by kernel_rfl) [⟨2, 4, 0, zeroShC, 25, 9, 17, none⟩, ⟨3, 5, 1, zeroShC, 25, 10, 18, none⟩] (twoV 17 18 999 false S S A n c l A' n' c' l') (twoV_lt _ _ _ _ _ _ _ _ _ _ _ _ _ _) (twoV_loc _ _ _ _ _ _ _ _ _ _ _ _ _ _) (by kernel_rfl) (by kernel_rfl) (by kernel_rfl) ?qbs (by kernel_rfl) ?qold ?qheads ?qfin
  case qbs =>
    intro y hy
    rcases List.mem_cons.1 hy with rfl | hy
    · exact ⟨(fun _ => ⟨⟨_, rfl, rfl, rfl, rfl⟩, by kernel_rfl⟩), (fun g' h => by cases h), ⟨_, rfl, rfl, rfl, rfl, (fun _ => by kernel_rfl), by kernel_rfl⟩, by kernel_rfl, fun v F w h => xV.ex h⟩
    · obtain rfl : y = _ := by simpa using hy
      exact ⟨(fun _ => ⟨⟨_, rfl, rfl, rfl, rfl⟩, by kernel_rfl⟩), (fun g' h => by cases h), ⟨_, rfl, rfl, rfl, rfl, (fun _ => by kernel_rfl), by kernel_rfl⟩, by kernel_rfl, fun v F w h => xV.ex h⟩
  case qold =>
    intro j k x y g' hj hk h1 _
    have := List.mem_of_getElem? hj
    simp at this
    rcases this with rfl | rfl <;> cases h1
  case qheads =>
    refine ⟨.inr ⟨rfl, 17, rfl, fun a v OK hOK hB hO hD K hK => ?_⟩, .inr ⟨rfl, 18, rfl, fun a v OK hOK hB hO hD K hK => ?_⟩, .inl rfl, .inl rfl, .inl rfl, .inl rfl, trivial⟩
    · exact wp_load_all 25 _ g3 25 (shV S A n c) (0, 0) _ rfl (eval_of (t := 3) (by rw [hO 3 (not_dst 3 (by kernel_rfl))]; rfl)) ((hB.block g3 (R0.out.lt 4 rfl) (by simp [oldsOf])).trans (R0.out.get 4 rfl)) Tryd.underlying25 rfl sizeShelf (hK _ _ _ ⟨rfl, rfl, (HS.out.below R0.out.below).loc (fun k hk => hB.block k (HFS.out k hk) (by simp [oldsOf]))⟩ (fun k hk => .inl (hOK k (HFS.out k hk) (by simp [oldsOf]))) (Below.refl _ _))
    · exact wp_load_all 25 _ g4 25 (shV S A' n' c') (0, 0) _ rfl (eval_of (t := 4) (by rw [hO 4 (not_dst 4 (by kernel_rfl))]; rfl)) ((hB.block g4 (R0.out.lt 3 rfl) (by simp [oldsOf])).trans (R0.out.get 3 rfl)) Tryd.underlying25 rfl sizeShelf (hK _ _ _ ⟨rfl, rfl, (HT.out.below R0.out.below).loc (fun k hk => hB.block k (HFT.out k hk) (by simp [oldsOf]))⟩ (fun k hk => .inl (hOK k (HFT.out k hk) (by simp [oldsOf]))) (Below.refl _ _))
  case qfin =>
    intro F w1 β hbx hap hV hB
    obtain ⟨hn0, _, C, G, hF17, h9, ⟨_, hC, _⟩, _⟩ := hbx 0 _ rfl
    obtain ⟨hn1, _, C', G', hF18, h10, ⟨_, hC', _⟩, _⟩ := hbx 1 _ rfl
    obtain ⟨hb0, e9⟩ := hn0 rfl
    obtain ⟨hb1, e10⟩ := hn1 rfl
    have hne := hap 0 1 (by decide) (by decide) (by decide)
    obtain rfl : C = shV S A n c := by cases hC; rfl
    obtain rfl : C' = shV S A' n' c' := by cases hC'; rfl
    obtain ⟨g9, hg9⟩ : ∃ g, g = β 0 := ⟨_, rfl⟩
    obtain ⟨g10, hg10⟩ : ∃ g, g = β 1 := ⟨_, rfl⟩
    simp only at e9 e10 hF17 hF18
    rw [← hg9] at h9 hb0 hne e9
    rw [← hg10] at h10 hb1 hne e10
    have R1 := Lib.hid (R0.out.two (x := rowT g9 (shV S A n c) 25) (y := rowT g10 (shV S A' n' c') 25) (F := [g9]) (G := [g10]) (Only.nil hB) ⟨rfl, h9⟩ ⟨rfl, h10⟩ (by simpa using hb0) (by simpa using hb1) (by simpa using hne))
    have HG9 : Hid (g9 ≠ g6 ∧ g9 ≠ g7 ∧ g10 ≠ g6 ∧ g10 ≠ g7) := Lib.hid (by have := R0.out.lt 0 rfl; have := R0.out.lt 1 rfl; omega)
    have HFS2 : Hid (∀ k ∈ foot A n l, k < g3) := Lib.hid (fun k hk => by rw [G3.out]; exact HS.out.foot_lt k hk)
    have HFT2 : Hid (∀ k ∈ foot A' n' l', k < g3) := Lib.hid (fun k hk => by rw [G3.out]; exact HT.out.foot_lt k hk)
    have HS1 := Lib.hid (HS.out.below R1.out.below)
    have HT1 := Lib.hid (HT.out.below R1.out.below)
    have HX1 : Hid (BytesIn w1 x.A x.data) := Lib.hid (HX.out.by_.below R1.out.below)
    simp only [putAll, List.setIfInBounds_toArray, List.set_cons_zero, List.set_cons_succ]
    rw [hF17, hF18, e9, e10]
    unfold shV
    clear hbx hap hV hB hn0 hn1 hF17 hF18 h9 h10 hC hC' hb0 hb1 hne hg9 hg10 e9 e10 HFS HFT R0
    obtain ⟨r, hr⟩ : ∃ r, r = x.what % 5 := ⟨_, rfl⟩
    have hrem : (x.what : Int) % 5 = (r : Int) := by rw [hr]; rfl
    have hr5 : r = 0 ∨ r = 1 ∨ r = 2 ∨ r = 3 ∨ r = 4 := by omega
    have HRR := Lib.hid hr
    clear hr
    rcases hr5 with rfl | rfl | rfl | rfl | rfl
    · have N1 := take_is (HC.out.below R1.out.below) ⟨A, n, c, l, rfl, HS1.out⟩ x.ser hser x.n
      have N2 := fun (w' : World) (h : ShelfOf w' S A' n' c' l') (_ : BytesIn w' x.A x.data) => reftake18 (w := w') h x.ser hser x.n
      have hds : does18S S x = if takeE S x.ser x.n = 0 then takeS S x.ser x.n else S := by unfold does18S; rw [← HRR.out]; rfl
      generalize takeS S x.ser x.n = S2 at N1 N2 hds
      generalize takeE S x.ser x.n = E at N1 N2 hds
      have HDS := Lib.hid hds
      clear hds
      generalize takeP S x.ser x.n = P at N1 N2
      obtain ⟨⟨y0, y1, y2, y3⟩, _, _, _, _⟩ := R1.out.cells4 6 rfl
      obtain ⟨_, o0, o1, o2, o3⟩ := R1.out.cells4 0 rfl
      obtain ⟨b0, b1, b2, b3, b4, b5⟩ := R1.out.cellsAct 4 rfl
      obtain ⟨⟨q0, q1, q2, q3⟩, _, _, _, _⟩ := R1.out.cells4 0 rfl
      go_wp2_with fail
      refine N1.mono ?_
      rintro e w2 ⟨v, rfl, ⟨A1, n1, c1, l1, rfl, hs1, hfr⟩, hb⟩
      have R2 := Lib.hid (R1.out.call hb)
      have HS2 := Lib.hid hs1
      have HFR := Lib.hid hfr
      have HB2 := Lib.hid hb
      clear N1 hs1 hfr hb y0 y1 y2 y3 o0 o1 o2 o3 b0 b1 b2 b3 b4 b5 q0 q1 q2 q3
      obtain ⟨⟨q0, q1, q2, q3⟩, o0, o1, o2, o3⟩ := R2.out.cells4 0 rfl
      unfold shV
      go_upto_region 10 with (fail)
      have q4 := R2.out.store4 0 rfl (.int .u8 (S2.cl : Int)) (.int .u16 (S2.prev : Int)) (.int .u16 (S2.next : Int)) (.slice A1 n1 c1)
      obtain ⟨W3, hW⟩ : ∃ W3, W3 = (((w2.setCell ⟨g9, 0, none⟩ (.int .u8 (S2.cl : Int))).setCell ⟨g9, 1, none⟩ (.int .u16 (S2.prev : Int))).setCell ⟨g9, 2, none⟩ (.int .u16 (S2.next : Int))).setCell ⟨g9, 3, none⟩ (.slice A1 n1 c1) := ⟨_, rfl⟩
      have ho := only4 w2 g9 (.int .u8 (S2.cl : Int)) (.int .u16 (S2.prev : Int)) (.int .u16 (S2.next : Int)) (.slice A1 n1 c1)
      rw [← hW] at q4 ho ⊢
      clear hW o0 o1 o2 o3 q0 q1 q2 q3
      have R3 := Lib.hid q4
      have HA3 : Hid (ShelfOf W3 S2 A1 n1 c1 l1) := Lib.hid (HS2.out.only (HFR.out.avoids (R1.out.lt 0 rfl)) ho)
      have HT3 : Hid (ShelfOf W3 S A' n' c' l') := Lib.hid ((HT1.out.below HB2.out).only (avoids_foot.2 (fun hk => by have := HFT2.out _ hk; have := G3.out; have := R1.out.ge 0 rfl; omega)) ho)
      have HX3 : Hid (BytesIn W3 x.A x.data) := Lib.hid (HX.out.by_.below R3.out.below)
      clear q4 ho
      obtain ⟨⟨y0, y1, y2, y3⟩, _, _, _, _⟩ := R3.out.cells4 5 rfl
      obtain ⟨b0, b1, b2, b3, b4, b5⟩ := R3.out.cellsAct 4 rfl
      go_wp2_with fail
      refine (N2 W3 HT3.out HX3.out).mono ?_
      rintro e w4 ⟨v, rfl, ⟨A2, n2, c2, l2, rfl, hs2, hf2⟩, hb⟩
      have R4 := Lib.hid (R3.out.call hb)
      have HB4 := Lib.hid hs2
      have HF4 := Lib.hid hf2
      have HA4 := Lib.hid (HA3.out.below hb)
      clear N2 hs2 hf2 hb y0 y1 y2 y3 b0 b1 b2 b3 b4 b5
      obtain ⟨⟨q0, q1, q2, q3⟩, o0, o1, o2, o3⟩ := R4.out.cells4 1 rfl
      unfold shV
      go_upto_region 20 with (fail)
      have q4 := R4.out.store4 1 rfl (.int .u8 (S2.cl : Int)) (.int .u16 (S2.prev : Int)) (.int .u16 (S2.next : Int)) (.slice A2 n2 c2)
      obtain ⟨W5, hW⟩ : ∃ W5, W5 = (((w4.setCell ⟨g10, 0, none⟩ (.int .u8 (S2.cl : Int))).setCell ⟨g10, 1, none⟩ (.int .u16 (S2.prev : Int))).setCell ⟨g10, 2, none⟩ (.int .u16 (S2.next : Int))).setCell ⟨g10, 3, none⟩ (.slice A2 n2 c2) := ⟨_, rfl⟩
      have ho := only4 w4 g10 (.int .u8 (S2.cl : Int)) (.int .u16 (S2.prev : Int)) (.int .u16 (S2.next : Int)) (.slice A2 n2 c2)
      rw [← hW] at q4 ho ⊢
      clear hW o0 o1 o2 o3 q0 q1 q2 q3
      have R5 := Lib.hid q4
      have HA5 : Hid (ShelfOf W5 S2 A1 n1 c1 l1) := Lib.hid (HA4.out.only (HFR.out.avoids (R1.out.lt 1 rfl)) ho)
      have HB5 : Hid (ShelfOf W5 S2 A2 n2 c2 l2) := Lib.hid (HB4.out.only (avoids_foot.2 (fun hk => by
        rcases HF4.out _ hk with h | h
        · have := HFT2.out _ h; have := G3.out; have := R1.out.ge 1 rfl; omega
        · have := R3.out.lt 1 rfl; omega)) ho)
      have HVA : Hid (∀ k ∈ foot A1 n1 l1, k ∈ foot A n l ∨ w.heap.size ≤ k) := Lib.hid (fun k hk => .inr (Nat.le_trans R1.out.below.size (HFR.out.foot k hk)))
      have HVB : Hid (∀ k ∈ foot A2 n2 l2, k ∈ foot A' n' l' ∨ w.heap.size ≤ k) := Lib.hid (fun k hk => (HF4.out k hk).imp id (Nat.le_trans R3.out.below.size))
      have HGG : Hid (g6 < w1.heap.size ∧ g7 < w1.heap.size ∧ g9 ≠ g6 ∧ g9 ≠ g7 ∧ g10 ≠ g6 ∧ g10 ≠ g7 ∧ g3 ≤ g6 ∧ g3 ≤ g7) := Lib.hid ⟨R1.out.lt 3 rfl, R1.out.lt 2 rfl, HG9.out.1, HG9.out.2.1, HG9.out.2.2.1, HG9.out.2.2.2, by have := G4.out; have := G5.out; have := G6.out; omega, by have := G4.out; have := G5.out; have := G6.out; have := G7.out; omega⟩
      have HNA : Hid (∀ k ∈ foot A1 n1 l1, k ∉ [g6, g7]) := Lib.hid (fun k hk => by have := HFR.out.foot k hk; have := HGG.out; simp; omega)
      have HNB : Hid (∀ k ∈ foot A2 n2 l2, k ∉ [g6, g7]) := Lib.hid (fun k hk => by
        have hg := HGG.out
        rcases HF4.out k hk with h | h
        · have := HFT2.out k h; simp; omega
        · have := R3.out.lt 3 rfl; have := R3.out.lt 2 rfl; simp; omega)
      have hcl : ∀ w : World, (convert 27 9 (.slice none 0 0)).run Tryd.prog w = .ok (.string ⟨#[]⟩) w := fun w => run_bytes_in w _ _ 5 none 0 0 Tryd.underlying27 Tryd.underlying5 Tryd.underlying9 [] rfl (.inl rfl)
      clear q4 ho HA4 HB4 HF4 HA3 HT3 HX3 R4 R3 R2 HS2 HFR HB2
      obtain ⟨⟨y0, y1, y2, y3⟩, _, _, _, _⟩ := R5.out.cells4 0 rfl
      obtain ⟨⟨z0, z1, z2, z3⟩, _, _, _, _⟩ := R5.out.cells4 1 rfl
      have N5 := refsame18 (w := W5) ⟨A1, n1, c1, l1, rfl, HA5.out⟩ ⟨A2, n2, c2, l2, rfl, HB5.out⟩
      rw [(sameL_iff S2 S2).2 rfl] at N5
      go_wp2_with fail
      refine N5.mono ?_
      rintro e w5 ⟨rfl, hb⟩
      have R6 := Lib.hid (R5.out.call hb)
      have HA6 := Lib.hid (HA5.out.below hb)
      have HB6 := Lib.hid (HB5.out.below hb)
      have HS6 := Lib.hid (HS.out.below R6.out.below)
      have HT6 := Lib.hid (HT.out.below R6.out.below)
      clear N5 hb y0 y1 y2 y3 z0 z1 z2 z3 hcl R5 HA5 HB5
      have HNS : Hid (∀ k ∈ foot A n l, k ∉ [g6, g7]) := Lib.hid (fun k hk => by have := HFS2.out k hk; have := G4.out; have := G5.out; have := G6.out; have := G7.out; simp; omega)
      have HNT : Hid (∀ k ∈ foot A' n' l', k ∉ [g6, g7]) := Lib.hid (fun k hk => by have := HFT2.out k hk; have := G4.out; have := G5.out; have := G6.out; have := G7.out; simp; omega)
      have HSS : Hid (∀ k ∈ foot A n l, k ∈ foot A n l ∨ w.heap.size ≤ k) := Lib.hid (fun k hk => .inl hk)
      have HTT : Hid (∀ k ∈ foot A' n' l', k ∈ foot A' n' l' ∨ w.heap.size ≤ k) := Lib.hid (fun k hk => .inl hk)
      by_cases hE : E = 0
      · subst hE
        have HDS2 := Lib.hid (HDS.out.trans (if_pos rfl))
        clear HDS
        go_wp2_with fail
        have hA := R6.out.get 0 rfl
        have hB' := R6.out.get 1 rfl
        refine wp_region_boxes (by kernel_rfl) [⟨98, 2, 0, zeroShC, 25, 6, 169, some g6⟩, ⟨99, 3, 1, zeroShC, 25, 7, 170, some g7⟩] (twoV 169 170 8 true S2 S2 A1 n1 c1 l1 A2 n2 c2 l2) (twoV_lt _ _ _ _ _ _ _ _ _ _ _ _ _ _) (twoV_loc _ _ _ _ _ _ _ _ _ _ _ _ _ _) (by kernel_rfl) (by kernel_rfl) (by kernel_rfl) ?qbs (by kernel_rfl) (two_old (by have := G7.out; have := G6.out; simp; omega)) ?qheads ?qfin
        case qbs =>
          intro y hy
          rcases List.mem_cons.1 hy with rfl | hy
          · exact ⟨(fun h => by cases h), (fun g' h => by cases h; exact ⟨R6.out.get 3 rfl, rfl, by kernel_rfl, Nat.le_of_ble_eq_true rfl⟩), ⟨_, rfl, rfl, rfl, rfl, (fun h => by cases h), by kernel_rfl⟩, by kernel_rfl, fun v F w h => xV.ex h⟩
          · obtain rfl : y = _ := by simpa using hy
            exact ⟨(fun h => by cases h), (fun g' h => by cases h; exact ⟨R6.out.get 2 rfl, rfl, by kernel_rfl, Nat.le_of_ble_eq_true rfl⟩), ⟨_, rfl, rfl, rfl, rfl, (fun h => by cases h), by kernel_rfl⟩, by kernel_rfl, fun v F w h => xV.ex h⟩
        case qheads =>
          refine ⟨.inr ⟨rfl, 169, rfl, fun a v OK hOK hB hO hD K hK => ?_⟩, .inr ⟨rfl, 170, rfl, fun a v OK hOK hB hO hD K hK => ?_⟩, .inl rfl, .inl rfl, .inr ⟨rfl, 8, rfl, fun a v OK hOK hB hO hD K hK => ?_⟩, trivial⟩
          · exact wp_load_all 25 _ g9 25 (shV S2 A1 n1 c1) (0, 0) _ rfl (eval_of (t := 9) (by rw [hO 9 (not_dst 9 (by kernel_rfl))]; rfl)) ((hB.block g9 (R6.out.lt 0 rfl) (by have := HGG.out; simp [oldsOf]; omega)).trans hA) Tryd.underlying25 rfl sizeShelf (hK _ _ _ ⟨rfl, rfl, HA6.out.loc (fun k hk => hB.block k (HA6.out.foot_lt k hk) (HNA.out k hk))⟩ (fun k hk => .inl (hOK k (HA6.out.foot_lt k hk) (HNA.out k hk))) (Below.refl _ _))
          · exact wp_load_all 25 _ g10 25 (shV S2 A2 n2 c2) (0, 0) _ rfl (eval_of (t := 10) (by rw [hO 10 (not_dst 10 (by kernel_rfl))]; rfl)) ((hB.block g10 (R6.out.lt 1 rfl) (by have := HGG.out; simp [oldsOf]; omega)).trans hB') Tryd.underlying25 rfl sizeShelf (hK _ _ _ ⟨rfl, rfl, HB6.out.loc (fun k hk => hB.block k (HB6.out.foot_lt k hk) (HNB.out k hk))⟩ (fun k hk => .inl (hOK k (HB6.out.foot_lt k hk) (HNB.out k hk))) (Below.refl _ _))
          · exact wpb_assign _ _ rfl rfl (hK _ [] _ ⟨rfl, rfl⟩ (by simp) (Below.refl _ _))
        case qfin =>
          intro F w6 β hbx hap hV hB
          obtain ⟨_, hn0, C, G, hF17, h6, ⟨_, hC, hSA⟩, _⟩ := hbx 0 _ rfl
          obtain ⟨_, hn1, C', G', hF18, h7, ⟨_, hC', hSB⟩, _⟩ := hbx 1 _ rfl
          rw [hn0 g6 rfl] at h6
          rw [hn1 g7 rfl] at h7
          obtain rfl : C = shV S2 A1 n1 c1 := by cases hC; rfl
          obtain rfl : C' = shV S2 A2 n2 c2 := by cases hC'; rfl
          have e8 : F 8 = .bool true := (hV 4 _ 8 rfl rfl rfl).elim (fun _ h => h.2)
          have HBW : Hid (Below w.heap.size w w6) := Lib.hid (R6.out.below.trans (hB.below (by intro y hy; have := R6.out.ge 3 rfl; have := R6.out.ge 2 rfl; simp [oldsOf] at hy; omega) R6.out.below.size))
          have H6 := Lib.hid h6
          have H7 := Lib.hid h7
          have HSA := Lib.hid hSA
          have HSB := Lib.hid hSB
          simp only [putAll, List.setIfInBounds_toArray, List.set_cons_zero, List.set_cons_succ]
          rw [hF17, hF18, e8]
          clear hbx hap hV hB hn0 hn1 hF17 hF18 h6 h7 hC hC' hSA hSB e8 hA hB'
          go_wp2_with fail
          exact bodyPost_ret (v := .tuple #[.agg (shV S2 A1 n1 c1), .agg (shV S2 A2 n2 c2), .bool true]) (results_cells2_slot rfl _ _ g6 g7 25 _ _ (0, 0) (0, 0) _ _ rfl rfl rfl H6.out H7.out Tryd.underlying25 rfl sizeShelf sizeShelf) rfl ⟨_, _, rfl, by rw [HDS2.out]; exact ⟨A1, n1, c1, l1, rfl, HSA.out, HVA.out⟩, by rw [HDS2.out]; exact ⟨A2, n2, c2, l2, rfl, HSB.out, HVB.out⟩, HBW.out⟩
      · have HDS2 := Lib.hid (HDS.out.trans (if_neg hE))
        clear HDS
        have hE' : (E != 0) = true := by simpa using hE
        go_wp2_with fail
        have hA := R6.out.get 6 rfl
        have hB' := R6.out.get 5 rfl
        refine wp_region_boxes (by kernel_rfl) [⟨98, 2, 0, zeroShC, 25, 6, 167, some g6⟩, ⟨99, 3, 1, zeroShC, 25, 7, 168, some g7⟩] (twoV 167 168 8 true S S A n c l A' n' c' l') (twoV_lt _ _ _ _ _ _ _ _ _ _ _ _ _ _) (twoV_loc _ _ _ _ _ _ _ _ _ _ _ _ _ _) (by kernel_rfl) (by kernel_rfl) (by kernel_rfl) ?qbs (by kernel_rfl) (two_old (by have := G7.out; have := G6.out; simp; omega)) ?qheads ?qfin
        case qbs =>
          intro y hy
          rcases List.mem_cons.1 hy with rfl | hy
          · exact ⟨(fun h => by cases h), (fun g' h => by cases h; exact ⟨R6.out.get 3 rfl, rfl, by kernel_rfl, Nat.le_of_ble_eq_true rfl⟩), ⟨_, rfl, rfl, rfl, rfl, (fun h => by cases h), by kernel_rfl⟩, by kernel_rfl, fun v F w h => xV.ex h⟩
          · obtain rfl : y = _ := by simpa using hy
            exact ⟨(fun h => by cases h), (fun g' h => by cases h; exact ⟨R6.out.get 2 rfl, rfl, by kernel_rfl, Nat.le_of_ble_eq_true rfl⟩), ⟨_, rfl, rfl, rfl, rfl, (fun h => by cases h), by kernel_rfl⟩, by kernel_rfl, fun v F w h => xV.ex h⟩
        case qheads =>
          refine ⟨.inr ⟨rfl, 167, rfl, fun a v OK hOK hB hO hD K hK => ?_⟩, .inr ⟨rfl, 168, rfl, fun a v OK hOK hB hO hD K hK => ?_⟩, .inl rfl, .inl rfl, .inr ⟨rfl, 8, rfl, fun a v OK hOK hB hO hD K hK => ?_⟩, trivial⟩
          · exact wp_load_all 25 _ g3 25 (shV S A n c) (0, 0) _ rfl (eval_of (t := 3) (by rw [hO 3 (not_dst 3 (by kernel_rfl))]; rfl)) ((hB.block g3 (R6.out.lt 6 rfl) (by have := G4.out; have := G5.out; have := G6.out; have := G7.out; simp [oldsOf]; omega)).trans hA) Tryd.underlying25 rfl sizeShelf (hK _ _ _ ⟨rfl, rfl, HS6.out.loc (fun k hk => hB.block k (HS6.out.foot_lt k hk) (HNS.out k hk))⟩ (fun k hk => .inl (hOK k (HS6.out.foot_lt k hk) (HNS.out k hk))) (Below.refl _ _))
          · exact wp_load_all 25 _ g4 25 (shV S A' n' c') (0, 0) _ rfl (eval_of (t := 4) (by rw [hO 4 (not_dst 4 (by kernel_rfl))]; rfl)) ((hB.block g4 (R6.out.lt 5 rfl) (by have := G4.out; have := G5.out; have := G6.out; have := G7.out; simp [oldsOf]; omega)).trans hB') Tryd.underlying25 rfl sizeShelf (hK _ _ _ ⟨rfl, rfl, HT6.out.loc (fun k hk => hB.block k (HT6.out.foot_lt k hk) (HNT.out k hk))⟩ (fun k hk => .inl (hOK k (HT6.out.foot_lt k hk) (HNT.out k hk))) (Below.refl _ _))
          · exact wpb_assign _ _ rfl rfl (hK _ [] _ ⟨rfl, rfl⟩ (by simp) (Below.refl _ _))
        case qfin =>
          intro F w6 β hbx hap hV hB
          obtain ⟨_, hn0, C, G, hF17, h6, ⟨_, hC, hSA⟩, _⟩ := hbx 0 _ rfl
          obtain ⟨_, hn1, C', G', hF18, h7, ⟨_, hC', hSB⟩, _⟩ := hbx 1 _ rfl
          rw [hn0 g6 rfl] at h6
          rw [hn1 g7 rfl] at h7
          obtain rfl : C = shV S A n c := by cases hC; rfl
          obtain rfl : C' = shV S A' n' c' := by cases hC'; rfl
          have e8 : F 8 = .bool true := (hV 4 _ 8 rfl rfl rfl).elim (fun _ h => h.2)
          have HBW : Hid (Below w.heap.size w w6) := Lib.hid (R6.out.below.trans (hB.below (by intro y hy; have := R6.out.ge 3 rfl; have := R6.out.ge 2 rfl; simp [oldsOf] at hy; omega) R6.out.below.size))
          have H6 := Lib.hid h6
          have H7 := Lib.hid h7
          have HSA := Lib.hid hSA
          have HSB := Lib.hid hSB
          simp only [putAll, List.setIfInBounds_toArray, List.set_cons_zero, List.set_cons_succ]
          rw [hF17, hF18, e8]
          clear hbx hap hV hB hn0 hn1 hF17 hF18 h6 h7 hC hC' hSA hSB e8 hA hB'
          go_wp2_with fail
          exact bodyPost_ret (v := .tuple #[.agg (shV S A n c), .agg (shV S A' n' c'), .bool true]) (results_cells2_slot rfl _ _ g6 g7 25 _ _ (0, 0) (0, 0) _ _ rfl rfl rfl H6.out H7.out Tryd.underlying25 rfl sizeShelf sizeShelf) rfl ⟨_, _, rfl, by rw [HDS2.out]; exact ⟨A, n, c, l, rfl, HSA.out, HSS.out⟩, by rw [HDS2.out]; exact ⟨A', n', c', l', rfl, HSB.out, HTT.out⟩, HBW.out⟩
    · have N1 := give_is (HC.out.below R1.out.below) ⟨A, n, c, l, rfl, HS1.out⟩ x.place x.ser
      have N2 := fun (w' : World) (h : ShelfOf w' S A' n' c' l') (_ : BytesIn w' x.A x.data) => refgive18 (w := w') h x.place x.ser
      have hds : does18S S x = if findE S x.place x.ser = 0 then giveS S x.place x.ser else S := by unfold does18S; rw [← HRR.out]; rfl
      generalize giveS S x.place x.ser = S2 at N1 N2 hds
      generalize findE S x.place x.ser = E at N1 N2 hds
      have HDS := Lib.hid hds
      clear hds
      obtain ⟨⟨y0, y1, y2, y3⟩, _, _, _, _⟩ := R1.out.cells4 6 rfl
      obtain ⟨_, o0, o1, o2, o3⟩ := R1.out.cells4 0 rfl
      obtain ⟨b0, b1, b2, b3, b4, b5⟩ := R1.out.cellsAct 4 rfl
      obtain ⟨⟨q0, q1, q2, q3⟩, _, _, _, _⟩ := R1.out.cells4 0 rfl
      go_wp2_with fail
      refine N1.mono ?_
      rintro e w2 ⟨v, rfl, ⟨A1, n1, c1, l1, rfl, hs1, hfr⟩, hb⟩
      have R2 := Lib.hid (R1.out.call hb)
      have HS2 := Lib.hid hs1
      have HFR := Lib.hid hfr
      have HB2 := Lib.hid hb
      clear N1 hs1 hfr hb y0 y1 y2 y3 o0 o1 o2 o3 b0 b1 b2 b3 b4 b5 q0 q1 q2 q3
      obtain ⟨⟨q0, q1, q2, q3⟩, o0, o1, o2, o3⟩ := R2.out.cells4 0 rfl
      unfold shV
      go_upto_region 13 with (fail)
      have q4 := R2.out.store4 0 rfl (.int .u8 (S2.cl : Int)) (.int .u16 (S2.prev : Int)) (.int .u16 (S2.next : Int)) (.slice A1 n1 c1)
      obtain ⟨W3, hW⟩ : ∃ W3, W3 = (((w2.setCell ⟨g9, 0, none⟩ (.int .u8 (S2.cl : Int))).setCell ⟨g9, 1, none⟩ (.int .u16 (S2.prev : Int))).setCell ⟨g9, 2, none⟩ (.int .u16 (S2.next : Int))).setCell ⟨g9, 3, none⟩ (.slice A1 n1 c1) := ⟨_, rfl⟩
      have ho := only4 w2 g9 (.int .u8 (S2.cl : Int)) (.int .u16 (S2.prev : Int)) (.int .u16 (S2.next : Int)) (.slice A1 n1 c1)
      rw [← hW] at q4 ho ⊢
      clear hW o0 o1 o2 o3 q0 q1 q2 q3
      have R3 := Lib.hid q4
      have HA3 : Hid (ShelfOf W3 S2 A1 n1 c1 l1) := Lib.hid (HS2.out.only (HFR.out.avoids (R1.out.lt 0 rfl)) ho)
      have HT3 : Hid (ShelfOf W3 S A' n' c' l') := Lib.hid ((HT1.out.below HB2.out).only (avoids_foot.2 (fun hk => by have := HFT2.out _ hk; have := G3.out; have := R1.out.ge 0 rfl; omega)) ho)
      have HX3 : Hid (BytesIn W3 x.A x.data) := Lib.hid (HX.out.by_.below R3.out.below)
      clear q4 ho
      obtain ⟨⟨y0, y1, y2, y3⟩, _, _, _, _⟩ := R3.out.cells4 5 rfl
      obtain ⟨b0, b1, b2, b3, b4, b5⟩ := R3.out.cellsAct 4 rfl
      go_wp2_with fail
      refine (N2 W3 HT3.out HX3.out).mono ?_
      rintro e w4 ⟨v, rfl, ⟨A2, n2, c2, l2, rfl, hs2, hf2⟩, hb⟩
      have R4 := Lib.hid (R3.out.call hb)
      have HB4 := Lib.hid hs2
      have HF4 := Lib.hid hf2
      have HA4 := Lib.hid (HA3.out.below hb)
      clear N2 hs2 hf2 hb y0 y1 y2 y3 b0 b1 b2 b3 b4 b5
      obtain ⟨⟨q0, q1, q2, q3⟩, o0, o1, o2, o3⟩ := R4.out.cells4 1 rfl
      unfold shV
      go_upto_region 20 with (fail)
      have q4 := R4.out.store4 1 rfl (.int .u8 (S2.cl : Int)) (.int .u16 (S2.prev : Int)) (.int .u16 (S2.next : Int)) (.slice A2 n2 c2)
      obtain ⟨W5, hW⟩ : ∃ W5, W5 = (((w4.setCell ⟨g10, 0, none⟩ (.int .u8 (S2.cl : Int))).setCell ⟨g10, 1, none⟩ (.int .u16 (S2.prev : Int))).setCell ⟨g10, 2, none⟩ (.int .u16 (S2.next : Int))).setCell ⟨g10, 3, none⟩ (.slice A2 n2 c2) := ⟨_, rfl⟩
      have ho := only4 w4 g10 (.int .u8 (S2.cl : Int)) (.int .u16 (S2.prev : Int)) (.int .u16 (S2.next : Int)) (.slice A2 n2 c2)
      rw [← hW] at q4 ho ⊢
      clear hW o0 o1 o2 o3 q0 q1 q2 q3
      have R5 := Lib.hid q4
      have HA5 : Hid (ShelfOf W5 S2 A1 n1 c1 l1) := Lib.hid (HA4.out.only (HFR.out.avoids (R1.out.lt 1 rfl)) ho)
      have HB5 : Hid (ShelfOf W5 S2 A2 n2 c2 l2) := Lib.hid (HB4.out.only (avoids_foot.2 (fun hk => by
        rcases HF4.out _ hk with h | h
        · have := HFT2.out _ h; have := G3.out; have := R1.out.ge 1 rfl; omega
        · have := R3.out.lt 1 rfl; omega)) ho)
      have HVA : Hid (∀ k ∈ foot A1 n1 l1, k ∈ foot A n l ∨ w.heap.size ≤ k) := Lib.hid (fun k hk => .inr (Nat.le_trans R1.out.below.size (HFR.out.foot k hk)))
      have HVB : Hid (∀ k ∈ foot A2 n2 l2, k ∈ foot A' n' l' ∨ w.heap.size ≤ k) := Lib.hid (fun k hk => (HF4.out k hk).imp id (Nat.le_trans R3.out.below.size))
      have HGG : Hid (g6 < w1.heap.size ∧ g7 < w1.heap.size ∧ g9 ≠ g6 ∧ g9 ≠ g7 ∧ g10 ≠ g6 ∧ g10 ≠ g7 ∧ g3 ≤ g6 ∧ g3 ≤ g7) := Lib.hid ⟨R1.out.lt 3 rfl, R1.out.lt 2 rfl, HG9.out.1, HG9.out.2.1, HG9.out.2.2.1, HG9.out.2.2.2, by have := G4.out; have := G5.out; have := G6.out; omega, by have := G4.out; have := G5.out; have := G6.out; have := G7.out; omega⟩
      have HNA : Hid (∀ k ∈ foot A1 n1 l1, k ∉ [g6, g7]) := Lib.hid (fun k hk => by have := HFR.out.foot k hk; have := HGG.out; simp; omega)
      have HNB : Hid (∀ k ∈ foot A2 n2 l2, k ∉ [g6, g7]) := Lib.hid (fun k hk => by
        have hg := HGG.out
        rcases HF4.out k hk with h | h
        · have := HFT2.out k h; simp; omega
        · have := R3.out.lt 3 rfl; have := R3.out.lt 2 rfl; simp; omega)
      have hcl : ∀ w : World, (convert 27 9 (.slice none 0 0)).run Tryd.prog w = .ok (.string ⟨#[]⟩) w := fun w => run_bytes_in w _ _ 5 none 0 0 Tryd.underlying27 Tryd.underlying5 Tryd.underlying9 [] rfl (.inl rfl)
      clear q4 ho HA4 HB4 HF4 HA3 HT3 HX3 R4 R3 R2 HS2 HFR HB2
      obtain ⟨⟨y0, y1, y2, y3⟩, _, _, _, _⟩ := R5.out.cells4 0 rfl
      obtain ⟨⟨z0, z1, z2, z3⟩, _, _, _, _⟩ := R5.out.cells4 1 rfl
      have N5 := refsame18 (w := W5) ⟨A1, n1, c1, l1, rfl, HA5.out⟩ ⟨A2, n2, c2, l2, rfl, HB5.out⟩
      rw [(sameL_iff S2 S2).2 rfl] at N5
      go_wp2_with fail
      refine N5.mono ?_
      rintro e w5 ⟨rfl, hb⟩
      have R6 := Lib.hid (R5.out.call hb)
      have HA6 := Lib.hid (HA5.out.below hb)
      have HB6 := Lib.hid (HB5.out.below hb)
      have HS6 := Lib.hid (HS.out.below R6.out.below)
      have HT6 := Lib.hid (HT.out.below R6.out.below)
      clear N5 hb y0 y1 y2 y3 z0 z1 z2 z3 hcl R5 HA5 HB5
      have HNS : Hid (∀ k ∈ foot A n l, k ∉ [g6, g7]) := Lib.hid (fun k hk => by have := HFS2.out k hk; have := G4.out; have := G5.out; have := G6.out; have := G7.out; simp; omega)
      have HNT : Hid (∀ k ∈ foot A' n' l', k ∉ [g6, g7]) := Lib.hid (fun k hk => by have := HFT2.out k hk; have := G4.out; have := G5.out; have := G6.out; have := G7.out; simp; omega)
      have HSS : Hid (∀ k ∈ foot A n l, k ∈ foot A n l ∨ w.heap.size ≤ k) := Lib.hid (fun k hk => .inl hk)
      have HTT : Hid (∀ k ∈ foot A' n' l', k ∈ foot A' n' l' ∨ w.heap.size ≤ k) := Lib.hid (fun k hk => .inl hk)
      by_cases hE : E = 0
      · subst hE
        have HDS2 := Lib.hid (HDS.out.trans (if_pos rfl))
        clear HDS
        go_wp2_with fail
        have hA := R6.out.get 0 rfl
        have hB' := R6.out.get 1 rfl
        refine wp_region_boxes (by kernel_rfl) [⟨98, 2, 0, zeroShC, 25, 6, 169, some g6⟩, ⟨99, 3, 1, zeroShC, 25, 7, 170, some g7⟩] (twoV 169 170 8 true S2 S2 A1 n1 c1 l1 A2 n2 c2 l2) (twoV_lt _ _ _ _ _ _ _ _ _ _ _ _ _ _) (twoV_loc _ _ _ _ _ _ _ _ _ _ _ _ _ _) (by kernel_rfl) (by kernel_rfl) (by kernel_rfl) ?qbs (by kernel_rfl) (two_old (by have := G7.out; have := G6.out; simp; omega)) ?qheads ?qfin
        case qbs =>
          intro y hy
          rcases List.mem_cons.1 hy with rfl | hy
          · exact ⟨(fun h => by cases h), (fun g' h => by cases h; exact ⟨R6.out.get 3 rfl, rfl, by kernel_rfl, Nat.le_of_ble_eq_true rfl⟩), ⟨_, rfl, rfl, rfl, rfl, (fun h => by cases h), by kernel_rfl⟩, by kernel_rfl, fun v F w h => xV.ex h⟩
          · obtain rfl : y = _ := by simpa using hy
            exact ⟨(fun h => by cases h), (fun g' h => by cases h; exact ⟨R6.out.get 2 rfl, rfl, by kernel_rfl, Nat.le_of_ble_eq_true rfl⟩), ⟨_, rfl, rfl, rfl, rfl, (fun h => by cases h), by kernel_rfl⟩, by kernel_rfl, fun v F w h => xV.ex h⟩
        case qheads =>
          refine ⟨.inr ⟨rfl, 169, rfl, fun a v OK hOK hB hO hD K hK => ?_⟩, .inr ⟨rfl, 170, rfl, fun a v OK hOK hB hO hD K hK => ?_⟩, .inl rfl, .inl rfl, .inr ⟨rfl, 8, rfl, fun a v OK hOK hB hO hD K hK => ?_⟩, trivial⟩
          · exact wp_load_all 25 _ g9 25 (shV S2 A1 n1 c1) (0, 0) _ rfl (eval_of (t := 9) (by rw [hO 9 (not_dst 9 (by kernel_rfl))]; rfl)) ((hB.block g9 (R6.out.lt 0 rfl) (by have := HGG.out; simp [oldsOf]; omega)).trans hA) Tryd.underlying25 rfl sizeShelf (hK _ _ _ ⟨rfl, rfl, HA6.out.loc (fun k hk => hB.block k (HA6.out.foot_lt k hk) (HNA.out k hk))⟩ (fun k hk => .inl (hOK k (HA6.out.foot_lt k hk) (HNA.out k hk))) (Below.refl _ _))
          · exact wp_load_all 25 _ g10 25 (shV S2 A2 n2 c2) (0, 0) _ rfl (eval_of (t := 10) (by rw [hO 10 (not_dst 10 (by kernel_rfl))]; rfl)) ((hB.block g10 (R6.out.lt 1 rfl) (by have := HGG.out; simp [oldsOf]; omega)).trans hB') Tryd.underlying25 rfl sizeShelf (hK _ _ _ ⟨rfl, rfl, HB6.out.loc (fun k hk => hB.block k (HB6.out.foot_lt k hk) (HNB.out k hk))⟩ (fun k hk => .inl (hOK k (HB6.out.foot_lt k hk) (HNB.out k hk))) (Below.refl _ _))
          · exact wpb_assign _ _ rfl rfl (hK _ [] _ ⟨rfl, rfl⟩ (by simp) (Below.refl _ _))
        case qfin =>
          intro F w6 β hbx hap hV hB
          obtain ⟨_, hn0, C, G, hF17, h6, ⟨_, hC, hSA⟩, _⟩ := hbx 0 _ rfl
          obtain ⟨_, hn1, C', G', hF18, h7, ⟨_, hC', hSB⟩, _⟩ := hbx 1 _ rfl
          rw [hn0 g6 rfl] at h6
          rw [hn1 g7 rfl] at h7
          obtain rfl : C = shV S2 A1 n1 c1 := by cases hC; rfl
          obtain rfl : C' = shV S2 A2 n2 c2 := by cases hC'; rfl
          have e8 : F 8 = .bool true := (hV 4 _ 8 rfl rfl rfl).elim (fun _ h => h.2)
          have HBW : Hid (Below w.heap.size w w6) := Lib.hid (R6.out.below.trans (hB.below (by intro y hy; have := R6.out.ge 3 rfl; have := R6.out.ge 2 rfl; simp [oldsOf] at hy; omega) R6.out.below.size))
          have H6 := Lib.hid h6
          have H7 := Lib.hid h7
          have HSA := Lib.hid hSA
          have HSB := Lib.hid hSB
          simp only [putAll, List.setIfInBounds_toArray, List.set_cons_zero, List.set_cons_succ]
          rw [hF17, hF18, e8]
          clear hbx hap hV hB hn0 hn1 hF17 hF18 h6 h7 hC hC' hSA hSB e8 hA hB'
          go_wp2_with fail
          exact bodyPost_ret (v := .tuple #[.agg (shV S2 A1 n1 c1), .agg (shV S2 A2 n2 c2), .bool true]) (results_cells2_slot rfl _ _ g6 g7 25 _ _ (0, 0) (0, 0) _ _ rfl rfl rfl H6.out H7.out Tryd.underlying25 rfl sizeShelf sizeShelf) rfl ⟨_, _, rfl, by rw [HDS2.out]; exact ⟨A1, n1, c1, l1, rfl, HSA.out, HVA.out⟩, by rw [HDS2.out]; exact ⟨A2, n2, c2, l2, rfl, HSB.out, HVB.out⟩, HBW.out⟩
      · have HDS2 := Lib.hid (HDS.out.trans (if_neg hE))
        clear HDS
        have hE' : (E != 0) = true := by simpa using hE
        go_wp2_with fail
        have hA := R6.out.get 6 rfl
        have hB' := R6.out.get 5 rfl
        refine wp_region_boxes (by kernel_rfl) [⟨98, 2, 0, zeroShC, 25, 6, 167, some g6⟩, ⟨99, 3, 1, zeroShC, 25, 7, 168, some g7⟩] (twoV 167 168 8 true S S A n c l A' n' c' l') (twoV_lt _ _ _ _ _ _ _ _ _ _ _ _ _ _) (twoV_loc _ _ _ _ _ _ _ _ _ _ _ _ _ _) (by kernel_rfl) (by kernel_rfl) (by kernel_rfl) ?qbs (by kernel_rfl) (two_old (by have := G7.out; have := G6.out; simp; omega)) ?qheads ?qfin
        case qbs =>
          intro y hy
          rcases List.mem_cons.1 hy with rfl | hy
          · exact ⟨(fun h => by cases h), (fun g' h => by cases h; exact ⟨R6.out.get 3 rfl, rfl, by kernel_rfl, Nat.le_of_ble_eq_true rfl⟩), ⟨_, rfl, rfl, rfl, rfl, (fun h => by cases h), by kernel_rfl⟩, by kernel_rfl, fun v F w h => xV.ex h⟩
          · obtain rfl : y = _ := by simpa using hy
            exact ⟨(fun h => by cases h), (fun g' h => by cases h; exact ⟨R6.out.get 2 rfl, rfl, by kernel_rfl, Nat.le_of_ble_eq_true rfl⟩), ⟨_, rfl, rfl, rfl, rfl, (fun h => by cases h), by kernel_rfl⟩, by kernel_rfl, fun v F w h => xV.ex h⟩
        case qheads =>
          refine ⟨.inr ⟨rfl, 167, rfl, fun a v OK hOK hB hO hD K hK => ?_⟩, .inr ⟨rfl, 168, rfl, fun a v OK hOK hB hO hD K hK => ?_⟩, .inl rfl, .inl rfl, .inr ⟨rfl, 8, rfl, fun a v OK hOK hB hO hD K hK => ?_⟩, trivial⟩
          · exact wp_load_all 25 _ g3 25 (shV S A n c) (0, 0) _ rfl (eval_of (t := 3) (by rw [hO 3 (not_dst 3 (by kernel_rfl))]; rfl)) ((hB.block g3 (R6.out.lt 6 rfl) (by have := G4.out; have := G5.out; have := G6.out; have := G7.out; simp [oldsOf]; omega)).trans hA) Tryd.underlying25 rfl sizeShelf (hK _ _ _ ⟨rfl, rfl, HS6.out.loc (fun k hk => hB.block k (HS6.out.foot_lt k hk) (HNS.out k hk))⟩ (fun k hk => .inl (hOK k (HS6.out.foot_lt k hk) (HNS.out k hk))) (Below.refl _ _))
          · exact wp_load_all 25 _ g4 25 (shV S A' n' c') (0, 0) _ rfl (eval_of (t := 4) (by rw [hO 4 (not_dst 4 (by kernel_rfl))]; rfl)) ((hB.block g4 (R6.out.lt 5 rfl) (by have := G4.out; have := G5.out; have := G6.out; have := G7.out; simp [oldsOf]; omega)).trans hB') Tryd.underlying25 rfl sizeShelf (hK _ _ _ ⟨rfl, rfl, HT6.out.loc (fun k hk => hB.block k (HT6.out.foot_lt k hk) (HNT.out k hk))⟩ (fun k hk => .inl (hOK k (HT6.out.foot_lt k hk) (HNT.out k hk))) (Below.refl _ _))
          · exact wpb_assign _ _ rfl rfl (hK _ [] _ ⟨rfl, rfl⟩ (by simp) (Below.refl _ _))
        case qfin =>
          intro F w6 β hbx hap hV hB
          obtain ⟨_, hn0, C, G, hF17, h6, ⟨_, hC, hSA⟩, _⟩ := hbx 0 _ rfl
          obtain ⟨_, hn1, C', G', hF18, h7, ⟨_, hC', hSB⟩, _⟩ := hbx 1 _ rfl
          rw [hn0 g6 rfl] at h6
          rw [hn1 g7 rfl] at h7
          obtain rfl : C = shV S A n c := by cases hC; rfl
          obtain rfl : C' = shV S A' n' c' := by cases hC'; rfl
          have e8 : F 8 = .bool true := (hV 4 _ 8 rfl rfl rfl).elim (fun _ h => h.2)
          have HBW : Hid (Below w.heap.size w w6) := Lib.hid (R6.out.below.trans (hB.below (by intro y hy; have := R6.out.ge 3 rfl; have := R6.out.ge 2 rfl; simp [oldsOf] at hy; omega) R6.out.below.size))
          have H6 := Lib.hid h6
          have H7 := Lib.hid h7
          have HSA := Lib.hid hSA
          have HSB := Lib.hid hSB
          simp only [putAll, List.setIfInBounds_toArray, List.set_cons_zero, List.set_cons_succ]
          rw [hF17, hF18, e8]
          clear hbx hap hV hB hn0 hn1 hF17 hF18 h6 h7 hC hC' hSA hSB e8 hA hB'
          go_wp2_with fail
          exact bodyPost_ret (v := .tuple #[.agg (shV S A n c), .agg (shV S A' n' c'), .bool true]) (results_cells2_slot rfl _ _ g6 g7 25 _ _ (0, 0) (0, 0) _ _ rfl rfl rfl H6.out H7.out Tryd.underlying25 rfl sizeShelf sizeShelf) rfl ⟨_, _, rfl, by rw [HDS2.out]; exact ⟨A, n, c, l, rfl, HSA.out, HSS.out⟩, by rw [HDS2.out]; exact ⟨A', n', c', l', rfl, HSB.out, HTT.out⟩, HBW.out⟩
    · have N1 := resize_is (HC.out.below R1.out.below) ⟨A, n, c, l, rfl, HS1.out⟩ x.place x.ser x.n
      have N2 := fun (w' : World) (h : ShelfOf w' S A' n' c' l') (_ : BytesIn w' x.A x.data) => refresize18 (w := w') h x.place x.ser hser x.n
      have hds : does18S S x = if resizeE S x.place x.ser x.n = 0 then resizeS S x.place x.ser x.n else S := by unfold does18S; rw [← HRR.out]; rfl
      generalize resizeS S x.place x.ser x.n = S2 at N1 N2 hds
      generalize resizeE S x.place x.ser x.n = E at N1 N2 hds
      have HDS := Lib.hid hds
      clear hds
      obtain ⟨⟨y0, y1, y2, y3⟩, _, _, _, _⟩ := R1.out.cells4 6 rfl
      obtain ⟨_, o0, o1, o2, o3⟩ := R1.out.cells4 0 rfl
      obtain ⟨b0, b1, b2, b3, b4, b5⟩ := R1.out.cellsAct 4 rfl
      obtain ⟨⟨q0, q1, q2, q3⟩, _, _, _, _⟩ := R1.out.cells4 0 rfl
      go_wp2_with fail
      refine N1.mono ?_
      rintro e w2 ⟨v, rfl, ⟨A1, n1, c1, l1, rfl, hs1, hfr⟩, hb⟩
      have R2 := Lib.hid (R1.out.call hb)
      have HS2 := Lib.hid hs1
      have HFR := Lib.hid hfr
      have HB2 := Lib.hid hb
      clear N1 hs1 hfr hb y0 y1 y2 y3 o0 o1 o2 o3 b0 b1 b2 b3 b4 b5 q0 q1 q2 q3
      obtain ⟨⟨q0, q1, q2, q3⟩, o0, o1, o2, o3⟩ := R2.out.cells4 0 rfl
      unfold shV
      go_upto_region 16 with (fail)
      have q4 := R2.out.store4 0 rfl (.int .u8 (S2.cl : Int)) (.int .u16 (S2.prev : Int)) (.int .u16 (S2.next : Int)) (.slice A1 n1 c1)
      obtain ⟨W3, hW⟩ : ∃ W3, W3 = (((w2.setCell ⟨g9, 0, none⟩ (.int .u8 (S2.cl : Int))).setCell ⟨g9, 1, none⟩ (.int .u16 (S2.prev : Int))).setCell ⟨g9, 2, none⟩ (.int .u16 (S2.next : Int))).setCell ⟨g9, 3, none⟩ (.slice A1 n1 c1) := ⟨_, rfl⟩
      have ho := only4 w2 g9 (.int .u8 (S2.cl : Int)) (.int .u16 (S2.prev : Int)) (.int .u16 (S2.next : Int)) (.slice A1 n1 c1)
      rw [← hW] at q4 ho ⊢
      clear hW o0 o1 o2 o3 q0 q1 q2 q3
      have R3 := Lib.hid q4
      have HA3 : Hid (ShelfOf W3 S2 A1 n1 c1 l1) := Lib.hid (HS2.out.only (HFR.out.avoids (R1.out.lt 0 rfl)) ho)
      have HT3 : Hid (ShelfOf W3 S A' n' c' l') := Lib.hid ((HT1.out.below HB2.out).only (avoids_foot.2 (fun hk => by have := HFT2.out _ hk; have := G3.out; have := R1.out.ge 0 rfl; omega)) ho)
      have HX3 : Hid (BytesIn W3 x.A x.data) := Lib.hid (HX.out.by_.below R3.out.below)
      clear q4 ho
      obtain ⟨⟨y0, y1, y2, y3⟩, _, _, _, _⟩ := R3.out.cells4 5 rfl
      obtain ⟨b0, b1, b2, b3, b4, b5⟩ := R3.out.cellsAct 4 rfl
      go_wp2_with fail
      refine (N2 W3 HT3.out HX3.out).mono ?_
      rintro e w4 ⟨v, rfl, ⟨A2, n2, c2, l2, rfl, hs2, hf2⟩, hb⟩
      have R4 := Lib.hid (R3.out.call hb)
      have HB4 := Lib.hid hs2
      have HF4 := Lib.hid hf2
      have HA4 := Lib.hid (HA3.out.below hb)
      clear N2 hs2 hf2 hb y0 y1 y2 y3 b0 b1 b2 b3 b4 b5
      obtain ⟨⟨q0, q1, q2, q3⟩, o0, o1, o2, o3⟩ := R4.out.cells4 1 rfl
      unfold shV
      go_upto_region 20 with (fail)
      have q4 := R4.out.store4 1 rfl (.int .u8 (S2.cl : Int)) (.int .u16 (S2.prev : Int)) (.int .u16 (S2.next : Int)) (.slice A2 n2 c2)
      obtain ⟨W5, hW⟩ : ∃ W5, W5 = (((w4.setCell ⟨g10, 0, none⟩ (.int .u8 (S2.cl : Int))).setCell ⟨g10, 1, none⟩ (.int .u16 (S2.prev : Int))).setCell ⟨g10, 2, none⟩ (.int .u16 (S2.next : Int))).setCell ⟨g10, 3, none⟩ (.slice A2 n2 c2) := ⟨_, rfl⟩
      have ho := only4 w4 g10 (.int .u8 (S2.cl : Int)) (.int .u16 (S2.prev : Int)) (.int .u16 (S2.next : Int)) (.slice A2 n2 c2)
      rw [← hW] at q4 ho ⊢
      clear hW o0 o1 o2 o3 q0 q1 q2 q3
      have R5 := Lib.hid q4
      have HA5 : Hid (ShelfOf W5 S2 A1 n1 c1 l1) := Lib.hid (HA4.out.only (HFR.out.avoids (R1.out.lt 1 rfl)) ho)
      have HB5 : Hid (ShelfOf W5 S2 A2 n2 c2 l2) := Lib.hid (HB4.out.only (avoids_foot.2 (fun hk => by
        rcases HF4.out _ hk with h | h
        · have := HFT2.out _ h; have := G3.out; have := R1.out.ge 1 rfl; omega
        · have := R3.out.lt 1 rfl; omega)) ho)
      have HVA : Hid (∀ k ∈ foot A1 n1 l1, k ∈ foot A n l ∨ w.heap.size ≤ k) := Lib.hid (fun k hk => .inr (Nat.le_trans R1.out.below.size (HFR.out.foot k hk)))
      have HVB : Hid (∀ k ∈ foot A2 n2 l2, k ∈ foot A' n' l' ∨ w.heap.size ≤ k) := Lib.hid (fun k hk => (HF4.out k hk).imp id (Nat.le_trans R3.out.below.size))
      have HGG : Hid (g6 < w1.heap.size ∧ g7 < w1.heap.size ∧ g9 ≠ g6 ∧ g9 ≠ g7 ∧ g10 ≠ g6 ∧ g10 ≠ g7 ∧ g3 ≤ g6 ∧ g3 ≤ g7) := Lib.hid ⟨R1.out.lt 3 rfl, R1.out.lt 2 rfl, HG9.out.1, HG9.out.2.1, HG9.out.2.2.1, HG9.out.2.2.2, by have := G4.out; have := G5.out; have := G6.out; omega, by have := G4.out; have := G5.out; have := G6.out; have := G7.out; omega⟩
      have HNA : Hid (∀ k ∈ foot A1 n1 l1, k ∉ [g6, g7]) := Lib.hid (fun k hk => by have := HFR.out.foot k hk; have := HGG.out; simp; omega)
      have HNB : Hid (∀ k ∈ foot A2 n2 l2, k ∉ [g6, g7]) := Lib.hid (fun k hk => by
        have hg := HGG.out
        rcases HF4.out k hk with h | h
        · have := HFT2.out k h; simp; omega
        · have := R3.out.lt 3 rfl; have := R3.out.lt 2 rfl; simp; omega)
      have hcl : ∀ w : World, (convert 27 9 (.slice none 0 0)).run Tryd.prog w = .ok (.string ⟨#[]⟩) w := fun w => run_bytes_in w _ _ 5 none 0 0 Tryd.underlying27 Tryd.underlying5 Tryd.underlying9 [] rfl (.inl rfl)
      clear q4 ho HA4 HB4 HF4 HA3 HT3 HX3 R4 R3 R2 HS2 HFR HB2
      obtain ⟨⟨y0, y1, y2, y3⟩, _, _, _, _⟩ := R5.out.cells4 0 rfl
      obtain ⟨⟨z0, z1, z2, z3⟩, _, _, _, _⟩ := R5.out.cells4 1 rfl
      have N5 := refsame18 (w := W5) ⟨A1, n1, c1, l1, rfl, HA5.out⟩ ⟨A2, n2, c2, l2, rfl, HB5.out⟩
      rw [(sameL_iff S2 S2).2 rfl] at N5
      go_wp2_with fail
      refine N5.mono ?_
      rintro e w5 ⟨rfl, hb⟩
      have R6 := Lib.hid (R5.out.call hb)
      have HA6 := Lib.hid (HA5.out.below hb)
      have HB6 := Lib.hid (HB5.out.below hb)
      have HS6 := Lib.hid (HS.out.below R6.out.below)
      have HT6 := Lib.hid (HT.out.below R6.out.below)
      clear N5 hb y0 y1 y2 y3 z0 z1 z2 z3 hcl R5 HA5 HB5
      have HNS : Hid (∀ k ∈ foot A n l, k ∉ [g6, g7]) := Lib.hid (fun k hk => by have := HFS2.out k hk; have := G4.out; have := G5.out; have := G6.out; have := G7.out; simp; omega)
      have HNT : Hid (∀ k ∈ foot A' n' l', k ∉ [g6, g7]) := Lib.hid (fun k hk => by have := HFT2.out k hk; have := G4.out; have := G5.out; have := G6.out; have := G7.out; simp; omega)
      have HSS : Hid (∀ k ∈ foot A n l, k ∈ foot A n l ∨ w.heap.size ≤ k) := Lib.hid (fun k hk => .inl hk)
      have HTT : Hid (∀ k ∈ foot A' n' l', k ∈ foot A' n' l' ∨ w.heap.size ≤ k) := Lib.hid (fun k hk => .inl hk)
      by_cases hE : E = 0
      · subst hE
        have HDS2 := Lib.hid (HDS.out.trans (if_pos rfl))
        clear HDS
        go_wp2_with fail
        have hA := R6.out.get 0 rfl
        have hB' := R6.out.get 1 rfl
        refine wp_region_boxes (by kernel_rfl) [⟨98, 2, 0, zeroShC, 25, 6, 169, some g6⟩, ⟨99, 3, 1, zeroShC, 25, 7, 170, some g7⟩] (twoV 169 170 8 true S2 S2 A1 n1 c1 l1 A2 n2 c2 l2) (twoV_lt _ _ _ _ _ _ _ _ _ _ _ _ _ _) (twoV_loc _ _ _ _ _ _ _ _ _ _ _ _ _ _) (by kernel_rfl) (by kernel_rfl) (by kernel_rfl) ?qbs (by kernel_rfl) (two_old (by have := G7.out; have := G6.out; simp; omega)) ?qheads ?qfin
        case qbs =>
          intro y hy
          rcases List.mem_cons.1 hy with rfl | hy
          · exact ⟨(fun h => by cases h), (fun g' h => by cases h; exact ⟨R6.out.get 3 rfl, rfl, by kernel_rfl, Nat.le_of_ble_eq_true rfl⟩), ⟨_, rfl, rfl, rfl, rfl, (fun h => by cases h), by kernel_rfl⟩, by kernel_rfl, fun v F w h => xV.ex h⟩
          · obtain rfl : y = _ := by simpa using hy
            exact ⟨(fun h => by cases h), (fun g' h => by cases h; exact ⟨R6.out.get 2 rfl, rfl, by kernel_rfl, Nat.le_of_ble_eq_true rfl⟩), ⟨_, rfl, rfl, rfl, rfl, (fun h => by cases h), by kernel_rfl⟩, by kernel_rfl, fun v F w h => xV.ex h⟩
        case qheads =>
          refine ⟨.inr ⟨rfl, 169, rfl, fun a v OK hOK hB hO hD K hK => ?_⟩, .inr ⟨rfl, 170, rfl, fun a v OK hOK hB hO hD K hK => ?_⟩, .inl rfl, .inl rfl, .inr ⟨rfl, 8, rfl, fun a v OK hOK hB hO hD K hK => ?_⟩, trivial⟩
          · exact wp_load_all 25 _ g9 25 (shV S2 A1 n1 c1) (0, 0) _ rfl (eval_of (t := 9) (by rw [hO 9 (not_dst 9 (by kernel_rfl))]; rfl)) ((hB.block g9 (R6.out.lt 0 rfl) (by have := HGG.out; simp [oldsOf]; omega)).trans hA) Tryd.underlying25 rfl sizeShelf (hK _ _ _ ⟨rfl, rfl, HA6.out.loc (fun k hk => hB.block k (HA6.out.foot_lt k hk) (HNA.out k hk))⟩ (fun k hk => .inl (hOK k (HA6.out.foot_lt k hk) (HNA.out k hk))) (Below.refl _ _))
          · exact wp_load_all 25 _ g10 25 (shV S2 A2 n2 c2) (0, 0) _ rfl (eval_of (t := 10) (by rw [hO 10 (not_dst 10 (by kernel_rfl))]; rfl)) ((hB.block g10 (R6.out.lt 1 rfl) (by have := HGG.out; simp [oldsOf]; omega)).trans hB') Tryd.underlying25 rfl sizeShelf (hK _ _ _ ⟨rfl, rfl, HB6.out.loc (fun k hk => hB.block k (HB6.out.foot_lt k hk) (HNB.out k hk))⟩ (fun k hk => .inl (hOK k (HB6.out.foot_lt k hk) (HNB.out k hk))) (Below.refl _ _))
          · exact wpb_assign _ _ rfl rfl (hK _ [] _ ⟨rfl, rfl⟩ (by simp) (Below.refl _ _))
        case qfin =>
          intro F w6 β hbx hap hV hB
          obtain ⟨_, hn0, C, G, hF17, h6, ⟨_, hC, hSA⟩, _⟩ := hbx 0 _ rfl
          obtain ⟨_, hn1, C', G', hF18, h7, ⟨_, hC', hSB⟩, _⟩ := hbx 1 _ rfl
          rw [hn0 g6 rfl] at h6
          rw [hn1 g7 rfl] at h7
          obtain rfl : C = shV S2 A1 n1 c1 := by cases hC; rfl
          obtain rfl : C' = shV S2 A2 n2 c2 := by cases hC'; rfl
          have e8 : F 8 = .bool true := (hV 4 _ 8 rfl rfl rfl).elim (fun _ h => h.2)
          have HBW : Hid (Below w.heap.size w w6) := Lib.hid (R6.out.below.trans (hB.below (by intro y hy; have := R6.out.ge 3 rfl; have := R6.out.ge 2 rfl; simp [oldsOf] at hy; omega) R6.out.below.size))
          have H6 := Lib.hid h6
          have H7 := Lib.hid h7
          have HSA := Lib.hid hSA
          have HSB := Lib.hid hSB
          simp only [putAll, List.setIfInBounds_toArray, List.set_cons_zero, List.set_cons_succ]
          rw [hF17, hF18, e8]
          clear hbx hap hV hB hn0 hn1 hF17 hF18 h6 h7 hC hC' hSA hSB e8 hA hB'
          go_wp2_with fail
          exact bodyPost_ret (v := .tuple #[.agg (shV S2 A1 n1 c1), .agg (shV S2 A2 n2 c2), .bool true]) (results_cells2_slot rfl _ _ g6 g7 25 _ _ (0, 0) (0, 0) _ _ rfl rfl rfl H6.out H7.out Tryd.underlying25 rfl sizeShelf sizeShelf) rfl ⟨_, _, rfl, by rw [HDS2.out]; exact ⟨A1, n1, c1, l1, rfl, HSA.out, HVA.out⟩, by rw [HDS2.out]; exact ⟨A2, n2, c2, l2, rfl, HSB.out, HVB.out⟩, HBW.out⟩
      · have HDS2 := Lib.hid (HDS.out.trans (if_neg hE))
        clear HDS
        have hE' : (E != 0) = true := by simpa using hE
        go_wp2_with fail
        have hA := R6.out.get 6 rfl
        have hB' := R6.out.get 5 rfl
        refine wp_region_boxes (by kernel_rfl) [⟨98, 2, 0, zeroShC, 25, 6, 167, some g6⟩, ⟨99, 3, 1, zeroShC, 25, 7, 168, some g7⟩] (twoV 167 168 8 true S S A n c l A' n' c' l') (twoV_lt _ _ _ _ _ _ _ _ _ _ _ _ _ _) (twoV_loc _ _ _ _ _ _ _ _ _ _ _ _ _ _) (by kernel_rfl) (by kernel_rfl) (by kernel_rfl) ?qbs (by kernel_rfl) (two_old (by have := G7.out; have := G6.out; simp; omega)) ?qheads ?qfin
        case qbs =>
          intro y hy
          rcases List.mem_cons.1 hy with rfl | hy
          · exact ⟨(fun h => by cases h), (fun g' h => by cases h; exact ⟨R6.out.get 3 rfl, rfl, by kernel_rfl, Nat.le_of_ble_eq_true rfl⟩), ⟨_, rfl, rfl, rfl, rfl, (fun h => by cases h), by kernel_rfl⟩, by kernel_rfl, fun v F w h => xV.ex h⟩
          · obtain rfl : y = _ := by simpa using hy
            exact ⟨(fun h => by cases h), (fun g' h => by cases h; exact ⟨R6.out.get 2 rfl, rfl, by kernel_rfl, Nat.le_of_ble_eq_true rfl⟩), ⟨_, rfl, rfl, rfl, rfl, (fun h => by cases h), by kernel_rfl⟩, by kernel_rfl, fun v F w h => xV.ex h⟩
        case qheads =>
          refine ⟨.inr ⟨rfl, 167, rfl, fun a v OK hOK hB hO hD K hK => ?_⟩, .inr ⟨rfl, 168, rfl, fun a v OK hOK hB hO hD K hK => ?_⟩, .inl rfl, .inl rfl, .inr ⟨rfl, 8, rfl, fun a v OK hOK hB hO hD K hK => ?_⟩, trivial⟩
          · exact wp_load_all 25 _ g3 25 (shV S A n c) (0, 0) _ rfl (eval_of (t := 3) (by rw [hO 3 (not_dst 3 (by kernel_rfl))]; rfl)) ((hB.block g3 (R6.out.lt 6 rfl) (by have := G4.out; have := G5.out; have := G6.out; have := G7.out; simp [oldsOf]; omega)).trans hA) Tryd.underlying25 rfl sizeShelf (hK _ _ _ ⟨rfl, rfl, HS6.out.loc (fun k hk => hB.block k (HS6.out.foot_lt k hk) (HNS.out k hk))⟩ (fun k hk => .inl (hOK k (HS6.out.foot_lt k hk) (HNS.out k hk))) (Below.refl _ _))
          · exact wp_load_all 25 _ g4 25 (shV S A' n' c') (0, 0) _ rfl (eval_of (t := 4) (by rw [hO 4 (not_dst 4 (by kernel_rfl))]; rfl)) ((hB.block g4 (R6.out.lt 5 rfl) (by have := G4.out; have := G5.out; have := G6.out; have := G7.out; simp [oldsOf]; omega)).trans hB') Tryd.underlying25 rfl sizeShelf (hK _ _ _ ⟨rfl, rfl, HT6.out.loc (fun k hk => hB.block k (HT6.out.foot_lt k hk) (HNT.out k hk))⟩ (fun k hk => .inl (hOK k (HT6.out.foot_lt k hk) (HNT.out k hk))) (Below.refl _ _))
          · exact wpb_assign _ _ rfl rfl (hK _ [] _ ⟨rfl, rfl⟩ (by simp) (Below.refl _ _))
        case qfin =>
          intro F w6 β hbx hap hV hB
          obtain ⟨_, hn0, C, G, hF17, h6, ⟨_, hC, hSA⟩, _⟩ := hbx 0 _ rfl
          obtain ⟨_, hn1, C', G', hF18, h7, ⟨_, hC', hSB⟩, _⟩ := hbx 1 _ rfl
          rw [hn0 g6 rfl] at h6
          rw [hn1 g7 rfl] at h7
          obtain rfl : C = shV S A n c := by cases hC; rfl
          obtain rfl : C' = shV S A' n' c' := by cases hC'; rfl
          have e8 : F 8 = .bool true := (hV 4 _ 8 rfl rfl rfl).elim (fun _ h => h.2)
          have HBW : Hid (Below w.heap.size w w6) := Lib.hid (R6.out.below.trans (hB.below (by intro y hy; have := R6.out.ge 3 rfl; have := R6.out.ge 2 rfl; simp [oldsOf] at hy; omega) R6.out.below.size))
          have H6 := Lib.hid h6
          have H7 := Lib.hid h7
          have HSA := Lib.hid hSA
          have HSB := Lib.hid hSB
          simp only [putAll, List.setIfInBounds_toArray, List.set_cons_zero, List.set_cons_succ]
          rw [hF17, hF18, e8]
          clear hbx hap hV hB hn0 hn1 hF17 hF18 h6 h7 hC hC' hSA hSB e8 hA hB'
          go_wp2_with fail
          exact bodyPost_ret (v := .tuple #[.agg (shV S A n c), .agg (shV S A' n' c'), .bool true]) (results_cells2_slot rfl _ _ g6 g7 25 _ _ (0, 0) (0, 0) _ _ rfl rfl rfl H6.out H7.out Tryd.underlying25 rfl sizeShelf sizeShelf) rfl ⟨_, _, rfl, by rw [HDS2.out]; exact ⟨A, n, c, l, rfl, HSA.out, HSS.out⟩, by rw [HDS2.out]; exact ⟨A', n', c', l', rfl, HSB.out, HTT.out⟩, HBW.out⟩
    · have N1 := read_is (HC.out.below R1.out.below) ⟨A, n, c, l, rfl, HS1.out⟩ x.place x.ser x.off x.n
      have N2 := fun (w' : World) (h : ShelfOf w' S A' n' c' l') => refread18 (w := w') h x.place x.ser x.off x.n
      have HDS : Hid (does18S S x = if partE S x.place x.ser x.off x.n = 0 then S else S) := Lib.hid (by unfold does18S; rw [← HRR.out]; exact (ite_self _).symm)
      generalize readB18 S x.place x.ser x.off x.n = bs at N1 N2
      generalize partE S x.place x.ser x.off x.n = E at N1 N2 HDS
      obtain ⟨⟨y0, y1, y2, y3⟩, _, _, _, _⟩ := R1.out.cells4 6 rfl
      obtain ⟨b0, b1, b2, b3, b4, b5⟩ := R1.out.cellsAct 4 rfl
      go_wp2_with fail
      refine N1.mono ?_
      rintro e w2 ⟨Az, cz, rfl, _, hby, hb⟩
      have R2 := Lib.hid (R1.out.call hb)
      have HBY := Lib.hid hby
      have HT2 := Lib.hid (HT1.out.below hb)
      clear N1 hby hb y0 y1 y2 y3 b0 b1 b2 b3 b4 b5
      obtain ⟨⟨y0, y1, y2, y3⟩, _, _, _, _⟩ := R2.out.cells4 5 rfl
      obtain ⟨b0, b1, b2, b3, b4, b5⟩ := R2.out.cellsAct 4 rfl
      go_wp2_with fail
      refine (N2 w2 HT2.out).mono ?_
      rintro e W5 ⟨Ay, cy, rfl, _, hby, hb⟩
      have R5 := Lib.hid (R2.out.call hb)
      have hcl := run_bytes_in (P := Tryd.prog) W5 27 9 5 Az bs.length cz Tryd.underlying27 Tryd.underlying5 Tryd.underlying9 bs rfl (HBY.out.below hb)
      have hcm := run_bytes_in (P := Tryd.prog) W5 27 9 5 Ay bs.length cy Tryd.underlying27 Tryd.underlying5 Tryd.underlying9 bs rfl hby
      have HA5 : Hid (ShelfOf W5 S A n c l) := Lib.hid (HS.out.below R5.out.below)
      have HB5 : Hid (ShelfOf W5 S A' n' c' l') := Lib.hid (HT.out.below R5.out.below)
      have HVA : Hid (∀ k ∈ foot A n l, k ∈ foot A n l ∨ w.heap.size ≤ k) := Lib.hid (fun k hk => .inl hk)
      have HVB : Hid (∀ k ∈ foot A' n' l', k ∈ foot A' n' l' ∨ w.heap.size ≤ k) := Lib.hid (fun k hk => .inl hk)
      have HGG : Hid (g6 < w1.heap.size ∧ g7 < w1.heap.size ∧ g9 ≠ g6 ∧ g9 ≠ g7 ∧ g10 ≠ g6 ∧ g10 ≠ g7 ∧ g3 ≤ g6 ∧ g3 ≤ g7) := Lib.hid ⟨R1.out.lt 3 rfl, R1.out.lt 2 rfl, HG9.out.1, HG9.out.2.1, HG9.out.2.2.1, HG9.out.2.2.2, by have := G4.out; have := G5.out; have := G6.out; omega, by have := G4.out; have := G5.out; have := G6.out; have := G7.out; omega⟩
      have HNA : Hid (∀ k ∈ foot A n l, k ∉ [g6, g7]) := Lib.hid (fun k hk => by have := HFS2.out k hk; have := HGG.out; simp; omega)
      have HNB : Hid (∀ k ∈ foot A' n' l', k ∉ [g6, g7]) := Lib.hid (fun k hk => by have := HFT2.out k hk; have := HGG.out; simp; omega)
      clear N2 hby hb y0 y1 y2 y3 b0 b1 b2 b3 b4 b5 R2 HT2 HBY
      go_upto_region 20 with (fail)
      obtain ⟨⟨y0, y1, y2, y3⟩, _, _, _, _⟩ := R5.out.cells4 0 rfl
      obtain ⟨⟨z0, z1, z2, z3⟩, _, _, _, _⟩ := R5.out.cells4 1 rfl
      have N5 := refsame18 (w := W5) ⟨A, n, c, l, rfl, HA5.out⟩ ⟨A', n', c', l', rfl, HB5.out⟩
      rw [(sameL_iff S S).2 rfl] at N5
      go_wp2_with fail
      refine N5.mono ?_
      rintro e w5 ⟨rfl, hb⟩
      have R6 := Lib.hid (R5.out.call hb)
      have HA6 := Lib.hid (HA5.out.below hb)
      have HB6 := Lib.hid (HB5.out.below hb)
      have HS6 := Lib.hid (HS.out.below R6.out.below)
      have HT6 := Lib.hid (HT.out.below R6.out.below)
      clear N5 hb y0 y1 y2 y3 z0 z1 z2 z3 hcl R5 HA5 HB5
      have HNS : Hid (∀ k ∈ foot A n l, k ∉ [g6, g7]) := Lib.hid (fun k hk => by have := HFS2.out k hk; have := G4.out; have := G5.out; have := G6.out; have := G7.out; simp; omega)
      have HNT : Hid (∀ k ∈ foot A' n' l', k ∉ [g6, g7]) := Lib.hid (fun k hk => by have := HFT2.out k hk; have := G4.out; have := G5.out; have := G6.out; have := G7.out; simp; omega)
      have HSS : Hid (∀ k ∈ foot A n l, k ∈ foot A n l ∨ w.heap.size ≤ k) := Lib.hid (fun k hk => .inl hk)
      have HTT : Hid (∀ k ∈ foot A' n' l', k ∈ foot A' n' l' ∨ w.heap.size ≤ k) := Lib.hid (fun k hk => .inl hk)
      by_cases hE : E = 0
      · subst hE
        have HDS2 := Lib.hid (HDS.out.trans (if_pos rfl))
        clear HDS
        go_wp2_with fail
        have hA := R6.out.get 0 rfl
        have hB' := R6.out.get 1 rfl
        refine wp_region_boxes (by kernel_rfl) [⟨98, 2, 0, zeroShC, 25, 6, 169, some g6⟩, ⟨99, 3, 1, zeroShC, 25, 7, 170, some g7⟩] (twoV 169 170 8 true S S A n c l A' n' c' l') (twoV_lt _ _ _ _ _ _ _ _ _ _ _ _ _ _) (twoV_loc _ _ _ _ _ _ _ _ _ _ _ _ _ _) (by kernel_rfl) (by kernel_rfl) (by kernel_rfl) ?qbs (by kernel_rfl) (two_old (by have := G7.out; have := G6.out; simp; omega)) ?qheads ?qfin
        case qbs =>
          intro y hy
          rcases List.mem_cons.1 hy with rfl | hy
          · exact ⟨(fun h => by cases h), (fun g' h => by cases h; exact ⟨R6.out.get 3 rfl, rfl, by kernel_rfl, Nat.le_of_ble_eq_true rfl⟩), ⟨_, rfl, rfl, rfl, rfl, (fun h => by cases h), by kernel_rfl⟩, by kernel_rfl, fun v F w h => xV.ex h⟩
          · obtain rfl : y = _ := by simpa using hy
            exact ⟨(fun h => by cases h), (fun g' h => by cases h; exact ⟨R6.out.get 2 rfl, rfl, by kernel_rfl, Nat.le_of_ble_eq_true rfl⟩), ⟨_, rfl, rfl, rfl, rfl, (fun h => by cases h), by kernel_rfl⟩, by kernel_rfl, fun v F w h => xV.ex h⟩
        case qheads =>
          refine ⟨.inr ⟨rfl, 169, rfl, fun a v OK hOK hB hO hD K hK => ?_⟩, .inr ⟨rfl, 170, rfl, fun a v OK hOK hB hO hD K hK => ?_⟩, .inl rfl, .inl rfl, .inr ⟨rfl, 8, rfl, fun a v OK hOK hB hO hD K hK => ?_⟩, trivial⟩
          · exact wp_load_all 25 _ g9 25 (shV S A n c) (0, 0) _ rfl (eval_of (t := 9) (by rw [hO 9 (not_dst 9 (by kernel_rfl))]; rfl)) ((hB.block g9 (R6.out.lt 0 rfl) (by have := HGG.out; simp [oldsOf]; omega)).trans hA) Tryd.underlying25 rfl sizeShelf (hK _ _ _ ⟨rfl, rfl, HA6.out.loc (fun k hk => hB.block k (HA6.out.foot_lt k hk) (HNA.out k hk))⟩ (fun k hk => .inl (hOK k (HA6.out.foot_lt k hk) (HNA.out k hk))) (Below.refl _ _))
          · exact wp_load_all 25 _ g10 25 (shV S A' n' c') (0, 0) _ rfl (eval_of (t := 10) (by rw [hO 10 (not_dst 10 (by kernel_rfl))]; rfl)) ((hB.block g10 (R6.out.lt 1 rfl) (by have := HGG.out; simp [oldsOf]; omega)).trans hB') Tryd.underlying25 rfl sizeShelf (hK _ _ _ ⟨rfl, rfl, HB6.out.loc (fun k hk => hB.block k (HB6.out.foot_lt k hk) (HNB.out k hk))⟩ (fun k hk => .inl (hOK k (HB6.out.foot_lt k hk) (HNB.out k hk))) (Below.refl _ _))
          · exact wpb_assign _ _ rfl rfl (hK _ [] _ ⟨rfl, rfl⟩ (by simp) (Below.refl _ _))
        case qfin =>
          intro F w6 β hbx hap hV hB
          obtain ⟨_, hn0, C, G, hF17, h6, ⟨_, hC, hSA⟩, _⟩ := hbx 0 _ rfl
          obtain ⟨_, hn1, C', G', hF18, h7, ⟨_, hC', hSB⟩, _⟩ := hbx 1 _ rfl
          rw [hn0 g6 rfl] at h6
          rw [hn1 g7 rfl] at h7
          obtain rfl : C = shV S A n c := by cases hC; rfl
          obtain rfl : C' = shV S A' n' c' := by cases hC'; rfl
          have e8 : F 8 = .bool true := (hV 4 _ 8 rfl rfl rfl).elim (fun _ h => h.2)
          have HBW : Hid (Below w.heap.size w w6) := Lib.hid (R6.out.below.trans (hB.below (by intro y hy; have := R6.out.ge 3 rfl; have := R6.out.ge 2 rfl; simp [oldsOf] at hy; omega) R6.out.below.size))
          have H6 := Lib.hid h6
          have H7 := Lib.hid h7
          have HSA := Lib.hid hSA
          have HSB := Lib.hid hSB
          simp only [putAll, List.setIfInBounds_toArray, List.set_cons_zero, List.set_cons_succ]
          rw [hF17, hF18, e8]
          clear hbx hap hV hB hn0 hn1 hF17 hF18 h6 h7 hC hC' hSA hSB e8 hA hB'
          go_wp2_with fail
          exact bodyPost_ret (v := .tuple #[.agg (shV S A n c), .agg (shV S A' n' c'), .bool true]) (results_cells2_slot rfl _ _ g6 g7 25 _ _ (0, 0) (0, 0) _ _ rfl rfl rfl H6.out H7.out Tryd.underlying25 rfl sizeShelf sizeShelf) rfl ⟨_, _, rfl, by rw [HDS2.out]; exact ⟨A, n, c, l, rfl, HSA.out, HVA.out⟩, by rw [HDS2.out]; exact ⟨A', n', c', l', rfl, HSB.out, HVB.out⟩, HBW.out⟩
      · have HDS2 := Lib.hid (HDS.out.trans (if_neg hE))
        clear HDS
        have hE' : (E != 0) = true := by simpa using hE
        go_wp2_with fail
        have hA := R6.out.get 6 rfl
        have hB' := R6.out.get 5 rfl
        refine wp_region_boxes (by kernel_rfl) [⟨98, 2, 0, zeroShC, 25, 6, 167, some g6⟩, ⟨99, 3, 1, zeroShC, 25, 7, 168, some g7⟩] (twoV 167 168 8 true S S A n c l A' n' c' l') (twoV_lt _ _ _ _ _ _ _ _ _ _ _ _ _ _) (twoV_loc _ _ _ _ _ _ _ _ _ _ _ _ _ _) (by kernel_rfl) (by kernel_rfl) (by kernel_rfl) ?qbs (by kernel_rfl) (two_old (by have := G7.out; have := G6.out; simp; omega)) ?qheads ?qfin
        case qbs =>
          intro y hy
          rcases List.mem_cons.1 hy with rfl | hy
          · exact ⟨(fun h => by cases h), (fun g' h => by cases h; exact ⟨R6.out.get 3 rfl, rfl, by kernel_rfl, Nat.le_of_ble_eq_true rfl⟩), ⟨_, rfl, rfl, rfl, rfl, (fun h => by cases h), by kernel_rfl⟩, by kernel_rfl, fun v F w h => xV.ex h⟩
          · obtain rfl : y = _ := by simpa using hy
            exact ⟨(fun h => by cases h), (fun g' h => by cases h; exact ⟨R6.out.get 2 rfl, rfl, by kernel_rfl, Nat.le_of_ble_eq_true rfl⟩), ⟨_, rfl, rfl, rfl, rfl, (fun h => by cases h), by kernel_rfl⟩, by kernel_rfl, fun v F w h => xV.ex h⟩
        case qheads =>
          refine ⟨.inr ⟨rfl, 167, rfl, fun a v OK hOK hB hO hD K hK => ?_⟩, .inr ⟨rfl, 168, rfl, fun a v OK hOK hB hO hD K hK => ?_⟩, .inl rfl, .inl rfl, .inr ⟨rfl, 8, rfl, fun a v OK hOK hB hO hD K hK => ?_⟩, trivial⟩
          · exact wp_load_all 25 _ g3 25 (shV S A n c) (0, 0) _ rfl (eval_of (t := 3) (by rw [hO 3 (not_dst 3 (by kernel_rfl))]; rfl)) ((hB.block g3 (R6.out.lt 6 rfl) (by have := G4.out; have := G5.out; have := G6.out; have := G7.out; simp [oldsOf]; omega)).trans hA) Tryd.underlying25 rfl sizeShelf (hK _ _ _ ⟨rfl, rfl, HS6.out.loc (fun k hk => hB.block k (HS6.out.foot_lt k hk) (HNS.out k hk))⟩ (fun k hk => .inl (hOK k (HS6.out.foot_lt k hk) (HNS.out k hk))) (Below.refl _ _))
          · exact wp_load_all 25 _ g4 25 (shV S A' n' c') (0, 0) _ rfl (eval_of (t := 4) (by rw [hO 4 (not_dst 4 (by kernel_rfl))]; rfl)) ((hB.block g4 (R6.out.lt 5 rfl) (by have := G4.out; have := G5.out; have := G6.out; have := G7.out; simp [oldsOf]; omega)).trans hB') Tryd.underlying25 rfl sizeShelf (hK _ _ _ ⟨rfl, rfl, HT6.out.loc (fun k hk => hB.block k (HT6.out.foot_lt k hk) (HNT.out k hk))⟩ (fun k hk => .inl (hOK k (HT6.out.foot_lt k hk) (HNT.out k hk))) (Below.refl _ _))
          · exact wpb_assign _ _ rfl rfl (hK _ [] _ ⟨rfl, rfl⟩ (by simp) (Below.refl _ _))
        case qfin =>
          intro F w6 β hbx hap hV hB
          obtain ⟨_, hn0, C, G, hF17, h6, ⟨_, hC, hSA⟩, _⟩ := hbx 0 _ rfl
          obtain ⟨_, hn1, C', G', hF18, h7, ⟨_, hC', hSB⟩, _⟩ := hbx 1 _ rfl
          rw [hn0 g6 rfl] at h6
          rw [hn1 g7 rfl] at h7
          obtain rfl : C = shV S A n c := by cases hC; rfl
          obtain rfl : C' = shV S A' n' c' := by cases hC'; rfl
          have e8 : F 8 = .bool true := (hV 4 _ 8 rfl rfl rfl).elim (fun _ h => h.2)
          have HBW : Hid (Below w.heap.size w w6) := Lib.hid (R6.out.below.trans (hB.below (by intro y hy; have := R6.out.ge 3 rfl; have := R6.out.ge 2 rfl; simp [oldsOf] at hy; omega) R6.out.below.size))
          have H6 := Lib.hid h6
          have H7 := Lib.hid h7
          have HSA := Lib.hid hSA
          have HSB := Lib.hid hSB
          simp only [putAll, List.setIfInBounds_toArray, List.set_cons_zero, List.set_cons_succ]
          rw [hF17, hF18, e8]
          clear hbx hap hV hB hn0 hn1 hF17 hF18 h6 h7 hC hC' hSA hSB e8 hA hB'
          go_wp2_with fail
          exact bodyPost_ret (v := .tuple #[.agg (shV S A n c), .agg (shV S A' n' c'), .bool true]) (results_cells2_slot rfl _ _ g6 g7 25 _ _ (0, 0) (0, 0) _ _ rfl rfl rfl H6.out H7.out Tryd.underlying25 rfl sizeShelf sizeShelf) rfl ⟨_, _, rfl, by rw [HDS2.out]; exact ⟨A, n, c, l, rfl, HSA.out, HSS.out⟩, by rw [HDS2.out]; exact ⟨A', n', c', l', rfl, HSB.out, HTT.out⟩, HBW.out⟩
    · have N1 := write_is (HC.out.below R1.out.below) ⟨A, n, c, l, rfl, HS1.out⟩ x.place x.ser x.off x.A x.m x.c x.data HX1.out HX.out.len H4.out
      have N2 := fun (w' : World) (h : ShelfOf w' S A' n' c' l') (h2 : BytesIn w' x.A x.data) => refwrite18 (w := w') h x.place x.ser hser x.off x.A x.m x.c x.data h2 HX.out.len H4.out
      have hds : does18S S x = if partE S x.place x.ser x.off (x.data.length : Int) = 0 then writeS S x.place x.ser x.off x.data else S := by unfold does18S; rw [← HRR.out]; rfl
      generalize writeS S x.place x.ser x.off x.data = S2 at N1 N2 hds
      generalize partE S x.place x.ser x.off (x.data.length : Int) = E at N1 N2 hds
      have HDS := Lib.hid hds
      clear hds
      obtain ⟨⟨y0, y1, y2, y3⟩, _, _, _, _⟩ := R1.out.cells4 6 rfl
      obtain ⟨_, o0, o1, o2, o3⟩ := R1.out.cells4 0 rfl
      obtain ⟨b0, b1, b2, b3, b4, b5⟩ := R1.out.cellsAct 4 rfl
      obtain ⟨⟨q0, q1, q2, q3⟩, _, _, _, _⟩ := R1.out.cells4 0 rfl
      go_wp2_with fail
      refine N1.mono ?_
      rintro e w2 ⟨v, rfl, ⟨A1, n1, c1, l1, rfl, hs1, hfr⟩, hb⟩
      have R2 := Lib.hid (R1.out.call hb)
      have HS2 := Lib.hid hs1
      have HFR := Lib.hid hfr
      have HB2 := Lib.hid hb
      clear N1 hs1 hfr hb y0 y1 y2 y3 o0 o1 o2 o3 b0 b1 b2 b3 b4 b5 q0 q1 q2 q3
      obtain ⟨⟨q0, q1, q2, q3⟩, o0, o1, o2, o3⟩ := R2.out.cells4 0 rfl
      unfold shV
      go_upto_region 7 with (fail)
      have q4 := R2.out.store4 0 rfl (.int .u8 (S2.cl : Int)) (.int .u16 (S2.prev : Int)) (.int .u16 (S2.next : Int)) (.slice A1 n1 c1)
      obtain ⟨W3, hW⟩ : ∃ W3, W3 = (((w2.setCell ⟨g9, 0, none⟩ (.int .u8 (S2.cl : Int))).setCell ⟨g9, 1, none⟩ (.int .u16 (S2.prev : Int))).setCell ⟨g9, 2, none⟩ (.int .u16 (S2.next : Int))).setCell ⟨g9, 3, none⟩ (.slice A1 n1 c1) := ⟨_, rfl⟩
      have ho := only4 w2 g9 (.int .u8 (S2.cl : Int)) (.int .u16 (S2.prev : Int)) (.int .u16 (S2.next : Int)) (.slice A1 n1 c1)
      rw [← hW] at q4 ho ⊢
      clear hW o0 o1 o2 o3 q0 q1 q2 q3
      have R3 := Lib.hid q4
      have HA3 : Hid (ShelfOf W3 S2 A1 n1 c1 l1) := Lib.hid (HS2.out.only (HFR.out.avoids (R1.out.lt 0 rfl)) ho)
      have HT3 : Hid (ShelfOf W3 S A' n' c' l') := Lib.hid ((HT1.out.below HB2.out).only (avoids_foot.2 (fun hk => by have := HFT2.out _ hk; have := G3.out; have := R1.out.ge 0 rfl; omega)) ho)
      have HX3 : Hid (BytesIn W3 x.A x.data) := Lib.hid (HX.out.by_.below R3.out.below)
      clear q4 ho
      obtain ⟨⟨y0, y1, y2, y3⟩, _, _, _, _⟩ := R3.out.cells4 5 rfl
      obtain ⟨b0, b1, b2, b3, b4, b5⟩ := R3.out.cellsAct 4 rfl
      go_wp2_with fail
      refine (N2 W3 HT3.out HX3.out).mono ?_
      rintro e w4 ⟨v, rfl, ⟨A2, n2, c2, l2, rfl, hs2, hf2⟩, hb⟩
      have R4 := Lib.hid (R3.out.call hb)
      have HB4 := Lib.hid hs2
      have HF4 := Lib.hid hf2
      have HA4 := Lib.hid (HA3.out.below hb)
      clear N2 hs2 hf2 hb y0 y1 y2 y3 b0 b1 b2 b3 b4 b5
      obtain ⟨⟨q0, q1, q2, q3⟩, o0, o1, o2, o3⟩ := R4.out.cells4 1 rfl
      unfold shV
      go_upto_region 20 with (fail)
      have q4 := R4.out.store4 1 rfl (.int .u8 (S2.cl : Int)) (.int .u16 (S2.prev : Int)) (.int .u16 (S2.next : Int)) (.slice A2 n2 c2)
      obtain ⟨W5, hW⟩ : ∃ W5, W5 = (((w4.setCell ⟨g10, 0, none⟩ (.int .u8 (S2.cl : Int))).setCell ⟨g10, 1, none⟩ (.int .u16 (S2.prev : Int))).setCell ⟨g10, 2, none⟩ (.int .u16 (S2.next : Int))).setCell ⟨g10, 3, none⟩ (.slice A2 n2 c2) := ⟨_, rfl⟩
      have ho := only4 w4 g10 (.int .u8 (S2.cl : Int)) (.int .u16 (S2.prev : Int)) (.int .u16 (S2.next : Int)) (.slice A2 n2 c2)
      rw [← hW] at q4 ho ⊢
      clear hW o0 o1 o2 o3 q0 q1 q2 q3
      have R5 := Lib.hid q4
      have HA5 : Hid (ShelfOf W5 S2 A1 n1 c1 l1) := Lib.hid (HA4.out.only (HFR.out.avoids (R1.out.lt 1 rfl)) ho)
      have HB5 : Hid (ShelfOf W5 S2 A2 n2 c2 l2) := Lib.hid (HB4.out.only (avoids_foot.2 (fun hk => by
        rcases HF4.out _ hk with h | h
        · have := HFT2.out _ h; have := G3.out; have := R1.out.ge 1 rfl; omega
        · have := R3.out.lt 1 rfl; omega)) ho)
      have HVA : Hid (∀ k ∈ foot A1 n1 l1, k ∈ foot A n l ∨ w.heap.size ≤ k) := Lib.hid (fun k hk => .inr (Nat.le_trans R1.out.below.size (HFR.out.foot k hk)))
      have HVB : Hid (∀ k ∈ foot A2 n2 l2, k ∈ foot A' n' l' ∨ w.heap.size ≤ k) := Lib.hid (fun k hk => (HF4.out k hk).imp id (Nat.le_trans R3.out.below.size))
      have HGG : Hid (g6 < w1.heap.size ∧ g7 < w1.heap.size ∧ g9 ≠ g6 ∧ g9 ≠ g7 ∧ g10 ≠ g6 ∧ g10 ≠ g7 ∧ g3 ≤ g6 ∧ g3 ≤ g7) := Lib.hid ⟨R1.out.lt 3 rfl, R1.out.lt 2 rfl, HG9.out.1, HG9.out.2.1, HG9.out.2.2.1, HG9.out.2.2.2, by have := G4.out; have := G5.out; have := G6.out; omega, by have := G4.out; have := G5.out; have := G6.out; have := G7.out; omega⟩
      have HNA : Hid (∀ k ∈ foot A1 n1 l1, k ∉ [g6, g7]) := Lib.hid (fun k hk => by have := HFR.out.foot k hk; have := HGG.out; simp; omega)
      have HNB : Hid (∀ k ∈ foot A2 n2 l2, k ∉ [g6, g7]) := Lib.hid (fun k hk => by
        have hg := HGG.out
        rcases HF4.out k hk with h | h
        · have := HFT2.out k h; simp; omega
        · have := R3.out.lt 3 rfl; have := R3.out.lt 2 rfl; simp; omega)
      have hcl : ∀ w : World, (convert 27 9 (.slice none 0 0)).run Tryd.prog w = .ok (.string ⟨#[]⟩) w := fun w => run_bytes_in w _ _ 5 none 0 0 Tryd.underlying27 Tryd.underlying5 Tryd.underlying9 [] rfl (.inl rfl)
      clear q4 ho HA4 HB4 HF4 HA3 HT3 HX3 R4 R3 R2 HS2 HFR HB2
      obtain ⟨⟨y0, y1, y2, y3⟩, _, _, _, _⟩ := R5.out.cells4 0 rfl
      obtain ⟨⟨z0, z1, z2, z3⟩, _, _, _, _⟩ := R5.out.cells4 1 rfl
      have N5 := refsame18 (w := W5) ⟨A1, n1, c1, l1, rfl, HA5.out⟩ ⟨A2, n2, c2, l2, rfl, HB5.out⟩
      rw [(sameL_iff S2 S2).2 rfl] at N5
      go_wp2_with fail
      refine N5.mono ?_
      rintro e w5 ⟨rfl, hb⟩
      have R6 := Lib.hid (R5.out.call hb)
      have HA6 := Lib.hid (HA5.out.below hb)
      have HB6 := Lib.hid (HB5.out.below hb)
      have HS6 := Lib.hid (HS.out.below R6.out.below)
      have HT6 := Lib.hid (HT.out.below R6.out.below)
      clear N5 hb y0 y1 y2 y3 z0 z1 z2 z3 hcl R5 HA5 HB5
      have HNS : Hid (∀ k ∈ foot A n l, k ∉ [g6, g7]) := Lib.hid (fun k hk => by have := HFS2.out k hk; have := G4.out; have := G5.out; have := G6.out; have := G7.out; simp; omega)
      have HNT : Hid (∀ k ∈ foot A' n' l', k ∉ [g6, g7]) := Lib.hid (fun k hk => by have := HFT2.out k hk; have := G4.out; have := G5.out; have := G6.out; have := G7.out; simp; omega)
      have HSS : Hid (∀ k ∈ foot A n l, k ∈ foot A n l ∨ w.heap.size ≤ k) := Lib.hid (fun k hk => .inl hk)
      have HTT : Hid (∀ k ∈ foot A' n' l', k ∈ foot A' n' l' ∨ w.heap.size ≤ k) := Lib.hid (fun k hk => .inl hk)
      by_cases hE : E = 0
      · subst hE
        have HDS2 := Lib.hid (HDS.out.trans (if_pos rfl))
        clear HDS
        go_wp2_with fail
        have hA := R6.out.get 0 rfl
        have hB' := R6.out.get 1 rfl
        refine wp_region_boxes (by kernel_rfl) [⟨98, 2, 0, zeroShC, 25, 6, 169, some g6⟩, ⟨99, 3, 1, zeroShC, 25, 7, 170, some g7⟩] (twoV 169 170 8 true S2 S2 A1 n1 c1 l1 A2 n2 c2 l2) (twoV_lt _ _ _ _ _ _ _ _ _ _ _ _ _ _) (twoV_loc _ _ _ _ _ _ _ _ _ _ _ _ _ _) (by kernel_rfl) (by kernel_rfl) (by kernel_rfl) ?qbs (by kernel_rfl) (two_old (by have := G7.out; have := G6.out; simp; omega)) ?qheads ?qfin
        case qbs =>
          intro y hy
          rcases List.mem_cons.1 hy with rfl | hy
          · exact ⟨(fun h => by cases h), (fun g' h => by cases h; exact ⟨R6.out.get 3 rfl, rfl, by kernel_rfl, Nat.le_of_ble_eq_true rfl⟩), ⟨_, rfl, rfl, rfl, rfl, (fun h => by cases h), by kernel_rfl⟩, by kernel_rfl, fun v F w h => xV.ex h⟩
          · obtain rfl : y = _ := by simpa using hy
            exact ⟨(fun h => by cases h), (fun g' h => by cases h; exact ⟨R6.out.get 2 rfl, rfl, by kernel_rfl, Nat.le_of_ble_eq_true rfl⟩), ⟨_, rfl, rfl, rfl, rfl, (fun h => by cases h), by kernel_rfl⟩, by kernel_rfl, fun v F w h => xV.ex h⟩
        case qheads =>
          refine ⟨.inr ⟨rfl, 169, rfl, fun a v OK hOK hB hO hD K hK => ?_⟩, .inr ⟨rfl, 170, rfl, fun a v OK hOK hB hO hD K hK => ?_⟩, .inl rfl, .inl rfl, .inr ⟨rfl, 8, rfl, fun a v OK hOK hB hO hD K hK => ?_⟩, trivial⟩
          · exact wp_load_all 25 _ g9 25 (shV S2 A1 n1 c1) (0, 0) _ rfl (eval_of (t := 9) (by rw [hO 9 (not_dst 9 (by kernel_rfl))]; rfl)) ((hB.block g9 (R6.out.lt 0 rfl) (by have := HGG.out; simp [oldsOf]; omega)).trans hA) Tryd.underlying25 rfl sizeShelf (hK _ _ _ ⟨rfl, rfl, HA6.out.loc (fun k hk => hB.block k (HA6.out.foot_lt k hk) (HNA.out k hk))⟩ (fun k hk => .inl (hOK k (HA6.out.foot_lt k hk) (HNA.out k hk))) (Below.refl _ _))
          · exact wp_load_all 25 _ g10 25 (shV S2 A2 n2 c2) (0, 0) _ rfl (eval_of (t := 10) (by rw [hO 10 (not_dst 10 (by kernel_rfl))]; rfl)) ((hB.block g10 (R6.out.lt 1 rfl) (by have := HGG.out; simp [oldsOf]; omega)).trans hB') Tryd.underlying25 rfl sizeShelf (hK _ _ _ ⟨rfl, rfl, HB6.out.loc (fun k hk => hB.block k (HB6.out.foot_lt k hk) (HNB.out k hk))⟩ (fun k hk => .inl (hOK k (HB6.out.foot_lt k hk) (HNB.out k hk))) (Below.refl _ _))
          · exact wpb_assign _ _ rfl rfl (hK _ [] _ ⟨rfl, rfl⟩ (by simp) (Below.refl _ _))
        case qfin =>
          intro F w6 β hbx hap hV hB
          obtain ⟨_, hn0, C, G, hF17, h6, ⟨_, hC, hSA⟩, _⟩ := hbx 0 _ rfl
          obtain ⟨_, hn1, C', G', hF18, h7, ⟨_, hC', hSB⟩, _⟩ := hbx 1 _ rfl
          rw [hn0 g6 rfl] at h6
          rw [hn1 g7 rfl] at h7
          obtain rfl : C = shV S2 A1 n1 c1 := by cases hC; rfl
          obtain rfl : C' = shV S2 A2 n2 c2 := by cases hC'; rfl
          have e8 : F 8 = .bool true := (hV 4 _ 8 rfl rfl rfl).elim (fun _ h => h.2)
          have HBW : Hid (Below w.heap.size w w6) := Lib.hid (R6.out.below.trans (hB.below (by intro y hy; have := R6.out.ge 3 rfl; have := R6.out.ge 2 rfl; simp [oldsOf] at hy; omega) R6.out.below.size))
          have H6 := Lib.hid h6
          have H7 := Lib.hid h7
          have HSA := Lib.hid hSA
          have HSB := Lib.hid hSB
          simp only [putAll, List.setIfInBounds_toArray, List.set_cons_zero, List.set_cons_succ]
          rw [hF17, hF18, e8]
          clear hbx hap hV hB hn0 hn1 hF17 hF18 h6 h7 hC hC' hSA hSB e8 hA hB'
          go_wp2_with fail
          exact bodyPost_ret (v := .tuple #[.agg (shV S2 A1 n1 c1), .agg (shV S2 A2 n2 c2), .bool true]) (results_cells2_slot rfl _ _ g6 g7 25 _ _ (0, 0) (0, 0) _ _ rfl rfl rfl H6.out H7.out Tryd.underlying25 rfl sizeShelf sizeShelf) rfl ⟨_, _, rfl, by rw [HDS2.out]; exact ⟨A1, n1, c1, l1, rfl, HSA.out, HVA.out⟩, by rw [HDS2.out]; exact ⟨A2, n2, c2, l2, rfl, HSB.out, HVB.out⟩, HBW.out⟩
      · have HDS2 := Lib.hid (HDS.out.trans (if_neg hE))
        clear HDS
        have hE' : (E != 0) = true := by simpa using hE
        go_wp2_with fail
        have hA := R6.out.get 6 rfl
        have hB' := R6.out.get 5 rfl
        refine wp_region_boxes (by kernel_rfl) [⟨98, 2, 0, zeroShC, 25, 6, 167, some g6⟩, ⟨99, 3, 1, zeroShC, 25, 7, 168, some g7⟩] (twoV 167 168 8 true S S A n c l A' n' c' l') (twoV_lt _ _ _ _ _ _ _ _ _ _ _ _ _ _) (twoV_loc _ _ _ _ _ _ _ _ _ _ _ _ _ _) (by kernel_rfl) (by kernel_rfl) (by kernel_rfl) ?qbs (by kernel_rfl) (two_old (by have := G7.out; have := G6.out; simp; omega)) ?qheads ?qfin
        case qbs =>
          intro y hy
          rcases List.mem_cons.1 hy with rfl | hy
          · exact ⟨(fun h => by cases h), (fun g' h => by cases h; exact ⟨R6.out.get 3 rfl, rfl, by kernel_rfl, Nat.le_of_ble_eq_true rfl⟩), ⟨_, rfl, rfl, rfl, rfl, (fun h => by cases h), by kernel_rfl⟩, by kernel_rfl, fun v F w h => xV.ex h⟩
          · obtain rfl : y = _ := by simpa using hy
            exact ⟨(fun h => by cases h), (fun g' h => by cases h; exact ⟨R6.out.get 2 rfl, rfl, by kernel_rfl, Nat.le_of_ble_eq_true rfl⟩), ⟨_, rfl, rfl, rfl, rfl, (fun h => by cases h), by kernel_rfl⟩, by kernel_rfl, fun v F w h => xV.ex h⟩
        case qheads =>
          refine ⟨.inr ⟨rfl, 167, rfl, fun a v OK hOK hB hO hD K hK => ?_⟩, .inr ⟨rfl, 168, rfl, fun a v OK hOK hB hO hD K hK => ?_⟩, .inl rfl, .inl rfl, .inr ⟨rfl, 8, rfl, fun a v OK hOK hB hO hD K hK => ?_⟩, trivial⟩
          · exact wp_load_all 25 _ g3 25 (shV S A n c) (0, 0) _ rfl (eval_of (t := 3) (by rw [hO 3 (not_dst 3 (by kernel_rfl))]; rfl)) ((hB.block g3 (R6.out.lt 6 rfl) (by have := G4.out; have := G5.out; have := G6.out; have := G7.out; simp [oldsOf]; omega)).trans hA) Tryd.underlying25 rfl sizeShelf (hK _ _ _ ⟨rfl, rfl, HS6.out.loc (fun k hk => hB.block k (HS6.out.foot_lt k hk) (HNS.out k hk))⟩ (fun k hk => .inl (hOK k (HS6.out.foot_lt k hk) (HNS.out k hk))) (Below.refl _ _))
          · exact wp_load_all 25 _ g4 25 (shV S A' n' c') (0, 0) _ rfl (eval_of (t := 4) (by rw [hO 4 (not_dst 4 (by kernel_rfl))]; rfl)) ((hB.block g4 (R6.out.lt 5 rfl) (by have := G4.out; have := G5.out; have := G6.out; have := G7.out; simp [oldsOf]; omega)).trans hB') Tryd.underlying25 rfl sizeShelf (hK _ _ _ ⟨rfl, rfl, HT6.out.loc (fun k hk => hB.block k (HT6.out.foot_lt k hk) (HNT.out k hk))⟩ (fun k hk => .inl (hOK k (HT6.out.foot_lt k hk) (HNT.out k hk))) (Below.refl _ _))
          · exact wpb_assign _ _ rfl rfl (hK _ [] _ ⟨rfl, rfl⟩ (by simp) (Below.refl _ _))
        case qfin =>
          intro F w6 β hbx hap hV hB
          obtain ⟨_, hn0, C, G, hF17, h6, ⟨_, hC, hSA⟩, _⟩ := hbx 0 _ rfl
          obtain ⟨_, hn1, C', G', hF18, h7, ⟨_, hC', hSB⟩, _⟩ := hbx 1 _ rfl
          rw [hn0 g6 rfl] at h6
          rw [hn1 g7 rfl] at h7
          obtain rfl : C = shV S A n c := by cases hC; rfl
          obtain rfl : C' = shV S A' n' c' := by cases hC'; rfl
          have e8 : F 8 = .bool true := (hV 4 _ 8 rfl rfl rfl).elim (fun _ h => h.2)
          have HBW : Hid (Below w.heap.size w w6) := Lib.hid (R6.out.below.trans (hB.below (by intro y hy; have := R6.out.ge 3 rfl; have := R6.out.ge 2 rfl; simp [oldsOf] at hy; omega) R6.out.below.size))
          have H6 := Lib.hid h6
          have H7 := Lib.hid h7
          have HSA := Lib.hid hSA
          have HSB := Lib.hid hSB
          simp only [putAll, List.setIfInBounds_toArray, List.set_cons_zero, List.set_cons_succ]
          rw [hF17, hF18, e8]
          clear hbx hap hV hB hn0 hn1 hF17 hF18 h6 h7 hC hC' hSA hSB e8 hA hB'
          go_wp2_with fail
          exact bodyPost_ret (v := .tuple #[.agg (shV S A n c), .agg (shV S A' n' c'), .bool true]) (results_cells2_slot rfl _ _ g6 g7 25 _ _ (0, 0) (0, 0) _ _ rfl rfl rfl H6.out H7.out Tryd.underlying25 rfl sizeShelf sizeShelf) rfl ⟨_, _, rfl, by rw [HDS2.out]; exact ⟨A, n, c, l, rfl, HSA.out, HSS.out⟩, by rw [HDS2.out]; exact ⟨A', n', c', l', rfl, HSB.out, HTT.out⟩, HBW.out⟩
end
end Go.Proofs.YtcepfmjebgklfaaDoor
