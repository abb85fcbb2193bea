/- ShelfOrder: what a round of its loops finds in memory. -/
import Derived.Test.YtcepfmjebgklfaaDoorShOrdM
import Derived.Test.YtcepfmjebgklfaaDoorAppend
import Derived.Test.YtcepfmjebgklfaaDoorBox
namespace Go.Proofs.YtcepfmjebgklfaaDoor
open Go.RowKit
set_option linter.unusedSimpArgs false
set_option linter.unusedVariables false
set_option maxRecDepth 100000
def nInt (x : Nat) : Value := .int .i64 (x : Int)
theorem own_same18 {w w' : World} {base : Nat} {e : TypeId} {size : Nat} {v : Value} {n : Nat} {xs : List Value} (h : w.ownsRow base e size v n xs) (hb : ∀ b, v.ownBlock = some b → w'.heap[b]? = w.heap[b]?) : w'.ownsRow base e size v n xs := by
  refine ⟨h.1, ?_⟩
  rcases h.2 with h' | ⟨g, cap, cur, rfl, h1, h2, h3⟩
  · exact .inl h'
  · exact .inr ⟨g, cap, cur, rfl, h1, (hb g rfl).trans h2, h3⟩
/-- A row of numbers of the call's own. -/
def intsT (v : Value) (L : List Nat) : Thing where
  says F w := F = v.ownBlock.toList ∧ w.ownsRow 0 3 1 v L.length (L.map nInt)
  lt := by
    rintro F w ⟨rfl, h⟩ b hb
    have : v.ownBlock = some b := by simpa using hb
    exact (World.ownsRow.lt h b this).2
  loc := by
    rintro F w w' h ⟨rfl, h1⟩
    exact ⟨rfl, own_same18 h1 (fun b hb => h b (by simp [hb]))⟩
theorem Held.ints {w0 W : World} {v : Value} {L : List Nat} {l : List Thing} (R : Held w0 W l) (k : Nat) (e : l[k]? = some (intsT v L)) : W.ownsRow 0 3 1 v L.length (L.map nInt) := by
  obtain ⟨F, _, h⟩ := R.thing k e
  exact h
theorem Held.none_ints {w0 W : World} {l : List Thing} (R : Held w0 W l) : Held w0 W (intsT (.slice none 0 0) [] :: l) :=
  R.more (Below.refl _ _) (F := []) ⟨rfl, World.ownsRow_nil _ _ _ _⟩ (by simp) (by simp)
abbrev shT (g : Nat) (s : ShL) (A : Option Addr) (n c : Nat) : Thing := rowT g (shV s A n c) 25
/-- A round's things: the shelf's variable, the empty shelf's, the row of what was given. -/
structure OrdI (w0 W : World) (gs ge : Nat) (S E : ShL) (A : Option Addr) (n c : Nat) (l : List CellH) (A0 : Option Addr) (n0 c0 : Nat) (l0 : List CellH) (fv : Value) (L : List Nat) : Prop where
  held : Held w0 W [shT gs S A n c, shT ge E A0 n0 c0, intsT fv L]
  s : ShelfOf W S A n c l
  e : ShelfOf W E A0 n0 c0 l0
  ap : ∀ g, fv.ownBlock = some g → Avoids g A n l ∧ Avoids g A0 n0 l0
  es : Avoids gs A0 n0 l0
section
variable {w0 W W' : World} {gs ge : Nat} {S E S' : ShL} {A : Option Addr} {n c : Nat} {l : List CellH} {A0 : Option Addr} {n0 c0 : Nat} {l0 : List CellH} {fv : Value} {L : List Nat} {A1 : Option Addr} {n1 c1 : Nat} {l1 : List CellH}
theorem OrdI.call (h : OrdI w0 W gs ge S E A n c l A0 n0 c0 l0 fv L) (hb : Below W.heap.size W W') : OrdI w0 W' gs ge S E A n c l A0 n0 c0 l0 fv L :=
  ⟨h.held.call hb, h.s.below hb, h.e.below hb, h.ap, h.es⟩
theorem OrdI.lt (h : OrdI w0 W gs ge S E A n c l A0 n0 c0 l0 fv L) : ∀ g, fv.ownBlock = some g → g < W.heap.size := fun g hg => (World.ownsRow.lt (h.held.ints 2 rfl) g hg).2
theorem OrdI.app {wa w2 : World} {fv' : Value} {i : Nat} (h : OrdI w0 W gs ge S E A n c l A0 n0 c0 l0 fv L) (hb : Below W.heap.size W wa) (hown : w2.ownsRow 0 3 1 fv' (L.length + 1) (L.map nInt ++ [nInt i])) (hg : wa.grownBy w2 fv.ownBlock)
    (hat : fv'.ownBlock = fv.ownBlock ∨ fv'.ownBlock = some wa.heap.size) : OrdI w0 w2 gs ge S E A n c l A0 n0 c0 l0 fv' (L ++ [i]) := by
  have q := h.call hb
  have hR := q.held.turn 2 (y := intsT fv' (L ++ [i])) (W' := w2) rfl (fun F hF hn => ⟨fv'.ownBlock.toList, ⟨rfl, by simpa using hown⟩, Only.of_grown hg (fun k hk => by rw [hF.1, hk]; simp), fun b hb' => by
    rcases hat with e | e
    · rw [e] at hb'; exact .inl (by rw [hF.1]; exact hb')
    · rw [e] at hb'; exact .inr (by simp at hb'; omega), by cases fv'.ownBlock <;> simp⟩)
  have step : ∀ {X : ShL} {A2 : Option Addr} {n2 c2 : Nat} {l2 : List CellH}, ShelfOf wa X A2 n2 c2 l2 → (∀ g, fv.ownBlock = some g → Avoids g A2 n2 l2) → ShelfOf w2 X A2 n2 c2 l2 := by
    intro X A2 n2 c2 l2 hx ha
    cases hf : fv.ownBlock with
    | none =>
      rw [hf] at hg
      exact hx.below ⟨hg.os, hg.tape, hg.output, hg.size, fun k hk => hg.block k hk (by simp)⟩
    | some g =>
      rw [hf] at hg
      exact hx.only (ha g hf) (Only.of_grown hg (fun k hk => by cases hk; simp))
  refine ⟨hR, step q.s (fun g hg => (q.ap g hg).1), step q.e (fun g hg => (q.ap g hg).2), fun g hg' => ?_, q.es⟩
  rcases hat with e | e
  · exact q.ap g (by rw [← e]; exact hg')
  · rw [e] at hg'
    obtain rfl : wa.heap.size = g := by simpa using hg'
    exact ⟨q.s.avoids (Nat.le_refl _), q.e.avoids (Nat.le_refl _)⟩
/-- The next shelf is written over the shelf's variable. -/
theorem OrdI.put {gn : Nat} {r : Array Value} (hR : Held w0 W [rowT gn r 25, shT gs S A n c, shT ge E A0 n0 c0, intsT fv L]) (hs : ShelfOf W S' A1 n1 c1 l1) (hav : Avoids gs A1 n1 l1) (hap : ∀ g, fv.ownBlock = some g → Avoids g A1 n1 l1)
    (he : ShelfOf W E A0 n0 c0 l0) (eap : ∀ g, fv.ownBlock = some g → Avoids g A0 n0 l0) (es : Avoids gs A0 n0 l0) :
    OrdI w0 ((((W.setCell ⟨gs, 0, none⟩ (.int .u8 (S'.cl : Int))).setCell ⟨gs, 1, none⟩ (.int .u16 (S'.prev : Int))).setCell ⟨gs, 2, none⟩ (.int .u16 (S'.next : Int))).setCell ⟨gs, 3, none⟩ (.slice A1 n1 c1)) gs ge S' E A1 n1 c1 l1 A0 n0 c0 l0 fv L := by
  have q := hR.store4 1 rfl (.int .u8 (S'.cl : Int)) (.int .u16 (S'.prev : Int)) (.int .u16 (S'.next : Int)) (.slice A1 n1 c1)
  have ho := only4 W gs (.int .u8 (S'.cl : Int)) (.int .u16 (S'.prev : Int)) (.int .u16 (S'.next : Int)) (.slice A1 n1 c1)
  exact ⟨q.drop 1, hs.only hav ho, he.only es ho, fun g hg => ⟨hap g hg, eap g hg⟩, es⟩
/-- A call's result, in a new variable. -/
theorem OrdI.made {w2 : World} (h : OrdI w0 W gs ge S E A n c l A0 n0 c0 l0 fv L) (hb : Below W.heap.size W w2) (hs : ShelfOf w2 S' A1 n1 c1 l1) (hfr : FreshAt W.heap.size A1 n1 l1) :
    Held w0 (w2.alloc (.cells (shV S' A1 n1 c1) 25)) [shT w2.heap.size S' A1 n1 c1, shT gs S A n c, shT ge E A0 n0 c0, intsT fv L] ∧
    ∀ W3, W3 = w2.alloc (.cells (shV S' A1 n1 c1) 25) → OrdI w0 ((((W3.setCell ⟨gs, 0, none⟩ (.int .u8 (S'.cl : Int))).setCell ⟨gs, 1, none⟩ (.int .u16 (S'.prev : Int))).setCell ⟨gs, 2, none⟩ (.int .u16 (S'.next : Int))).setCell ⟨gs, 3, none⟩ (.slice A1 n1 c1)) gs ge S' E A1 n1 c1 l1 A0 n0 c0 l0 fv L := by
  have q := (h.held.call hb).alloc (shV S' A1 n1 c1) 25
  have hb2 : Below w2.heap.size w2 (w2.alloc (.cells (shV S' A1 n1 c1) 25)) := (Below.refl _ _).alloc (Nat.le_refl _) _
  refine ⟨q, fun W3 hW => ?_⟩
  subst hW
  exact OrdI.put q (hs.below hb2) (hfr.avoids (h.held.lt 0 rfl)) (fun g hg => hfr.avoids (h.lt g hg)) ((h.e.below hb).below hb2) (fun g hg => (h.ap g hg).2) h.es
end
/-- A variable that still holds no shelf lies apart from a shelf whose data are of two bytes or more. -/
theorem avoids_zero {w : World} {S : ShL} {A : Option Addr} {n c g : Nat} {l : List CellH} {T : TypeId} (h : ShelfOf w S A n c l) (hg : w.heap[g]? = some (.cells zeroShC T (0, 0))) (hd : ∀ x ∈ l, x.data = [] ∨ 2 ≤ x.data.length) : Avoids g A n l := by
  have hc : ∀ i, w.cell? ⟨g, i, none⟩ = zeroShC[i]? := fun i => cell_of_row w g i _ _ _ hg
  refine ⟨fun h0 a ha e => ?_, fun x hx h0 a ha e => ?_⟩
  · rcases h.cells.at_ with h1 | ⟨b, off, rfl, h1, h2⟩
    · exact h0 h1
    · cases ha
      obtain rfl : b = g := e
      have hl : 0 < l.length := by rw [h.cells.len]; omega
      have := h2 0 hl 0 _ rfl
      rw [hc] at this
      match off + 0 * 2 + 0, this with
      | 0, this => cases this
      | 1, this => cases this
      | 2, this => cases this
      | 3, this => cases this
  · rcases (h.cells.ok x hx).by_ with h1 | ⟨b, off, hA, h1, h2⟩
    · exact h0 h1
    · rw [hA] at ha; cases ha
      obtain rfl : b = g := e
      have hl : 2 ≤ x.data.length := (hd x hx).resolve_left h0
      have := h2 1 (by omega)
      rw [hc, List.getElem?_eq_getElem (by omega)] at this
      simp only [Option.map_some, vu8] at this
      match off, this with
      | 0, this => cases this
      | 1, this => cases this
      | 2, this => cases this
      | off + 3, this => simp [zeroShC] at this
/-- A shelf's value of blocks made since, and the same with an error's number behind. -/
def boxR (B : Nat) (S : ShL) (v : Value) (w : World) : Prop := ∃ A n c l, v = .agg (shV S A n c) ∧ ShelfOf w S A n c l ∧ FreshAt B A n l
def boxT (B : Nat) (S : ShL) (E : Int) (v : Value) (w : World) : Prop := ∃ A n c l, v = .tuple #[.agg (shV S A n c), .int .i64 E] ∧ ShelfOf w S A n c l ∧ FreshAt B A n l
theorem boxR.below {B : Nat} {S : ShL} {v : Value} {w w' : World} (h : boxR B S v w) (hb : Below w.heap.size w w') : boxR B S v w' := by
  obtain ⟨A, n, c, l, h1, h2, h3⟩ := h
  exact ⟨A, n, c, l, h1, h2.below hb, h3⟩
theorem boxT.below {B : Nat} {S : ShL} {E : Int} {v : Value} {w w' : World} (h : boxT B S E v w) (hb : Below w.heap.size w w') : boxT B S E v w' := by
  obtain ⟨A, n, c, l, h1, h2, h3⟩ := h
  exact ⟨A, n, c, l, h1, h2.below hb, h3⟩
theorem FreshAt.mono {B B2 : Nat} {A : Option Addr} {n : Nat} {l : List CellH} (h : FreshAt B2 A n l) (hB : B ≤ B2) : FreshAt B A n l := ⟨fun h0 a ha => Nat.le_trans hB (h.1 h0 a ha), fun x hx h0 a ha => Nat.le_trans hB (h.2 x hx h0 a ha)⟩
theorem shV_one (S : ShL) (A : Option Addr) (n c : Nat) : (shV S A n c).all (·.oneCell') = true := by
  rw [Array.all_eq_true']
  intro x hx
  simp [shV] at hx
  rcases hx with rfl | rfl | rfl | rfl <;> rfl
def Data2 (S : ShL) : Prop := ∀ c ∈ S.cells, c.2 = [] ∨ 2 ≤ c.2.length
theorem ShelfOf.data2 {w : World} {S : ShL} {A : Option Addr} {n c : Nat} {l : List CellH} (h : ShelfOf w S A n c l) (hd : Data2 S) : ∀ x ∈ l, x.data = [] ∨ 2 ≤ x.data.length := by
  intro x hx
  exact hd x.dat (by rw [← h.dat]; exact List.mem_map_of_mem hx)
theorem boxR.only {B b : Nat} {S : ShL} {v : Value} {w w' : World} {T : TypeId} (h : boxR B S v w) (hd : Data2 S) (hz : w.heap[b]? = some (.cells zeroShC T (0, 0))) (ho : Only [b] w w') : boxR B S v w' := by
  obtain ⟨A, n, c, l, h1, h2, h3⟩ := h
  exact ⟨A, n, c, l, h1, h2.only (avoids_zero h2 hz (h2.data2 hd)) ho, h3⟩
theorem boxT.only {B b : Nat} {S : ShL} {E : Int} {v : Value} {w w' : World} {T : TypeId} (h : boxT B S E v w) (hd : Data2 S) (hz : w.heap[b]? = some (.cells zeroShC T (0, 0))) (ho : Only [b] w w') : boxT B S E v w' := by
  obtain ⟨A, n, c, l, h1, h2, h3⟩ := h
  exact ⟨A, n, c, l, h1, h2.only (avoids_zero h2 hz (h2.data2 hd)) ho, h3⟩
theorem ord_data2 {k : Nat} (f : Nat → Nat) (hk : k < 7) : Data2 (ordF k f) := by
  have hr := roomL_pos hk
  intro c hc
  simp only [ordF, List.mem_map] at hc
  obtain ⟨q, _, rfl⟩ := hc
  unfold ordC
  split
  · exact .inl rfl
  · right; simp; omega
/-- The slots of the region that gives a place back. -/
def givV (B gs : Nat) (S S' : ShL) (A : Option Addr) (n c ab ao m ser : Nat) (t : Tmp) (v : Value) (w : World) : Prop :=
  match t with
  | 127 => v = .agg (shV S A n c)
  | 128 => v = .int .i64 (m : Int)
  | 129 => v = .pointer (some ⟨gs, 3, none⟩)
  | 130 => v = .slice A n c
  | 131 => v = .int .i64 (m : Int)
  | 132 => v = .pointer (some ⟨ab, ao + m * 2, none⟩)
  | 133 => v = .pointer (some ⟨ab, ao + m * 2, none⟩)
  | 134 => v = .int .u64 (ser : Int)
  | 135 => boxT B S' 0 v w
  | 126 => boxT B S' 0 v w
  | 136 => boxR B S' v w
  | 137 => v = .int .i64 0
  | 25 => v = .int .i64 0
  | _ => True
theorem givV_below {B gs : Nat} {S S' : ShL} {A : Option Addr} {n c ab ao m ser : Nat} : ∀ t v w w', givV B gs S S' A n c ab ao m ser t v w → Below w.heap.size w w' → givV B gs S S' A n c ab ao m ser t v w' := by
  intro t v w w' h hb
  revert h
  unfold givV
  split <;> first | exact id | exact fun h => boxT.below h hb | exact fun h => boxR.below h hb
theorem givV_only {B gs : Nat} {S S' : ShL} {A : Option Addr} {n c ab ao m ser : Nat} {T : TypeId} (hd : Data2 S') : ∀ t v w w' b, givV B gs S S' A n c ab ao m ser t v w → B ≤ b → w.heap[b]? = some (.cells zeroShC T (0, 0)) → Only [b] w w' → givV B gs S S' A n c ab ao m ser t v w' := by
  intro t v w w' b h _ hz ho
  revert h
  unfold givV
  split <;> first | exact id | exact fun h => boxT.only h hd hz ho | exact fun h => boxR.only h hd hz ho
theorem ints_form {W : World} {v : Value} {L : List Nat} (h : W.ownsRow 0 3 1 v L.length (L.map nInt)) : ∃ A c, v = .slice A L.length c ∧ (A = none → L.length = 0) ∧ ∀ a, A = some a → ∃ g, a = ⟨g, 0, none⟩ := by
  rcases h.2 with ⟨rfl, h0⟩ | ⟨g, cap, cur, rfl, _⟩
  · exact ⟨none, 0, by rw [h0], (fun _ => h0), (fun a h => by cases h)⟩
  · exact ⟨some ⟨g, 0, none⟩, cap, rfl, (fun h => by cases h), (fun a h => by cases h; exact ⟨g, rfl⟩)⟩
theorem ints_cell {W : World} {g N c : Nat} {L : List Nat} (h : W.ownsRow 0 3 1 (.slice (some ⟨g, 0, none⟩) N c) L.length (L.map nInt)) {q z : Nat} (hz : L[q]? = some z) : W.cell? ⟨g, q, none⟩ = some (.int .i64 (z : Int)) := by
  have := World.ownsRow.cells h (g := g) rfl q (nInt z) (by rw [List.getElem?_map, hz]; rfl)
  rw [Addr.add_lit, Nat.zero_add] at this
  exact this
end Go.Proofs.YtcepfmjebgklfaaDoor
