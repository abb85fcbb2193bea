/- What a call owns in memory: things that lie apart, each over blocks of its own; carried through calls, new blocks and stores. Over any program. -/
import Derived.Test.YtnphgaiiiiknpaaDoorCopies
import Derived.Test.YtnphgaiiiiknpaaDoorQuiet
namespace Go.Proofs.YtnphgaiiiiknpaaDoor
open Go.RowKit
/-- A thing: what it says of the blocks F. -/
structure Thing where
  says : List Nat → World → Prop
  lt : ∀ F w, says F w → ∀ b ∈ F, b < w.heap.size
  loc : ∀ F w w', (∀ b ∈ F, w'.heap[b]? = w.heap[b]?) → says F w → says F w'
/-- A row of cells in a block of its own. -/
def rowT (g : Nat) (cs : Array Value) (T : TypeId) : Thing where
  says F w := F = [g] ∧ w.heap[g]? = some (.cells cs T (0, 0))
  lt := by
    rintro F w ⟨rfl, h⟩ b hb
    obtain rfl : b = g := by simpa using hb
    exact (Array.getElem?_eq_some_iff.1 h).1
  loc := by
    rintro F w w' h ⟨rfl, h1⟩
    exact ⟨rfl, (h g (by simp)).trans h1⟩
/-- w' is w but for the blocks F, and new ones. -/
structure Only (F : List Nat) (w w' : World) : Prop where
  os : w'.os = w.os
  tape : w'.tape = w.tape
  output : w'.output = w.output
  size : w.heap.size ≤ w'.heap.size
  block : ∀ k, k < w.heap.size → k ∉ F → w'.heap[k]? = w.heap[k]?
theorem Only.refl (F : List Nat) (w : World) : Only F w w := ⟨rfl, rfl, rfl, Nat.le_refl _, fun _ _ _ => rfl⟩
theorem Only.trans {F : List Nat} {a b c : World} (h : Only F a b) (h' : Only F b c) : Only F a c :=
  ⟨h'.os.trans h.os, h'.tape.trans h.tape, h'.output.trans h.output, Nat.le_trans h.size h'.size, fun k hk hF => (h'.block k (Nat.lt_of_lt_of_le hk h.size) hF).trans (h.block k hk hF)⟩
theorem Only.mono {F G : List Nat} {a b : World} (h : Only F a b) (hs : ∀ x ∈ F, x < a.heap.size → x ∈ G) : Only G a b :=
  ⟨h.os, h.tape, h.output, h.size, fun k hk hG => h.block k hk (fun hF => hG (hs k hF hk))⟩
theorem Only.of_below {F : List Nat} {a b : World} (h : Below a.heap.size a b) : Only F a b := ⟨h.os, h.tape, h.output, h.size, fun k hk _ => h.block k hk⟩
theorem Only.of_grown {F : List Nat} {a b : World} {row : Option Nat} (h : a.grownBy b row) (hr : ∀ k, row = some k → k ∈ F) : Only F a b :=
  ⟨h.os, h.tape, h.output, h.size, fun k hk hF => h.block k hk (fun e => hF (hr k e.symm))⟩
theorem Only.setCell {F : List Nat} {a b : World} (h : Only F a b) {p : Addr} (hp : p.block ∈ F ∨ a.heap.size ≤ p.block) (v : Value) : Only F a (b.setCell p v) :=
  ⟨h.os, h.tape, h.output, by simp only [World.setCell, Array.size_modify]; exact h.size, fun k hk hF => by
    rw [Below.heap_setCell _ _ _ _ (by
      rcases hp with hp | hp
      · exact fun e => hF (e ▸ hp)
      · omega)]
    exact h.block k hk hF⟩
theorem Only.alloc {F : List Nat} {a b : World} (h : Only F a b) (o : Obj) : Only F a (b.alloc o) :=
  ⟨h.os, h.tape, h.output, by have := h.size; simp; omega, fun k hk hF => by
    rw [Below.heap_alloc _ _ _ (Nat.lt_of_lt_of_le hk h.size)]
    exact h.block k hk hF⟩
theorem Only.drew {F : List Nat} {a b : World} (h : Only F a b) : Only F a b.drew := ⟨h.os, h.tape, h.output, h.size, h.block⟩
theorem Only.below {F : List Nat} {a b : World} (h : Only F a b) {B : Nat} (hF : ∀ x ∈ F, B ≤ x) (hB : B ≤ a.heap.size) : Below B a b :=
  ⟨h.os, h.tape, h.output, h.size, fun k hk => h.block k (by omega) (fun hf => by have := hF k hf; omega)⟩
/-- W lies behind w0; the things of Z lie in blocks made since, apart from each other. -/
structure HeldZ (w0 W : World) (Z : List (Thing × List Nat)) : Prop where
  below : Below w0.heap.size w0 W
  says : ∀ z ∈ Z, z.1.says z.2 W
  ge : ∀ z ∈ Z, ∀ b ∈ z.2, w0.heap.size ≤ b
  apart : (Z.flatMap (·.2)).Nodup
def Held (w0 W : World) (l : List Thing) : Prop := ∃ Z, Z.map (·.1) = l ∧ HeldZ w0 W Z
/-- A thing stands in memory. -/
def Thing.at (x : Thing) (w : World) : Prop := ∃ F, x.says F w
theorem Thing.at.since {x : Thing} {w w' : World} (h : x.at w) (hb : Below w.heap.size w w') : x.at w' := by
  obtain ⟨F, hF⟩ := h
  exact ⟨F, x.loc F w w' (fun b hb' => hb.block b (x.lt F w hF b hb')) hF⟩
/-- A call has turned the thing that stood in F into x. -/
def Turns (F : List Nat) (W W' : World) (x : Thing) : Prop := ∃ G, x.says G W' ∧ Only F W W' ∧ (∀ b ∈ G, b ∈ F ∨ W.heap.size ≤ b) ∧ G.Nodup
section
variable {w0 W W' : World} {l : List Thing} {Z : List (Thing × List Nat)}
theorem HeldZ.lt (R : HeldZ w0 W Z) : ∀ z ∈ Z, ∀ b ∈ z.2, b < W.heap.size := fun z hz b hb => z.1.lt _ _ (R.says z hz) b hb
theorem HeldZ.call (R : HeldZ w0 W Z) (hb : Below W.heap.size W W') : HeldZ w0 W' Z :=
  ⟨R.below.trans (hb.mono R.below.size), fun z hz => z.1.loc _ W W' (fun b hb' => hb.block b (R.lt z hz b hb')) (R.says z hz), R.ge, R.apart⟩
theorem HeldZ.perm {Z' : List (Thing × List Nat)} (R : HeldZ w0 W Z) (h : Z.Perm Z') : HeldZ w0 W Z' :=
  ⟨R.below, fun z hz => R.says z (h.mem_iff.2 hz), fun z hz => R.ge z (h.mem_iff.2 hz), (h.flatMap_right _).nodup_iff.1 R.apart⟩
theorem HeldZ.head {x y : Thing} {F G : List Nat} (R : HeldZ w0 W ((x, F) :: Z)) (ho : Only F W W') (hy : y.says G W') (hG : ∀ b ∈ G, b ∈ F ∨ W.heap.size ≤ b) (hn : G.Nodup) : HeldZ w0 W' ((y, G) :: Z) := by
  have hap := R.apart
  rw [List.flatMap_cons, List.nodup_append] at hap
  have hF := R.ge (x, F) (by simp)
  refine ⟨R.below.trans (ho.below hF R.below.size), ?_, ?_, ?_⟩
  · intro z hz
    rcases List.mem_cons.1 hz with rfl | hz
    · exact hy
    · have hz' : z ∈ (x, F) :: Z := List.mem_cons_of_mem _ hz
      refine z.1.loc _ W W' (fun b hb => ho.block b (R.lt z hz' b hb) (fun hbF => ?_)) (R.says z hz')
      exact hap.2.2 b hbF b (List.mem_flatMap.2 ⟨z, hz, hb⟩) rfl
  · intro z hz b hb
    rcases List.mem_cons.1 hz with rfl | hz
    · rcases hG b hb with h | h
      · exact hF b h
      · exact Nat.le_trans R.below.size h
    · exact R.ge z (List.mem_cons_of_mem _ hz) b hb
  · rw [List.flatMap_cons, List.nodup_append]
    refine ⟨hn, hap.2.1, ?_⟩
    intro a ha b hb e
    subst e
    rcases hG a ha with h | h
    · exact hap.2.2 a h a hb rfl
    · obtain ⟨z, hz, hb2⟩ := List.mem_flatMap.1 hb
      have := R.lt z (List.mem_cons_of_mem _ hz) a hb2
      omega
theorem HeldZ.more (R : HeldZ w0 W Z) (hb : Below W.heap.size W W') {x : Thing} {F : List Nat} (hx : x.says F W') (hF : ∀ b ∈ F, W.heap.size ≤ b) (hn : F.Nodup) : HeldZ w0 W' ((x, F) :: Z) := by
  have R1 := R.call hb
  refine ⟨R1.below, ?_, ?_, ?_⟩
  · intro z hz
    rcases List.mem_cons.1 hz with rfl | hz
    · exact hx
    · exact R1.says z hz
  · intro z hz b hb'
    rcases List.mem_cons.1 hz with rfl | hz
    · exact Nat.le_trans R.below.size (hF b hb')
    · exact R.ge z hz b hb'
  · rw [List.flatMap_cons, List.nodup_append]
    refine ⟨hn, R.apart, ?_⟩
    intro a ha b hb' e
    subst e
    obtain ⟨z, hz, hb2⟩ := List.mem_flatMap.1 hb'
    have := R.lt z hz a hb2
    have := hF a ha
    omega
theorem split_at {α : Type} {l : List α} {k : Nat} {x : α} (e : l[k]? = some x) : l = l.take k ++ x :: l.drop (k + 1) := by
  obtain ⟨h, rfl⟩ := List.getElem?_eq_some_iff.1 e
  rw [← List.drop_eq_getElem_cons h, List.take_append_drop]
theorem set_at {α : Type} {l : List α} {k : Nat} {x : α} (e : l[k]? = some x) (y : α) : l.set k y = l.take k ++ y :: l.drop (k + 1) := by
  obtain ⟨h, rfl⟩ := List.getElem?_eq_some_iff.1 e
  rw [List.set_eq_take_append_cons_drop, if_pos h]
theorem HeldZ.turn {k : Nat} {x y : Thing} {F G : List Nat} (R : HeldZ w0 W Z) (e : Z[k]? = some (x, F)) (ho : Only F W W') (hy : y.says G W') (hG : ∀ b ∈ G, b ∈ F ∨ W.heap.size ≤ b) (hn : G.Nodup) : HeldZ w0 W' (Z.set k (y, G)) := by
  rw [set_at e]
  have p : Z.Perm ((x, F) :: (Z.take k ++ Z.drop (k + 1))) := by
    conv => lhs; rw [split_at e]
    exact List.perm_middle
  exact ((R.perm p).head ho hy hG hn).perm List.perm_middle.symm
theorem Held.start (w : World) : Held w w [] := ⟨[], rfl, Below.refl _ _, by simp, by simp, by simp⟩
theorem Held.below (R : Held w0 W l) : Below w0.heap.size w0 W := R.choose_spec.2.below
theorem Held.thing (R : Held w0 W l) (k : Nat) {x : Thing} (e : l[k]? = some x) : x.at W := by
  obtain ⟨Z, rfl, R⟩ := R
  rw [List.getElem?_map] at e
  obtain ⟨z, hz, rfl⟩ := Option.map_eq_some_iff.1 e
  exact ⟨_, R.says z (List.mem_of_getElem? hz)⟩
theorem Held.get (R : Held w0 W l) (k : Nat) {g : Nat} {cs : Array Value} {T : TypeId} (e : l[k]? = some (rowT g cs T)) : W.heap[g]? = some (.cells cs T (0, 0)) := by
  obtain ⟨F, _, h⟩ := R.thing k e
  exact h
theorem Held.lt (R : Held w0 W l) (k : Nat) {g : Nat} {cs : Array Value} {T : TypeId} (e : l[k]? = some (rowT g cs T)) : g < W.heap.size := (Array.getElem?_eq_some_iff.1 (R.get k e)).1
theorem Held.ge (R : Held w0 W l) (k : Nat) {g : Nat} {cs : Array Value} {T : TypeId} (e : l[k]? = some (rowT g cs T)) : w0.heap.size ≤ g := by
  obtain ⟨Z, rfl, R⟩ := R
  rw [List.getElem?_map] at e
  obtain ⟨z, hz, he⟩ := Option.map_eq_some_iff.1 e
  have hm := List.mem_of_getElem? hz
  have := R.says z hm
  rw [he] at this
  exact R.ge z hm g (by rw [this.1]; simp)
theorem Held.cell (R : Held w0 W l) (k i : Nat) {g : Nat} {cs : Array Value} {T : TypeId} {v : Value} (e : l[k]? = some (rowT g cs T)) (hv : cs[i]? = some v) : W.cell? ⟨g, i, none⟩ = some v :=
  (cell_of_row W g i _ _ _ (R.get k e)).trans hv
theorem Held.free (R : Held w0 W l) (k i : Nat) {g : Nat} {cs : Array Value} {T : TypeId} (e : l[k]? = some (rowT g cs T)) : W.frozen? ⟨g, i, none⟩ = false :=
  frozen_of_row W g i _ _ (R.get k e)
theorem Held.call (R : Held w0 W l) (hb : Below W.heap.size W W') : Held w0 W' l := by
  obtain ⟨Z, hZ, R⟩ := R
  exact ⟨Z, hZ, R.call hb⟩
theorem Held.since (R : Held w0 W l) (hC : Since W W') : Held w0 W' l := R.call hC
theorem Held.drew (R : Held w0 W l) : Held w0 W.drew l := R.call ((Below.refl _ _).drew)
/-- A new thing in blocks that have been made since. -/
theorem Held.more (R : Held w0 W l) (hb : Below W.heap.size W W') {x : Thing} {F : List Nat} (hx : x.says F W') (hF : ∀ b ∈ F, W.heap.size ≤ b) (hn : F.Nodup) : Held w0 W' (x :: l) := by
  obtain ⟨Z, rfl, R⟩ := R
  exact ⟨(x, F) :: Z, rfl, R.more hb hx hF hn⟩
theorem Held.alloc (R : Held w0 W l) (cs : Array Value) (T : TypeId) : Held w0 (W.alloc (.cells cs T)) (rowT W.heap.size cs T :: l) :=
  R.more ((Below.refl _ _).alloc (Nat.le_refl _) _) (F := [W.heap.size]) ⟨rfl, heap_alloc_new _ _⟩ (by simp) (by simp)
theorem perm_lift {α β : Type} {f : α → β} : ∀ {l l' : List β}, l.Perm l' → ∀ Z : List α, Z.map f = l → ∃ Z', Z.Perm Z' ∧ Z'.map f = l' := by
  intro l l' h
  induction h with
  | nil => intro Z hZ; exact ⟨Z, .refl _, hZ⟩
  | cons x _ ih =>
    intro Z hZ
    cases Z with
    | nil => simp at hZ
    | cons z Z =>
      simp only [List.map_cons, List.cons.injEq] at hZ
      obtain ⟨Z', h1, h2⟩ := ih Z hZ.2
      exact ⟨z :: Z', h1.cons _, by simp [hZ.1, h2]⟩
  | swap x y l =>
    intro Z hZ
    cases Z with
    | nil => simp at hZ
    | cons a Z =>
      cases Z with
      | nil => simp at hZ
      | cons b Z =>
        simp only [List.map_cons, List.cons.injEq] at hZ
        exact ⟨b :: a :: Z, .swap _ _ _, by simp [hZ.1, hZ.2.1, hZ.2.2]⟩
  | trans _ _ ih1 ih2 =>
    intro Z hZ
    obtain ⟨Z1, h1, h2⟩ := ih1 Z hZ
    obtain ⟨Z2, h3, h4⟩ := ih2 Z1 h2
    exact ⟨Z2, h1.trans h3, h4⟩
theorem Held.perm {l' : List Thing} (R : Held w0 W l) (h : l.Perm l') : Held w0 W l' := by
  obtain ⟨Z, hZ, R⟩ := R
  obtain ⟨Z', h1, h2⟩ := perm_lift h Z hZ
  exact ⟨Z', h2, R.perm h1⟩
/-- The thing at k goes to the head. -/
theorem Held.pull (R : Held w0 W l) (k : Nat) {x : Thing} (e : l[k]? = some x) : Held w0 W (x :: (l.take k ++ l.drop (k + 1))) :=
  R.perm (by conv => lhs; rw [split_at e]
             exact List.perm_middle)
/-- The head goes to place k. -/
theorem Held.push {x : Thing} (k : Nat) (R : Held w0 W (x :: l)) : Held w0 W (l.take k ++ x :: l.drop k) :=
  R.perm (by conv => lhs; rw [← List.take_append_drop k l]
             exact List.perm_middle.symm)
theorem Held.drop (R : Held w0 W l) (k : Nat) : Held w0 W (l.drop k) := by
  obtain ⟨Z, rfl, R⟩ := R
  refine ⟨Z.drop k, by simp, R.below, fun z hz => R.says z (List.mem_of_mem_drop hz), fun z hz => R.ge z (List.mem_of_mem_drop hz), ?_⟩
  have h := R.apart
  conv at h => rw [← List.take_append_drop k Z]
  rw [List.flatMap_append, List.nodup_append] at h
  exact h.2.1
theorem Held.turn (R : Held w0 W l) (k : Nat) {x y : Thing} (e : l[k]? = some x) (h : ∀ F, x.says F W → F.Nodup → Turns F W W' y) : Held w0 W' (l.set k y) := by
  obtain ⟨Z, rfl, R⟩ := R
  rw [List.getElem?_map] at e
  obtain ⟨⟨x', F⟩, hz, rfl⟩ := Option.map_eq_some_iff.1 e
  have hm := List.mem_of_getElem? hz
  have hn : F.Nodup := by
    have h := R.apart
    conv at h => rw [split_at hz]
    rw [List.flatMap_append, List.nodup_append, List.flatMap_cons, List.nodup_append] at h
    exact h.2.1.1
  obtain ⟨G, h1, h2, h3, h4⟩ := h F (R.says _ hm) hn
  exact ⟨Z.set k (y, G), by rw [List.map_set], R.turn hz h2 h1 h3 h4⟩
theorem Held.setCell (R : Held w0 W l) (k i : Nat) (v : Value) {g : Nat} {cs : Array Value} {T : TypeId} (e : l[k]? = some (rowT g cs T)) : Held w0 (W.setCell ⟨g, i, none⟩ v) (l.set k (rowT g (cs.setIfInBounds i v) T)) :=
  R.turn k e (fun F hF _ => ⟨[g], ⟨rfl, heap_setCell_same _ _ _ _ _ _ hF.2⟩, (Only.refl _ _).setCell (.inl (by rw [hF.1]; simp)) _, fun b hb => .inl (by rw [hF.1]; exact hb), by simp⟩)
theorem Held.setRow (R : Held w0 W l) (k : Nat) (c2 : Array Value) {g : Nat} {cs : Array Value} {T : TypeId} (e : l[k]? = some (rowT g cs T)) : Held w0 (W.setRow g c2) (l.set k (rowT g c2 T)) :=
  R.turn k e (fun F hF _ => ⟨[g], ⟨rfl, setRow_heap _ _ _ _ _ _ hF.2⟩, ⟨rfl, rfl, rfl, by simp [World.setRow], fun b _ hb => setRow_other _ _ _ _ (by rw [hF.1] at hb; simpa using hb)⟩, fun b hb => .inl (by rw [hF.1]; exact hb), by simp⟩)
/-- A call that turns the thing at the head. -/
theorem Held.act {P : Program} {f : FuncId} {args : Array Value} {x y : Thing} {Q : Ending → Prop} (R : Held w0 W (x :: l)) (h : ∀ F, x.says F W → F.Nodup → Calls P f args W fun e w' => Q e ∧ Turns F W w' y) :
    Calls P f args W fun e w' => Q e ∧ Held w0 w' (y :: l) := by
  obtain ⟨Z, hZ, R⟩ := R
  cases Z with
  | nil => simp at hZ
  | cons z Z =>
    simp only [List.map_cons, List.cons.injEq] at hZ
    obtain ⟨rfl, rfl⟩ := hZ
    have hn : z.2.Nodup := by
      have h := R.apart
      rw [List.flatMap_cons, List.nodup_append] at h
      exact h.1
    refine (h z.2 (R.says z (by simp)) hn).mono ?_
    rintro e w' ⟨he, G, h1, h2, h3, h4⟩
    exact ⟨he, (y, G) :: Z, rfl, R.head h2 h1 h3 h4⟩
end
end Go.Proofs.YtnphgaiiiiknpaaDoor
