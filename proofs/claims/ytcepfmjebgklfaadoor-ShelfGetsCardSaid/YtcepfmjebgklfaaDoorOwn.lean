/- A slice that grows, as a thing that a caller holds; cells of a shelf in such a slice. Shelves read from blocks: plain laws. -/
import Derived.Test.YtcepfmjebgklfaaDoorShHead
import Derived.Test.YtcepfmjebgklfaaDoorSh4
import Derived.Test.YtcepfmjebgklfaaDoorWr
import Derived.Maps.AppendAt
import Derived.Test.YtcepfmjebgklfaaDoorShMath
import Derived.Test.YtcepfmjebgklfaaDoorReadMath
import Derived.Test.YtcepfmjebgklfaaDoorRead6
namespace Go.Proofs.YtcepfmjebgklfaaDoor
open Go.RowKit
set_option linter.unusedVariables false
def ownT (e : TypeId) (sz : Nat) (v : Value) (n : Nat) (xs : List Value) : Thing where
  says F w := F = v.ownBlock.toList ∧ w.ownsRow 0 e sz v n xs
  lt := by
    rintro F w ⟨rfl, h⟩ b hb
    exact (World.ownsRow.lt h b (by simpa using hb)).2
  loc := by
    rintro F w w' h ⟨rfl, hv⟩
    exact ⟨rfl, ownsRow_same hv (fun b hb => h b (by simp [hb]))⟩
section
variable {w0 W w' : World} {l : List Thing} {e : TypeId} {sz n n' : Nat} {v v' : Value} {xs ys : List Value}
theorem Held.own (R : Held w0 W l) (k : Nat) (h : l[k]? = some (ownT e sz v n xs)) : W.ownsRow 0 e sz v n xs := by
  obtain ⟨F, _, h1⟩ := R.thing k h
  exact h1
theorem Held.newOwn (R : Held w0 W l) (e : TypeId) (sz : Nat) : Held w0 W (ownT e sz (.slice none 0 0) 0 [] :: l) :=
  R.more (Below.refl _ _) (F := []) ⟨rfl, World.ownsRow_nil _ _ _ _⟩ (by simp) (by simp)
theorem Held.appended (R : Held w0 W l) (k : Nat) (h : l[k]? = some (ownT e sz v n xs)) (hown : w'.ownsRow 0 e sz v' n' ys) (hg : W.grownBy w' v.ownBlock) (hat : v'.ownBlock = v.ownBlock ∨ v'.ownBlock = some W.heap.size) : Held w0 w' (l.set k (ownT e sz v' n' ys)) :=
  R.turn k h (fun F hF _ => ⟨v'.ownBlock.toList, ⟨rfl, hown⟩, Only.of_grown hg (fun k hk => by rw [hF.1]; simp [hk]), fun b hb => by
    rcases hat with h1 | h1
    · rw [h1] at hb; exact .inl (by rw [hF.1]; exact hb)
    · rw [h1] at hb; simp at hb; exact .inr (by omega), by cases v'.ownBlock <;> simp⟩)
/-- One more is appended, out of a row that has been made for it. -/
theorem Held.appendOne (R : Held w0 W l) (k : Nat) (h : l[k]? = some (ownT e sz v n xs)) {cs : Array Value} {T : TypeId} (hown : w'.ownsRow 0 e sz v' n' ys) (hg : (W.alloc (.cells cs T)).grownBy w' v.ownBlock) (hat : v'.ownBlock = v.ownBlock ∨ v'.ownBlock = some (W.alloc (.cells cs T)).heap.size) :
    Held w0 w' (l.set k (ownT e sz v' n' ys)) := by
  have h1 := (R.alloc cs T).appended (k + 1) (by rw [List.getElem?_cons_succ]; exact h) hown hg hat
  rw [List.set_cons_succ] at h1
  exact h1.drop 1
end
theorem news_row (w : World) (cs : Array Value) (t : TypeId) : ∀ (j : Nat) (u : Value), cs.toList[j]? = some u → (w.alloc (.cells cs t)).cell? ((⟨w.heap.size, 0, none⟩ : Addr).add j) = some u := by
  intro j u hu
  rw [Addr.add_lit, Nat.zero_add, cell_of_row _ _ j _ _ _ (heap_alloc_new w _), ← Array.getElem?_toList]
  exact hu
def cellVs (hs : List CellH) : List Value := hs.flatMap (fun x => (cellV x).toList)
theorem length_cellVs (hs : List CellH) : (cellVs hs).length = hs.length * 2 := by
  induction hs with
  | nil => rfl
  | cons x hs ih =>
    unfold cellVs at ih ⊢
    rw [List.flatMap_cons, List.length_append, ih, List.length_cons]
    show 2 + _ = _
    omega
theorem cellVs_snoc (hs : List CellH) (x : CellH) : cellVs (hs ++ [x]) = cellVs hs ++ (cellV x).toList := by
  unfold cellVs
  rw [List.flatMap_append]
  simp
theorem cellVs_get : ∀ (hs : List CellH) (i j : Nat) (hi : i < hs.length), j < 2 → (cellVs hs)[i * 2 + j]? = (cellV hs[i]).toList[j]?
  | [], i, j, hi, _ => by simp at hi
  | x :: hs, 0, j, _, hj => by
    unfold cellVs
    rw [List.flatMap_cons, Nat.zero_mul, Nat.zero_add, List.getElem?_append_left (by show j < 2; exact hj)]
    rfl
  | x :: hs, i + 1, j, hi, hj => by
    have := cellVs_get hs i j (by simpa using hi) hj
    unfold cellVs at this ⊢
    rw [List.flatMap_cons, List.getElem?_append_right (by show 2 ≤ _; omega), show (i + 1) * 2 + j - (cellV x).toList.length = i * 2 + j by show (i + 1) * 2 + j - 2 = _; omega]
    simpa using this
theorem cellsIn_own {W : World} {v : Value} {n : Nat} {hs : List CellH} (h : W.ownsRow 0 41 2 v n (cellVs hs)) (hdat : ∀ x ∈ hs, (datT x).at W) (hser : ∀ x ∈ hs, x.ser < 18446744073709551616) :
    ∃ A c, v = .slice A n c ∧ n ≤ c ∧ CellsIn W A n hs := by
  have hl := h.1
  rw [length_cellVs] at hl
  have hok : ∀ x ∈ hs, CellOk W x := fun x hx => by
    obtain ⟨h1, h2, h3⟩ := datT_bytes (hdat x hx)
    exact ⟨h1, h2, hser x hx, h3⟩
  rcases h.2 with ⟨rfl, rfl⟩ | ⟨g, cap, cur, rfl, _, hg, hcap, _, hsz, hcur⟩
  · exact ⟨none, 0, rfl, Nat.le_refl _, by omega, .inl rfl, hok⟩
  · refine ⟨_, _, rfl, hcap, by omega, .inr ⟨g, 0, rfl, (Array.getElem?_eq_some_iff.1 hg).1, fun i hi j u hu => ?_⟩, hok⟩
    have hj : j < 2 := (List.getElem?_eq_some_iff.1 hu).1
    have h1 := cellVs_get hs i j hi hj
    rw [hu, ← hcur, List.getElem?_take, if_pos (by omega)] at h1
    rw [Nat.zero_add, cell_of_row _ _ _ _ _ _ hg, ← Array.getElem?_toList]
    exact h1
/-- Bytes that have grown are a cell's bytes. -/
theorem own_dat {w : World} {F : List Nat} {A : Option Addr} {m c ser : Nat} {d : List UInt8} (h : (ownT 5 1 (.slice A m c) m (d.map vu8)).says F w) : (datT ⟨ser, A, m, c, d⟩).says F w := by
  obtain ⟨rfl, h1, h2⟩ := h
  rw [List.length_map, Nat.mul_one] at h1
  rcases h2 with ⟨he, hm⟩ | ⟨g, cap, cur, he, _, hg, hcap, _, _, hcur⟩
  · cases he
    exact ⟨h1, Nat.le_refl _, .inl ⟨List.eq_nil_of_length_eq_zero (by omega), rfl⟩⟩
  · cases he
    exact ⟨h1, hcap, .inr ⟨g, cur, rfl, rfl, hg, by rw [← hcur, Nat.mul_one]⟩⟩
theorem own_slice {w : World} {base : Nat} {e : TypeId} {size : Nat} {v : Value} {n : Nat} {xs : List Value} (h : w.ownsRow base e size v n xs) : ∃ a c, v = .slice a n c := by
  rcases h.2 with ⟨rfl, rfl⟩ | ⟨g, cap, cur, rfl, _⟩
  · exact ⟨none, 0, rfl⟩
  · exact ⟨_, _, rfl⟩
/-- A shelf whose cells have grown, out of what is held. -/
theorem Held.shelf {w0 W : World} {l : List Thing} {v : Value} {n : Nat} {hs : List CellH} {s : ShL} (R : Held w0 W l) (i : Nat) (hi : l[i]? = some (ownT 41 2 v n (cellVs hs))) (p : Nat)
    (hp : ∀ j, (hj : j < hs.length) → l[p + j]? = some (datT hs[j])) (hdat : hs.map CellH.dat = s.cells) (hser : ∀ x ∈ hs, x.ser < 18446744073709551616) (hcl : s.cl < 256) (hpv : s.prev < 65536) (hnx : s.next < 65536) (hsm : smallL s) :
    ∃ A c, v = .slice A n c ∧ ShelfOf W s A n c hs := by
  obtain ⟨A, c, h1, h2, h3⟩ := cellsIn_own (R.own i hi) (fun x hx => by
    obtain ⟨j, hj, rfl⟩ := List.mem_iff_getElem.1 hx
    exact R.thing _ (hp j hj)) hser
  exact ⟨A, c, h1, h3, hdat, h2, hcl, hpv, hnx, hsm⟩
theorem emptySh_shelf (w : World) : ShelfIn w (.agg #[.int .u8 0, .int .u16 0, .int .u16 0, .slice none 0 0]) emptySh := by
  obtain ⟨A, n, c, l, e, h, _⟩ := emptySh_in 0 w
  exact ⟨A, n, c, l, e, h⟩
end Go.Proofs.YtcepfmjebgklfaaDoor
namespace Go.Proofs.YtcepfmjebgklfaaDoor
open Go.RowKit
def gK (b : List UInt8) (f : Bool) : Nat := readV b 1 1 f
def gBase (k j : Nat) : Nat := 6 + j * (9 + roomL k)
def gSer (b : List UInt8) (f : Bool) (k j : Nat) : Nat := readV b (gBase k j) 8 f
def gLen (b : List UInt8) (f : Bool) (k j : Nat) : Nat := readV b (gBase k j + 8) 1 f
def gRow (b : List UInt8) (f : Bool) (k j : Nat) : List UInt8 := if f then seg b (gBase k j + 9) (roomL k) else List.replicate (roomL k) 0
def gCell (b : List UInt8) (f : Bool) (k j : Nat) : Nat × List UInt8 := (gSer b f k j, (gRow b f k j).take (gLen b f k j))
/-- What stands in a block, may it be a shelf or not. -/
def gShL (b : List UInt8) (f : Bool) : ShL := ⟨gK b f, readV b 2 2 f, readV b 4 2 f, (List.range (placesL (gK b f))).map (gCell b f (gK b f))⟩
def cellFine (b : List UInt8) (f : Bool) (k j : Nat) : Bool := decide (gLen b f k j ≤ roomL k) && allZero ((gRow b f k j).drop (gLen b f k j))
def cellsFine (b : List UInt8) (f : Bool) (k n : Nat) : Bool := (List.range n).all (cellFine b f k)
/-- As the document tells it. -/
def getOk (b : List UInt8) (f : Bool) : Bool := f && decide (putE18 (gShL b f) = 0) && decide (putB18 (gShL b f) = b)
/-- As the program tells it. -/
def getOkP (b : List UInt8) (f : Bool) : Bool := cellsFine b f (gK b f) (placesL (gK b f)) && decide (endV b (gBase (gK b f) (placesL (gK b f))) f = 0) && mayL (gShL b f)
def getS18 (b : List UInt8) : ShL := if getOk b (fineB b 83) then gShL b (fineB b 83) else emptySh
def getE18 (b : List UInt8) : Int := if getOk b (fineB b 83) then 0 else 250
theorem gBase_le {k j : Nat} (hj : j < placesL k) : gBase k j + 9 + roomL k ≤ 252 := by
  have h1 := room_places k
  have h2 : (9 + roomL k) * (j + 1) ≤ (9 + roomL k) * placesL k := Nat.mul_le_mul_left _ hj
  unfold gBase
  rw [Nat.mul_comm j]
  rw [Nat.mul_add, Nat.mul_one] at h2
  omega
theorem gBase_end (k : Nat) : gBase k (placesL k) ≤ 252 := by
  have h1 := room_places k
  unfold gBase
  rw [Nat.mul_comm]
  omega
theorem gBase_succ (k j : Nat) : gBase k (j + 1) = gBase k j + 9 + roomL k := by
  unfold gBase
  rw [Nat.succ_mul]
  omega
theorem length_gRow (b : List UInt8) (hb : b.length = 256) (f : Bool) (k j : Nat) (hj : j < placesL k) : (gRow b f k j).length = roomL k := by
  have := gBase_le hj
  unfold gRow
  split
  · exact length_seg b _ _ (by omega)
  · exact List.length_replicate
theorem gRow_get (b : List UInt8) (hb : b.length = 256) (f : Bool) (k j i : Nat) (hj : j < placesL k) (hi : i < roomL k) : (((gRow b f k j).getD i 0).toNat : Nat) = readV b (gBase k j + 9 + i) 1 f := by
  have := gBase_le hj
  unfold gRow readV
  cases f with
  | true =>
    rw [if_pos rfl, if_pos rfl, List.getD_eq_getElem?_getD, get_seg _ _ _ _ hi]
    have h1 : seg b (gBase k j + 9 + i) 1 = [b[gBase k j + 9 + i]] := by
      unfold seg
      rw [List.drop_eq_getElem_cons (by omega), List.take_succ_cons, List.take_zero]
    rw [h1, List.getElem?_eq_getElem (by omega)]
    simp [num]
  | false =>
    rw [if_neg (by decide), if_neg (by decide), List.getD_eq_getElem?_getD, List.getElem?_replicate, if_pos hi]
    rfl
theorem gLen_lt (b : List UInt8) (hb : b.length = 256) (f : Bool) (k j : Nat) (hj : j < placesL k) : gLen b f k j < 256 := by
  have := gBase_le hj
  exact readV_lt b hb _ 1 f (by omega)
theorem gSer_lt (b : List UInt8) (hb : b.length = 256) (f : Bool) (k j : Nat) (hj : j < placesL k) : gSer b f k j < 18446744073709551616 := by
  have := gBase_le hj
  exact readV_lt b hb _ 8 f (by omega)
theorem gCell_le (b : List UInt8) (hb : b.length = 256) (f : Bool) (k j : Nat) (hj : j < placesL k) : (gCell b f k j).2.length ≤ roomL k := by
  unfold gCell
  rw [List.length_take, length_gRow b hb f k j hj]
  omega
theorem allZero_replicate (l : List UInt8) : allZero l = true ↔ l = List.replicate l.length 0 := by
  unfold allZero
  rw [List.all_eq_true, List.eq_replicate_iff]
  simp
theorem cell_seg (b : List UInt8) (hb : b.length = 256) (k j : Nat) (hj : j < placesL k) : cellB k (gCell b true k j) = seg b (gBase k j) (9 + roomL k) ↔ cellFine b true k j = true := by
  have hle := gBase_le hj
  have hn := gLen_lt b hb true k j hj
  have hrow := length_gRow b hb true k j hj
  have e1 : seg b (gBase k j) (9 + roomL k) = seg b (gBase k j) 8 ++ seg b (gBase k j + 8) 1 ++ gRow b true k j := by
    unfold gRow
    rw [if_pos rfl, seg_append, show gBase k j + 9 = gBase k j + (8 + 1) by omega, seg_append]
  have e2 : lows (gSer b true k j) 8 = seg b (gBase k j) 8 := lows_seg b _ 8 (by omega)
  have e3 : lows (gLen b true k j) 1 = seg b (gBase k j + 8) 1 := lows_seg b _ 1 (by omega)
  have e4 : (gCell b true k j).2.length = min (gLen b true k j) (roomL k) := by unfold gCell; rw [List.length_take, hrow]
  unfold cellFine
  rw [e1, ← e3]
  show lows (gSer b true k j) 8 ++ lows (gCell b true k j).2.length 1 ++ ((gCell b true k j).2 ++ List.replicate (roomL k - (gCell b true k j).2.length) 0) = _ ↔ _
  rw [e2, e4, Bool.and_eq_true, decide_eq_true_eq, allZero_replicate, List.append_assoc, List.append_assoc, List.append_cancel_left_eq]
  constructor
  · intro h
    obtain ⟨h1, h2⟩ := List.append_inj h (by simp [length_lows])
    have h3 := congrArg num h1
    rw [num_lows, num_lows] at h3
    have hle2 : gLen b true k j ≤ roomL k := by omega
    refine ⟨hle2, ?_⟩
    rw [Nat.min_eq_left hle2] at h2
    have h4 := congrArg (List.drop (gLen b true k j)) h2
    have h5 : (gCell b true k j).2.length = gLen b true k j := by rw [e4]; omega
    rw [List.drop_append, List.drop_of_length_le (by omega), h5, Nat.sub_self, List.drop_zero, List.nil_append] at h4
    rw [← h4, List.length_replicate]
  · rintro ⟨hle2, h⟩
    rw [Nat.min_eq_left hle2]
    congr 1
    have h5 : (gCell b true k j).2 = (gRow b true k j).take (gLen b true k j) := rfl
    rw [h5]
    rw [List.length_drop, hrow] at h
    rw [← h, List.take_append_drop]
theorem cells_seg (b : List UInt8) (hb : b.length = 256) (k : Nat) : ∀ P, P ≤ placesL k → (cellsB k ((List.range P).map (gCell b true k)) = seg b 6 ((9 + roomL k) * P) ↔ cellsFine b true k P = true) := by
  intro P
  induction P with
  | zero => intro _; simp [cellsB, seg, cellsFine]
  | succ P ih =>
    intro hP
    have h1 := ih (by omega)
    have h2 := cell_seg b hb k P (by omega)
    have hl : (cellsB k ((List.range P).map (gCell b true k))).length = (9 + roomL k) * P := by
      rw [length_cellsB, List.length_map, List.length_range]
      intro c hc
      obtain ⟨j, hj, rfl⟩ := List.mem_map.1 hc
      exact gCell_le b hb true k j (by have := List.mem_range.1 hj; omega)
    have hle := gBase_le (show P < placesL k by omega)
    have hb6 : 6 + (9 + roomL k) * P = gBase k P := by unfold gBase; rw [Nat.mul_comm]
    have hl2 : (seg b 6 ((9 + roomL k) * P)).length = (9 + roomL k) * P := length_seg b _ _ (by omega)
    rw [List.range_succ, List.map_append]
    have e : cellsB k (List.map (gCell b true k) (List.range P) ++ List.map (gCell b true k) [P]) = cellsB k (List.map (gCell b true k) (List.range P)) ++ cellB k (gCell b true k P) := by
      unfold cellsB
      rw [List.flatMap_append]
      simp
    rw [e, Nat.mul_add, Nat.mul_one, ← seg_append, hb6]
    have e2 : cellsFine b true k (P + 1) = (cellsFine b true k P && cellFine b true k P) := by
      unfold cellsFine
      rw [List.range_succ, List.all_append]
      simp
    rw [e2, Bool.and_eq_true, ← h1, ← h2]
    constructor
    · intro h
      exact List.append_inj h (by rw [hl, hl2])
    · rintro ⟨h3, h4⟩
      rw [h3, h4]
theorem shB_seg (b : List UInt8) (hb : b.length = 256) : shB (gShL b true) = seg b 1 (5 + (9 + roomL (gK b true)) * placesL (gK b true)) ↔ cellsFine b true (gK b true) (placesL (gK b true)) = true := by
  rw [← cells_seg b hb (gK b true) _ (Nat.le_refl _), ← seg_append]
  have e : headB18 (gShL b true) = seg b 1 5 := by
    show lows (num (seg b 1 1)) 1 ++ lows (num (seg b 2 2)) 2 ++ lows (num (seg b 4 2)) 2 = _
    rw [lows_seg b 1 1 (by omega), lows_seg b 2 2 (by omega), lows_seg b 4 2 (by omega)]
    rw [seg_append b 1 1 2, seg_append b 1 3 2]
  show headB18 (gShL b true) ++ cellsB (gK b true) ((List.range (placesL (gK b true))).map (gCell b true (gK b true))) = _ ↔ _
  rw [e, List.append_cancel_left_eq]
theorem seg_doneB (m : UInt8) (L : List UInt8) (h : L.length ≤ 251) : seg (doneB m L) 1 L.length = L := by
  apply List.ext_getElem?
  intro i
  by_cases hi : i < L.length
  · rw [get_seg _ _ _ _ hi, Nat.add_comm, get_doneB m L h _ (by omega), get_inside m L i (by omega) (by omega), if_pos hi]
  · rw [List.getElem?_eq_none (by rw [length_seg _ _ _ (by rw [length_doneB m L h]; omega)]; omega), List.getElem?_eq_none (by omega)]
theorem zeros_to (b : List UInt8) (hb : b.length = 256) (i : Nat) (hi : i ≤ 252) : allZero (seg b i (252 - i)) = true ↔ zerosFrom b i := by
  rw [allZero_iff, length_seg b i (252 - i) (by omega)]
  constructor
  · intro h k h1 h2
    obtain ⟨j, rfl⟩ : ∃ j, k = i + j := ⟨k - i, by omega⟩
    rw [← get_seg b i (252 - i) j (by omega)]
    exact h j (by omega)
  · intro h k hk
    rw [get_seg b i (252 - i) k hk]
    exact h _ (by omega) (by omega)
theorem getOk_eq (b : List UInt8) (hb : b.length = 256) : getOkP b (fineB b 83) = getOk b (fineB b 83) := by
  cases hf : fineB b 83 with
  | false =>
    have : endV b (gBase (gK b false) (placesL (gK b false))) false = 250 := rfl
    unfold getOkP getOk
    rw [this]
    simp
  | true =>
    unfold fineB at hf
    simp only [Bool.and_eq_true, decide_eq_true_eq] at hf
    unfold getOkP getOk putE18 putB18
    cases hm : mayL (gShL b true) with
    | false =>
      rw [if_neg (by decide), decide_eq_false (show ¬ ((5 : Int) = 0) by decide), Bool.and_false, Bool.and_false, Bool.false_and]
    | true =>
      have hL := length_shB hm
      have hlen : (shB (gShL b true)).length = 5 + (9 + roomL (gK b true)) * placesL (gK b true) := by
        unfold shB
        rw [List.length_append, length_headB18, length_cellsB _ _ (mayL_le hm), (mayL_len hm).1]
        rfl
      have hN : 5 + (9 + roomL (gK b true)) * placesL (gK b true) ≤ 251 := by rw [← hlen]; exact hL
      have hB : gBase (gK b true) (placesL (gK b true)) = 1 + (5 + (9 + roomL (gK b true)) * placesL (gK b true)) := by unfold gBase; rw [Nat.mul_comm]; omega
      have hseg := shB_seg b hb
      have hend : endV b (gBase (gK b true) (placesL (gK b true))) true = 0 ↔ zerosFrom b (gBase (gK b true) (placesL (gK b true))) := by
        rw [← zeros_to b hb _ (gBase_end _)]
        unfold endV
        cases allZero (seg b (gBase (gK b true) (placesL (gK b true))) (252 - gBase (gK b true) (placesL (gK b true)))) <;> simp
      have hp := parse_iff b hb 83 _ hN
      rw [Bool.eq_iff_iff]
      simp only [if_true, Bool.and_true, Bool.true_and, Bool.and_eq_true, decide_eq_true_eq, decide_true, hend]
      constructor
      · rintro ⟨h1, h2⟩
        rw [hseg.2 h1]
        exact hp.2 ⟨hf.1, hf.2, hB ▸ h2⟩
      · intro h
        have h3 : shB (gShL b true) = seg b 1 (5 + (9 + roomL (gK b true)) * placesL (gK b true)) := by
          have := seg_doneB 83 _ hL
          rw [h, hlen] at this
          exact this.symm
        refine ⟨hseg.1 h3, ?_⟩
        rw [h3] at h
        rw [hB]
        exact (hp.1 h).2.2
theorem gShL_small (b : List UInt8) (hb : b.length = 256) (f : Bool) : smallL (gShL b f) := by
  refine ⟨?_, fun c hc => ?_⟩
  · show ((List.range _).map _).length ≤ 30
    rw [List.length_map, List.length_range]
    have := placesL_le (gK b f)
    omega
  · obtain ⟨j, hj, rfl⟩ := List.mem_map.1 hc
    have := gCell_le b hb f (gK b f) j (List.mem_range.1 hj)
    have := roomL_le (gK b f)
    omega
theorem getS18_may (b : List UInt8) (h : getE18 b = 0) : getS18 b = gShL b (fineB b 83) ∧ putE18 (getS18 b) = 0 ∧ putB18 (getS18 b) = b := by
  unfold getE18 at h
  unfold getS18
  split at h
  · rename_i h1
    rw [if_pos h1]
    unfold getOk at h1
    simp only [Bool.and_eq_true, decide_eq_true_eq] at h1
    exact ⟨rfl, h1.1.2, h1.2⟩
  · cases h
end Go.Proofs.YtcepfmjebgklfaaDoor
