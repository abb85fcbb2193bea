/- The card layer's plain laws: a card's bytes tell it; a block is a card's just if it is the block of the card that stands in it. -/
import Derived.Test.YtfbafmgclfnigaaDoorCardRead
import Derived.Test.YtfbafmgclfnigaaDoorPack
namespace Go.Proofs.YtfbafmgclfnigaaDoor
open Go.RowKit
set_option maxRecDepth 100000
theorem u8_back (n : Nat) (h : n < 256) : (UInt8.ofNat n).toNat = n := by rw [UInt8.toNat_ofNat']; omega
theorem allZero_rep (n : Nat) : allZero (List.replicate n 0) = true := by simp [allZero]
theorem textOk_textB (s : List UInt8) (m : Nat) (hs : s.length ≤ m) (hm : m ≤ 200) : textOk (textB s m) m = true := by
  unfold textOk textB
  rw [List.getD_cons_zero, u8_back _ (by omega), Nat.add_comm, List.drop_succ_cons, List.drop_left, allZero_rep]
  simp [hs]
theorem textOf_textB (s : List UInt8) (m : Nat) (hs : s.length ≤ m) (hm : m ≤ 200) : textOf (textB s m) = ⟨s.toArray⟩ := by
  unfold textOf textB
  rw [List.getD_cons_zero, u8_back _ (by omega), List.drop_succ_cons, List.drop_zero, List.take_left]
theorem zeros_of (l : List UInt8) (h : allZero l = true) : l = List.replicate l.length 0 := by
  rw [List.eq_replicate_iff]
  refine ⟨rfl, fun x hx => ?_⟩
  have := List.all_eq_true.1 h x hx
  simpa using this
theorem textB_textOf (l : List UInt8) (m : Nat) (hl : l.length = 1 + m) (hm : m ≤ 200) (h : textOk l m = true) : textB (textOf l).data.toList m = l := by
  cases l with
  | nil => simp at hl; omega
  | cons x l =>
    unfold textOk at h
    unfold textOf textB
    rw [List.getD_cons_zero, List.drop_succ_cons, List.drop_zero]
    rw [List.getD_cons_zero, Bool.and_eq_true, decide_eq_true_eq, Nat.add_comm, List.drop_succ_cons] at h
    have hl2 : l.length = m := by simpa [Nat.add_comm] using hl
    have hlen : (l.take x.toNat).length = x.toNat := by rw [List.length_take, hl2]; omega
    show UInt8.ofNat (l.take x.toNat).length :: (l.take x.toNat ++ List.replicate (m - (l.take x.toNat).length) 0) = x :: l
    rw [hlen, UInt8.ofNat_toNat]
    congr 1
    have h2 := zeros_of _ h.2
    rw [List.length_drop, hl2] at h2
    rw [← h2, List.take_append_drop]
def cardW : List Nat := [4, 4, 4, 4, 4, 4, 4, 1]
def Card.all (c : Card) : List Nat := [c.left, c.right, c.id, c.parent, c.root, c.used, c.quota, c.only.toNat]
theorem Card.bytes_pack (c : Card) : c.bytes = textB c.name.data.toList 24 ++ pack cardW c.all := by
  simp [Card.bytes, Card.upto, Card.nums, pack, cardW, Card.all]
theorem Card.fits {c : Card} (h : c.Ok) : Fits cardW c.all :=
  ⟨h.left, h.right, h.id, h.parent, h.root, h.used, h.quota, by cases c.only <;> decide, trivial⟩
theorem Card.all_inj {c d : Card} (hn : c.name = d.name) (h : c.all = d.all) : c = d := by
  cases c; cases d
  simp only [Card.all, List.cons.injEq, and_true] at h hn
  obtain ⟨h1, h2, h3, h4, h5, h6, h7, h8⟩ := h
  subst h1 h2 h3 h4 h5 h6 h7 hn
  congr 1
  rename_i o1 _ _ _ _ _ _ _ _ o2
  revert h8
  cases o1 <;> cases o2 <;> simp
theorem cardOf_all (b : List UInt8) (h : num (seg b 54 1) ≤ 1) : (cardOf b).all = unpack cardW b 26 := by
  simp only [Card.all, cardOf, cUp, cNum, cardW, unpack]
  have : (decide (num (seg b 54 1) = 1)).toNat = num (seg b 54 1) := by
    rcases (by omega : num (seg b 54 1) = 0 ∨ num (seg b 54 1) = 1) with e | e <;> rw [e] <;> rfl
  rw [this]; rfl
theorem card_bytes_of (b : List UInt8) (hb : b.length = 256) (ht : textOk (seg b 1 25) 24 = true) (h : num (seg b 54 1) ≤ 1) : (cardOf b).bytes = seg b 1 54 := by
  rw [Card.bytes_pack, cardOf_all b h, pack_unpack cardW b 26 (by show 26 + 29 ≤ _; omega)]
  have e : (cardOf b).name = textOf (seg b 1 25) := rfl
  rw [e, textB_textOf _ 24 (length_seg b 1 25 (by omega)) (by decide) ht]
  exact seg_append b 1 25 29
theorem zerosC (b : List UInt8) (hb : b.length = 256) : allZero (seg b 55 197) = true ↔ zerosFrom b 55 := by
  rw [allZero_iff, length_seg b 55 197 (by omega)]
  constructor
  · intro h k h1 h2
    obtain ⟨j, rfl⟩ : ∃ j, k = 55 + j := ⟨k - 55, by omega⟩
    rw [← get_seg b 55 197 j (by omega)]
    exact h j (by omega)
  · intro h i hi
    rw [get_seg b 55 197 i hi]
    exact h _ (by omega) (by omega)
theorem isCard_put (b : List UInt8) (hb : b.length = 256) (h : isCard b = true) : (cardOf b).may = true ∧ doneB 67 (cardOf b).bytes = b := by
  unfold isCard cardF fineT fineB at h
  simp only [Bool.and_eq_true, decide_eq_true_eq] at h
  obtain ⟨⟨⟨h1, h2⟩, h3⟩, h4, h5, h6⟩ := h
  refine ⟨h6, ?_⟩
  rw [card_bytes_of b hb h3 h5]
  exact (parse_iff b hb 67 54 (by decide)).2 ⟨h1, h2, (zerosC b hb).1 h4⟩
theorem card_parts (c : Card) (hn : c.name.size ≤ 24) : seg (doneB 67 c.bytes) 1 25 = textB c.name.data.toList 24 ∧ seg (doneB 67 c.bytes) 26 29 = pack cardW c.all := by
  have h := seg_done 67 c.bytes (by rw [c.length_bytes hn]; decide)
  rw [c.length_bytes hn, show (54 : Nat) = 25 + 29 from rfl, ← seg_append] at h
  conv at h => rhs; rw [Card.bytes_pack]
  refine List.append_inj h ?_
  rw [length_seg _ _ _ (by rw [length_doneB _ _ (by rw [c.length_bytes hn]; decide)]; decide), length_textB _ _ (by simpa using hn)]
theorem card_unpack (c : Card) (hc : c.Ok) (hn : c.name.size ≤ 24) : unpack cardW (doneB 67 c.bytes) 26 = c.all := by
  have hl : (doneB 67 c.bytes).length = 256 := length_doneB _ _ (by rw [c.length_bytes hn]; decide)
  refine pack_inj cardW _ _ (fits_unpack cardW _ 26 (by rw [hl]; decide)) (Card.fits hc) ?_
  rw [pack_unpack cardW _ 26 (by rw [hl]; decide)]
  exact (card_parts c hn).2
theorem card_only (c : Card) (hc : c.Ok) (hn : c.name.size ≤ 24) : num (seg (doneB 67 c.bytes) 54 1) = c.only.toNat := by
  have h := card_unpack c hc hn
  simp only [unpack, cardW, Card.all, List.cons.injEq] at h
  exact h.2.2.2.2.2.2.2.1
theorem cardOf_put (c : Card) (hc : c.Ok) (hn : c.name.size ≤ 24) : cardOf (doneB 67 c.bytes) = c := by
  refine Card.all_inj ?_ ?_
  · show textOf (seg (doneB 67 c.bytes) 1 25) = c.name
    rw [(card_parts c hn).1, textOf_textB _ 24 (by simpa using hn) (by decide)]
  · rw [cardOf_all _ (by rw [card_only c hc hn]; cases c.only <;> decide), card_unpack c hc hn]
theorem isCard_of (c : Card) (hc : c.Ok) (hm : c.may = true) : isCard (doneB 67 c.bytes) = true := by
  have hn := may_name hm
  have hl : (doneB 67 c.bytes).length = 256 := length_doneB _ _ (by rw [c.length_bytes hn]; decide)
  have hp := (parse_iff _ hl 67 54 (by decide)).1 (by
    have h := seg_done 67 c.bytes (by rw [c.length_bytes hn]; decide)
    rw [c.length_bytes hn] at h
    rw [h])
  unfold isCard cardF fineT fineB
  rw [cardOf_put c hc hn, hm, (zerosC _ hl).2 hp.2.2, card_only c hc hn, (card_parts c hn).1, textOk_textB _ 24 (by simpa using hn) (by decide)]
  simp only [hp.1, hp.2.1, decide_true, Bool.and_true, Bool.true_and]
  cases c.only <;> rfl
theorem cget_put (c : Card) (hc : c.Ok) (hm : c.may = true) : cgetC (doneB 67 c.bytes) = c.cells ∧ cgetE (doneB 67 c.bytes) = 0 := by
  unfold cgetC cgetE
  rw [isCard_of c hc hm, cardOf_put c hc (may_name hm)]
  exact ⟨rfl, rfl⟩
theorem card_inj (c d : Card) (hc : c.Ok) (hd : d.Ok) (hm : c.may = true) (hm' : d.may = true) (h : doneB 67 c.bytes = doneB 67 d.bytes) : c = d := by
  rw [← cardOf_put c hc (may_name hm), h, cardOf_put d hd (may_name hm')]
theorem cardOf_ok (b : List UInt8) (hb : b.length = 256) : (cardOf b).Ok := cIn_ok b hb true
end Go.Proofs.YtfbafmgclfnigaaDoor
