/- The plain law of sealed blocks: when a block is sealed, in bits; what a burst of at most 32 bits does to it. No program. -/
import Derived.Test.YtfbafmgclfnigaaDoorSeal
namespace Go.Proofs.YtfbafmgclfnigaaDoor
open Crc
theorem top_get : ∀ (l : List Bool) (i : Nat) (hi : i < l.length), l.length ≤ 32 → (top l).getLsbD (31 - i) = l[i]
  | [], i, hi, _ => by simp at hi
  | b :: r, 0, _, _ => by
    simp only [top, BitVec.getLsbD_xor, BitVec.getLsbD_ushiftRight, List.getElem_cons_zero]
    have h1 : (top r).getLsbD (1 + (31 - 0)) = false := BitVec.getLsbD_of_ge _ _ (by omega)
    rw [h1]
    cases b <;> decide
  | b :: r, i + 1, hi, hl => by
    simp only [List.length_cons] at hi hl
    simp only [top, BitVec.getLsbD_xor, BitVec.getLsbD_ushiftRight, List.getElem_cons_succ]
    have h1 : (if b = true then 0x80000000#32 else 0#32).getLsbD (31 - (i + 1)) = false := by
      cases b
      · simp
      · show (0x80000000#32).getLsbD (31 - (i + 1)) = false
        rw [show (0x80000000#32) = BitVec.twoPow 32 31 by decide, BitVec.getLsbD_twoPow]
        simp; omega
    rw [h1, show 1 + (31 - (i + 1)) = 31 - i by omega, top_get r i (by omega) (by omega)]
    simp
theorem top_inj (l m : List Bool) (hl : l.length = 32) (hm : m.length = 32) (h : top l = top m) : l = m := by
  apply List.ext_getElem (by omega)
  intro i h1 h2
  rw [← top_get l i h1 (by omega), ← top_get m i h2 (by omega), h]
theorem bitsOf_inj (s t : List UInt8) (hl : s.length = t.length) (h : bitsOf s = bitsOf t) : s = t := by
  apply List.ext_getElem hl
  intro j h1 h2
  apply UInt8.toNat_inj.1
  apply Nat.eq_of_testBit_eq
  intro m
  by_cases hm : m < 8
  · have hs : 8 * j + (7 - m) < (bitsOf s).length := by rw [length_bitsOf]; omega
    have ht : 8 * j + (7 - m) < (bitsOf t).length := by rw [length_bitsOf]; omega
    have e := getElem_bitsOf s _ hs
    have f := getElem_bitsOf t _ ht
    have g : (bitsOf s)[8 * j + (7 - m)] = (bitsOf t)[8 * j + (7 - m)] := by simp only [h]
    rw [e, f] at g
    have d : (8 * j + (7 - m)) / 8 = j := by omega
    have r : 7 - (8 * j + (7 - m)) % 8 = m := by omega
    simpa only [d, r] using g
  · rw [Nat.testBit_lt_two_pow (Nat.lt_of_lt_of_le s[j].toNat_lt (Nat.pow_le_pow_right (by omega) (by omega : 8 ≤ m))),
      Nat.testBit_lt_two_pow (Nat.lt_of_lt_of_le t[j].toNat_lt (Nat.pow_le_pow_right (by omega) (by omega : 8 ≤ m)))]
theorem length_be4 (w : BitVec 32) : (be4 w).length = 4 := rfl
theorem get_be4 (w : BitVec 32) (j : Nat) (h : j < (be4 w).length) : (be4 w)[j] = wbyte w j := by
  rw [length_be4] at h
  match j, h with
  | 0, _ | 1, _ | 2, _ | 3, _ => rfl
theorem top_be4 (w : BitVec 32) : top (bitsOf (be4 w)) = w := by
  apply BitVec.eq_of_getLsbD_eq
  intro i hi
  have hl : 31 - i < (bitsOf (be4 w)).length := by rw [length_bitsOf, length_be4]; omega
  have h := top_get (bitsOf (be4 w)) (31 - i) hl (by rw [length_bitsOf, length_be4]; omega)
  rw [show 31 - (31 - i) = i by omega, getElem_bitsOf, get_be4] at h
  rw [h, wbyte, UInt8.toNat_ofNat', Nat.testBit_mod_two_pow, Nat.testBit_div_two_pow, BitVec.getLsbD]
  have e : 7 - (31 - i) % 8 + 8 * (3 - (31 - i) / 8) = i := by omega
  simp only [e]
  simp; omega
def ones : BitVec 32 := BitVec.allOnes 32
theorem good_iff (x : List UInt8) (hx : x.length = 256) : sealB x = x ↔ feed ones (bitsOf x) = feed ones (zs 32) := by
  have hd : x = x.take 252 ++ x.drop 252 := (List.take_append_drop 252 x).symm
  have hlen : (x.drop 252).length = 4 := by simp; omega
  have hbl : (bitsOf (x.drop 252)).length = 32 := by rw [length_bitsOf, hlen]
  have hf : feed ones (bitsOf x) = feed (raw (x.take 252) ^^^ top (bitsOf (x.drop 252))) (zs 32) := by
    have : bitsOf x = bitsOf (x.take 252) ++ bitsOf (x.drop 252) := by rw [← bitsOf_append, List.take_append_drop]
    rw [this, feed_append, feed_top _ _ (by omega), hbl]; rfl
  have hcomp : raw (x.take 252) ^^^ sum (x.take 252) = ones := by
    unfold sum ones
    apply BitVec.eq_of_getLsbD_eq
    intro i hi
    rw [BitVec.getLsbD_xor, BitVec.getLsbD_not, BitVec.getLsbD_allOnes]
    cases (raw (x.take 252)).getLsbD i <;> simp [hi]
  constructor
  · intro h
    have h4 : x.drop 252 = be4 (sum (x.take 252)) := by
      have : (sealB x).drop 252 = x.drop 252 := by rw [h]
      rw [← this]
      unfold sealB
      rw [List.drop_append_of_le_length (by simp; omega)]
      rw [List.drop_eq_nil_of_le (by simp; omega)]; simp
    rw [hf, h4, top_be4, hcomp]
  · intro h
    rw [hf] at h
    have h1 := feed_inj 32 _ _ h
    have h2 : top (bitsOf (x.drop 252)) = sum (x.take 252) := by
      have := congrArg (fun z => raw (x.take 252) ^^^ z) (h1.trans hcomp.symm)
      simpa [← BitVec.xor_assoc] using this
    have h3 : bitsOf (x.drop 252) = bitsOf (be4 (sum (x.take 252))) := top_inj _ _ hbl (by rw [length_bitsOf, length_be4]) (by rw [h2, top_be4])
    have h4 := bitsOf_inj _ _ (by rw [hlen, length_be4]) h3
    unfold sealB
    rw [← h4, List.take_append_drop]
/-! ### One bit is turned -/
def flipAt (x : List UInt8) (q : Nat) : List UInt8 := x.set (q / 8) (UInt8.ofNat ((x.getD (q / 8) 0).toNat ^^^ 128 / 2 ^ (q % 8)))
theorem length_flipAt (x : List UInt8) (q : Nat) : (flipAt x q).length = x.length := by simp [flipAt]
theorem bits_flipAt (x : List UInt8) (q : Nat) (hq : q < 8 * x.length) (i : Nat) (hi : i < (bitsOf (flipAt x q)).length) (hi' : i < (bitsOf x).length) :
    (bitsOf (flipAt x q))[i] = ((bitsOf x)[i] ^^ decide (i = q)) := by
  rw [getElem_bitsOf, getElem_bitsOf]
  have hx : i / 8 < x.length := by rw [length_bitsOf] at hi'; omega
  have hg : (flipAt x q)[i / 8]'(by rw [length_flipAt]; exact hx) = if q / 8 = i / 8 then UInt8.ofNat ((x.getD (q / 8) 0).toNat ^^^ 128 / 2 ^ (q % 8)) else x[i / 8] := by
    simp only [flipAt, List.getElem_set]
  rw [hg]
  by_cases h : q / 8 = i / 8
  · rw [if_pos h, UInt8.toNat_ofNat', Nat.testBit_mod_two_pow, Nat.testBit_xor]
    have hgd : x.getD (q / 8) 0 = x[i / 8] := by rw [h]; simp [hx]
    rw [hgd]
    have hp : (128 / 2 ^ (q % 8)).testBit (7 - i % 8) = decide (i = q) := by
      have e : 128 / 2 ^ (q % 8) = 2 ^ (7 - q % 8) := by
        have : q % 8 < 8 := Nat.mod_lt _ (by omega)
        generalize q % 8 = r at this ⊢
        match r, this with
        | 0, _ | 1, _ | 2, _ | 3, _ | 4, _ | 5, _ | 6, _ | 7, _ => rfl
      rw [e, Nat.testBit_two_pow]
      by_cases hiq : i = q
      · subst hiq; simp
      · simp [hiq]; omega
    rw [hp]
    simp only [show 7 - i % 8 < 8 by omega, decide_true, Bool.true_and]
  · rw [if_neg h]
    have : ¬ i = q := by rintro rfl; exact h rfl
    simp [this]
/-- The bits of a word are laid over a block, from place p on. -/
def burst (x : List UInt8) (p bs : Nat) : Nat → List UInt8
  | 0 => x
  | k + 1 => if bs.testBit k then flipAt (burst x p bs k) (p + k) else burst x p bs k
theorem length_burst (x : List UInt8) (p bs : Nat) : ∀ k, (burst x p bs k).length = x.length
  | 0 => rfl
  | k + 1 => by
    unfold burst
    split
    · rw [length_flipAt, length_burst x p bs k]
    · exact length_burst x p bs k
theorem bits_burst (x : List UInt8) (p bs : Nat) : ∀ (k : Nat), p + k ≤ 8 * x.length → ∀ (i : Nat) (hi : i < (bitsOf (burst x p bs k)).length) (hi' : i < (bitsOf x).length),
    (bitsOf (burst x p bs k))[i] = ((bitsOf x)[i] ^^ (decide (p ≤ i ∧ i < p + k) && bs.testBit (i - p)))
  | 0, _, i, hi, hi' => by
    have h : decide (p ≤ i ∧ i < p + 0) = false := by simp
    rw [h]
    simp [burst]
  | k + 1, hk, i, hi, hi' => by
    have hl := length_burst x p bs k
    have hik : i < (bitsOf (burst x p bs k)).length := by rw [length_bitsOf, hl, ← length_bitsOf]; exact hi'
    have ih := bits_burst x p bs k (by omega) i hik hi'
    unfold burst at hi ⊢
    by_cases hb : bs.testBit k = true
    · simp only [hb, if_true] at hi ⊢
      rw [bits_flipAt _ _ (by rw [hl]; omega) i hi hik, ih]
      by_cases he : i = p + k
      · subst he
        simp [hb]
      · have : decide (p ≤ i ∧ i < p + (k + 1)) = decide (p ≤ i ∧ i < p + k) := by
          by_cases h1 : p ≤ i ∧ i < p + k <;> simp [h1] <;> omega
        simp [he, this]
    · have hb' : bs.testBit k = false := by simpa using hb
      simp only [hb', Bool.false_eq_true, if_false] at hi ⊢
      rw [ih]
      by_cases he : i = p + k
      · subst he
        simp [hb']
      · have : decide (p ≤ i ∧ i < p + (k + 1)) = decide (p ≤ i ∧ i < p + k) := by
          by_cases h1 : p ≤ i ∧ i < p + k <;> simp [h1] <;> omega
        simp [this]
/-- A sealed block with a burst is sealed where nothing was turned alone. -/
theorem good_burst (x : List UInt8) (hx : x.length = 256) (hs : sealB x = x) (p bs : Nat) (hp : p + 32 ≤ 2048) (hbs : bs < 2 ^ 32) :
    sealB (burst x p bs 32) = burst x p bs 32 ↔ bs = 0 := by
  have hlb : (burst x p bs 32).length = 256 := by rw [length_burst, hx]
  rw [good_iff _ hlb]
  have h0 := (good_iff x hx).1 hs
  let m : List Bool := (List.range 32).map fun k => bs.testBit k
  have hm : m.length = 32 := by simp [m]
  let e : List Bool := zs p ++ (m ++ zs (2016 - p))
  have he : e.length = 2048 := by simp [e, hm, zs]; omega
  have hlx : (bitsOf x).length = 2048 := by rw [length_bitsOf, hx]
  have hz : bitsOf (burst x p bs 32) = List.zipWith (· ^^ ·) (bitsOf x) e := by
    apply List.ext_getElem
    · rw [length_bitsOf, hlb, List.length_zipWith, hlx, he]; rfl
    · intro i h1 h2
      rw [bits_burst x p bs 32 (by omega) i h1 (by rw [length_bitsOf, hlb] at h1; omega), List.getElem_zipWith]
      congr 1
      have h2' : i < 2048 := by rw [length_bitsOf, hlb] at h1; omega
      simp only [e, List.getElem_append, length_zs, hm]
      by_cases hi : i < p
      · simp [hi, zs]; omega
      · by_cases hj : i - p < 32
        · simp [hi, hj, m]; omega
        · simp [hi, hj, zs]; omega
  rw [hz]
  have hx1 := feed_xor (bitsOf x) e ones 0#32 (by omega)
  rw [BitVec.xor_zero] at hx1
  rw [hx1, h0]
  have hfe : feed 0#32 e = feed (feed (top m) (zs 32)) (zs (2016 - p)) := by
    simp only [e]
    rw [feed_append, feed_zero_zs, feed_append, feed_top m _ (by omega), hm]
    simp
  constructor
  · intro h
    have hz0 : feed 0#32 e = 0#32 := by
      have := congrArg (fun z => feed ones (zs 32) ^^^ z) h
      simpa [← BitVec.xor_assoc] using this
    rw [hfe] at hz0
    have := top_zero m (by omega) (feed_inj0 _ _ (feed_inj0 _ _ hz0))
    rw [hm] at this
    apply Nat.eq_of_testBit_eq
    intro k
    rw [Nat.zero_testBit]
    by_cases hk : k < 32
    · have h1 : m[k]'(by omega) = false := by
        have : m[k]'(by omega) = (zs 32)[k]'(by simp [zs]; exact hk) := by simp only [this]
        rw [this]; exact List.getElem_replicate _
      simpa [m] using h1
    · exact Nat.testBit_lt_two_pow (Nat.lt_of_lt_of_le hbs (Nat.pow_le_pow_right (by omega) (by omega)))
  · rintro rfl
    have hm0 : m = zs 32 := by
      apply List.ext_getElem (by rw [hm]; simp [zs])
      intro i h1 h2
      have : (zs 32)[i] = false := List.getElem_replicate _
      rw [this]
      simp [m]
    rw [hfe, hm0, top_zs, feed_zero_zs, feed_zero_zs]
    simp
end Go.Proofs.YtfbafmgclfnigaaDoor
