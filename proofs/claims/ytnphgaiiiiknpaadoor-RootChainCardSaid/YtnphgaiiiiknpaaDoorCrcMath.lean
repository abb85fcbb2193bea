/- The plain law of the sums of layer 1: bits are fed one by one; linearity; tables of four bits; bursts. No program. -/
namespace Go.Proofs.YtnphgaiiiiknpaaDoor.Crc

def poly : BitVec 32 := 0x04c11db7#32
def step (w : BitVec 32) (b : Bool) : BitVec 32 := (w <<< 1) ^^^ (if w.msb == b then 0#32 else poly)
def feed (w : BitVec 32) (l : List Bool) : BitVec 32 := l.foldl step w
def byteBits (c : UInt8) : List Bool := (List.range 8).map fun k => c.toNat.testBit (7 - k)
def bitsOf (s : List UInt8) : List Bool := s.flatMap byteBits
def raw (s : List UInt8) : BitVec 32 := feed (BitVec.allOnes 32) (bitsOf s)
def sum (s : List UInt8) : BitVec 32 := ~~~ raw s
def zs (n : Nat) : List Bool := List.replicate n false

theorem feed_nil (w : BitVec 32) : feed w [] = w := rfl
theorem feed_cons (w : BitVec 32) (b : Bool) (l : List Bool) : feed w (b :: l) = feed (step w b) l := rfl
theorem feed_append (w : BitVec 32) (l m : List Bool) : feed w (l ++ m) = feed (feed w l) m := by unfold feed; rw [List.foldl_append]

theorem step_xor (a b : BitVec 32) (x y : Bool) : step (a ^^^ b) (x ^^ y) = step a x ^^^ step b y := by
  unfold step
  rw [BitVec.shiftLeft_xor_distrib, BitVec.msb_xor]
  have e : ∀ x : BitVec 32, poly ^^^ (poly ^^^ x) = x := fun x => by rw [← BitVec.xor_assoc]; simp
  cases a.msb <;> cases b.msb <;> cases x <;> cases y <;> simp <;> first | ac_rfl | (rw [← e (a <<< 1 ^^^ b <<< 1)]; ac_rfl)

theorem feed_xor : ∀ (l m : List Bool) (a b : BitVec 32), l.length = m.length → feed (a ^^^ b) (List.zipWith (· ^^ ·) l m) = feed a l ^^^ feed b m
  | [], [], a, b, _ => rfl
  | x :: l, y :: m, a, b, h => by
    simp only [List.zipWith_cons_cons, feed_cons, step_xor]
    exact feed_xor l m _ _ (by simpa using h)

theorem zip_zs : ∀ (l : List Bool), List.zipWith (· ^^ ·) l (zs l.length) = l
  | [] => rfl
  | x :: l => by
    have := zip_zs l
    unfold zs at *
    simp [List.replicate_succ, this]
theorem zs_zip : ∀ (l : List Bool), List.zipWith (· ^^ ·) (zs l.length) l = l
  | [] => rfl
  | x :: l => by
    have := zs_zip l
    unfold zs at *
    simp [List.replicate_succ, this]
theorem length_zs (n : Nat) : (zs n).length = n := by simp [zs]

theorem feed_split (w : BitVec 32) (l : List Bool) : feed w l = feed w (zs l.length) ^^^ feed 0#32 l := by
  have h := feed_xor (zs l.length) l w 0#32 (by simp [zs])
  rw [zs_zip, BitVec.xor_zero] at h
  exact h

theorem feed_zs_xor (a b : BitVec 32) (n : Nat) : feed (a ^^^ b) (zs n) = feed a (zs n) ^^^ feed b (zs n) := by
  have h := feed_xor (zs n) (zs n) a b rfl
  have e : List.zipWith (· ^^ ·) (zs n) (zs n) = zs n := by
    have := zip_zs (zs n)
    rwa [length_zs] at this
  rwa [e] at h

theorem step_zero : step 0#32 false = 0#32 := by decide
theorem feed_zero_zs : ∀ n, feed 0#32 (zs n) = 0#32
  | 0 => rfl
  | n + 1 => by
    show feed (step 0#32 false) (zs n) = _
    rw [step_zero]; exact feed_zero_zs n

/-! ### The step is one to one -/
theorem step_inj0 (v : BitVec 32) (h : step v false = 0#32) : v = 0#32 := by
  unfold step at h
  cases hm : v.msb with
  | false =>
    rw [hm] at h
    simp only [BEq.rfl, if_true, BitVec.xor_zero] at h
    apply BitVec.eq_of_getElem_eq
    intro i hi
    by_cases h31 : i = 31
    · subst h31
      have : v.msb = v[31] := by rw [BitVec.msb_eq_getLsbD_last]; simp
      rw [← this, hm]; simp
    · have hb : (v <<< 1)[i + 1]'(by omega) = (0#32)[i + 1]'(by omega) := by rw [h]
      simpa using hb
  | true =>
    rw [hm] at h
    have hb : ((v <<< 1) ^^^ (if (true == false) = true then 0#32 else poly))[0] = (0#32)[0] := by rw [h]
    have : (poly)[0] = true := by decide
    simp [this] at hb
theorem feed_inj0 : ∀ (n : Nat) (v : BitVec 32), feed v (zs n) = 0#32 → v = 0#32
  | 0, _, h => h
  | n + 1, v, h => step_inj0 v (feed_inj0 n (step v false) h)
theorem feed_inj (n : Nat) (v u : BitVec 32) (h : feed v (zs n) = feed u (zs n)) : v = u := by
  have : feed (v ^^^ u) (zs n) = 0#32 := by rw [feed_zs_xor, h]; simp
  have := feed_inj0 n _ this
  exact BitVec.xor_eq_zero_iff.1 this

/-! ### Bits at the top of a word -/
/-- The word whose uppermost bits are those of a row. -/
def top : List Bool → BitVec 32
  | [] => 0#32
  | b :: r => (if b then 0x80000000#32 else 0#32) ^^^ (top r >>> 1)
theorem top_low : ∀ (l : List Bool) (i : Nat) (hi : i < 32), i + l.length < 32 → (top l)[i] = false
  | [], i, hi, _ => by simp [top]
  | b :: r, i, hi, h => by
    simp only [List.length_cons] at h
    have h1 := top_low r (1 + i) (by omega) (by omega)
    have h2 : (if b then 0x80000000#32 else 0#32)[i] = false := by
      cases b
      · simp
      · show (0x80000000#32)[i] = false
        rw [show (0x80000000#32) = BitVec.twoPow 32 31 by decide, BitVec.getElem_twoPow]
        simp; omega
    simp only [top, BitVec.getElem_xor, h2, BitVec.getElem_ushiftRight, Bool.false_xor]
    rw [BitVec.getLsbD_eq_getElem (by omega)]
    exact h1
theorem shl_shr_top (r : List Bool) (h : r.length < 32) : (top r >>> 1) <<< 1 = top r := by
  apply BitVec.eq_of_getElem_eq
  intro i hi
  rw [BitVec.getElem_shiftLeft]
  by_cases h0 : i = 0
  · subst h0
    simp [top_low r 0 (by omega) (by omega)]
  · simp only [show ¬ i < 1 by omega, decide_false, Bool.not_false, Bool.true_and, BitVec.getElem_ushiftRight]
    rw [show 1 + (i - 1) = i by omega, BitVec.getLsbD_eq_getElem hi]
theorem msb_shr (v : BitVec 32) : (v >>> 1).msb = false := by
  rw [BitVec.msb_eq_getLsbD_last]; simp
theorem step_shr (r : List Bool) (h : r.length < 32) : step (top r >>> 1) false = top r := by
  unfold step
  rw [msb_shr]
  simp [shl_shr_top r h]
theorem step_bit (w : BitVec 32) (b : Bool) : step (w ^^^ (if b then 0x80000000#32 else 0#32)) false = step w b := by
  cases b
  · simp
  · show step (w ^^^ 0x80000000#32) false = _
    have h := step_xor w 0x80000000#32 true true
    have e : step 0x80000000#32 true = 0#32 := by decide
    rw [e] at h
    simpa using h
theorem feed_top : ∀ (l : List Bool) (w : BitVec 32), l.length ≤ 32 → feed w l = feed (w ^^^ top l) (zs l.length)
  | [], w, _ => by simp [top, zs]
  | b :: r, w, h => by
    simp only [List.length_cons] at h
    rw [feed_cons, feed_top r _ (by omega)]
    show _ = feed (step (w ^^^ top (b :: r)) false) (zs r.length)
    congr 1
    have : w ^^^ top (b :: r) = (w ^^^ (if b then 0x80000000#32 else 0#32)) ^^^ (top r >>> 1) := by simp [top, BitVec.xor_assoc]
    rw [this]
    have h2 := step_xor (w ^^^ (if b then 0x80000000#32 else 0#32)) (top r >>> 1) false false
    rw [step_bit, step_shr r (by omega)] at h2
    simpa using h2.symm
theorem top_zs : ∀ n, top (zs n) = 0#32
  | 0 => rfl
  | n + 1 => by
    show (if false then _ else 0#32) ^^^ (top (zs n) >>> 1) = _
    rw [top_zs n]; decide
theorem top_zero : ∀ (l : List Bool), l.length ≤ 32 → top l = 0#32 → l = zs l.length
  | [], _, _ => rfl
  | b :: r, hl, h => by
    simp only [List.length_cons] at hl
    have hm : (top (b :: r)).msb = b := by
      simp only [top, BitVec.msb_xor, msb_shr]
      cases b <;> decide
    rw [h] at hm
    have hb : b = false := by rw [← hm]; decide
    subst hb
    have h1 : top r >>> 1 = 0#32 := by simpa [top] using h
    have h2 := shl_shr_top r (by omega)
    rw [h1] at h2
    have := top_zero r (by omega) (by rw [← h2]; decide)
    show false :: r = false :: zs r.length
    rw [← this]


/-! ### Four bits at once -/
def nib (x : BitVec 32) : BitVec 32 := feed (x <<< 28) (zs 4)
theorem step_low (v : BitVec 32) (h : v.msb = false) : step v false = v <<< 1 := by unfold step; rw [h]; simp
theorem feed_low4 (v : BitVec 32) (h : v >>> 28 = 0#32) : feed v (zs 4) = v <<< 4 := by
  have g : ∀ i, i < 4 → v.getLsbD (28 + i) = false := fun i hi => by
    have : (v >>> 28).getLsbD i = (0#32).getLsbD i := by rw [h]
    simpa using this
  have g0 := g 0 (by omega)
  have g1 := g 1 (by omega)
  have g2 := g 2 (by omega)
  have g3 := g 3 (by omega)
  have m0 : v.msb = false := by rw [BitVec.msb_eq_getLsbD_last]; exact g3
  have m1 : (v <<< 1).msb = false := by rw [BitVec.msb_eq_getLsbD_last, BitVec.getLsbD_shiftLeft]; simpa using g2
  have m2 : (v <<< 2).msb = false := by rw [BitVec.msb_eq_getLsbD_last, BitVec.getLsbD_shiftLeft]; simpa using g1
  have m3 : (v <<< 3).msb = false := by rw [BitVec.msb_eq_getLsbD_last, BitVec.getLsbD_shiftLeft]; simpa using g0
  show step (step (step (step v false) false) false) false = _
  rw [step_low v m0, step_low _ m1, ← BitVec.shiftLeft_add, step_low _ m2, ← BitVec.shiftLeft_add, step_low _ m3, ← BitVec.shiftLeft_add]
theorem split28 (v : BitVec 32) : v = ((v >>> 28) <<< 28) ^^^ ((v <<< 4) >>> 4) := by
  apply BitVec.eq_of_getLsbD_eq
  intro i hi
  simp only [BitVec.getLsbD_xor, BitVec.getLsbD_shiftLeft, BitVec.getLsbD_ushiftRight]
  by_cases h : i < 28
  · simp [h, show 4 + i < 32 by omega]
  · simp [h, show 28 + (i - 28) = i by omega, show ¬ 4 + i < 32 by omega, hi]
theorem hi_eq (w nb : BitVec 32) : ((w ^^^ nb <<< 28) >>> 28) <<< 28 = ((w >>> 28) ^^^ nb) <<< 28 := by
  apply BitVec.eq_of_getLsbD_eq
  intro i hi
  simp only [BitVec.getLsbD_shiftLeft, BitVec.getLsbD_ushiftRight, BitVec.getLsbD_xor]
  by_cases h : i < 28
  · simp [h]
  · simp [h, show 28 + (i - 28) = i by omega, hi]
theorem lo_eq (w nb : BitVec 32) : (w ^^^ nb <<< 28) <<< 4 = w <<< 4 := by
  apply BitVec.eq_of_getLsbD_eq
  intro i hi
  simp only [BitVec.getLsbD_shiftLeft, BitVec.getLsbD_xor]
  by_cases h : i < 4
  · simp [h]
  · simp [h, show i - 4 < 28 by omega]
theorem lo_feed (w : BitVec 32) : feed ((w <<< 4) >>> 4) (zs 4) = w <<< 4 := by
  rw [feed_low4 _ (by
    apply BitVec.eq_of_getLsbD_eq
    intro i hi
    simp only [BitVec.getLsbD_ushiftRight, BitVec.getLsbD_shiftLeft]
    simp; omega)]
  apply BitVec.eq_of_getLsbD_eq
  intro i hi
  simp only [BitVec.getLsbD_shiftLeft, BitVec.getLsbD_ushiftRight]
  by_cases h : i < 4
  · simp [h]
  · simp [h, show 4 + (i - 4) = i by omega, hi]
theorem nib_feed (w nb : BitVec 32) (l : List Bool) (hl : l.length = 4) (ht : top l = nb <<< 28) : feed w l = (w <<< 4) ^^^ nib ((w >>> 28) ^^^ nb) := by
  rw [feed_top l w (by omega), hl, ht]
  have h := feed_zs_xor (((w ^^^ nb <<< 28) >>> 28) <<< 28) (((w ^^^ nb <<< 28) <<< 4) >>> 4) 4
  rw [← split28, hi_eq, lo_eq, lo_feed] at h
  rw [h, BitVec.xor_comm]
  rfl

theorem nibs_all : ∀ n, n < 256 → top (((List.range 8).map fun k => n.testBit (7 - k)).take 4) = BitVec.ofNat 32 (n / 16) <<< 28 ∧
    top (((List.range 8).map fun k => n.testBit (7 - k)).drop 4) = BitVec.ofNat 32 (n % 16) <<< 28 := by decide +kernel
theorem length_byteBits (c : UInt8) : (byteBits c).length = 8 := by simp [byteBits]
/-- A byte, four bits at once. -/
theorem feed_byte (w : BitVec 32) (c : UInt8) : feed w (byteBits c) =
    ((((w <<< 4) ^^^ nib ((w >>> 28) ^^^ BitVec.ofNat 32 (c.toNat / 16))) <<< 4) ^^^ nib ((((w <<< 4) ^^^ nib ((w >>> 28) ^^^ BitVec.ofNat 32 (c.toNat / 16))) >>> 28) ^^^ BitVec.ofNat 32 (c.toNat % 16))) := by
  have h : top ((byteBits c).take 4) = BitVec.ofNat 32 (c.toNat / 16) <<< 28 ∧ top ((byteBits c).drop 4) = BitVec.ofNat 32 (c.toNat % 16) <<< 28 := nibs_all c.toNat c.toNat_lt
  have e : byteBits c = (byteBits c).take 4 ++ (byteBits c).drop 4 := (List.take_append_drop 4 _).symm
  rw [e, feed_append, nib_feed w _ _ (by simp [byteBits]) h.1, nib_feed _ _ _ (by simp [byteBits]) h.2]

theorem bitsOf_append (s t : List UInt8) : bitsOf (s ++ t) = bitsOf s ++ bitsOf t := by simp [bitsOf]
theorem length_bitsOf : ∀ s : List UInt8, (bitsOf s).length = 8 * s.length
  | [] => rfl
  | c :: s => by
    show (byteBits c ++ bitsOf s).length = _
    rw [List.length_append, length_bitsOf s, length_byteBits, List.length_cons]; omega
theorem getElem_bitsOf : ∀ (s : List UInt8) (q : Nat) (h : q < (bitsOf s).length), (bitsOf s)[q] = (s[q / 8]'(by rw [length_bitsOf] at h; omega)).toNat.testBit (7 - q % 8)
  | [], q, h => by simp [bitsOf] at h
  | c :: s, q, h => by
    have e : bitsOf (c :: s) = byteBits c ++ bitsOf s := rfl
    by_cases h8 : q < 8
    · have h0 : q / 8 = 0 := by omega
      simp only [e, List.getElem_append, length_byteBits, h8, dite_true, h0, List.getElem_cons_zero]
      simp [byteBits, Nat.mod_eq_of_lt h8]
    · have hq : q / 8 = (q - 8) / 8 + 1 := by omega
      simp only [e, List.getElem_append, length_byteBits, h8, dite_false, hq, List.getElem_cons_succ]
      rw [getElem_bitsOf s (q - 8)]
      congr 2; omega

theorem raw_snoc (s : List UInt8) (c : UInt8) : raw (s ++ [c]) = feed (raw s) (byteBits c) := by
  unfold raw; rw [bitsOf_append, feed_append]; simp [bitsOf]

end Go.Proofs.YtnphgaiiiiknpaaDoor.Crc
