/- The plain law of the names' two orders: byte by byte, and by priorities. -/
import Derived.Test.YtnbdnnlomgjlmaaName6
namespace Go.Proofs.Ytnbdnnlomgjlmaa
theorem less_irrefl : ∀ l : List UInt8, Op.bytesLess l l = false
  | [] => rfl
  | c :: l => by simp [Op.bytesLess, less_irrefl l]
theorem less_trans : ∀ (x y z : List UInt8), Op.bytesLess x y = true → Op.bytesLess y z = true → Op.bytesLess x z = true
  | [], [], _, h, _ => by simp [Op.bytesLess] at h
  | [], _ :: _, [], _, h => by simp [Op.bytesLess] at h
  | [], _ :: _, _ :: _, _, _ => rfl
  | _ :: _, [], _, h, _ => by simp [Op.bytesLess] at h
  | _ :: _, _ :: _, [], _, h => by simp [Op.bytesLess] at h
  | a :: x, b :: y, c :: z, h1, h2 => by
    simp only [Op.bytesLess, Bool.or_eq_true, Bool.and_eq_true, decide_eq_true_eq, beq_iff_eq, UInt8.lt_iff_toNat_lt] at h1 h2 ⊢
    rcases h1 with h1 | ⟨rfl, h1⟩
    · rcases h2 with h2 | ⟨rfl, h2⟩
      · exact .inl (by omega)
      · exact .inl h1
    · rcases h2 with h2 | ⟨rfl, h2⟩
      · exact .inl h2
      · exact .inr ⟨rfl, less_trans x y z h1 h2⟩
theorem less_total : ∀ (x y : List UInt8), x ≠ y → Op.bytesLess x y = true ∨ Op.bytesLess y x = true
  | [], [], h => absurd rfl h
  | [], _ :: _, _ => .inl rfl
  | _ :: _, [], _ => .inr rfl
  | a :: x, b :: y, h => by
    simp only [Op.bytesLess, Bool.or_eq_true, Bool.and_eq_true, decide_eq_true_eq, beq_iff_eq, UInt8.lt_iff_toNat_lt]
    by_cases hab : a = b
    · subst hab
      have := less_total x y (fun e => h (by rw [e]))
      rcases this with h | h
      · exact .inl (.inr ⟨rfl, h⟩)
      · exact .inr (.inr ⟨rfl, h⟩)
    · have : a.toNat ≠ b.toNat := fun e => hab (UInt8.toNat_inj.1 e)
      rcases Nat.lt_or_gt_of_ne this with h | h
      · exact .inl (.inl h)
      · exact .inr (.inl h)
theorem less_asymm (x y : List UInt8) (h : Op.bytesLess x y = true) : Op.bytesLess y x = false := by
  cases h2 : Op.bytesLess y x with
  | false => rfl
  | true => have := less_trans x y x h h2; rw [less_irrefl] at this; cases this
theorem cmp_lt (x y : List UInt8) : cmpV x y < 0 ↔ Op.bytesLess x y = true := by
  unfold cmpV
  cases Op.bytesLess x y with
  | true => simp
  | false => by_cases h : x = y <;> simp [h]
theorem cmp_eq (x y : List UInt8) : cmpV x y = 0 ↔ x = y := by
  unfold cmpV
  by_cases h : x = y
  · subst h; simp [less_irrefl]
  · cases Op.bytesLess x y <;> simp [h]
theorem cmp_gt (x y : List UInt8) : 0 < cmpV x y ↔ Op.bytesLess y x = true := by
  unfold cmpV
  by_cases h : x = y
  · subst h; simp [less_irrefl]
  · cases hxy : Op.bytesLess x y with
    | true => simp [less_asymm x y hxy]
    | false =>
      rcases less_total x y h with h1 | h1
      · rw [hxy] at h1; cases h1
      · simp [h, h1]
theorem cmp_neg (x y : List UInt8) : cmpV x y = - cmpV y x := by
  have h1 := cmp_lt x y
  have h2 := cmp_gt y x
  have h3 := cmp_lt y x
  have h4 := cmp_gt x y
  unfold cmpV at *
  by_cases h : x = y
  · subst h; simp [less_irrefl]
  · rcases less_total x y h with a | a
    · simp [a, less_asymm x y a, Ne.symm h]
    · simp [a, less_asymm y x a, h]
theorem above_irrefl (a : List UInt8) : aboveV a a = false := by
  unfold aboveV
  have : cmpV a a = 0 := (cmp_eq a a).2 rfl
  rw [this]; simp
theorem above_iff (a b : List UInt8) : aboveV a b = true ↔ (Crc.sum b).toNat < (Crc.sum a).toNat ∨ ((Crc.sum a).toNat = (Crc.sum b).toNat ∧ Op.bytesLess a b = true) := by
  unfold aboveV
  simp only [Bool.or_eq_true, Bool.and_eq_true, decide_eq_true_eq, cmp_lt]
theorem above_trans (a b c : List UInt8) (h1 : aboveV a b = true) (h2 : aboveV b c = true) : aboveV a c = true := by
  rw [above_iff] at *
  rcases h1 with h1 | ⟨h1, g1⟩
  · rcases h2 with h2 | ⟨h2, g2⟩
    · exact .inl (by omega)
    · exact .inl (by omega)
  · rcases h2 with h2 | ⟨h2, g2⟩
    · exact .inl (by omega)
    · exact .inr ⟨by omega, less_trans a b c g1 g2⟩
theorem above_total (a b : List UInt8) (h : a ≠ b) : aboveV a b = true ∨ aboveV b a = true := by
  rw [above_iff, above_iff]
  by_cases he : (Crc.sum a).toNat = (Crc.sum b).toNat
  · rcases less_total a b h with g | g
    · exact .inl (.inr ⟨he, g⟩)
    · exact .inr (.inr ⟨he.symm, g⟩)
  · rcases Nat.lt_or_gt_of_ne he with g | g
    · exact .inr (.inl g)
    · exact .inl (.inl g)
theorem above_asymm (a b : List UInt8) (h : aboveV a b = true) : aboveV b a = false := by
  cases h2 : aboveV b a with
  | false => rfl
  | true => have := above_trans a b a h h2; rw [above_irrefl] at this; cases this
theorem above_flip (a b : List UInt8) (h : a ≠ b) : aboveV b a = !aboveV a b := by
  cases h1 : aboveV a b with
  | true => exact above_asymm a b h1
  | false =>
    rcases above_total a b h with g | g
    · rw [h1] at g; cases g
    · rw [g]; rfl
/-- The last clause on which is ahead. -/
theorem cmp_third (a b c : List UInt8) (h1 : ¬ 0 < cmpV a b) (h2 : ¬ 0 < cmpV b c) : cmpV a c ≤ 0 := by
  rw [cmp_gt] at h1 h2
  refine Int.not_lt.1 fun h => ?_
  rw [cmp_gt] at h
  by_cases hab : a = b
  · subst hab; exact h2 h
  · by_cases hbc : b = c
    · subst hbc; exact h1 h
    · have g1 := (less_total a b hab).resolve_right h1
      have g2 := (less_total b c hbc).resolve_right h2
      have g3 := less_trans a b c g1 g2
      have := less_asymm a c g3
      rw [h] at this; cases this
end Go.Proofs.Ytnbdnnlomgjlmaa
