/- The root layer, in plain Lean: a format of any device. -/
import Derived.Test.YtnphgaiiiiknpaaDoorRootNo
namespace Go.Proofs.YtnphgaiiiiknpaaDoor
set_option linter.unusedSimpArgs false
set_option linter.unusedVariables false
theorem fmtO_of {s t : Dv} {n : Nat} (hs : s.size = n) (h : s.format = (t, 0)) : fmtO s = fmtR n := by
  unfold fmtO
  rw [h, hs, if_pos rfl]
structure FsF (n : Nat) (s1 s2 s3 : Dv) : Prop where
  fl : s1.flush = (s2, 0)
  z2 : s2.size = n ∧ s2.pend.length = 0
  f : s2.format = (s3, 0) ∧ fmtO s2 = fmtR n
  z3 : s3.size = n ∧ s3.pend.length = 0
  m : mountR s3 = fmtR n ∧ mountE s3 = 0
  far : ∀ a, a < n → firstL n ≤ a → readB s3 a = readB s2 a
  near : ∀ a, a < firstL n → a ≠ 1 → readB s3 a = zeroBlk
  one : readB s3 1 = (fmtR n).putB
theorem fs_facts {n : Nat} (hn : 64 ≤ n ∧ n ≤ 1048576) {s1 : Dv} {g : Nat → List UInt8} {p : List (Nat × List UInt8)} (h : s1.Is n g p) : ∃ s2 s3, FsF n s1 s2 s3 := by
  obtain ⟨s2, f2, i2⟩ := is_flush h
  obtain ⟨s3, f3, i3⟩ := is_format i2 hn
  have hsl := format_slots hn (putAllB g p)
  have hfl := firstL_le hn
  have hf4 : 4 ≤ firstL n := by unfold firstL picL talL upL; omega
  refine ⟨s2, s3, f2, ⟨i2.size, by rw [i2.pend]; rfl⟩, ⟨f3, fmtO_of i2.size f3⟩, ⟨i3.size, by rw [i3.pend]; rfl⟩, slots_mount hsl i3.size i3.good i3.pend, fun a ha hf => ?_, fun a ha h1 => ?_, ?_⟩
  · rw [readB_calm i3.pend a (by rw [i3.size]; exact ha), readB_calm i2.pend a (by rw [i2.size]; exact ha), i3.good, i2.good, updB_other _ _ _ _ (by omega), if_neg (by omega)]
  · rw [readB_calm i3.pend a (by rw [i3.size]; omega), i3.good, updB_other _ _ _ _ h1, if_pos ha]
  · rw [readB_calm i3.pend 1 (by rw [i3.size]; omega), i3.good]
    exact updB_same _ _ _
end Go.Proofs.YtnphgaiiiiknpaaDoor
