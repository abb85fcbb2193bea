/- The root layer, in plain Lean: what a crash within a commit leaves, and the same commit behind it. -/
import Derived.Test.YtnphgaiiiiknpaaDoorRootNo
namespace Go.Proofs.YtnphgaiiiiknpaaDoor
set_option linter.unusedSimpArgs false
set_option linter.unusedVariables false
def r2 (r : Root) : Root := { r with gen := 2, size := 64 }
theorem r2_ok {r : Root} (h : r.Ok) : (r2 r).Ok := ⟨by show (2 : Nat) < _; decide, by show (64 : Nat) < _; decide, h.picks, h.names, h.free, h.next, h.hint, h.vols⟩
theorem is_fu {s : Dv} {n : Nat} {g : Nat → List UInt8} {p : List (Nat × List UInt8)} (h : s.Is n g p) (k : Nat) : ∃ t, s.lay (k : Int) = (t, 0) ∧ t.Fu n g p k := by
  unfold Dv.lay
  rw [if_neg (by omega), h.down, if_neg (by decide)]
  exact ⟨_, rfl, h.size, h.good, h.pend, by simp, rfl⟩
structure FmtF (s1 : Dv) (g1 : Nat → List UInt8) : Prop where
  f : (newDv 64).format = (s1, 0) ∧ fmtO (newDv 64) = rA
  is_ : s1.Is 64 g1 []
  sl : Slots 64 g1 rA none
  len : ∀ a, (g1 a).length = 256
theorem fmt_facts : ∃ s1 g1, FmtF s1 g1 := by
  obtain ⟨s1, f1, i1⟩ := is_format (is_new 64) (by omega)
  have sl1 := format_slots (n := 64) (by omega) (fun _ => zeroBlk)
  rw [fmtR_64] at i1 sl1
  refine ⟨s1, _, ⟨f1, ?_⟩, i1, sl1, fun a => ?_⟩
  · unfold fmtO
    rw [f1]; exact fmtR_64
  · unfold updB
    split
    · exact length_rputB _
    · show (if a < firstL 64 then zeroBlk else zeroBlk).length = 256
      split <;> exact length_zeroBlk
theorem commit_ok {s : Dv} {n : Nat} {l : List (Nat × List UInt8)} {r : Root} (hs : s.size = n) (h : (s.commit l r).2 = 0) : mayR r n = true ∧ farIn n l = false := by
  cases hb : (mayR r s.size && !farIn s.size l) with
  | false => rw [commit_arg l r hb] at h; cases h
  | true =>
    rw [hs, Bool.and_eq_true] at hb
    exact ⟨hb.1, by simpa using hb.2⟩
theorem commit_turn {s : Dv} {n : Nat} {l : List (Nat × List UInt8)} {r : Root} (hs : s.size = n) (hm : mayR r n = true) (hf : farIn n l = false) : s.commit l r = s.turn l r := by
  unfold Dv.commit
  rw [hs, hm, hf]; rfl
theorem lastB_split (l : List (Nat × List UInt8)) (i : Nat) (hi : i < l.length) (d : List UInt8) : lastB l l[i].1 d = lastB (l.drop (i + 1)) l[i].1 l[i].2 := by
  have h : l = l.take i ++ l[i] :: l.drop (i + 1) := by rw [← List.drop_eq_getElem_cons hi, List.take_append_drop]
  unfold lastB
  conv => lhs; arg 3; rw [h]
  rw [List.foldl_append, List.foldl_cons, if_pos rfl]
theorem lastB_step (l : List (Nat × List UInt8)) (j : Nat) (hj : j < l.length) (a : Nat) (d : List UInt8) : lastB (l.drop j) a d = lastB (l.drop (j + 1)) a (if l[j].1 = a then l[j].2 else d) := by
  unfold lastB
  rw [List.drop_eq_getElem_cons hj, List.foldl_cons]
/-- What stands behind the crash, and behind the commit that follows. -/
structure CrF (r : Root) (l : List (Nat × List UInt8)) (s2 s3 s4 s5 : Dv) (E : Int) (ks : List (Nat × Nat)) : Prop where
  z2 : s2.size = 64 ∧ s2.pend.length = 0
  c3 : s2.commit l r = (s3, E)
  c4 : s3.crash ks = s4
  z4 : s4.size = 64 ∧ s4.pend.length = 0
  m4 : mountE s4 = 0 ∧ (mountR s4 = rA ∨ mountR s4 = r) ∧ (E = 0 → mountR s4 = r)
  c5 : s4.commit l r = (s5, 0)
  z5 : s5.size = 64 ∧ s5.pend.length = 0
  m5 : mountR s5 = r ∧ mountE s5 = 0
  rd : ∀ i, (hi : i < l.length) → readB s5 l[i].1 = lastB (l.drop (i + 1)) l[i].1 l[i].2
theorem crash_facts {s1 : Dv} {g1 : Nat → List UInt8} (F : FmtF s1 g1) {r : Root} (hr : r.Ok) (hg : r.gen = 2) {l : List (Nat × List UInt8)} (hm : mayR r 64 = true) (hf : farIn 64 l = false) (k : Nat) (ks : List (Nat × Nat)) :
    ∃ s2 s3 s4 s5 E, s1.lay (k : Int) = (s2, 0) ∧ CrF r l s2 s3 s4 s5 E ks := by
  obtain ⟨s2, e2, i2⟩ := is_fu F.is_ k
  have hfar := farIn_no hf
  obtain ⟨s3, E, e3, hE, i4, m1, m2, m3, m4, m5, m6⟩ := crash_commit i2 F.sl hm hr (by rw [hg]; rfl) F.len l hfar ks
  obtain ⟨s4, h4⟩ : ∃ s, s = s3.crash ks := ⟨_, rfl⟩
  rw [← h4] at i4 m1 m2 m3 m4 m5 m6
  obtain ⟨s5, e5, i5⟩ := is_commit i4 l r hm hf
  have hsl : Slots 64 (updB (putAllB s4.good l) (r.gen % 2) r.putB) r (some rA) := by
    refine ⟨hm, hr, updB_same _ _ _, ⟨rA_ok, by decide, ?_⟩, fun q hq => by cases hq; rw [hg]; decide⟩
    rw [updB_other _ _ _ _ (by rw [hg]; decide), putAllB_away _ _ _ (fun x hx => by have := (hfar x hx).1; rw [hg]; omega)]
    have : 1 - r.gen % 2 = rA.gen % 2 := by rw [hg]; rfl
    rw [this]; exact m6
  have hm5 := slots_mount hsl i5.size i5.good i5.pend
  refine ⟨s2, s3, s4, s5, E, e2, ⟨i2.size, by rw [i2.pend]; rfl⟩, (commit_turn i2.size hm hf).trans e3, h4.symm, ⟨i4.size, by rw [i4.pend]; rfl⟩, ⟨m1, m2, m3⟩, e5, ⟨i5.size, by rw [i5.pend]; rfl⟩, hm5, fun i hi => ?_⟩
  have hx := hfar _ (List.getElem_mem hi)
  rw [readB_calm i5.pend _ (by rw [i5.size]; exact hx.2), i5.good, updB_other _ _ _ _ (by rw [hg]; omega), putAll_lastB, lastB_split l i hi]
end Go.Proofs.YtnphgaiiiiknpaaDoor
