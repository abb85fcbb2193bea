/- The law DevCrashes, in plain Lean: what the five devices read. -/
import Derived.Test.YtnbdnnlomgjlmaaDevCrashMath
namespace Go.Proofs.Ytnbdnnlomgjlmaa
theorem cr_end {l : List ActL} {j k : Nat} {s s1 s2 s3 s4 : Dv} (h : CrInv l j s) (hok : s.Ok) (hk : k = s.pend.length) (ks : List (Nat × Nat)) (h1 : s.crash [] = s1) (h2 : s.crash ((List.range k).map fun i => (i, 15)) = s2) (h3 : s.crash ks = s3)
    (hg4 : s4.good = putAllB s.good s.pend) (hp4 : s4.pend = []) (hz4 : s4.size = 64) (a : Nat) (ha : a < 64) :
    (readE s a = 0 ∧ readE s1 a = 0 ∧ readE s2 a = 0 ∧ readE s3 a = 0 ∧ readE s4 a = 0) ∧ readB s2 a = readB s a ∧ readB s4 a = readB s a ∧
      ∀ i, i < 256 → (readB s3 a).getD i 0 = (readB s1 a).getD i 0 ∨ ∃ x ∈ l, x.a = a ∧ (readB s3 a).getD i 0 = (actB x.c).getD i 0 := by
  subst h1 h2 h3 hk
  have hsz : ¬ s.size ≤ a := by rw [h.size]; omega
  have hc : ∀ q, ¬ (s.crash q).size ≤ a := fun q => hsz
  have hb : ∀ q, readB (s.crash q) a = keepsB s.pend s.good q a := fun q => by unfold readB; rw [if_neg (hc q)]; rfl
  have hr : readB s a = lastB s.pend a (s.good a) := by unfold readB; rw [if_neg hsz]; rfl
  have h4 : readB s4 a = putAllB s.good s.pend a := by
    unfold readB
    rw [if_neg (by rw [hz4]; omega)]
    unfold Dv.read
    rw [hp4, hg4]; rfl
  refine ⟨⟨?_, ?_, ?_, ?_, ?_⟩, ?_, ?_, ?_⟩
  · unfold readE; rw [if_neg hsz]
  · unfold readE; rw [if_neg (hc _)]
  · unfold readE; rw [if_neg (hc _)]
  · unfold readE; rw [if_neg (hc _)]
  · unfold readE; rw [if_neg (by rw [hz4]; omega)]
  · rw [hb, keeps_whole s.pend s.good (fun p hp => (hok.pend p hp).2) _ (Nat.le_refl _), List.take_length, hr, putAllB_last]
  · rw [h4, hr, putAllB_last]
  · intro i hi
    rw [hb, hb]
    rcases keeps_sector s.pend s.good ks a i hi with e | ⟨p, hp, e1, e2⟩
    · exact .inl e
    · obtain ⟨_, x, hx, hxa, hxb⟩ := h.pend p hp
      exact .inr ⟨x, hx, by rw [hxa, e1], by rw [e2, hxb]⟩
end Go.Proofs.Ytnbdnnlomgjlmaa
