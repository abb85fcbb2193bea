/- The root layer, in plain Lean: commits, one behind the other, and a crash within the last one. -/
import Derived.Test.YtnphgaiiiiknpaaDoorRootCrashM
namespace Go.Proofs.YtnphgaiiiiknpaaDoor
set_option linter.unusedSimpArgs false
set_option linter.unusedVariables false
def rXY (r : Root) (x y : Nat) : Root := { r with gen := x, size := y }
def rG (r : Root) (x : Nat) : Root := rXY r x 64
def rLast (r : Root) (k : Nat) : Root := if k = 0 then rA else rG r (k + 1)
theorem rG_ok {r : Root} (h : r.Ok) (x : Nat) (hx : x < 1000) : (rG r x).Ok := ⟨by show x < 18446744073709551616; omega, by show (64 : Nat) < 4294967296; decide, h.picks, h.names, h.free, h.next, h.hint, h.vols⟩
theorem rLast_gen (r : Root) (k : Nat) : (rLast r k).gen = k + 1 := by
  unfold rLast
  split
  · rename_i h; subst h; rfl
  · rfl
theorem rLast_ok {r : Root} (h : r.Ok) (k : Nat) (hk : k < 100) : (rLast r k).Ok := by
  unfold rLast
  split
  · exact rA_ok
  · exact rG_ok h _ (by omega)
theorem len_put1 {g : Nat → List UInt8} (hg : ∀ a, (g a).length = 256) {B D : List UInt8} (hB : B.length = 256) (hD : D.length = 256) (x y : Nat) : ∀ a, (updB (putAllB g [(x, B)]) y D a).length = 256 := by
  intro a
  show (updB (updB g x B) y D a).length = 256
  unfold updB
  split
  · exact hD
  · split
    · exact hB
    · exact hg a
/-- What holds ahead of commit k, and behind the last one. -/
structure ChI (r : Root) (l : List (Nat × List UInt8)) (ks : List (Nat × Nat)) (k : Nat) (s : Dv) (ra la : Root) : Prop where
  laE : la = rLast r k
  calm : k < l.length → ∃ g o, s.Is 64 g [] ∧ Slots 64 g la o ∧ (∀ a, (g a).length = 256) ∧ ∀ j, (hj : j < l.length) → j < k → g (20 + j) = l[j].2
  fin : k = l.length → (s.crash ks).size = 64 ∧ mountE (s.crash ks) = 0 ∧ (mountR (s.crash ks) = la ∨ mountR (s.crash ks) = ra) ∧ ∀ j, (hj : j < l.length) → readB (s.crash ks) (20 + j) = l[j].2 ∨ (j + 1 = l.length ∧ mountR (s.crash ks) ≠ la)
theorem ch_start (r : Root) {l : List (Nat × List UInt8)} (hl : 0 < l.length) (ks : List (Nat × Nat)) {s1 : Dv} {g1 : Nat → List UInt8} (F : FmtF s1 g1) : ChI r l ks 0 s1 rA rA :=
  ⟨rfl, fun _ => ⟨g1, none, F.is_, F.sl, F.len, by omega⟩, fun h => by omega⟩
theorem ch_step {r : Root} (hr : r.Ok) {l : List (Nat × List UInt8)} (hl : ∀ x ∈ l, x.2.length = 256) (h8 : l.length ≤ 8) {ks : List (Nat × Nat)} {k : Nat} {s : Dv} {ra la : Root} (h : ChI r l ks k s ra la) (hk : k < l.length) (kf : Nat) :
    ∃ s' t E, (if k + 1 = l.length then s.lay (kf : Int) = (s', 0) else s' = s) ∧ s'.size = 64 ∧ s'.pend.length = 0 ∧ s'.commit [(20 + k, l[k].2)] (rG r (k + 2)) = (t, E) ∧ (E = 2 ∨ (E ≠ 2 ∧ ChI r l ks (k + 1) t la (rG r (k + 2)))) := by
  obtain ⟨g, o, hI, hS, hg, hB⟩ := h.calm hk
  have hlen := hl _ (List.getElem_mem hk)
  have hgen : (rG r (k + 2)).gen = la.gen + 1 := by rw [h.laE, rLast_gen]; rfl
  have hok := rG_ok hr (k + 2) (by omega)
  have hfar : farIn 64 [(20 + k, l[k].2)] = false := by
    unfold farIn
    simp
    omega
  have hlx : ∀ x ∈ [(20 + k, l[k].2)], 2 ≤ x.1 ∧ x.1 < 64 := by
    intro x hx
    rw [List.mem_singleton] at hx
    subst hx
    constructor
    · show 2 ≤ 20 + k; omega
    · show 20 + k < 64; omega
  have hput : ∀ j, (hj : j < l.length) → j < k + 1 → putAllB g [(20 + k, l[k].2)] (20 + j) = l[j].2 := by
    intro j hj hjk
    show updB g (20 + k) l[k].2 (20 + j) = _
    by_cases e : j = k
    · subst e
      exact updB_same _ _ _
    · rw [updB_other _ _ _ _ (by omega)]
      exact hB j hj (by omega)
  have hla : rG r (k + 2) = rLast r (k + 1) := by unfold rLast; rw [if_neg (by omega)]
  cases hm : mayR (rG r (k + 2)) 64 with
  | false =>
    by_cases hlast : k + 1 = l.length
    · obtain ⟨s', e', i'⟩ := is_fu hI kf
      exact ⟨s', s', 2, by rw [if_pos hlast]; exact e', i'.size, by rw [i'.pend]; rfl, commit_arg _ _ (by rw [i'.size, hm]; rfl), .inl rfl⟩
    · exact ⟨s, s, 2, by rw [if_neg hlast], hI.size, by rw [hI.pend]; rfl, commit_arg _ _ (by rw [hI.size, hm]; rfl), .inl rfl⟩
  | true =>
    by_cases hlast : k + 1 = l.length
    · obtain ⟨s', e', i'⟩ := is_fu hI kf
      obtain ⟨t, E, ht, hE, i4, m1, m2, m3, m4, m5, m6⟩ := crash_commit i' hS hm hok hgen hg [(20 + k, l[k].2)] hlx ks
      refine ⟨s', t, E, by rw [if_pos hlast]; exact e', i'.size, by rw [i'.pend]; rfl, (commit_turn i'.size hm hfar).trans ht, .inr ⟨by rcases hE with h | h <;> rw [h] <;> decide, hla, fun hc => by omega, fun _ => ⟨i4.size, m1, m2.symm, fun j hj => ?_⟩⟩⟩
      have hrd : readB (t.crash ks) (20 + j) = (t.crash ks).good (20 + j) := readB_calm i4.pend _ (by rw [i4.size]; omega)
      by_cases hjk : j < k
      · left
        rw [hrd, m5 (20 + j) (by omega) (by intro x hx; rw [List.mem_singleton] at hx; subst hx; show 20 + k ≠ 20 + j; omega)]
        exact hB j hj hjk
      · by_cases hmr : mountR (t.crash ks) = rG r (k + 2)
        · left
          rw [hrd, m4 hmr (20 + j) (by omega)]
          exact hput j hj (by omega)
        · exact .inr ⟨by omega, hmr⟩
    · obtain ⟨t, ht, iT⟩ := is_commit hI [(20 + k, l[k].2)] (rG r (k + 2)) hm hfar
      refine ⟨s, t, 0, by rw [if_neg hlast], hI.size, by rw [hI.pend]; rfl, ht, .inr ⟨by decide, hla, fun _ => ⟨_, _, iT, slots_next hS hm hok hgen _ (fun x hx => (hlx x hx).1), len_put1 hg hlen (length_rputB _) _ _, fun j hj hjk => ?_⟩, fun hc => absurd hc (by omega)⟩⟩
      have hsl : (rG r (k + 2)).gen % 2 < 2 := Nat.mod_lt _ (by decide)
      rw [updB_other _ _ _ _ (by omega)]
      exact hput j hj hjk
end Go.Proofs.YtnphgaiiiiknpaaDoor
