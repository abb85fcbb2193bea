/- The root layer, in plain Lean: what a device's slots tell; commits, formats, and crashes within a commit. The root layer: Mount. -/
import Derived.Test.YtnphgaiiiiknpaaDoorRootLook
import Derived.Test.YtnphgaiiiiknpaaDoorRef02
namespace Go.Proofs.YtnphgaiiiiknpaaDoor
set_option linter.unusedSimpArgs false
set_option linter.unusedVariables false
def thenE (p : Dv × Int) (f : Dv → Dv × Int) : Dv × Int := if p.2 = 0 then f p.1 else p
theorem thenE_ok {p : Dv × Int} {t : Dv} {f : Dv → Dv × Int} (h : p = (t, 0)) : thenE p f = f t := by subst h; rfl
theorem thenE_no {p : Dv × Int} {t : Dv} {E : Int} {f : Dv → Dv × Int} (h : p = (t, E)) (hE : E ≠ 0) : thenE p f = (t, E) := by subst h; simp [thenE, hE]
/-- Blocks are written, until one tells an error. -/
def writeAll : List (Nat × List UInt8) → Dv → Dv × Int
  | [], s => (s, 0)
  | x :: l, s => thenE (s.write x.1 x.2) (fun t => writeAll l t)
/-- A root is written to its slot. -/
def Dv.lastW (r : Root) (s : Dv) : Dv × Int := if r.putE = 0 then s.write (r.gen % 2) r.putB else (s, r.putE)
def Dv.turn (s : Dv) (l : List (Nat × List UInt8)) (r : Root) : Dv × Int := thenE (thenE (thenE (writeAll l s) Dv.flush) (Dv.lastW r)) Dv.flush
def farIn (n : Nat) (l : List (Nat × List UInt8)) : Bool := l.any fun x => decide (x.1 < 2) || decide (n ≤ x.1)
def Dv.commit (s : Dv) (l : List (Nat × List UInt8)) (r : Root) : Dv × Int := if mayR r s.size && !farIn s.size l then s.turn l r else (s, 2)
def fmtUpto (s : Dv) (k : Nat) : List (Nat × List UInt8) := ((List.range k).filter fun a => !decide (readB s a = zeroBlk)).map fun a => (a, zeroBlk)
def fmtPuts (s : Dv) : List (Nat × List UInt8) := fmtUpto s (firstL s.size)
def fmtR (n : Nat) : Root := ⟨1, n, 0, 0, n - firstL n, 1, firstL n, 0⟩
def Dv.format (s : Dv) : Dv × Int := s.turn (fmtPuts s) (fmtR s.size)
def mountF (s : Dv) : Root × Bool := maxF (lookF s 0) (lookF s 1)
def mountR (s : Dv) : Root := if (mountF s).2 then (mountF s).1 else zeroRt
def mountE (s : Dv) : Int := if (mountF s).2 then 0 else 80
/-- A calm device: no fuse, not down. -/
structure Dv.Is (s : Dv) (n : Nat) (g : Nat → List UInt8) (p : List (Nat × List UInt8)) : Prop where
  size : s.size = n
  good : s.good = g
  pend : s.pend = p
  fuse : s.fuse = none
  down : s.down = false
section
variable {s : Dv} {n : Nat} {g : Nat → List UInt8} {p : List (Nat × List UInt8)}
theorem is_new (n : Nat) : (newDv n).Is n (fun _ => zeroBlk) [] := ⟨rfl, rfl, rfl, rfl, rfl⟩
theorem is_write (h : s.Is n g p) (a : Nat) (b : List UInt8) (ha : a < n) : ∃ t, s.write a b = (t, 0) ∧ t.Is n g (p ++ [(a, b)]) := by
  unfold Dv.write
  rw [if_neg (by rw [h.size]; omega), h.down, if_neg (by decide)]
  unfold Dv.burn
  simp only [h.fuse]
  exact ⟨_, rfl, h.size, h.good, by show s.pend ++ _ = _; rw [h.pend], rfl, rfl⟩
theorem is_writeAll (l : List (Nat × List UInt8)) : ∀ {s : Dv} {p : List (Nat × List UInt8)}, s.Is n g p → (∀ x ∈ l, x.1 < n) → ∃ t, writeAll l s = (t, 0) ∧ t.Is n g (p ++ l) := by
  induction l with
  | nil => intro s p h _; exact ⟨s, rfl, by rw [List.append_nil]; exact h⟩
  | cons x l ih =>
    intro s p h hl
    obtain ⟨t, h1, h2⟩ := is_write h x.1 x.2 (hl x (by simp))
    obtain ⟨u, h3, h4⟩ := ih h2 (fun y hy => hl y (by simp [hy]))
    refine ⟨u, ?_, by simpa using h4⟩
    show thenE _ _ = _
    rw [thenE_ok h1]; exact h3
theorem is_flush (h : s.Is n g p) : ∃ t, s.flush = (t, 0) ∧ t.Is n (putAllB g p) [] := by
  unfold Dv.flush
  rw [h.down, if_neg (by decide), h.fuse, if_neg (by decide)]
  refine ⟨_, rfl, ?_, ?_, rfl, ?_, ?_⟩
  · show s.burn.1.size = n
    unfold Dv.burn; simp only [h.fuse]; exact h.size
  · show putAllB s.good s.pend = _
    rw [h.good, h.pend]
  · show s.burn.1.fuse = none
    unfold Dv.burn; simp only [h.fuse]
  · show s.burn.1.down = false
    unfold Dv.burn; simp only [h.fuse]; exact h.down
theorem putE_may {r : Root} (h : r.may = true) : r.putE = 0 := by unfold Root.putE; rw [if_pos h]
theorem is_turn (h : s.Is n g p) (l : List (Nat × List UInt8)) (r : Root) (hl : ∀ x ∈ l, x.1 < n) (hr : r.may = true) (hn : 2 ≤ n) : ∃ t, s.turn l r = (t, 0) ∧ t.Is n (updB (putAllB g (p ++ l)) (r.gen % 2) r.putB) [] := by
  obtain ⟨t1, a1, b1⟩ := is_writeAll l h hl
  obtain ⟨t2, a2, b2⟩ := is_flush b1
  obtain ⟨t3, a3, b3⟩ := is_write b2 (r.gen % 2) r.putB (by omega)
  obtain ⟨t4, a4, b4⟩ := is_flush b3
  refine ⟨t4, ?_, b4⟩
  unfold Dv.turn
  rw [thenE_ok a1, thenE_ok a2]
  have a3' : Dv.lastW r t2 = (t3, 0) := by unfold Dv.lastW; rw [if_pos (putE_may hr)]; exact a3
  rw [thenE_ok a3', a4]
end
theorem mayR_parts {r : Root} {n : Nat} (h : mayR r n = true) : r.may = true ∧ r.size = n ∧ 64 ≤ n ∧ n ≤ 1048576 := by
  unfold mayR planOk at h
  simp only [Bool.and_eq_true, decide_eq_true_eq] at h
  exact ⟨h.2.1, h.2.2.1, h.1.1, h.1.2⟩
theorem farIn_no {n : Nat} {l : List (Nat × List UInt8)} (h : farIn n l = false) : ∀ x ∈ l, 2 ≤ x.1 ∧ x.1 < n := by
  intro x hx
  unfold farIn at h
  rw [List.any_eq_false] at h
  have := h x hx
  simp only [Bool.or_eq_true, decide_eq_true_eq, not_or] at this
  omega
theorem is_commit {s : Dv} {n : Nat} {g : Nat → List UInt8} (h : s.Is n g []) (l : List (Nat × List UInt8)) (r : Root) (hr : mayR r n = true) (hl : farIn n l = false) :
    ∃ t, s.commit l r = (t, 0) ∧ t.Is n (updB (putAllB g l) (r.gen % 2) r.putB) [] := by
  obtain ⟨m1, m2, m3, m4⟩ := mayR_parts hr
  obtain ⟨t, a, b⟩ := is_turn h l r (fun x hx => (farIn_no hl x hx).2) m1 (by omega)
  refine ⟨t, ?_, b⟩
  unfold Dv.commit
  rw [h.size, hr, hl]; exact a
theorem commit_arg {s : Dv} (l : List (Nat × List UInt8)) (r : Root) (h : (mayR r s.size && !farIn s.size l) = false) : s.commit l r = (s, 2) := by
  unfold Dv.commit
  rw [h]; rfl
/-- What is put away from an address leaves it. -/
theorem putAllB_away (g : Nat → List UInt8) (l : List (Nat × List UInt8)) (a : Nat) (h : ∀ x ∈ l, x.1 ≠ a) : putAllB g l a = g a := by
  induction l generalizing g with
  | nil => rfl
  | cons x l ih =>
    show putAllB (updB g x.1 x.2) l a = _
    rw [ih _ (fun y hy => h y (by simp [hy])), updB_other _ _ _ _ (fun e => h x (by simp) e.symm)]
theorem keepsB_away (pend : List (Nat × List UInt8)) (g : Nat → List UInt8) (ks : List (Nat × Nat)) (a : Nat) (h : ∀ x ∈ pend, x.1 ≠ a) : keepsB pend g ks a = g a := by
  induction ks generalizing g with
  | nil => rfl
  | cons k ks ih =>
    show keepsB pend (keepB pend g k) ks a = _
    rw [ih]
    unfold keepB
    cases hp : pend[k.1]? with
    | none => rfl
    | some x => exact updB_other _ _ _ _ (fun e => h x (List.mem_of_getElem? hp) e.symm)
/-- Sector by sector one of two blocks. -/
def MixB (b c x : List UInt8) : Prop := x.length = 256 ∧ ∃ f : Nat → Bool, ∀ i, i < 256 → x.getD i 0 = if f (i / 64) then c.getD i 0 else b.getD i 0
theorem mix_refl (b c : List UInt8) (h : b.length = 256) : MixB b c b := ⟨h, fun _ => false, fun i _ => rfl⟩
theorem mix_torn {b c x : List UInt8} (h : MixB b c x) (m : Nat) : MixB b c (dtorn x c m) := by
  obtain ⟨hx, f, hf⟩ := h
  refine ⟨length_dtorn _ _ _, fun j => decide (m / 2 ^ j % 2 = 1) || f j, fun i hi => ?_⟩
  unfold dtorn
  rw [get_dtornTo 4 x c m i hi, hf i hi]
  have h4 : i / 64 < 4 := by omega
  by_cases hm : m / 2 ^ (i / 64) % 2 = 1
  · rw [if_pos ⟨h4, hm⟩]; simp [hm]
  · rw [if_neg (fun h => hm h.2)]; simp [hm]
theorem keeps_mix (a : Nat) (b c : List UInt8) (g : Nat → List UInt8) (ks : List (Nat × Nat)) (h : MixB b c (g a)) : MixB b c (keepsB [(a, c)] g ks a) ∧ ∀ x, x ≠ a → keepsB [(a, c)] g ks x = g x := by
  refine ⟨?_, fun x hx => keepsB_away _ _ _ _ (by simp; exact fun e => hx e.symm)⟩
  induction ks generalizing g with
  | nil => exact h
  | cons k ks ih =>
    show MixB b c (keepsB [(a, c)] (keepB [(a, c)] g k) ks a)
    refine ih _ ?_
    unfold keepB
    cases hp : ([(a, c)] : List (Nat × List UInt8))[k.1]? with
    | none => exact h
    | some x =>
      have hm := List.mem_of_getElem? hp
      rw [List.mem_singleton] at hm
      subst hm
      show MixB b c (updB g a _ a)
      rw [updB_same]
      exact mix_torn h _
theorem getD_some (b : List UInt8) (i : Nat) (h : i < b.length) : b[i]? = some (b.getD i 0) := by
  rw [List.getD_eq_getElem?_getD, List.getElem?_eq_getElem h]; rfl
theorem root_parts (y : List UInt8) (hy : y.length = 256) (h : isRoot y = true) : sealB y = y ∧ zerosFrom y 34 ∧ y[0]? = some 82 := by
  unfold isRoot fineB at h
  simp only [Bool.and_eq_true, decide_eq_true_eq, zeros_all y hy] at h
  exact ⟨h.1.1, h.2.1, h.1.2⟩
theorem zero_noroot : isRoot zeroBlk = false := by
  cases h : isRoot zeroBlk with
  | false => rfl
  | true =>
    have := (root_parts zeroBlk length_zeroBlk h).2.2
    exact absurd this (by decide)
theorem putB_may {r : Root} (h : r.may = true) : r.putB = doneB 82 r.bytes := by unfold Root.putB; rw [if_pos h]
/-- What stands in a slot: zeros, or a root. -/
def SlotO (x : List UInt8) : Option Root → Prop
  | none => x = zeroBlk
  | some q => q.Ok ∧ q.may = true ∧ x = q.putB
theorem mix_root {b x : List UInt8} {o : Option Root} {r : Root} (hb : SlotO b o) (hr : r.Ok) (hm : r.may = true) (hx : MixB b r.putB x) (h : isRoot x = true) : x = r.putB ∨ x = b := by
  obtain ⟨lx, f, hf⟩ := hx
  have lc : r.putB.length = 256 := length_rputB r
  have ic : isRoot r.putB = true := by rw [putB_may hm]; exact isRoot_put r hr hm
  obtain ⟨x1, x2, x3⟩ := root_parts x lx h
  obtain ⟨c1, c2, _⟩ := root_parts _ lc ic
  cases h0 : f 0 with
  | true =>
    left
    refine sealed_first x r.putB x1 c1 x2 c2 fun i hi => ?_
    rw [getD_some x i (by omega), getD_some r.putB i (by omega), hf i (by omega), show i / 64 = 0 by omega, h0]; rfl
  | false =>
    have hfb : ∀ i, i < 64 → x.getD i 0 = b.getD i 0 := fun i hi => by rw [hf i (by omega), show i / 64 = 0 by omega, h0]; rfl
    cases o with
    | none =>
      exfalso
      have hb : b = zeroBlk := hb
      have := hfb 0 (by omega)
      rw [hb] at this
      rw [getD_some x 0 (by omega), this] at x3
      exact absurd x3 (by decide)
    | some q =>
      obtain ⟨q1, q2, q3⟩ := hb
      right
      have lb : b.length = 256 := by rw [q3]; exact length_rputB q
      have ib : isRoot b = true := by rw [q3, putB_may q2]; exact isRoot_put q q1 q2
      obtain ⟨b1, b2, _⟩ := root_parts b lb ib
      refine sealed_first x b x1 b1 x2 b2 fun i hi => ?_
      rw [getD_some x i (by omega), getD_some b i (by omega), hfb i hi]
/-- What look tells. -/
theorem look_no {s : Dv} {a : Nat} (h : isRoot (readB s a) = false) : (lookF s a).2 = false := by
  unfold lookF
  rw [h]; rfl
theorem look_put {s : Dv} {a : Nat} {r : Root} (h : readB s a = r.putB) (hr : r.Ok) (hm : mayR r s.size = true) (hg : r.gen % 2 = a) : lookF s a = (r, true) := by
  obtain ⟨m1, _⟩ := mayR_parts hm
  have hi : isRoot r.putB = true := by rw [putB_may m1]; exact isRoot_put r hr m1
  have hro : rootIn r.putB = r := by unfold rootIn; rw [if_pos hi, putB_may m1]; exact rootOf_put r hr
  unfold lookF
  rw [h, hro, hi, hm, decide_eq_true hg]; rfl
theorem max_right {f : Root × Bool} {r : Root} (h : f.2 = true → f.1.gen < r.gen) : maxF f (r, true) = (r, true) := by
  unfold maxF
  have : 0 < cmpF (r, true) f := by
    unfold cmpF
    cases hf : f.2 with
    | false => simp
    | true => have := h hf; simp only [if_true]; unfold cmpN; rw [if_neg (by omega), if_pos this]; decide
  rw [if_pos this]
theorem max_left {f : Root × Bool} {r : Root} (h : f.2 = true → f.1.gen < r.gen) : maxF (r, true) f = (r, true) := by
  unfold maxF
  have : ¬ 0 < cmpF f (r, true) := by
    unfold cmpF
    cases hf : f.2 with
    | false => simp
    | true => have := h hf; simp only [if_true]; unfold cmpN; rw [if_pos this]; decide
  rw [if_neg this]
theorem mount_of {s : Dv} {r : Root} (h1 : lookF s (r.gen % 2) = (r, true)) (h2 : (lookF s (1 - r.gen % 2)).2 = true → (lookF s (1 - r.gen % 2)).1.gen < r.gen) : mountR s = r ∧ mountE s = 0 := by
  have : mountF s = (r, true) := by
    unfold mountF
    rcases (by omega : r.gen % 2 = 0 ∨ r.gen % 2 = 1) with e | e
    · rw [e] at h1 h2
      rw [h1]
      exact max_left h2
    · rw [e] at h1 h2
      rw [h1]
      exact max_right h2
  unfold mountR mountE
  rw [this]; exact ⟨rfl, rfl⟩
theorem mount_none {s : Dv} (h0 : (lookF s 0).2 = false) (h1 : (lookF s 1).2 = false) : mountR s = zeroRt ∧ mountE s = 80 := by
  have : (mountF s).2 = false := by
    unfold mountF maxF
    split
    · exact h1
    · exact h0
  unfold mountR mountE
  rw [this]; exact ⟨rfl, rfl⟩
/-- A slot that holds an elder root, or none. -/
theorem look_old {s : Dv} {a : Nat} {o : Option Root} {G : Nat} (h : SlotO (readB s a) o) (ho : ∀ q, o = some q → q.gen < G) : (lookF s a).2 = true → (lookF s a).1.gen < G := by
  cases o with
  | none =>
    have h : readB s a = zeroBlk := h
    intro h2
    rw [look_no (by rw [h]; exact zero_noroot)] at h2
    cases h2
  | some q =>
    obtain ⟨q1, q2, q3⟩ := h
    intro _
    unfold lookF
    show (rootIn (readB s a)).gen < G
    have hi : isRoot q.putB = true := by rw [putB_may q2]; exact isRoot_put q q1 q2
    rw [q3]
    unfold rootIn
    rw [if_pos hi, putB_may q2, rootOf_put q q1]
    exact ho q rfl
theorem readB_calm {s : Dv} (hp : s.pend = []) (a : Nat) (ha : a < s.size) : readB s a = s.good a := by
  unfold readB Dv.read
  rw [if_neg (by omega), hp]; rfl
/-- A device with a fuse of k. -/
structure Dv.Fu (s : Dv) (n : Nat) (g : Nat → List UInt8) (p : List (Nat × List UInt8)) (k : Nat) : Prop where
  size : s.size = n
  good : s.good = g
  pend : s.pend = p
  fuse : s.fuse = some k
  down : s.down = false
section
variable {s : Dv} {n k : Nat} {g : Nat → List UInt8} {p : List (Nat × List UInt8)}
theorem fu_write_no (h : s.Fu n g p 0) (a : Nat) (b : List UInt8) (ha : a < n) : ∃ t, s.write a b = (t, 30) ∧ t.size = n ∧ t.good = g ∧ t.pend = p ++ [(a, b)] := by
  unfold Dv.write
  rw [if_neg (by rw [h.size]; omega), h.down, if_neg (by decide)]
  unfold Dv.burn
  simp only [h.fuse]
  exact ⟨_, rfl, h.size, h.good, by show s.pend ++ _ = _; rw [h.pend]⟩
theorem fu_write (h : s.Fu n g p (k + 1)) (a : Nat) (b : List UInt8) (ha : a < n) : ∃ t, s.write a b = (t, 0) ∧ t.Fu n g (p ++ [(a, b)]) k := by
  unfold Dv.write
  rw [if_neg (by rw [h.size]; omega), h.down, if_neg (by decide)]
  unfold Dv.burn
  simp only [h.fuse]
  exact ⟨_, rfl, h.size, h.good, by show s.pend ++ _ = _; rw [h.pend], rfl, rfl⟩
theorem fu_flush_no (h : s.Fu n g p 0) : ∃ t, s.flush = (t, 30) ∧ t.size = n ∧ t.good = g ∧ t.pend = p := by
  unfold Dv.flush
  rw [h.down, if_neg (by decide), h.fuse, if_pos rfl]
  unfold Dv.burn
  simp only [h.fuse]
  exact ⟨_, rfl, h.size, h.good, h.pend⟩
theorem fu_flush (h : s.Fu n g p (k + 1)) : ∃ t, s.flush = (t, 0) ∧ t.Fu n (putAllB g p) [] k := by
  unfold Dv.flush
  rw [h.down, if_neg (by decide), h.fuse, if_neg (by simp)]
  refine ⟨_, rfl, ?_, ?_, rfl, ?_, ?_⟩
  · show s.burn.1.size = n
    unfold Dv.burn; simp only [h.fuse]; exact h.size
  · show putAllB s.good s.pend = _
    rw [h.good, h.pend]
  · show s.burn.1.fuse = _
    unfold Dv.burn; simp only [h.fuse]
  · show s.burn.1.down = false
    unfold Dv.burn; simp only [h.fuse]; exact h.down
theorem fu_writeAll (l : List (Nat × List UInt8)) : ∀ {s : Dv} {p : List (Nat × List UInt8)} {k : Nat}, s.Fu n g p k → (∀ x ∈ l, x.1 < n) →
    (∃ t j, writeAll l s = (t, 0) ∧ t.Fu n g (p ++ l) j) ∨ (∃ t, writeAll l s = (t, 30) ∧ t.size = n ∧ t.good = g ∧ ∀ x ∈ t.pend, x ∈ p ++ l) := by
  induction l with
  | nil => intro s p k h _; exact .inl ⟨s, k, rfl, by rw [List.append_nil]; exact h⟩
  | cons x l ih =>
    intro s p k h hl
    cases k with
    | zero =>
      right
      obtain ⟨t, h1, h2, h3, h4⟩ := fu_write_no h x.1 x.2 (hl x (by simp))
      refine ⟨t, ?_, h2, h3, ?_⟩
      · show thenE _ _ = _
        rw [thenE_no h1 (by decide)]
      · rw [h4]
        intro y hy
        rcases List.mem_append.1 hy with hy | hy
        · simp [hy]
        · rw [List.mem_singleton] at hy
          subst hy; simp
    | succ k =>
      obtain ⟨t, h1, h2⟩ := fu_write h x.1 x.2 (hl x (by simp))
      have he : writeAll (x :: l) s = writeAll l t := by
        show thenE _ _ = _
        rw [thenE_ok h1]
      rw [he]
      rcases ih h2 (fun y hy => hl y (by simp [hy])) with ⟨u, j, h3, h4⟩ | ⟨u, h3, h4, h5, h6⟩
      · exact .inl ⟨u, j, h3, by simpa using h4⟩
      · exact .inr ⟨u, h3, h4, h5, fun y hy => by simpa using h6 y hy⟩
/-- Where a commit may stop. -/
theorem fu_turn (h : s.Fu n g [] k) (l : List (Nat × List UInt8)) (r : Root) (hl : ∀ x ∈ l, x.1 < n) (hr : r.may = true) (hn : 2 ≤ n) : ∃ t E, s.turn l r = (t, E) ∧ t.size = n ∧
    ((E = 30 ∧ t.good = g ∧ ∀ x ∈ t.pend, x ∈ l) ∨ (E = 30 ∧ t.good = putAllB g l ∧ t.pend = [(r.gen % 2, r.putB)]) ∨ (E = 0 ∧ t.good = updB (putAllB g l) (r.gen % 2) r.putB ∧ t.pend = [])) := by
  unfold Dv.turn
  rcases fu_writeAll l h hl with ⟨t1, j, a1, b1⟩ | ⟨t, a, b, c, d⟩
  · rw [thenE_ok a1]
    cases j with
    | zero =>
      obtain ⟨t2, a2, b2, c2, d2⟩ := fu_flush_no b1
      refine ⟨t2, 30, ?_, b2, .inl ⟨rfl, c2, fun x hx => by rw [d2] at hx; simpa using hx⟩⟩
      rw [thenE_no a2 (by decide), thenE_no (t := t2) (E := 30) rfl (by decide)]
    | succ j =>
      obtain ⟨t2, a2, b2⟩ := fu_flush b1
      rw [thenE_ok a2]
      have e : Dv.lastW r t2 = t2.write (r.gen % 2) r.putB := by unfold Dv.lastW; rw [if_pos (putE_may hr)]
      rw [e]
      cases j with
      | zero =>
        obtain ⟨t3, a3, b3, c3, d3⟩ := fu_write_no b2 (r.gen % 2) r.putB (by omega)
        exact ⟨t3, 30, thenE_no a3 (by decide), b3, .inr (.inl ⟨rfl, c3, d3⟩)⟩
      | succ j =>
        obtain ⟨t3, a3, b3⟩ := fu_write b2 (r.gen % 2) r.putB (by omega)
        rw [thenE_ok a3]
        cases j with
        | zero =>
          obtain ⟨t4, a4, b4, c4, d4⟩ := fu_flush_no b3
          exact ⟨t4, 30, a4, b4, .inr (.inl ⟨rfl, c4, d4⟩)⟩
        | succ j =>
          obtain ⟨t4, a4, b4⟩ := fu_flush b3
          exact ⟨t4, 0, a4, b4.size, .inr (.inr ⟨rfl, b4.good, b4.pend⟩)⟩
  · refine ⟨t, 30, ?_, b, .inl ⟨rfl, c, fun x hx => by simpa using d x hx⟩⟩
    rw [thenE_no a (by decide), thenE_no (t := t) (E := 30) rfl (by decide)]
    rfl
end
/-- A device whose slots hold the root old, and o. -/
structure Slots (n : Nat) (g : Nat → List UInt8) (old : Root) (o : Option Root) : Prop where
  may : mayR old n = true
  ok : old.Ok
  one : g (old.gen % 2) = old.putB
  two : SlotO (g (1 - old.gen % 2)) o
  lt : ∀ q, o = some q → q.gen < old.gen
theorem slots_mount {n : Nat} {g : Nat → List UInt8} {old : Root} {o : Option Root} (h : Slots n g old o) {s : Dv} (hs : s.size = n) (hg : s.good = g) (hp : s.pend = []) : mountR s = old ∧ mountE s = 0 := by
  have hn := (mayR_parts h.may).2.2.1
  have hr : ∀ a, a < 2 → readB s a = g a := fun a ha => by rw [readB_calm hp a (by omega), hg]
  refine mount_of (look_put (by rw [hr _ (by omega)]; exact h.one) h.ok (by rw [hs]; exact h.may) rfl) (look_old (o := o) ?_ h.lt)
  rw [hr _ (by omega)]; exact h.two
theorem slots_next {n : Nat} {g : Nat → List UInt8} {old r : Root} {o : Option Root} (h : Slots n g old o) (hr : mayR r n = true) (hro : r.Ok) (hgen : r.gen = old.gen + 1) (l : List (Nat × List UInt8)) (hl : ∀ x ∈ l, 2 ≤ x.1) :
    Slots n (updB (putAllB g l) (r.gen % 2) r.putB) r (some old) := by
  refine ⟨hr, hro, updB_same _ _ _, ⟨h.ok, (mayR_parts h.may).1, ?_⟩, fun q hq => by cases hq; omega⟩
  rw [updB_other _ _ _ _ (by omega), show 1 - r.gen % 2 = old.gen % 2 by omega, putAllB_away _ _ _ (fun x hx => by have := hl x hx; omega)]
  exact h.one
/-- A crash within a commit: what stands behind it. -/
theorem crash_commit {s : Dv} {n k : Nat} {g : Nat → List UInt8} {old r : Root} {o : Option Root} (hs : s.Fu n g [] k) (hso : Slots n g old o) (hr : mayR r n = true) (hro : r.Ok) (hgen : r.gen = old.gen + 1)
    (hlen : ∀ a, (g a).length = 256) (l : List (Nat × List UInt8)) (hl : ∀ x ∈ l, 2 ≤ x.1 ∧ x.1 < n) (ks : List (Nat × Nat)) :
    ∃ t E, s.turn l r = (t, E) ∧ (E = 0 ∨ E = 30) ∧ (t.crash ks).Is n (t.crash ks).good [] ∧ mountE (t.crash ks) = 0 ∧ (mountR (t.crash ks) = old ∨ mountR (t.crash ks) = r) ∧ (E = 0 → mountR (t.crash ks) = r) ∧
      (mountR (t.crash ks) = r → ∀ a, 2 ≤ a → (t.crash ks).good a = putAllB g l a) ∧ (∀ a, 2 ≤ a → (∀ x ∈ l, x.1 ≠ a) → (t.crash ks).good a = g a) ∧ (t.crash ks).good (old.gen % 2) = old.putB := by
  obtain ⟨m1, m2, m3, m4⟩ := mayR_parts hr
  obtain ⟨t, E, ht, hts, hc⟩ := fu_turn hs l r (fun x hx => (hl x hx).2) m1 (by omega)
  have hne : ∀ q : Root, q.gen = old.gen + 1 → q ≠ old := fun q hq e => by rw [e] at hq; omega
  have hslot : 1 - old.gen % 2 = r.gen % 2 := by omega
  refine ⟨t, E, ht, ?_, ⟨hts, rfl, rfl, rfl, rfl⟩, ?_⟩
  · rcases hc with ⟨h, _⟩ | ⟨h, _⟩ | ⟨h, _⟩
    · exact .inr h
    · exact .inr h
    · exact .inl h
  have hgood : (t.crash ks).good = keepsB t.pend t.good ks := rfl
  rcases hc with ⟨e, h2, h3⟩ | ⟨e, h2, h3⟩ | ⟨e, h2, h3⟩
  · have haway : ∀ a, a < 2 → (t.crash ks).good a = g a := fun a ha => by rw [hgood, keepsB_away _ _ _ _ (fun x hx => by have := hl x (h3 x hx); omega), h2]
    have hso2 : Slots n (t.crash ks).good old o := ⟨hso.may, hso.ok, by rw [haway _ (by omega)]; exact hso.one, by rw [haway _ (by omega)]; exact hso.two, hso.lt⟩
    obtain ⟨r1, r2⟩ := slots_mount hso2 (s := t.crash ks) hts rfl rfl
    refine ⟨r2, .inl r1, fun h => absurd (e.symm.trans h) (by decide), fun h => absurd (h.symm.trans r1) (hne r hgen), fun a ha hx => ?_, hso2.one⟩
    rw [hgood, keepsB_away _ _ _ _ (fun x hx2 => hx x (h3 x hx2)), h2]
  · have h1 : t.good (r.gen % 2) = g (r.gen % 2) := by rw [h2]; exact putAllB_away _ _ _ (fun x hx => by have := (hl x hx).1; omega)
    obtain ⟨k1, k2⟩ := keeps_mix (r.gen % 2) (g (r.gen % 2)) r.putB t.good ks (by rw [h1]; exact mix_refl _ _ (hlen _))
    rw [← h3, ← hgood] at k1 k2
    have hold : (t.crash ks).good (old.gen % 2) = old.putB := by
      rw [k2 _ (by omega), h2, putAllB_away _ _ _ (fun x hx => by have := (hl x hx).1; omega)]
      exact hso.one
    have hot := hso.two
    rw [hslot] at hot
    have hbl : ∀ a, 2 ≤ a → (t.crash ks).good a = putAllB g l a := fun a ha => by rw [k2 _ (by omega), h2]
    obtain ⟨x, hx⟩ : ∃ x, x = (t.crash ks).good (r.gen % 2) := ⟨_, rfl⟩
    rw [← hx] at k1
    have hread : ∀ a, a < 2 → readB (t.crash ks) a = (t.crash ks).good a := fun a ha => readB_calm rfl a (by show a < t.size; omega)
    have hcase : x = r.putB ∨ x = g (r.gen % 2) ∨ isRoot x = false := by
      cases hi : isRoot x with
      | false => exact .inr (.inr rfl)
      | true =>
        rcases mix_root hot hro m1 k1 hi with h | h
        · exact .inl h
        · exact .inr (.inl h)
    have hlo : lookF (t.crash ks) (old.gen % 2) = (old, true) := look_put (by rw [hread _ (by omega)]; exact hold) hso.ok (by show mayR old t.size = true; rw [hts]; exact hso.may) rfl
    have hoth : ∀ a, 2 ≤ a → (∀ x ∈ l, x.1 ≠ a) → (t.crash ks).good a = g a := fun a ha hx => by rw [hbl a ha]; exact putAllB_away _ _ _ hx
    rcases hcase with h | h | h
    · have hso2 : Slots n (t.crash ks).good r (some old) := ⟨hr, hro, by rw [← hx]; exact h, ⟨hso.ok, (mayR_parts hso.may).1, by rw [show 1 - r.gen % 2 = old.gen % 2 by omega]; exact hold⟩, fun q hq => by cases hq; omega⟩
      obtain ⟨r1, r2⟩ := slots_mount hso2 (s := t.crash ks) hts rfl rfl
      exact ⟨r2, .inr r1, fun _ => r1, fun _ => hbl, hoth, hold⟩
    · have hso2 : Slots n (t.crash ks).good old o := ⟨hso.may, hso.ok, hold, by rw [hslot, ← hx, h]; exact hot, hso.lt⟩
      obtain ⟨r1, r2⟩ := slots_mount hso2 (s := t.crash ks) hts rfl rfl
      exact ⟨r2, .inl r1, fun h => absurd (e.symm.trans h) (by decide), fun _ => hbl, hoth, hold⟩
    · obtain ⟨r1, r2⟩ := mount_of hlo (fun h2 => by rw [hslot, look_no (by rw [hread _ (by omega), ← hx]; exact h)] at h2; cases h2)
      exact ⟨r2, .inl r1, fun h => absurd (e.symm.trans h) (by decide), fun _ => hbl, hoth, hold⟩
  · have hgd : (t.crash ks).good = t.good := by
      funext a
      rw [hgood, h3]; exact keepsB_away _ _ _ _ (by simp)
    have hso2 := slots_next hso hr hro hgen l (fun x hx => (hl x hx).1)
    rw [← h2, ← hgd] at hso2
    obtain ⟨r1, r2⟩ := slots_mount hso2 (s := t.crash ks) hts rfl rfl
    have hbl : ∀ a, 2 ≤ a → (t.crash ks).good a = putAllB g l a := fun a ha => by rw [hgd, h2, updB_other _ _ _ _ (by omega)]
    refine ⟨r2, .inr r1, fun _ => r1, fun _ => hbl, fun a ha hx => by rw [hbl a ha]; exact putAllB_away _ _ _ hx, ?_⟩
    rw [hgd, h2, updB_other _ _ _ _ (by omega), putAllB_away _ _ _ (fun x hx => by have := (hl x hx).1; omega)]
    exact hso.one
/-- A format's root may be. -/
theorem fmtR_may {n : Nat} (h : 64 ≤ n ∧ n ≤ 1048576) : mayR (fmtR n) n = true ∧ (fmtR n).Ok := by
  have hf := firstL_le h
  have hp : 0 / 2 ^ picL n = 0 := Nat.zero_div _
  constructor
  · unfold mayR planOk Root.may Root.s1 Root.s2 Root.s3 fmtR
    simp only [Bool.and_eq_true, decide_eq_true_eq, hp]
    simp
    omega
  · unfold fmtR
    constructor <;> simp <;> omega
theorem fmtUpto_mem {s : Dv} {k : Nat} {x : Nat × List UInt8} (hx : x ∈ fmtUpto s k) : x.1 < k ∧ x.2 = zeroBlk := by
  unfold fmtUpto at hx
  simp only [List.mem_map, List.mem_filter, List.mem_range] at hx
  obtain ⟨a, ⟨h1, _⟩, rfl⟩ := hx
  exact ⟨h1, rfl⟩
theorem putAll_lastB (g : Nat → List UInt8) (l : List (Nat × List UInt8)) (a : Nat) : putAllB g l a = lastB l a (g a) := by
  induction l generalizing g with
  | nil => rfl
  | cons x l ih =>
    show putAllB (updB g x.1 x.2) l a = lastB l a (if x.1 = a then x.2 else g a)
    rw [ih]
    unfold updB
    by_cases e : x.1 = a
    · rw [if_pos e, if_pos e.symm]
    · rw [if_neg e, if_neg (fun h => e h.symm)]
theorem fmt_blocks {s : Dv} {g : Nat → List UInt8} (hg : ∀ a, a < firstL s.size → readB s a = g a) (a : Nat) : putAllB g (fmtPuts s) a = if a < firstL s.size then zeroBlk else g a := by
  rw [putAll_lastB]
  by_cases ha : a < firstL s.size
  · rw [if_pos ha]
    have : ∀ (l : List (Nat × List UInt8)) (d : List UInt8), (∀ x ∈ l, x.2 = zeroBlk) → (d = zeroBlk ∨ ∃ x ∈ l, x.1 = a) → lastB l a d = zeroBlk := by
      intro l
      induction l with
      | nil => intro d _ h; rcases h with h | ⟨x, hx, _⟩; exact h; cases hx
      | cons x l ih =>
        intro d hl h
        show lastB l a (if x.1 = a then x.2 else d) = _
        refine ih _ (fun y hy => hl y (by simp [hy])) ?_
        by_cases hxa : x.1 = a
        · left; rw [if_pos hxa]; exact hl x (by simp)
        · rw [if_neg hxa]
          rcases h with h | ⟨y, hy, hya⟩
          · exact .inl h
          · rcases List.mem_cons.1 hy with rfl | hy
            · exact absurd hya hxa
            · exact .inr ⟨y, hy, hya⟩
    refine this _ _ (fun x hx => (fmtUpto_mem hx).2) ?_
    by_cases hz : g a = zeroBlk
    · exact .inl hz
    · right
      refine ⟨(a, zeroBlk), ?_, rfl⟩
      unfold fmtPuts fmtUpto
      simp only [List.mem_map, List.mem_filter, List.mem_range]
      exact ⟨a, ⟨ha, by rw [hg a ha]; simp [hz]⟩, rfl⟩
  · rw [if_neg ha]
    rw [← putAll_lastB]
    exact putAllB_away _ _ _ (fun x hx => by have := (fmtUpto_mem hx).1; omega)
theorem is_format {s : Dv} {n : Nat} {g : Nat → List UInt8} (h : s.Is n g []) (hn : 64 ≤ n ∧ n ≤ 1048576) :
    ∃ t, s.format = (t, 0) ∧ t.Is n (updB (fun a => if a < firstL n then zeroBlk else g a) 1 (fmtR n).putB) [] := by
  have hf := firstL_le hn
  have hz := h.size
  obtain ⟨t, a, b⟩ := is_turn h (fmtPuts s) (fmtR n) (fun x hx => by have := (fmtUpto_mem hx).1; rw [hz] at this; omega) (mayR_parts (fmtR_may hn).1).1 (by omega)
  refine ⟨t, by unfold Dv.format; rw [hz]; exact a, ?_⟩
  have e : putAllB g ([] ++ fmtPuts s) = fun a => if a < firstL n then zeroBlk else g a := by
    funext a
    rw [List.nil_append, fmt_blocks (fun a ha => by rw [readB_calm h.pend a (by rw [hz] at ha ⊢; omega), h.good]), hz]
  rw [e] at b
  exact b
theorem format_slots {n : Nat} (hn : 64 ≤ n ∧ n ≤ 1048576) (g : Nat → List UInt8) : Slots n (updB (fun a => if a < firstL n then zeroBlk else g a) 1 (fmtR n).putB) (fmtR n) none := by
  obtain ⟨h1, h2⟩ := fmtR_may hn
  refine ⟨h1, h2, ?_, ?_, fun q hq => by cases hq⟩
  · exact updB_same _ _ _
  · show updB _ 1 _ 0 = zeroBlk
    rw [updB_other _ _ _ _ (by decide)]
    show (if 0 < firstL n then zeroBlk else g 0) = _
    rw [if_pos (by unfold firstL; omega)]
end Go.Proofs.YtnphgaiiiiknpaaDoor
namespace Go.Proofs.YtnphgaiiiiknpaaDoor
open Go.RowKit
set_option linter.unusedSimpArgs false
set_option linter.unusedVariables false
set_option maxRecDepth 100000
def pairC (f h : Root × Bool) : Array Value := foundC f.1 f.2 ++ foundC h.1 h.2
theorem size_pairC (f h : Root × Bool) : (pairC f h).size = 18 := by simp [pairC, foundC]
theorem pairC_one (f h : Root × Bool) : (pairC f h).all (·.oneCell') = true := by simp [pairC, foundC, Value.oneCell']
theorem zeroPairF : (Tryd.prog.info? 83).bind (·.zero) = some (.agg (pairC (zeroRt, false) (zeroRt, false))) := by kernel_rfl
theorem sizePairF : (Tryd.prog.info? 83).map (·.size) = some 18 := by kernel_rfl
theorem builtPairF0 (a0 a1 a2 a3 a4 a5 a6 a7 b0 b1 b2 b3 b4 b5 b6 b7 : Int) (p q : Bool) : Tryd.prog.built 83 [(0, .agg #[.int .u64 a0, .int .u32 a1, .int .u32 a2, .int .u32 a3, .int .u32 a4, .int .u32 a5, .int .u32 a6, .int .u8 a7, .bool p]), (1, .agg #[.int .u64 b0, .int .u32 b1, .int .u32 b2, .int .u32 b3, .int .u32 b4, .int .u32 b5, .int .u32 b6, .int .u8 b7, .bool q])] =
    some #[.int .u64 a0, .int .u32 a1, .int .u32 a2, .int .u32 a3, .int .u32 a4, .int .u32 a5, .int .u32 a6, .int .u8 a7, .bool p, .int .u64 b0, .int .u32 b1, .int .u32 b2, .int .u32 b3, .int .u32 b4, .int .u32 b5, .int .u32 b6, .int .u8 b7, .bool q] := by kernel_rfl
theorem builtPairF (f h : Root × Bool) : Tryd.prog.built 83 [(0, .agg (foundC f.1 f.2)), (1, .agg (foundC h.1 h.2))] = some (pairC f h) := by
  unfold pairC foundC
  exact builtPairF0 _ _ _ _ _ _ _ _ _ _ _ _ _ _ _ _ _ _
theorem builtRoot0 : Tryd.prog.built 34 [] = some zeroRt.cells := by kernel_rfl
theorem pairF_fst {w : World} {g : Nat} {T : TypeId} {f h : Root × Bool} (hr : w.heap[g]? = some (.cells (pairC f h) T (0, 0))) : w.rangeAt g 0 (foundC f.1 f.2).toList := by
  intro j v hv
  rw [cell_of_row w g _ _ _ _ hr, Nat.zero_add]
  have hj : j < (foundC f.1 f.2).size := by
    have := (List.getElem?_eq_some_iff.1 hv).1
    simpa using this
  unfold pairC
  rw [Array.getElem?_append_left hj]
  simpa using hv
theorem pairF_snd {w : World} {g : Nat} {T : TypeId} {f h : Root × Bool} (hr : w.heap[g]? = some (.cells (pairC f h) T (0, 0))) : w.rangeAt g 9 (foundC h.1 h.2).toList := by
  intro j v hv
  rw [cell_of_row w g _ _ _ _ hr]
  unfold pairC
  have h9 : (foundC f.1 f.2).size = 9 := rfl
  rw [Array.getElem?_append_right (by omega), h9, Nat.add_sub_cancel_left]
  simpa using hv
theorem rcells_of_found (r : Root) (b : Bool) (w : World) (g : Nat) (h : w.heap[g]? = some (.cells (foundC r b) 81 (0, 0))) : w.rangeAt g 0 r.cells.toList := by
  intro j v hv
  rw [cell_of_row w g _ _ _ _ h, Nat.zero_add]
  have hj := (List.getElem?_eq_some_iff.1 hv).1
  simp only [Root.cells, List.length_cons, List.length_nil, Nat.zero_add, Nat.reduceAdd] at hj hv
  rcases (by omega : j = 0 ∨ j = 1 ∨ j = 2 ∨ j = 3 ∨ j = 4 ∨ j = 5 ∨ j = 6 ∨ j = 7) with rfl | rfl | rfl | rfl | rfl | rfl | rfl | rfl <;> exact hv
theorem wpList_builtC {P : Program} {ops : Array Oper} {rest : List Oper} {o : Oper} {a : Act} {w : World} {Q : Exit → Act → World → Prop} (hg : o.guard = none) (t : TypeId) (parts : Array (Nat × Operand)) (ho : o.op = .build t parts)
    (vals : List (Nat × Value)) (cells : Array Value) (hv : (parts.map fun (i, x) => (i, a.eval x)).toList = vals) (hb : P.built t vals = some cells)
    (h : wpList P ops Q rest (a.put o.dst (.agg cells)) w) : wpList P ops Q (o :: rest) a w :=
  wpList_build hg t parts ho (by rw [hv, hb]; rfl) (by rw [hv, hb]; exact h)
section
variable {w : World} {g : Nat} {s : Dv}
set_option maxHeartbeats 2000000 in
theorem mount_is (h : (dvT g s).at w) (hs : 0 < s.size) :
    Calls Tryd.prog 15 #[.pointer (some ⟨g, 0, none⟩)] w fun e w' => e = .returned (.tuple #[.agg (mountR s).cells, .int .i64 (mountE s)]) ∧ Below w.heap.size w w' := by
  have hq := (Held.start w).alloc zeroRt.cells 34
  obtain ⟨V0, hW⟩ : ∃ W, W = w.alloc (.cells zeroRt.cells 34) := ⟨_, rfl⟩
  obtain ⟨g2, hg⟩ : ∃ g, g = w.heap.size := ⟨_, rfl⟩
  rw [← hW, ← hg] at hq
  have HW := Lib.hid hW
  have HG := Lib.hid hg
  have R0 := Lib.hid hq
  have HN := Lib.hid (rnone_dev (h.since hq.below) hs)
  have HL0 : Hid (∀ w' : World, Below w.heap.size w w' → Calls Tryd.prog 36 #[.pointer (some ⟨g, 0, none⟩), .int .u32 0] w' fun e w'' => e = .returned (.agg (foundC (lookF s 0).1 (lookF s 0).2)) ∧ Below w'.heap.size w' w'') := Lib.hid (fun w' hb => look_is (h.since hb) 0 (by omega))
  have HL1 : Hid (∀ w' : World, Below w.heap.size w w' → Calls Tryd.prog 36 #[.pointer (some ⟨g, 0, none⟩), .int .u32 1] w' fun e w'' => e = .returned (.agg (foundC (lookF s 1).1 (lookF s 1).2)) ∧ Below w'.heap.size w' w'') := Lib.hid (fun w' hb => look_is (h.since hb) 1 (by omega))
  have HM : Hid (mountF s = maxF (lookF s 0) (lookF s 1)) := Lib.hid rfl
  have HV : Hid (mountR s = (if (mountF s).2 then (mountF s).1 else zeroRt) ∧ mountE s = if (mountF s).2 then 0 else 80) := Lib.hid ⟨rfl, rfl⟩
  clear hq hW hg h
  obtain ⟨f0, hf0⟩ : ∃ f, f = lookF s 0 := ⟨_, rfl⟩
  obtain ⟨f1, hf1⟩ : ∃ f, f = lookF s 1 := ⟨_, rfl⟩
  rw [← hf0] at HL0 HM
  rw [← hf1] at HL1 HM
  obtain ⟨m, hm⟩ : ∃ m, m = mountF s := ⟨_, rfl⟩
  rw [← hm] at HM HV
  obtain ⟨mr, mb⟩ := m
  simp only at HV
  obtain ⟨C0, hC0⟩ : ∃ C, C = foundC f0.1 f0.2 := ⟨_, rfl⟩
  obtain ⟨C1, hC1⟩ : ∃ C, C = foundC f1.1 f1.2 := ⟨_, rfl⟩
  obtain ⟨M, hMd⟩ : ∃ M, M = foundC mr mb := ⟨_, rfl⟩
  have HBP : Hid (Tryd.prog.built 83 [(0, .agg C0), (1, .agg C1)] = some (pairC f0 f1)) := Lib.hid (by rw [hC0, hC1]; exact builtPairF f0 f1)
  rw [← hC0] at HL0
  rw [← hC1] at HL1
  obtain ⟨PC, hPC⟩ : ∃ C, C = pairC f0 f1 := ⟨_, rfl⟩
  rw [← hPC] at HBP
  have HPS : Hid (PC.size = 18 ∧ PC.all (·.oneCell') = true) := Lib.hid (by rw [hPC]; exact ⟨size_pairC _ _, pairC_one _ _⟩)
  have HFS : Hid (∀ (V : World) (b : Nat), V.heap[b]? = some (.cells PC 83 (0, 0)) → V.rangeAt b 0 (foundC f0.1 f0.2).toList ∧ V.rangeAt b 9 (foundC f1.1 f1.2).toList) := Lib.hid (by rw [hPC]; exact fun V b hr => ⟨pairF_fst hr, pairF_snd hr⟩)
  have HMX : Hid (∀ (V : World) (b : Nat), b < V.heap.size → V.heap[b]? = some (.cells PC 83 (0, 0)) → Calls Tryd.prog 37 #[.slice (some ⟨b, 0, none⟩) 2 2, .func (.func 38) #[] #[]] V fun e w' => e = .returned (.agg M) ∧ Below V.heap.size V w') := Lib.hid (by
    intro V b hb hr
    have := maxfunc_is f0 f1 b V hb (HFS.out V b hr).1 (HFS.out V b hr).2
    rw [← HM.out] at this
    rw [hMd]; exact this)
  have HMS : Hid (M.size = 9 ∧ M.all (·.oneCell') = true ∧ M[8]? = some (.bool mb)) := Lib.hid (by rw [hMd]; exact ⟨rfl, foundC_one _ _, rfl⟩)
  have HMR : Hid (∀ (V : World) (b : Nat), V.heap[b]? = some (.cells M 81 (0, 0)) → V.rangeAt b 0 mr.cells.toList) := Lib.hid (by rw [hMd]; exact fun V b hr => rcells_of_found mr mb V b hr)
  obtain ⟨Z, hZ⟩ : ∃ Z, Z = zeroRt.cells := ⟨_, rfl⟩
  have HZ : Hid ((Tryd.prog.info? 34).bind (·.zero) = some (.agg Z)) := Lib.hid (by rw [hZ]; exact zeroR)
  have HZS : Hid (Z.size = 8 ∧ Z = zeroRt.cells ∧ Z.all (·.oneCell') = true) := Lib.hid (by rw [hZ]; exact ⟨rfl, rfl, rcells_one _⟩)
  have HBZ : Hid (Tryd.prog.built 34 [] = some Z) := Lib.hid (by rw [hZ]; exact builtRoot0)
  obtain ⟨ZP, hZP⟩ : ∃ Z, Z = pairC (zeroRt, false) (zeroRt, false) := ⟨_, rfl⟩
  have HZP : Hid ((Tryd.prog.info? 83).bind (·.zero) = some (.agg ZP) ∧ ZP.size = 18) := Lib.hid (by rw [hZP]; exact ⟨zeroPairF, size_pairC _ _⟩)
  obtain ⟨ZF, hZF⟩ : ∃ Z, Z = foundC zeroRt false := ⟨_, rfl⟩
  have HZF : Hid ((Tryd.prog.info? 81).bind (·.zero) = some (.agg ZF) ∧ ZF.size = 9) := Lib.hid (by rw [hZF]; exact ⟨zeroFound, rfl⟩)
  rw [← hZ] at R0 HW
  clear hf0 hf1 hm hC0 hC1 hMd hPC hZ hZP hZF
  go_enter Tryd.func15, Tryd.ntmps15
  go_upto_region 1 with (refine wpList_alloc_row rfl 34 rfl _ HZ.out ?_)
  rw [← HW.out, ← HG.out]
  go_upto_region 3 with (go_at_call 24; refine HN.out.mono ?_; rintro e w1 ⟨rfl, rfl⟩)
  go_upto_region 4 with (first
    | (go_at_call 36; refine (HL0.out _ R0.out.below).mono ?_; rintro e w1 ⟨rfl, hb⟩; have R1 := Lib.hid (R0.out.call hb); clear hb R0)
    | (go_at_call 36; refine (HL1.out _ R1.out.below).mono ?_; rintro e w2 ⟨rfl, hb⟩; have R2 := Lib.hid (R1.out.call hb); clear hb R1)
    | (refine wpList_builtC rfl 83 _ rfl [(0, .agg C0), (1, .agg C1)] PC (by simp [Act.eval]) HBP.out ?_)
    | (refine wpList_alloc_row rfl 83 rfl _ HZP.out.1 ?_)
    | (refine wpList_store_new rfl 83 _ _ rfl _ PC _ rfl rfl (by rw [HPS.out.1]; exact sizePairF) (by rw [HPS.out.1, HZP.out.2]) HPS.out.2 ?_))
  have q1 := R2.out.alloc PC 83
  obtain ⟨W3, hW⟩ : ∃ W, W = w2.alloc (.cells PC 83) := ⟨_, rfl⟩
  rw [← hW] at q1 ⊢
  clear hW
  obtain ⟨g4, hg⟩ : ∃ g, g = w2.heap.size := ⟨_, rfl⟩
  rw [← hg] at q1 ⊢
  clear hg
  have R3 := Lib.hid q1
  clear q1
  clear R2 HL0 HL1
  go_upto_region 5 with (first
    | (go_at_call 37; refine (HMX.out _ g4 (R3.out.lt 0 rfl) (R3.out.get 0 rfl)).mono ?_; rintro e w4 ⟨rfl, hb⟩; have R4 := Lib.hid (R3.out.call hb); clear hb R3)
    | (refine wpList_alloc_row rfl 81 rfl _ HZF.out.1 ?_)
    | (refine wpList_store_new rfl 81 _ _ rfl _ M _ rfl rfl (by rw [HMS.out.1]; exact sizeFound) (by rw [HMS.out.1, HZF.out.2]) HMS.out.2.1 ?_))
  have q1 := R4.out.alloc M 81
  obtain ⟨W5, hW⟩ : ∃ W, W = w4.alloc (.cells M 81) := ⟨_, rfl⟩
  rw [← hW] at q1 ⊢
  clear hW
  obtain ⟨g5, hg⟩ : ∃ g, g = w4.heap.size := ⟨_, rfl⟩
  rw [← hg] at q1 ⊢
  clear hg
  have R5 := Lib.hid q1
  clear q1
  clear R4
  have hc := R5.out.cell 0 8 rfl HMS.out.2.2
  cases mb with
  | false =>
    go_wp2_with (first
      | (refine wpList_builtC rfl 34 _ rfl [] Z (by simp) HBZ.out ?_)
      | (refine wpList_store_row rfl 34 _ _ rfl g2 Z rfl rfl 34 _ (R5.out.get 2 rfl) (by rw [HZS.out.1]; exact sizeR) rfl HZS.out.2.2 ?_))
    have R6 := R5.out.setRow 2 Z rfl
    exact bodyPost_ret (v := .tuple #[.agg Z, .int .i64 80]) (results_cell_slot rfl _ _ g2 34 _ (0, 0) _ _ rfl rfl (R6.get 2 rfl) Tryd.underlying34 rfl (by rw [HZS.out.1]; exact sizeR)) rfl ⟨by rw [HV.out.1, HV.out.2, HZS.out.2.1]; rfl, R6.below⟩
  | true =>
    have hmid := HMR.out W5 g5 (R5.out.get 0 rfl)
    go_wp2_with (first
      | (refine wpList_load_arr rfl 34 _ rfl g5 0 rfl mr.cells _ hmid Tryd.underlying34 rfl sizeR ?_)
      | (refine wpList_store_row rfl 34 _ _ rfl g2 mr.cells rfl rfl 34 _ (R5.out.get 2 rfl) sizeR (by rw [HZS.out.1]; rfl) (rcells_one mr) ?_))
    have R6 := R5.out.setRow 2 mr.cells rfl
    exact bodyPost_ret (v := .tuple #[.agg mr.cells, .int .i64 0]) (results_cell_slot rfl _ _ g2 34 _ (0, 0) _ _ rfl rfl (R6.get 2 rfl) Tryd.underlying34 rfl sizeR) rfl ⟨by rw [HV.out.1, HV.out.2]; rfl, R6.below⟩
end
end Go.Proofs.YtnphgaiiiiknpaaDoor
