/- The device layer: what a device is, in plain Lean. -/
import Derived.Test.YtnbdnnlomgjlmaaGood
namespace Go.Proofs.Ytnbdnnlomgjlmaa
/-- A device: how many blocks there are; what is for good; what is pending; the fuse; is it down; how many writes were done. -/
structure Dv where
  size : Nat
  good : Nat → List UInt8
  pend : List (Nat × List UInt8)
  fuse : Option Nat
  down : Bool
  writes : Nat
def updB (f : Nat → List UInt8) (a : Nat) (b : List UInt8) : Nat → List UInt8 := fun x => if x = a then b else f x
theorem updB_same (f : Nat → List UInt8) (a : Nat) (b : List UInt8) : updB f a b a = b := by simp [updB]
theorem updB_other (f : Nat → List UInt8) (a : Nat) (b : List UInt8) (x : Nat) (h : x ≠ a) : updB f a b x = f x := by simp [updB, h]
/-- The last write to an address, else d. -/
def lastB (l : List (Nat × List UInt8)) (a : Nat) (d : List UInt8) : List UInt8 := l.foldl (fun r x => if x.1 = a then x.2 else r) d
theorem lastB_snoc (l : List (Nat × List UInt8)) (x : Nat × List UInt8) (a : Nat) (d : List UInt8) : lastB (l ++ [x]) a d = if x.1 = a then x.2 else lastB l a d := by simp [lastB, List.foldl_append]
def Dv.read (s : Dv) (a : Nat) : List UInt8 := lastB s.pend a (s.good a)
def Dv.burn (s : Dv) : Dv × Int :=
  match s.fuse with
  | some 0 => ({ s with down := true }, 30)
  | some (k + 1) => ({ s with fuse := some k, writes := (s.writes + 1) % 18446744073709551616 }, 0)
  | none => ({ s with writes := (s.writes + 1) % 18446744073709551616 }, 0)
def Dv.write (s : Dv) (a : Nat) (b : List UInt8) : Dv × Int :=
  if s.size ≤ a then (s, 2) else if s.down then (s, 30) else Dv.burn { s with pend := s.pend ++ [(a, b)] }
/-- Writes are for good. -/
def putAllB (f : Nat → List UInt8) (l : List (Nat × List UInt8)) : Nat → List UInt8 := l.foldl (fun f x => updB f x.1 x.2) f
theorem putAllB_snoc (f : Nat → List UInt8) (l : List (Nat × List UInt8)) (x : Nat × List UInt8) : putAllB f (l ++ [x]) = updB (putAllB f l) x.1 x.2 := by simp [putAllB, List.foldl_append]
def Dv.flush (s : Dv) : Dv × Int :=
  if s.down then (s, 30) else if s.fuse = some 0 then s.burn else ({ s.burn.1 with good := putAllB s.good s.pend, pend := [] }, 0)
/-- The sectors of x, those whose bits stand in m from y. -/
def dtornTo (n : Nat) (x y : List UInt8) (m : Nat) : List UInt8 := (List.range 256).map fun i => if i / 64 < n ∧ m / 2 ^ (i / 64) % 2 = 1 then y.getD i 0 else x.getD i 0
def dtorn (x y : List UInt8) (m : Nat) : List UInt8 := dtornTo 4 x y m
theorem length_dtornTo (n : Nat) (x y : List UInt8) (m : Nat) : (dtornTo n x y m).length = 256 := by simp [dtornTo]
theorem length_dtorn (x y : List UInt8) (m : Nat) : (dtorn x y m).length = 256 := length_dtornTo _ _ _ _
theorem get_dtornTo (n : Nat) (x y : List UInt8) (m i : Nat) (hi : i < 256) : (dtornTo n x y m).getD i 0 = if i / 64 < n ∧ m / 2 ^ (i / 64) % 2 = 1 then y.getD i 0 else x.getD i 0 := by
  simp [dtornTo, List.getD_eq_getElem?_getD, List.getElem?_map, List.getElem?_range hi]
theorem dtornTo_zero (x y : List UInt8) (m : Nat) (hx : x.length = 256) : dtornTo 0 x y m = x := by
  apply List.ext_getElem?
  intro i
  by_cases hi : i < 256
  · simp [dtornTo, List.getElem?_map, List.getElem?_range hi, List.getElem?_eq_getElem (by omega : i < x.length)]
  · simp [dtornTo, List.getElem?_eq_none (by omega : x.length ≤ i), hi]
/-- What a crash keeps. -/
def keepB (pend : List (Nat × List UInt8)) (f : Nat → List UInt8) (k : Nat × Nat) : Nat → List UInt8 :=
  match pend[k.1]? with
  | some x => updB f x.1 (dtorn (f x.1) x.2 k.2)
  | none => f
def keepsB (pend : List (Nat × List UInt8)) (f : Nat → List UInt8) (l : List (Nat × Nat)) : Nat → List UInt8 := l.foldl (keepB pend) f
theorem keepsB_snoc (pend : List (Nat × List UInt8)) (f : Nat → List UInt8) (l : List (Nat × Nat)) (k : Nat × Nat) : keepsB pend f (l ++ [k]) = keepB pend (keepsB pend f l) k := by simp [keepsB, List.foldl_append]
def Dv.crash (s : Dv) (l : List (Nat × Nat)) : Dv := { s with good := keepsB s.pend s.good l, pend := [], fuse := none, down := false }
def Dv.lay (s : Dv) (k : Int) : Dv × Int := if k < 0 then (s, 2) else if s.down then (s, 30) else ({ s with fuse := some k.toNat }, 0)
/-- A device's blocks are blocks. -/
structure Dv.Ok (s : Dv) : Prop where
  size : s.size < 4294967296
  good : ∀ a, (s.good a).length = 256
  pend : ∀ x ∈ s.pend, x.1 < 4294967296 ∧ x.2.length = 256
  fuse : ∀ k, s.fuse = some k → k < 9223372036854775808
  writes : s.writes < 18446744073709551616
theorem updB_length {f : Nat → List UInt8} {a : Nat} {b : List UInt8} (h : ∀ x, (f x).length = 256) (hb : b.length = 256) (x : Nat) : (updB f a b x).length = 256 := by
  unfold updB; split
  · exact hb
  · exact h x
theorem putAllB_length {f : Nat → List UInt8} (h : ∀ x, (f x).length = 256) : ∀ (l : List (Nat × List UInt8)), (∀ y ∈ l, y.2.length = 256) → ∀ x, (putAllB f l x).length = 256 := by
  intro l
  induction l generalizing f with
  | nil => intro _ x; exact h x
  | cons y l ih =>
    intro hl x
    exact ih (f := updB f y.1 y.2) (updB_length h (hl y (by simp))) (fun z hz => hl z (by simp [hz])) x
theorem keepB_length {pend : List (Nat × List UInt8)} {f : Nat → List UInt8} (h : ∀ x, (f x).length = 256) (k : Nat × Nat) (x : Nat) : (keepB pend f k x).length = 256 := by
  unfold keepB
  cases pend[k.1]? with
  | some y => exact updB_length h (length_dtorn _ _ _) x
  | none => exact h x
theorem keepsB_length {pend : List (Nat × List UInt8)} {f : Nat → List UInt8} (h : ∀ x, (f x).length = 256) (l : List (Nat × Nat)) (x : Nat) : (keepsB pend f l x).length = 256 := by
  induction l generalizing f with
  | nil => exact h x
  | cons k l ih => exact ih (f := keepB pend f k) (keepB_length h k)
theorem Dv.Ok.burn {s : Dv} (h : s.Ok) : s.burn.1.Ok := by
  unfold Dv.burn
  split
  · exact ⟨h.size, h.good, h.pend, h.fuse, h.writes⟩
  · rename_i k hk
    exact ⟨h.size, h.good, h.pend, fun j hj => by have := h.fuse _ hk; simp at hj; omega, Nat.mod_lt _ (by decide)⟩
  · exact ⟨h.size, h.good, h.pend, h.fuse, Nat.mod_lt _ (by decide)⟩
theorem Dv.Ok.more {s : Dv} (h : s.Ok) (a : Nat) (b : List UInt8) (ha : a < 4294967296) (hb : b.length = 256) : Dv.Ok { s with pend := s.pend ++ [(a, b)] } :=
  ⟨h.size, h.good, fun x hx => by
    rcases List.mem_append.1 hx with hx | hx
    · exact h.pend x hx
    · simp at hx; subst hx; exact ⟨ha, hb⟩, h.fuse, h.writes⟩
theorem Dv.Ok.write {s : Dv} (h : s.Ok) (a : Nat) (b : List UInt8) (ha : a < 4294967296) (hb : b.length = 256) : (s.write a b).1.Ok := by
  unfold Dv.write
  split
  · exact h
  · split
    · exact h
    · exact (h.more a b ha hb).burn
theorem Dv.Ok.flush {s : Dv} (h : s.Ok) : s.flush.1.Ok := by
  unfold Dv.flush
  split
  · exact h
  · split
    · exact h.burn
    · exact ⟨h.burn.size, putAllB_length h.good _ (fun y hy => (h.pend y hy).2), by simp, h.burn.fuse, h.burn.writes⟩
theorem Dv.Ok.crash {s : Dv} (h : s.Ok) (l : List (Nat × Nat)) : (s.crash l).Ok := ⟨h.size, keepsB_length h.good l, by simp [Dv.crash], by simp [Dv.crash], h.writes⟩
theorem Dv.Ok.lay {s : Dv} (h : s.Ok) (k : Int) (hk : k < 9223372036854775808) : (s.lay k).1.Ok := by
  unfold Dv.lay
  split
  · exact h
  · split
    · exact h
    · exact ⟨h.size, h.good, h.pend, fun j hj => by simp at hj; omega, h.writes⟩
/-- A new device. -/
def newDv (n : Nat) : Dv := ⟨n, fun _ => zeroBlk, [], none, false, 0⟩
theorem newDv_ok (n : Nat) (hn : n < 4294967296) : (newDv n).Ok := ⟨hn, fun _ => length_zeroBlk, by simp [newDv], by simp [newDv], by simp [newDv]⟩
end Go.Proofs.Ytnbdnnlomgjlmaa
