/- The device layer: the methods over what a call owns. -/
import Derived.Test.YtnbdnnlomgjlmaaDevGreat
namespace Go.Proofs.Ytnbdnnlomgjlmaa
open Go.RowKit
set_option linter.unusedSimpArgs false
set_option linter.unusedVariables false
set_option maxRecDepth 100000
section
variable {w0 W W' : World} {l : List Thing}
theorem Held.act2 {P : Program} {f : FuncId} {args : Array Value} {x y : Thing} {Q : Ending → Prop} (R : Held w0 W (x :: l)) (h : ∀ F, x.says F W → F.Nodup → (∀ b ∈ F, w0.heap.size ≤ b) → (∀ b cs T, rowT b cs T ∈ l → b ∉ F) → Calls P f args W fun e w' => Q e ∧ Turns F W w' y) :
    Calls P f args W fun e w' => Q e ∧ Held w0 w' (y :: l) := by
  obtain ⟨Z, hZ, R⟩ := R
  cases Z with
  | nil => simp at hZ
  | cons z Z =>
    simp only [List.map_cons, List.cons.injEq] at hZ
    obtain ⟨rfl, rfl⟩ := hZ
    have hap := R.apart
    rw [List.flatMap_cons, List.nodup_append] at hap
    refine (h z.2 (R.says z (by simp)) hap.1 (R.ge z (by simp)) ?_).mono ?_
    · intro b cs T hm hb
      obtain ⟨q, hq, he⟩ := List.mem_map.1 hm
      have := R.says q (List.mem_cons_of_mem _ hq)
      rw [he] at this
      exact hap.2.2 b hb b (List.mem_flatMap.2 ⟨q, hq, by rw [this.1]; simp⟩) rfl
    · rintro e w' ⟨he, G, h1, h2, h3, h4⟩
      exact ⟨he, (y, G) :: Z, rfl, R.head h2 h1 h3 h4⟩
/-- A new row, behind the head. -/
theorem Held.alloc2 {x : Thing} (R : Held w0 W (x :: l)) (cs : Array Value) (T : TypeId) : Held w0 (W.alloc (.cells cs T)) (x :: rowT W.heap.size cs T :: l) := (R.alloc cs T).perm (.swap _ _ _)
end
section
variable {w0 W : World} {g : Nat} {s s' : Dv} {l : List Thing} {E : Int}
theorem write_is (R : Held w0 W (dvT g s :: l)) (hlen : s.pend.length < 100000) (a : Nat) (b : List UInt8) (ha : a < 4294967296) (hb : b.length = 256) (he : s.write a b = (s', E)) :
    Calls Try.prog 43 #[.pointer (some ⟨g, 0, none⟩), .int .u32 (a : Int), .agg (blk b)] W fun e w' => e = .returned (.int .i64 E) ∧ Held w0 w' (dvT g s' :: l) :=
  R.act (fun F hF hN => by have := write_dev hF hN hlen a b ha hb; rwa [he] at this)
theorem flush_is (R : Held w0 W (dvT g s :: l)) (he : s.flush = (s', E)) :
    Calls Try.prog 42 #[.pointer (some ⟨g, 0, none⟩)] W fun e w' => e = .returned (.int .i64 E) ∧ Held w0 w' (dvT g s' :: l) :=
  R.act (fun F hF hN => by have := flush_dev hF hN; rwa [he] at this)
theorem fuse_is (R : Held w0 W (dvT g s :: l)) (k : Int) (hk : k < 9223372036854775808) (he : s.lay k = (s', E)) :
    Calls Try.prog 41 #[.pointer (some ⟨g, 0, none⟩), .int .i64 k] W fun e w' => e = .returned (.int .i64 E) ∧ Held w0 w' (dvT g s' :: l) :=
  R.act (fun F hF hN => by have := fuse_dev hF hN k hk; rwa [he] at this)
/-- A crash that keeps nothing. -/
theorem crash_nil (R : Held w0 W (dvT g s :: l)) (he : s.crash [] = s') :
    Calls Try.prog 48 #[.pointer (some ⟨g, 0, none⟩), .slice none 0 0] W fun e w' => e = .returned (.int .i64 0) ∧ Held w0 w' (dvT g s' :: l) :=
  R.act (fun F hF hN => by have := crash_dev hF hN none 0 0 (by omega) [] ⟨rfl, .inl rfl, by simp⟩; rwa [he] at this)
/-- A crash whose slice lies in a row of one's own. -/
theorem crash_own (R : Held w0 W (dvT g s :: l)) (b : Nat) (k : Nat × Nat) (c : Nat) (hk : k.1 < 65536 ∧ k.2 < 256) (hm : rowT b (keepV k) 80 ∈ l) (he : s.crash [k] = s') :
    Calls Try.prog 48 #[.pointer (some ⟨g, 0, none⟩), .slice (some ⟨b, 0, none⟩) 1 c] W fun e w' => e = .returned (.int .i64 0) ∧ Held w0 w' (dvT g s' :: l) :=
  R.act2 (fun F hF hN _ hd => by
    obtain ⟨i, hi⟩ := List.mem_iff_getElem?.1 hm
    have hr := R.get (i + 1) (g := b) (cs := keepV k) (T := 80) (by simpa using hi)
    have := crash_dev hF hN (some ⟨b, 0, none⟩) 1 c (by omega) [k] ⟨rfl, .inr ⟨b, 0, rfl, (Array.getElem?_eq_some_iff.1 hr).1, hd b _ _ hm, fun i hi => by
      obtain rfl : i = 0 := by simp at hi; omega
      exact ⟨cell_of_row W b 0 _ _ _ hr, cell_of_row W b 1 _ _ _ hr⟩⟩, by simp; exact hk⟩
    rwa [he] at this)
/-- A crash whose slice is an elder one. -/
theorem crash_old (R : Held w0 W (dvT g s :: l)) (A : Option Addr) (n c : Nat) (hn : n ≤ 9223372036854775807) (ks : List (Nat × Nat)) (hks : KeepsIn w0 A n ks []) (he : s.crash ks = s') :
    Calls Try.prog 48 #[.pointer (some ⟨g, 0, none⟩), .slice A n c] W fun e w' => e = .returned (.int .i64 0) ∧ Held w0 w' (dvT g s' :: l) :=
  R.act2 (fun F hF hN hge _ => by
    have hk : KeepsIn W A n ks F := by
      refine ⟨hks.len, ?_, hks.lt⟩
      rcases hks.at_ with h0 | ⟨b, off, rfl, h1, _, h3⟩
      · exact .inl h0
      · refine .inr ⟨b, off, rfl, Nat.lt_of_lt_of_le h1 R.below.size, fun hm => by have := hge b hm; omega, fun i hi => ?_⟩
        have e : ∀ o, W.cell? ⟨b, o, none⟩ = w0.cell? ⟨b, o, none⟩ := fun o => R.below.cell h1
        rw [e, e]; exact h3 i hi
    have := crash_dev hF hN A n c hn ks hk
    rwa [he] at this)
end
end Go.Proofs.Ytnbdnnlomgjlmaa
