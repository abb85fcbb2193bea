/- Rows of texts that a call owns and that grow; and the best of a row hangs on what stands in it alone. -/
import Derived.Test.YtnbdnnlomgjlmaaTop2
import Derived.WalkKit
import Derived.Deep.RegionLaw
namespace Go.Proofs.Ytnbdnnlomgjlmaa
open Go.RowKit
/-- Two rows with the same texts have the same best one. -/
theorem best_same (f g : Nat → ByteArray) (m n : Nat) (h1 : ∀ i, i ≤ m → ∃ j, j ≤ n ∧ f i = g j) (h2 : ∀ j, j ≤ n → ∃ i, i ≤ m ∧ g j = f i) : bestF f m = bestF g n := by
  obtain ⟨i, hi, he⟩ := bestF_is f m
  obtain ⟨j, hj, he2⟩ := bestF_is g n
  obtain ⟨j2, hj2, e1⟩ := h1 i hi
  obtain ⟨i2, hi2, e2⟩ := h2 j hj
  rcases best_above g n j2 hj2 with h | h
  · rw [he, e1, h]
  · rcases best_above f m i2 hi2 with k | k
    · rw [he2, e2, k]
    · rw [← e1, ← he] at h
      rw [← e2, ← he2] at k
      rw [above_asymm _ _ k] at h; cases h
theorem Try.info9 : (Try.prog.info? 9).map (fun i => (i.zero, i.size, i.bytes)) = some (some (.string ⟨#[]⟩), 1, 16) := by kernel_rfl
/-- The texts T 0 .. T (n - 1), as values. -/
def vals (T : Nat → ByteArray) (n : Nat) : List Value := (List.range n).map fun j => Value.string (T j)
theorem vals_succ (T : Nat → ByteArray) (n : Nat) : vals T (n + 1) = vals T n ++ [.string (T n)] := by simp [vals, List.range_succ]
theorem vals_length (T : Nat → ByteArray) (n : Nat) : (vals T n).length = n := by simp [vals]
/-- The slice v, n texts long, is the call's own (blocks from base on) and holds T. -/
def OwnTexts (w : World) (base : Nat) (v : Value) (n : Nat) (T : Nat → ByteArray) : Prop := w.ownsRow base 9 1 v n (vals T n)
theorem OwnTexts.nil (w : World) (base : Nat) (T : Nat → ByteArray) : OwnTexts w base (.slice none 0 0) 0 T := World.ownsRow_nil _ _ _ _
/-- Read as an argument. -/
theorem OwnTexts.read {w : World} {base : Nat} {v : Value} {n : Nat} {T : Nat → ByteArray} (h : OwnTexts w base v n T) (hn : 0 < n) (hs : ∀ j, j < n → (T j).size ≤ maxLen) :
    ∃ g cap, v = .slice (some ⟨g, 0, none⟩) n cap ∧ base ≤ g ∧ n ≤ cap ∧ cap ≤ maxLen ∧ TextsAt w g 0 n T := by
  have hc : ∀ g, v.ownBlock = some g → ∀ (j : Nat) u, (vals T n)[j]? = some u → w.cell? ((⟨g, 0, none⟩ : Addr).add j) = some u := fun g hg => World.ownsRow.cells h hg
  rcases h.2 with ⟨rfl, h0⟩ | ⟨g, cap, cur, rfl, hb, hg, hnc, hcm, _, _⟩
  · omega
  · refine ⟨g, cap, rfl, hb, hnc, hcm, fun i hi => ⟨?_, hs i hi⟩⟩
    have := hc g rfl i (.string (T i)) (by simp [vals, hi])
    rw [Addr.add_lit] at this
    exact this
theorem OwnTexts.below {w w' : World} {base : Nat} {v : Value} {n : Nat} {T : Nat → ByteArray} (h : OwnTexts w base v n T) (hb : Below w.heap.size w w') : OwnTexts w' base v n T :=
  h.kept (row := none) ⟨hb.os, hb.tape, hb.output, hb.size, fun k hk _ => hb.block k hk⟩ (by cases hv : v.ownBlock <;> simp)
theorem OwnTexts.grown {w w' : World} {base : Nat} {v : Value} {n : Nat} {T : Nat → ByteArray} {row : Option Nat} (h : OwnTexts w base v n T) (hg : w.grownBy w' row) (hne : v.ownBlock = none ∨ v.ownBlock ≠ row) : OwnTexts w' base v n T := h.kept hg hne
theorem cells_new (w : World) (xs : List Value) (t : TypeId) : ∀ (j : Nat) u, xs[j]? = some u → (w.alloc (.cells xs.toArray t)).cell? ((⟨w.heap.size, 0, none⟩ : Addr).add j) = some u := by
  intro j u hj
  rw [Addr.add_lit, Nat.zero_add, World.cell?_alloc_new]
  simpa using hj
/-- append onto a slice that the call owns, as one step of a region that draws its order. -/
theorem step_append_own {P : Program} {ops : Array Oper} {o : Oper} {a : Act} {w : World} {K : Act → World → Prop} {Q : Exit → Act → World → Prop} {E : Prop}
    (hg : o.guard = none) (s x : Operand) (t : TypeId) (hop : o.op = Op.call { callee := Callee.builtin Builtin.append, args := #[s, x], argTypes := #[t, t] })
    (base : Nat) (e : TypeId) (i : TypeInfo) (z : Value) (size bytes : Nat) (h1 : P.underlying t = some (.slice e)) (h2 : P.info? e = some i) (h3 : i.zero = some z) (h4 : i.size = size) (h5 : i.bytes = bytes) (h6 : z.cells.size = size) (h7 : 0 < size)
    (v : Value) (n : Nat) (xs : List Value) (hs : a.eval s = v) (hown : w.ownsRow base e size v n xs)
    (ad : Addr) (m c : Nat) (news : List Value) (hx : a.eval x = .slice (some ad) m c) (hn : news.length = m * size) (hc : ∀ j u, news[j]? = some u → w.cell? (ad.add j) = some u) (h1c : ∀ u ∈ news, u.oneCell' = true)
    (b1 : n + m ≤ maxLen) (b2 : (n + m) * bytes ≤ 140737488355328) (hbase : base ≤ w.heap.size)
    (hK : ∀ v' w', w'.ownsRow base e size v' (n + m) (xs ++ news) → w.grownBy w' v.ownBlock → K (a.put o.dst v') w') :
    if Region.wanted o (yielded ops a.tmps) = true then Oper.wp P o a w K Q else E := by
  have hw : Region.wanted o (yielded ops a.tmps) = true := by simp [Region.wanted, hg]
  rw [if_pos hw]
  obtain ⟨v', w', hrun, r1, r2, _⟩ := run_append_own (P := P) w base t o.type e i z size bytes h1 h2 h3 h4 h5 h6 h7 v n xs hown ad m c news hn hc h1c b1 b2 hbase
  unfold Oper.wp
  simp [execOp, hop, resolve, invoke, builtin, hs, hx, hrun, Result.andThen]
  exact hK v' w' r1 r2
theorem own_grown {w wr wa w1 : World} {v : Value} {m : Nat} {T : Nat → ByteArray} (hB : Below w.heap.size w wr) (hA : Below wr.heap.size wr wa) (hown : OwnTexts wr w.heap.size v m T) (hg : wa.grownBy w1 v.ownBlock) :
    Below w.heap.size w w1 :=
  (Below.trans hB (hA.mono hB.size)).grown hg (Nat.le_trans hB.size hA.size) (fun k hk => (World.ownsRow.lt hown k hk).1)
end Go.Proofs.Ytnbdnnlomgjlmaa
