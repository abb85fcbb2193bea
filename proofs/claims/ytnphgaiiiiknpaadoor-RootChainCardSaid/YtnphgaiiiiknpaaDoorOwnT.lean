/- A slice that grows, as a thing that a caller holds. -/
import Derived.Test.YtnphgaiiiiknpaaDoorHeld
import Derived.Test.YtnphgaiiiiknpaaDoorDevMath
import Derived.Maps.AppendAt
namespace Go.Proofs.YtnphgaiiiiknpaaDoor
open Go.RowKit
set_option linter.unusedVariables false
def ownT (e : TypeId) (sz : Nat) (v : Value) (n : Nat) (xs : List Value) : Thing where
  says F w := F = v.ownBlock.toList ∧ w.ownsRow 0 e sz v n xs
  lt := by
    rintro F w ⟨rfl, h⟩ b hb
    exact (World.ownsRow.lt h b (by simpa using hb)).2
  loc := by
    rintro F w w' h ⟨rfl, hv⟩
    exact ⟨rfl, ownsRow_same hv (fun b hb => h b (by simp [hb]))⟩
section
variable {w0 W w' : World} {l : List Thing} {e : TypeId} {sz n n' : Nat} {v v' : Value} {xs ys : List Value}
theorem Held.own (R : Held w0 W l) (k : Nat) (h : l[k]? = some (ownT e sz v n xs)) : W.ownsRow 0 e sz v n xs := by
  obtain ⟨F, _, h1⟩ := R.thing k h
  exact h1
theorem Held.newOwn (R : Held w0 W l) (e : TypeId) (sz : Nat) : Held w0 W (ownT e sz (.slice none 0 0) 0 [] :: l) :=
  R.more (Below.refl _ _) (F := []) ⟨rfl, World.ownsRow_nil _ _ _ _⟩ (by simp) (by simp)
theorem Held.appended (R : Held w0 W l) (k : Nat) (h : l[k]? = some (ownT e sz v n xs)) (hown : w'.ownsRow 0 e sz v' n' ys) (hg : W.grownBy w' v.ownBlock) (hat : v'.ownBlock = v.ownBlock ∨ v'.ownBlock = some W.heap.size) : Held w0 w' (l.set k (ownT e sz v' n' ys)) :=
  R.turn k h (fun F hF _ => ⟨v'.ownBlock.toList, ⟨rfl, hown⟩, Only.of_grown hg (fun k hk => by rw [hF.1]; simp [hk]), fun b hb => by
    rcases hat with h1 | h1
    · rw [h1] at hb; exact .inl (by rw [hF.1]; exact hb)
    · rw [h1] at hb; simp at hb; exact .inr (by omega), by cases v'.ownBlock <;> simp⟩)
/-- One more is appended, out of a row that has been made for it. -/
theorem Held.appendOne (R : Held w0 W l) (k : Nat) (h : l[k]? = some (ownT e sz v n xs)) {cs : Array Value} {T : TypeId} (hown : w'.ownsRow 0 e sz v' n' ys) (hg : (W.alloc (.cells cs T)).grownBy w' v.ownBlock) (hat : v'.ownBlock = v.ownBlock ∨ v'.ownBlock = some (W.alloc (.cells cs T)).heap.size) :
    Held w0 w' (l.set k (ownT e sz v' n' ys)) := by
  have h1 := (R.alloc cs T).appended (k + 1) (by rw [List.getElem?_cons_succ]; exact h) hown hg hat
  rw [List.set_cons_succ] at h1
  exact h1.drop 1
end
theorem news_row (w : World) (cs : Array Value) (t : TypeId) : ∀ (j : Nat) (u : Value), cs.toList[j]? = some u → (w.alloc (.cells cs t)).cell? ((⟨w.heap.size, 0, none⟩ : Addr).add j) = some u := by
  intro j u hu
  rw [Addr.add_lit, Nat.zero_add, cell_of_row _ _ j _ _ _ (heap_alloc_new w _), ← Array.getElem?_toList]
  exact hu
theorem own_slice {w : World} {base : Nat} {e : TypeId} {size : Nat} {v : Value} {n : Nat} {xs : List Value} (h : w.ownsRow base e size v n xs) : ∃ a c, v = .slice a n c := by
  rcases h.2 with ⟨rfl, rfl⟩ | ⟨g, cap, cur, rfl, _⟩
  · exact ⟨none, 0, rfl⟩
  · exact ⟨_, _, rfl⟩
end Go.Proofs.YtnphgaiiiiknpaaDoor
