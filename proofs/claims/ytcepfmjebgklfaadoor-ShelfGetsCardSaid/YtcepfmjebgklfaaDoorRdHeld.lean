/- A reader as a thing that a caller holds; what its methods answer. -/
import Derived.Test.YtcepfmjebgklfaaDoorReadT
import Derived.Test.YtcepfmjebgklfaaDoorHeld
namespace Go.Proofs.YtcepfmjebgklfaaDoor
open Go.RowKit
set_option linter.unusedSimpArgs false
set_option linter.unusedVariables false
set_option maxRecDepth 100000
def rdT (g gb : Nat) (b : List UInt8) (i : Nat) (f : Bool) : Thing where
  says F w := F = [g, gb] ∧ ReaderAt w g gb b i f
  lt := by
    rintro F w ⟨rfl, h⟩ x hx
    rcases List.mem_cons.1 hx with rfl | hx
    · exact (Array.getElem?_eq_some_iff.1 h.row).1
    · obtain rfl : x = gb := by simpa using hx
      exact (Array.getElem?_eq_some_iff.1 h.src).1
  loc := by
    rintro F w w' h ⟨rfl, h1⟩
    exact ⟨rfl, (h g (by simp)).trans h1.row, (h gb (by simp)).trans h1.src, h1.len, h1.lt, h1.ne⟩
theorem rd_turns {W W' : World} {g gb : Nat} {b : List UInt8} {j : Nat} {f : Bool} (h : ReaderAt W' g gb b j f) (hg : W.grownBy W' (some g)) : Turns [g, gb] W W' (rdT g gb b j f) :=
  ⟨[g, gb], ⟨rfl, h⟩, Only.of_grown hg (fun k hk => by cases hk; simp), fun x hx => .inl hx, by have := h.ne; simp [this]⟩
section
variable {w0 W : World} {g gb : Nat} {b : List UInt8} {i : Nat} {f : Bool} {l : List Thing}
theorem rdnum_is (R : Held w0 W (rdT g gb b i f :: l)) (n : Nat) (hn : n = 1 ∨ n = 2 ∨ n = 4 ∨ n = 8) (hf : i + n ≤ 252) :
    Calls Tryd.prog 47 #[.pointer (some ⟨g, 0, none⟩), .int .i64 (n : Int)] W fun e w' => e = .returned (.int .u64 (readV b i n f : Int)) ∧ Held w0 w' (rdT g gb b (nextI i n f) f :: l) :=
  R.act (fun F hF _ => (rnum_all W g gb b i n f hF.2 hn hf).mono (fun e w' h => ⟨h.1, by rw [hF.1]; exact rd_turns h.2.1 h.2.2⟩))
theorem rdend_is (R : Held w0 W (rdT g gb b i f :: l)) :
    Calls Tryd.prog 49 #[.pointer (some ⟨g, 0, none⟩)] W fun e w' => e = .returned (.int .i64 (endV b i f)) ∧ Below W.heap.size W w' := by
  obtain ⟨F, hF⟩ := R.thing 0 rfl
  exact end_all W g gb b i f hF.2
theorem rdopen_is (R : Held w0 W l) (b : List UInt8) (hb : b.length = 256) (m : UInt8) :
    Calls Tryd.prog 46 #[.agg (blk b), .int .u8 (m.toNat : Int)] W fun e w' => ∃ g gb, e = .returned (.pointer (some ⟨g, 0, none⟩)) ∧ Held w0 w' (rdT g gb b 1 (fineB b m) :: l) := by
  refine (open_any W b hb m).mono ?_
  rintro e w' ⟨g, rfl, hg, hr, hB⟩
  exact ⟨g, W.heap.size, rfl, R.more hB ⟨rfl, hr⟩ (by intro x hx; simp at hx; omega) (by have := hr.ne; simp [this])⟩
end
end Go.Proofs.YtcepfmjebgklfaaDoor
