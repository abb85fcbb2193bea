/- The device layer's laws: great. -/
import Derived.Test.YtnbdnnlomgjlmaaDevLaw
namespace Go.Proofs.Ytnbdnnlomgjlmaa
open Go.RowKit
set_option linter.unusedSimpArgs false
set_option linter.unusedVariables false
set_option maxRecDepth 100000
theorem rangeAt_cell {w : World} {b off : Nat} {cs : List Value} (h : w.rangeAt b off cs) (j : Nat) (v : Value) (hv : cs[j]? = some v) : w.cell? ⟨b, off + j, none⟩ = some v := h j v hv
theorem ActsIn.below {w w' : World} {A : Option Addr} {n : Nat} {l : List ActL} (h : ActsIn w A n l) (hb : Below w.heap.size w w') : ActsIn w' A n l := by
  refine ⟨h.len, ?_, fun x hx => ?_⟩
  · rcases h.at_ with h0 | ⟨b, off, rfl, h1, h2⟩
    · exact .inl h0
    · refine .inr ⟨b, off, rfl, Nat.lt_of_lt_of_le h1 hb.size, fun i hi j v hv => ?_⟩
      exact (hb.cell h1).trans (h2 i hi j v hv)
  · obtain ⟨h1, h2, h3, h4, h5⟩ := h.ok x hx
    exact ⟨h1, h2, h3, h4, h5.only (Only.of_below hb)⟩
/-- The cells of act number i. -/
theorem ActsIn.cells {w : World} {A : Option Addr} {n : Nat} {l : List ActL} (h : ActsIn w A n l) (i : Nat) (hi : i < l.length) : ∃ b off, A = some ⟨b, off, none⟩ ∧ b < w.heap.size ∧ w.rangeAt b (off + i * 5) (actV l[i]).toList := by
  rcases h.at_ with h0 | ⟨b, off, e, h1, h2⟩
  · have := h.len; omega
  · exact ⟨b, off, e, h1, h2 i hi⟩
def GreatPost (n : Nat) (w : World) (e : Ending) (w' : World) : Prop := ∃ r, e = .returned (.bool r) ∧ (r = false → n ≤ 60) ∧ w = w'
set_option maxHeartbeats 1000000 in
theorem great_any (w : World) (A : Option Addr) (n c : Nat) (hn : n ≤ 9223372036854775807) (l : List ActL) (hl : ActsIn w A n l) :
    Calls Try.prog 39 #[.slice A n c] w fun e w' => GreatPost n w e w' := by
  have HL := Lib.hid hl
  clear hl
  go_enter Try.func39, Try.ntmps39
  go_wp2_with fail
  go_loopw [3, 4] (fun m i wr => ∃ (k : Nat) (z : Int), k ≤ n ∧ i = .int .i64 (k : Int) ∧ m = .int .i64 z ∧ wr = w) (fun _ i _ => n - (intOf i).toNat)
  case atStart => exact ⟨0, 0, by omega, rfl, rfl, rfl⟩
  case round =>
    obtain ⟨k, z, hk, rfl, rfl, hw⟩ := hrel
    subst hw
    by_cases hlt : k < n
    · obtain ⟨b, off, hA, hb, hr⟩ := HL.out.cells k (by rw [HL.out.len]; exact hlt)
      subst hA
      have c3 := rangeAt_cell hr 3 _ (show (actV (l[k]'(by rw [HL.out.len]; exact hlt))).toList[3]? = some (.slice _ _ _) from rfl)
      clear hr
      generalize l[k]'(by rw [HL.out.len]; exact hlt) = x at c3
      obtain ⟨_, _, _, lA, ln, lc, _, _⟩ := x
      simp only at c3
      go_wp2_with fail
      exact ⟨⟨k + 1, _, by omega, by simp, rfl, trivial⟩, by simp [intOf]; omega⟩
    · obtain rfl : k = n := by omega
      have hz : ¬ ((k : Int) < (k : Int)) := by omega
      by_cases h60 : (60 : Int) < (k : Int)
      · go_wp2_with fail
        go_ret
        exact ⟨true, rfl, by simp, rfl⟩
      · have h60' : k ≤ 60 := by omega
        go_wp2_with fail
        go_ret
        exact ⟨_, rfl, fun _ => h60', rfl⟩
end Go.Proofs.Ytnbdnnlomgjlmaa
