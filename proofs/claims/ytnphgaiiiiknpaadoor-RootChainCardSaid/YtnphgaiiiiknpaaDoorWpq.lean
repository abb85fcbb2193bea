/- A quiet step of one operation as a step of any walk. Over any program. -/
import Derived.Test.YtnphgaiiiiknpaaDoorFlow
import Derived.Test.YtnphgaiiiiknpaaDoorPair
import Derived.Test.YtnphgaiiiiknpaaDoorSteps
namespace Go.Proofs.YtnphgaiiiiknpaaDoor
open Go.RowKit
set_option linter.unusedSimpArgs false
section
variable {P : Program} {ops : Array Oper} {Q : Exit → Act → World → Prop} {K : Act → World → Prop} {o : Oper} {a : Act} {w : World}
theorem wp_of_wq (hg : o.guard = none) (h : WQ P #[o] (Since w) (fun a' => ∀ w', Since w w' → K a' w') [o] a) : o.wp P a w K Q := by
  have hw : Region.wanted o (yielded #[o] a.tmps) = true := by unfold Region.wanted; rw [hg]
  have h := h.out
  unfold wpQuiet at h
  rw [if_pos hw] at h
  exact Oper.wp_of_quiet (C := Since w) (Below.refl _ _) (fun a' w' hC hr => hr w' hC) h
end
end Go.Proofs.YtnphgaiiiiknpaaDoor
