/- The document's roots: the number at a place of a block. -/
import Derived.Test.YtnphgaiiiiknpaaDoorRef02
namespace Go.Proofs.YtnphgaiiiiknpaaDoor
open Go.RowKit
set_option linter.unusedSimpArgs false
set_option maxRecDepth 100000
theorem seg_cons (b : List UInt8) (i n : Nat) (h : i < b.length) : seg b i (n + 1) = b[i] :: seg b (i + 1) n := by
  unfold seg
  rw [List.drop_eq_getElem_cons h, List.take_succ_cons]
end Go.Proofs.YtnphgaiiiiknpaaDoor
