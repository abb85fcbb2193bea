/- ShelfKeeps: its contract in the card's form. -/
import Derived.Test.YtcepfmjebgklfaaDoorShKeeps
import Derived.Test.YtcepfmjebgklfaaDoorOpenShelf
namespace Go.Proofs.YtcepfmjebgklfaaDoor
open Go.RowKit
theorem shkeeps_card {w : World} (hc : ClsAt w) (s : ShL) (A : Option Addr) (n c : Nat) (l : List CellH) (x : ActH) (hs : ShArg w s A n c l) (hx : ActOk w x) :
    Calls Tryd.prog 3 #[.agg (shV s A n c), .agg (actHV x)] w fun e w' => e = .returned (.bool true) ∧ Below w.heap.size w w' :=
  shkeeps_any hc s A n c l hs x.what x.ser x.place x.off x.n hx.ser hx.off x.A x.m x.c x.data hx.by_ hx.len hx.max
end Go.Proofs.YtcepfmjebgklfaaDoor
