/- The field layer's writer: Text puts a length byte, the text, and zeros up to the room. -/
import Derived.Test.YtcepfmjebgklfaaDoorFieldNum
import Derived.Test.YtcepfmjebgklfaaDoorAppend
namespace Go.Proofs.YtcepfmjebgklfaaDoor
open Go.RowKit
set_option maxRecDepth 100000
set_option linter.unusedSimpArgs false
theorem strCells_vu8 (s : ByteArray) : Lib.strCells s = s.data.toList.map vu8 := rfl
theorem zeros_vu8 (n : Nat) : List.replicate n (Value.int .u8 0) = (List.replicate n (0 : UInt8)).map vu8 := by simp [vu8]
end Go.Proofs.YtcepfmjebgklfaaDoor
