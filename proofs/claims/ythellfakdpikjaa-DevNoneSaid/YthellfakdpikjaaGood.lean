import Derived.Test.YthellfakdpikjaaSeal
import Derived.Test.YthellfakdpikjaaQuiet
namespace Go.Proofs.Ythellfakdpikjaa
open Go.RowKit
set_option maxRecDepth 100000
end Go.Proofs.Ythellfakdpikjaa
namespace Go.Proofs.Ythellfakdpikjaa
open Go.RowKit
set_option maxRecDepth 100000
def zeroBlk : List UInt8 := List.replicate 256 0
theorem length_zeroBlk : zeroBlk.length = 256 := List.length_replicate
theorem zero_cells : zeros 256 (.int .u8 0) = blk zeroBlk := zeros_blk 256
end Go.Proofs.Ythellfakdpikjaa
namespace Go.Proofs.Ythellfakdpikjaa
open Go.RowKit
set_option maxRecDepth 100000
end Go.Proofs.Ythellfakdpikjaa
