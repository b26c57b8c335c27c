import Derived.Test.YthoionlldmfpiaaDoorT101
import Derived.Test.YthoionlldmfpiaaDoorHs
import Derived.Test.YthoionlldmfpiaaDoorT8
set_option linter.unusedSimpArgs false
set_option linter.unusedVariables false
set_option maxHeartbeats 2000000
namespace Go.Proofs.YthoionlldmfpiaaDoor
open Go Go.Ab
attribute [local irreducible] aol
def hd (p : List UInt8) : List (List UInt8) → List (List UInt8)
  | [] => [p]
  | q :: ps => (p ++ q) :: ps
end Go.Proofs.YthoionlldmfpiaaDoor
