import Derived.Test.YtjlpjkiadohkiaaT52
import Derived.Test.YtjlpjkiadohkiaaT15
import Derived.Test.YtjlpjkiadohkiaaHs
import Derived.Test.YtjlpjkiadohkiaaAbK
set_option linter.unusedSimpArgs false
set_option linter.unusedVariables false
set_option maxHeartbeats 2000000
namespace Go.Proofs.Ytjlpjkiadohkiaa
open Go Go.Ab
attribute [local irreducible] aol
attribute [local irreducible] popN


def tLawB : Tab
  | [.sl .u8 _] => some (True, .b true, [])
  | _ => none
theorem orE_f (l : List Int) : orE false l = [] := by unfold orE; rfl
end Go.Proofs.Ytjlpjkiadohkiaa
