import Derived.Test.YtdicihmhkglfhaaT10
set_option linter.unusedSimpArgs false
set_option linter.unusedVariables false
set_option maxHeartbeats 2000000
namespace Go.Proofs.Ytdicihmhkglfhaa
open Go Go.Ab
attribute [local irreducible] aol



end Go.Proofs.Ytdicihmhkglfhaa
