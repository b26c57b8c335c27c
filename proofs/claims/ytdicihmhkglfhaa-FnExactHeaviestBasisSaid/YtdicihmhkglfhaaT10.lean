import Derived.Test.YtdicihmhkglfhaaT9
set_option linter.unusedSimpArgs false
set_option linter.unusedVariables false
set_option maxHeartbeats 2000000
namespace Go.Proofs.Ytdicihmhkglfhaa
open Go Go.Ab
attribute [local irreducible] aol


theorem FinS.wk {C : Cfg} {rs : List ResultVar} {out : AV} {Ho : List AO} {s s2 : ASt} (hw : Wk s s2) (h : FinS C rs out Ho s2) : FinS C rs out Ho s := by
  obtain ⟨s3, hw', h'⟩ := h; exact ⟨s3, hw.trans hw', h'⟩
end Go.Proofs.Ytdicihmhkglfhaa
