import Derived.Test.YtkkmjpeolfmapaaT9
set_option linter.unusedSimpArgs false
set_option linter.unusedVariables false
set_option maxHeartbeats 2000000
namespace Go.Proofs.Ytkkmjpeolfmapaa
open Go Go.Ab
attribute [local irreducible] aol


theorem FinS.wk {C : Cfg} {rs : List ResultVar} {out : AV} {Ho : List AO} {s s2 : ASt} (hw : Wk s s2) (h : FinS C rs out Ho s2) : FinS C rs out Ho s := by
  obtain ⟨s3, hw', h'⟩ := h; exact ⟨s3, hw.trans hw', h'⟩
def orE (b : Bool) (l : List Int) : List Int := if b then l else []
theorem inc_inj {l : List Int} (h : incB l = true) {i j : Nat} (hi : i < l.length) (hj : j < l.length) (e : l.getD i 0 = l.getD j 0) : i = j := by
  rcases Nat.lt_trichotomy i j with h1 | h1 | h1
  · have := inc_lt h h1 hj; omega
  · exact h1
  · have := inc_lt h h1 hi; omega
end Go.Proofs.Ytkkmjpeolfmapaa
