import Derived.Test.YtjbnldgnoloobaaT16
set_option linter.unusedSimpArgs false
set_option linter.unusedVariables false
set_option maxHeartbeats 2000000
namespace Go.Proofs.Ytjbnldgnoloobaa
open Go Go.Ab
attribute [local irreducible] aol
attribute [local irreducible] popN


theorem fin_ownb {C : Cfg} {t u : Tmp} {j : Nat} {k : IntKind} {E : TypeId} {l : List Int} {x : Bool} {s : ASt} (h : nth s.fr t = .own j) (hh : s.hp[j]? = some (.row k E l)) (hu : nth s.fr u = .b x) : FinS C [.tmp t, .tmp u] (.tu [.own 0, .b x]) [.row k E l] s :=
  ⟨s, Wk.refl s, _, _, rfl, ⟨trivial, trivial, trivial⟩, [j], by simp, by rw [h, hu]; rfl, by simp [hh, AO.ren]⟩
end Go.Proofs.Ytjbnldgnoloobaa
