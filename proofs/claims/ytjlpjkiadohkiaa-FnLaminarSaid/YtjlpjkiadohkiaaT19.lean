import Derived.Test.YtjlpjkiadohkiaaT12
import Derived.Test.YtjlpjkiadohkiaaT7
set_option linter.unusedSimpArgs false
set_option linter.unusedVariables false
set_option maxHeartbeats 2000000
namespace Go.Proofs.Ytjlpjkiadohkiaa
open Go Go.Ab
attribute [local irreducible] aol


theorem finm_t {m : Nat} {C : Cfg} {t : Tmp} {out : AV} {Ho : List AO} {s : ASt} (σ : List Nat) (h0 : nth s.fr t = out.ren σ) (h1 : nodupB σ = true) (h2 : σ.take m = List.range m) (h3 : σ.map (fun i => s.hp[i]?) = Ho.map (fun o => some (o.ren σ))) : FinSM m C [.tmp t] out Ho s :=
  ⟨s, Wk.refl s, _, _, rfl, ⟨trivial, trivial⟩, σ, nodupB_spec h1, h2, h0, h3⟩
end Go.Proofs.Ytjlpjkiadohkiaa
