import Derived.Test.YtjlpjkiadohkiaaT73
import Derived.Test.YtjlpjkiadohkiaaT34
import Derived.Test.YtjlpjkiadohkiaaT30
import Derived.Test.YtjlpjkiadohkiaaHs
import Derived.Test.YtjlpjkiadohkiaaT61
set_option linter.unusedSimpArgs false
set_option linter.unusedVariables false
set_option maxHeartbeats 2000000
namespace Go.Proofs.Ytjlpjkiadohkiaa
open Go Go.Ab
attribute [local irreducible] aol
attribute [local irreducible] popN


theorem fin_t1 {C : Cfg} {t : Tmp} {out : AV} {Ho : List AO} {s : ASt} (σ : List Nat) (h0 : nth s.fr t = out.ren σ) (h1 : nodupB σ = true) (h3 : σ.map (fun i => s.hp[i]?) = Ho.map (fun o => some (o.ren σ))) : FinS C [.tmp t] out Ho s :=
  ⟨s, Wk.refl s, _, _, rfl, ⟨trivial, trivial⟩, σ, nodupB_spec h1, h0, h3⟩
theorem after_row2 {p : Prop} {out : AV} {k k' : IntKind} {E E' : TypeId} {l l' : List Int} {H : List AO} {K : AV → List AO → Prop} {L : Prop} : after (some (p, out, [.row k E l, .row k' E' l'])) H K L = (p ∧ K (out.shift H.length) (H ++ [.row k E l, .row k' E' l'])) := rfl
def anN (b : List Int) : Int := l2AN b (newV b)
def anL (b : List Int) : List Int := l2AL b (newV b)
end Go.Proofs.Ytjlpjkiadohkiaa
