import Derived.Test.YtjlpjkiadohkiaaHs
import Derived.Test.YtjlpjkiadohkiaaT13
set_option linter.unusedSimpArgs false
set_option linter.unusedVariables false
set_option maxHeartbeats 2000000
namespace Go.Proofs.Ytjlpjkiadohkiaa
open Go Go.Ab
attribute [local irreducible] aol


theorem pow_le6 {g : Int} (h : 0 ≤ g ∧ g ≤ 6) : 2 ^ g.toNat ≤ 64 := Nat.le_trans (Nat.pow_le_pow_right (by omega) (show g.toNat ≤ 6 by omega)) (by decide)

end Go.Proofs.Ytjlpjkiadohkiaa
namespace Go.Proofs.Ytjlpjkiadohkiaa
open Go Go.Ab
attribute [local irreducible] aol
attribute [local irreducible] popN


theorem fin_ownb {C : Cfg} {t u : Tmp} {j : Nat} {k : IntKind} {E : TypeId} {l : List Int} {x : Bool} {s : ASt} (h : nth s.fr t = .own j) (hh : s.hp[j]? = some (.row k E l)) (hu : nth s.fr u = .b x) : FinS C [.tmp t, .tmp u] (.tu [.own 0, .b x]) [.row k E l] s :=
  ⟨s, Wk.refl s, _, _, rfl, ⟨trivial, trivial, trivial⟩, [j], by simp, by rw [h, hu]; rfl, by simp [hh, AO.ren]⟩
theorem fin_nlb {C : Cfg} {t u : Tmp} {k : IntKind} {E : TypeId} {x : Bool} {s : ASt} (ht : t < s.fr.length) (htu : t ≠ u) (h : nth s.fr t = .nl) (hu : nth s.fr u = .b x) : FinS C [.tmp t, .tmp u] (.tu [.own 0, .b x]) [.row k E []] s := by
  refine FinS.wk (wk_nl k E h) (fin_ownb (j := s.hp.length) (nth_upd_same _ _ _ ht) ?_ ?_)
  · show (s.hp ++ [AO.row k E []])[s.hp.length]? = _
    rw [List.getElem?_append_right (Nat.le_refl _)]; simp
  · show nth (upd s.fr t _) u = _
    rw [nth_upd_other _ _ _ _ htu]; exact hu

end Go.Proofs.Ytjlpjkiadohkiaa
