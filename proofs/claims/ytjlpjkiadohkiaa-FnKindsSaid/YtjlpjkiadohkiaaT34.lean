import Derived.Test.YtjlpjkiadohkiaaHs
import Derived.Test.YtjlpjkiadohkiaaT32
set_option linter.unusedSimpArgs false
set_option linter.unusedVariables false
set_option maxHeartbeats 2000000
namespace Go.Proofs.Ytjlpjkiadohkiaa
open Go Go.Ab
attribute [local irreducible] aol
attribute [local irreducible] popN


def e4 (L : List Int) : Bool := L.all fun x => inR x 0 4
end Go.Proofs.Ytjlpjkiadohkiaa
namespace Go.Proofs.Ytjlpjkiadohkiaa
open Go Go.Ab
attribute [local irreducible] aol
attribute [local irreducible] popN


theorem mkL_get {f : Int → Int} {m k : Nat} (h : k < m) : (mkL f m).getD k 0 = f (k : Int) := by
  unfold mkL; rw [List.getD_eq_getElem?_getD, List.getElem?_map, List.getElem?_range h]; rfl
theorem sub_of {n : Int} {l : List Int} (hf : fnV n l = true) (h : ∀ s i k, s < l.length → i < k → k < n.toNat → Nat.testBit s i = false → Nat.testBit s k = false → excV l s i k ≤ 0) : subV n l = true := by
  have hn := (fnV_iff.1 hf).1
  have hlen := fnV_len hf
  have hp6 : 2 ^ n.toNat ≤ 32 := Nat.le_trans (Nat.pow_le_pow_right (by omega) (show n.toNat ≤ 5 by omega)) (by decide)
  have hv : vioV n l = none := by
    unfold vioV
    rw [seek2_none]
    intro s _ hs
    unfold vioS
    rw [Option.map_eq_none_iff, seek2_none]
    intro i _ hi
    unfold vioI
    rw [Option.map_eq_none_iff, seek_none]
    intro k hk1 hk2
    unfold vioP
    have b1 := ibit (s := s) (e := i) (by omega) (by omega)
    have b2 := ibit (s := s) (e := k) (by omega) (by omega)
    cases h1 : Nat.testBit s i with
    | true => rw [h1, if_pos rfl] at b1; rw [decide_eq_false (by omega), Bool.false_and]
    | false =>
      cases h2 : Nat.testBit s k with
      | true => rw [h2, if_pos rfl] at b2; rw [decide_eq_false (p := iand (ishr (s : Int) (k : Int)) 1 = 0) (by omega), Bool.false_and, Bool.and_false]
      | false =>
        have := h s i k (by omega) (by omega) (by omega) h1 h2
        rw [decide_eq_false (p := 0 < excV l s i k) (by omega), Bool.and_false, Bool.and_false]
  unfold subV vioB
  rw [hf, hv]; rfl
end Go.Proofs.Ytjlpjkiadohkiaa
