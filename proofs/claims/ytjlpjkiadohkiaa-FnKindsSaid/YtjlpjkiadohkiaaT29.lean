import Derived.Test.YtjlpjkiadohkiaaT25
import Derived.Test.YtjlpjkiadohkiaaHs
import Derived.Test.YtjlpjkiadohkiaaT27
set_option linter.unusedSimpArgs false
set_option linter.unusedVariables false
set_option maxHeartbeats 2000000
namespace Go.Proofs.Ytjlpjkiadohkiaa
open Go Go.Ab
attribute [local irreducible] aol
attribute [local irreducible] popN


theorem sub_lt_at {n : Int} {l : List Int} (h : subV n l = true) {s i k : Nat} (hs : s < l.length) (hik : i < k) (hk : k < n.toNat) (h1 : Nat.testBit s i = false) (h2 : Nat.testBit s k = false) : excV l s i k ≤ 0 := by
  unfold subV at h
  rw [Bool.and_eq_true, Bool.not_eq_true'] at h
  have hn := (fnV_iff.1 h.1).1
  have hlen := fnV_len h.1
  have hp6 : 2 ^ n.toNat ≤ 32 := Nat.le_trans (Nat.pow_le_pow_right (by omega) (show n.toNat ≤ 5 by omega)) (by decide)
  have hv : vioV n l = none := by
    have := h.2
    unfold vioB at this
    rw [h.1, Bool.true_and] at this
    cases hv : vioV n l with
    | none => rfl
    | some x => rw [hv] at this; cases this
  have a1 := seek2_none.1 hv s (Nat.zero_le _) (by omega)
  unfold vioS at a1
  rw [Option.map_eq_none_iff] at a1
  have a2 := seek2_none.1 a1 i (Nat.zero_le _) (by omega)
  unfold vioI at a2
  rw [Option.map_eq_none_iff] at a2
  have a3 := seek_none.1 a2 k (by omega) (by omega)
  unfold vioP at a3
  have b1 := ibit (s := s) (e := i) (by omega) (by omega)
  have b2 := ibit (s := s) (e := k) (by omega) (by omega)
  rw [h1, if_neg (by decide)] at b1
  rw [h2, if_neg (by decide)] at b2
  rw [decide_eq_true b1, decide_eq_true b2, Bool.true_and, Bool.true_and, decide_eq_false_iff_not] at a3
  omega
end Go.Proofs.Ytjlpjkiadohkiaa
