import Derived.Test.YtjlpjkiadohkiaaT13
import Derived.Test.YtjlpjkiadohkiaaHs
import Derived.Test.YtjlpjkiadohkiaaT25
set_option linter.unusedSimpArgs false
set_option linter.unusedVariables false
set_option maxHeartbeats 2000000
namespace Go.Proofs.Ytjlpjkiadohkiaa
open Go Go.Ab
attribute [local irreducible] aol
attribute [local irreducible] popN


def mkL (f : Int → Int) (m : Nat) : List Int := (List.range m).map fun (i : Nat) => f (i : Int)
theorem mkL_succ {f : Int → Int} {m : Nat} : mkL f (m + 1) = mkL f m ++ [f (m : Int)] := by unfold mkL; rw [List.range_succ, List.map_append]; rfl
theorem mkL_len (f : Int → Int) (m : Nat) : (mkL f m).length = m := by simp [mkL]
theorem mk_fn {n : Int} {f : Int → Int} (hn : 0 ≤ n ∧ n ≤ 5) (h : ∀ k : Nat, k < 2 ^ n.toNat → -1000 ≤ f (k : Int) ∧ f (k : Int) ≤ 1000) : fnV n (mkL f (2 ^ n.toNat)) = true := by
  rw [fnV_iff]
  refine ⟨hn, by rw [mkL_len]; simp, ?_⟩
  rw [List.all_eq_true]
  intro x hx
  unfold mkL at hx
  simp only [List.mem_map, List.mem_range] at hx
  obtain ⟨k, hk, rfl⟩ := hx
  rw [inR_iff]; exact h k hk
theorem mkL_congr {f g : Int → Int} {m : Nat} (h : ∀ k : Nat, k < m → f (k : Int) = g (k : Int)) : mkL f m = mkL g m := by
  unfold mkL
  exact List.map_congr_left fun k hk => h k (List.mem_range.1 hk)
theorem or0_t (g : Int) : or0 true g = g := rfl
theorem orE_t (l : List Int) : orE true l = l := rfl
end Go.Proofs.Ytjlpjkiadohkiaa
