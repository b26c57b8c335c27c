/-
  Bases have the exchange property and give the rank back, duals have the complements as bases and greed finds the heaviest basis: FnMatroids answers true for all codes.
-/
import Derived.Test.YthoionlldmfpiaaGreatT93
import Derived.Test.YthoionlldmfpiaaGreatTop
import Derived.Test.YthoionlldmfpiaaGreatRows
namespace Go.Proofs.YthoionlldmfpiaaGreat
open Go Go.Ab
open Go.ChangeShapes Go.WideShapes Go.ChangeAt Go.RowKit
set_option linter.unusedVariables false

set_option maxRecDepth 100000 in
theorem fnMatroids_lifted (os : Os) (started : os.Started) (H : Type) (enc : TypeId × Value → H) :
    ReturnsInHanded {} Tryz.checked os 3 .any (Rows.fnMatroidsSpec.pre6 enc Tryz.prog Tryz.f3 Rows.fnMatroidsRow.domain false) (Rows.fnMatroidsSpec.post enc Tryz.prog Tryz.f3 false true false false) := by
  refine returnsInHanded_of_change (C := Tryz.checked) own started (by kernel_rfl) Tryz.func3
    (ChangeSpec.witness6 (enc := enc) (C := Tryz.checked) false ⟨#[], #[.slice none 0 0], []⟩ 8 (by kernel_rfl) (by kernel_rfl) (by kernel_rfl) (by kernel_rfl)) ?_
  intro W base args ds gs before hval0 hW hcnd _
  have hval : ∀ (j : Nat) t v, Tryz.f3.params[j]? = some t → args[j]? = some v → Value.okWide Tryz.prog W .any base t v := hval0
  have hW' := hW
  obtain ⟨p, q, hA0, hV, rfl, hfz, hnd⟩ := hW
  have hA : DataW.TrodAll enc Tryz.prog W 0 (fun _ => true) true Tryz.f3.params.toList args.toList ds p := hA0
  rw [Tryz.params3] at hA hval
  obtain ⟨v0, vs0, d0, ds0, p0, q0, hargs, rfl, rfl, h0, r0⟩ := trodAll_cons hA
  obtain ⟨rfl, rfl, rfl⟩ := trodAll_nil r0
  obtain rfl : args = #[v0] := by cases args; simp_all
  obtain ⟨rfl, rfl⟩ := trodVars_none hV
  obtain ⟨l0, x0, b0⟩ := op_ints (c := cx0 Tryz.prog W) (ρ := fun _ => none) rfl inX Tryz.underlying22 Tryz.underlying5 (by kernel_rfl) (hval 0 _ v0 rfl rfl) h0
  clear hA0 hval0
  refine (law_call (args := [.sl .u8 l0]) (vs := [v0]) lawMtr_ok ⟨_, rfl, trivial⟩ (rvs_cons x0 rvs_nil)).mono fun e W' ⟨he, bel⟩ => ?_
  subst he
  exact ⟨_, rfl, _, _, _, [], _, [], hW', trodAll_mk1 (shut_bool Tryz.underlying4 _), (trodAll_cons_mk (Below.trod laidOut (by kernel_rfl) (of_decide_eq_true (by kernel_rfl)) h0 bel (trod_low h0)) trodAll_mk0), rfl, bel.frame _, fun h => by cases h⟩

theorem fnMatroids_over : Rows.fnMatroidsRow.holds Tryz.pinned (OpenSpec.ofChange Rows.fnMatroidsSpec) :=
  OpenClaim.holds_of_wide 3 Tryz.f3 rfl rfl rfl rfl rfl rfl rfl ⟨rfl, rfl, rfl, rfl, rfl⟩ rfl rfl rfl rfl rfl (by kernel_rfl) Tryz.func3 (by kernel_rfl)
    (of_decide_eq_true (by kernel_rfl)) (by unfold Func.isWrapper; first | (rw [if_pos (by decide +kernel)]; kernel_rfl) | (rw [if_neg (by decide +kernel)]; exact ⟨rfl, rfl⟩))
    (fun os started H enc _ => fnMatroids_lifted os started H enc)

/-- THE STATEMENT. -/
theorem fnMatroids_proved : Rows.FnMatroidsSaid := fnMatroids_over
#print axioms fnMatroids_proved
end Go.Proofs.YthoionlldmfpiaaGreat
