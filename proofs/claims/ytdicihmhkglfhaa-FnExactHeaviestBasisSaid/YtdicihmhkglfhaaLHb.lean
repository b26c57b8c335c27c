/-
  The program's HeaviestBasis answers as the reference's, for all functions and weights.
-/
import Derived.Test.YtdicihmhkglfhaaT50
import Derived.Test.YtdicihmhkglfhaaTop
import Derived.Test.YtdicihmhkglfhaaRows
namespace Go.Proofs.Ytdicihmhkglfhaa
open Go Go.Ab
open Go.ChangeShapes Go.WideShapes Go.ChangeAt Go.RowKit
set_option linter.unusedVariables false

set_option maxRecDepth 100000 in
theorem fnExactHeaviestBasis_lifted (os : Os) (started : os.Started) (H : Type) (enc : TypeId × Value → H) :
    ReturnsInHanded {} Try.checked os 4 .any (Rows.fnExactHeaviestBasisSpec.pre6 enc Try.prog Try.f4 Rows.fnExactHeaviestBasisRow.domain false) (Rows.fnExactHeaviestBasisSpec.post enc Try.prog Try.f4 false true false false) := by
  refine returnsInHanded_of_change (C := Try.checked) own started (by kernel_rfl) Try.func4
    (ChangeSpec.witness6 (enc := enc) (C := Try.checked) false ⟨#[], #[.agg #[.int .i64 0, .slice none 0 0], .slice none 0 0], []⟩ 8 (by kernel_rfl) (by kernel_rfl) (by kernel_rfl) (by kernel_rfl)) ?_
  intro W base args ds gs before hval0 hW hcnd _
  have hval : ∀ (j : Nat) t v, Try.f4.params[j]? = some t → args[j]? = some v → Value.okWide Try.prog W .any base t v := hval0
  have hW' := hW
  obtain ⟨p, q, hA0, hV, rfl, hfz, hnd⟩ := hW
  have hA : DataW.TrodAll enc Try.prog W 0 (fun _ => true) true Try.f4.params.toList args.toList ds p := hA0
  rw [Try.params4] at hA hval
  obtain ⟨v0, vs0, d0, ds0, p0, q0, hargs, rfl, rfl, h0, r0⟩ := trodAll_cons hA
  obtain ⟨v1, vs1, d1, ds1, p1, q1, rfl, rfl, rfl, h1, r1⟩ := trodAll_cons r0
  obtain ⟨rfl, rfl, rfl⟩ := trodAll_nil r1
  obtain rfl : args = #[v0, v1] := by cases args; simp_all
  obtain ⟨rfl, rfl⟩ := trodVars_none hV
  obtain ⟨a0, l0, x0, b0, c0⟩ := op_pair (c := cx0 Try.prog W) (ρ := fun _ => none) rfl inX Try.underlying24 (by kernel_rfl) (by kernel_rfl) rfl rfl (by kernel_rfl) Try.underlying3 Try.underlying22 Try.underlying3 (by kernel_rfl) (hval 0 _ v0 rfl rfl) h0
  obtain ⟨l1, x1, b1⟩ := op_ints (c := cx0 Try.prog W) (ρ := fun _ => none) rfl inX Try.underlying22 Try.underlying3 (by kernel_rfl) (hval 1 _ v1 rfl rfl) h1
  clear hA0 hval0
  refine (law_call (args := [.ag [.i a0, .sl .i64 l0], .sl .i64 l1]) (vs := [v0, v1]) exactHb_ok ⟨_, rfl, trivial⟩ (rvs_cons x0 (rvs_cons x1 rvs_nil))).mono fun e W' ⟨he, bel⟩ => ?_
  subst he
  exact ⟨_, rfl, _, _, _, [], _, [], hW', trodAll_mk1 (shut_bool Try.underlying4 _), (trodAll_cons_mk (Below.trod laidOut (by kernel_rfl) (of_decide_eq_true (by kernel_rfl)) h0 bel (trod_low h0)) (trodAll_cons_mk (Below.trod laidOut (by kernel_rfl) (of_decide_eq_true (by kernel_rfl)) h1 bel (trod_low h1)) trodAll_mk0)), rfl, bel.frame _, fun h => by cases h⟩

theorem fnExactHeaviestBasis_over : Rows.fnExactHeaviestBasisRow.holds Try.pinned (OpenSpec.ofChange Rows.fnExactHeaviestBasisSpec) :=
  OpenClaim.holds_of_wide 4 Try.f4 rfl rfl rfl rfl rfl rfl rfl ⟨rfl, rfl, rfl, rfl, rfl⟩ rfl rfl rfl rfl rfl (by kernel_rfl) Try.func4 (by kernel_rfl)
    (of_decide_eq_true (by kernel_rfl)) (by unfold Func.isWrapper; first | (rw [if_pos (by decide +kernel)]; kernel_rfl) | (rw [if_neg (by decide +kernel)]; exact ⟨rfl, rfl⟩))
    (fun os started H enc _ => fnExactHeaviestBasis_lifted os started H enc)

/-- THE STATEMENT. -/
theorem fnExactHeaviestBasis_proved : Rows.FnExactHeaviestBasisSaid := fnExactHeaviestBasis_over
#print axioms fnExactHeaviestBasis_proved
end Go.Proofs.Ytdicihmhkglfhaa
