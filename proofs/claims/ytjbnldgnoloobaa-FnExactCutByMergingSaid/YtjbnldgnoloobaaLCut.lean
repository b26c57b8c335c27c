/-
  The program's CutByMerging answers as the reference's, for all functions.
-/
import Derived.Test.YtjbnldgnoloobaaT35
import Derived.Test.YtjbnldgnoloobaaTop
import Derived.Test.YtjbnldgnoloobaaRows
namespace Go.Proofs.Ytjbnldgnoloobaa
open Go Go.Ab
open Go.ChangeShapes Go.WideShapes Go.ChangeAt Go.RowKit
set_option linter.unusedVariables false

set_option maxRecDepth 100000 in
theorem fnExactCutByMerging_lifted (os : Os) (started : os.Started) (H : Type) (enc : TypeId × Value → H) :
    ReturnsInHanded {} Try.checked os 13 .any (Rows.fnExactCutByMergingSpec.pre6 enc Try.prog Try.f13 Rows.fnExactCutByMergingRow.domain false) (Rows.fnExactCutByMergingSpec.post enc Try.prog Try.f13 false true false false) := by
  refine returnsInHanded_of_change (C := Try.checked) own started (by kernel_rfl) Try.func13
    (ChangeSpec.witness6 (enc := enc) (C := Try.checked) false ⟨#[], #[.agg #[.int .i64 0, .slice none 0 0]], []⟩ 8 (by kernel_rfl) (by kernel_rfl) (by kernel_rfl) (by kernel_rfl)) ?_
  intro W base args ds gs before hval0 hW hcnd _
  have hval : ∀ (j : Nat) t v, Try.f13.params[j]? = some t → args[j]? = some v → Value.okWide Try.prog W .any base t v := hval0
  have hW' := hW
  obtain ⟨p, q, hA0, hV, rfl, hfz, hnd⟩ := hW
  have hA : DataW.TrodAll enc Try.prog W 0 (fun _ => true) true Try.f13.params.toList args.toList ds p := hA0
  rw [Try.params13] at hA hval
  obtain ⟨v0, vs0, d0, ds0, p0, q0, hargs, rfl, rfl, h0, r0⟩ := trodAll_cons hA
  obtain ⟨rfl, rfl, rfl⟩ := trodAll_nil r0
  obtain rfl : args = #[v0] := by cases args; simp_all
  obtain ⟨rfl, rfl⟩ := trodVars_none hV
  obtain ⟨a0, l0, x0, b0, c0⟩ := op_pair (c := cx0 Try.prog W) (ρ := fun _ => none) rfl inX Try.underlying24 (by kernel_rfl) (by kernel_rfl) rfl rfl (by kernel_rfl) Try.underlying3 Try.underlying22 Try.underlying3 (by kernel_rfl) (hval 0 _ v0 rfl rfl) h0
  clear hA0 hval0
  refine (law_call (args := [.ag [.i a0, .sl .i64 l0]]) (vs := [v0]) exactCut_ok ⟨_, rfl, trivial⟩ (rvs_cons x0 rvs_nil)).mono fun e W' ⟨he, bel⟩ => ?_
  subst he
  exact ⟨_, rfl, _, _, _, [], _, [], hW', trodAll_mk1 (shut_bool Try.underlying4 _), (trodAll_cons_mk (Below.trod laidOut (by kernel_rfl) (of_decide_eq_true (by kernel_rfl)) h0 bel (trod_low h0)) trodAll_mk0), rfl, bel.frame _, fun h => by cases h⟩

theorem fnExactCutByMerging_over : Rows.fnExactCutByMergingRow.holds Try.pinned (OpenSpec.ofChange Rows.fnExactCutByMergingSpec) :=
  OpenClaim.holds_of_wide 13 Try.f13 rfl rfl rfl rfl rfl rfl rfl ⟨rfl, rfl, rfl, rfl, rfl⟩ rfl rfl rfl rfl rfl (by kernel_rfl) Try.func13 (by kernel_rfl)
    (of_decide_eq_true (by kernel_rfl)) (by unfold Func.isWrapper; first | (rw [if_pos (by decide +kernel)]; kernel_rfl) | (rw [if_neg (by decide +kernel)]; exact ⟨rfl, rfl⟩))
    (fun os started H enc _ => fnExactCutByMerging_lifted os started H enc)

/-- THE STATEMENT. -/
theorem fnExactCutByMerging_proved : Rows.FnExactCutByMergingSaid := fnExactCutByMerging_over
#print axioms fnExactCutByMerging_proved
end Go.Proofs.Ytjbnldgnoloobaa
