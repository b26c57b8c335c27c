/-
  The program's PartsOf answers as the reference's, for all functions and sets.
-/
import Derived.Test.YtjbnldgnoloobaaT26
import Derived.Test.YtjbnldgnoloobaaTop
import Derived.Test.YtjbnldgnoloobaaRows
namespace Go.Proofs.Ytjbnldgnoloobaa
open Go Go.Ab
open Go.ChangeShapes Go.WideShapes Go.ChangeAt Go.RowKit
set_option linter.unusedVariables false

set_option maxRecDepth 100000 in
theorem fnExactPartsOf_lifted (os : Os) (started : os.Started) (H : Type) (enc : TypeId × Value → H) :
    ReturnsInHanded {} Try.checked os 6 .any (Rows.fnExactPartsOfSpec.pre6 enc Try.prog Try.f6 Rows.fnExactPartsOfRow.domain false) (Rows.fnExactPartsOfSpec.post enc Try.prog Try.f6 false true false false) := by
  refine returnsInHanded_of_change (C := Try.checked) own started (by kernel_rfl) Try.func6
    (ChangeSpec.witness6 (enc := enc) (C := Try.checked) false ⟨#[], #[.agg #[.int .i64 0, .slice none 0 0], .agg #[.int .i64 0, .slice none 0 0], .int .i64 0], []⟩ 8 (by kernel_rfl) (by kernel_rfl) (by kernel_rfl) (by kernel_rfl)) ?_
  intro W base args ds gs before hval0 hW hcnd _
  have hval : ∀ (j : Nat) t v, Try.f6.params[j]? = some t → args[j]? = some v → Value.okWide Try.prog W .any base t v := hval0
  have hW' := hW
  obtain ⟨p, q, hA0, hV, rfl, hfz, hnd⟩ := hW
  have hA : DataW.TrodAll enc Try.prog W 0 (fun _ => true) true Try.f6.params.toList args.toList ds p := hA0
  rw [Try.params6] at hA hval
  obtain ⟨v0, vs0, d0, ds0, p0, q0, hargs, rfl, rfl, h0, r0⟩ := trodAll_cons hA
  obtain ⟨v1, vs1, d1, ds1, p1, q1, rfl, rfl, rfl, h1, r1⟩ := trodAll_cons r0
  obtain ⟨v2, vs2, d2, ds2, p2, q2, rfl, rfl, rfl, h2, r2⟩ := trodAll_cons r1
  obtain ⟨rfl, rfl, rfl⟩ := trodAll_nil r2
  obtain rfl : args = #[v0, v1, v2] := by cases args; simp_all
  obtain ⟨rfl, rfl⟩ := trodVars_none hV
  obtain ⟨a0, l0, x0, b0, c0⟩ := op_pair (c := cx0 Try.prog W) (ρ := fun _ => none) rfl inX Try.underlying24 (by kernel_rfl) (by kernel_rfl) rfl rfl (by kernel_rfl) Try.underlying3 Try.underlying22 Try.underlying3 (by kernel_rfl) (hval 0 _ v0 rfl rfl) h0
  obtain ⟨a1, l1, x1, b1, c1⟩ := op_pair (c := cx0 Try.prog W) (ρ := fun _ => none) rfl inX Try.underlying24 (by kernel_rfl) (by kernel_rfl) rfl rfl (by kernel_rfl) Try.underlying3 Try.underlying22 Try.underlying3 (by kernel_rfl) (hval 1 _ v1 rfl rfl) h1
  obtain ⟨a2, x2, b2⟩ := op_int (c := cx0 Try.prog W) (ρ := fun _ => none) Try.underlying3 (hval 2 _ v2 rfl rfl) h2
  clear hA0 hval0
  refine (law_call (args := [.ag [.i a0, .sl .i64 l0], .ag [.i a1, .sl .i64 l1], .i a2]) (vs := [v0, v1, v2]) exactPt_ok ⟨_, rfl, trivial⟩ (rvs_cons x0 (rvs_cons x1 (rvs_cons x2 rvs_nil)))).mono fun e W' ⟨he, bel⟩ => ?_
  subst he
  exact ⟨_, rfl, _, _, _, [], _, [], hW', trodAll_mk1 (shut_bool Try.underlying4 _), (trodAll_cons_mk (Below.trod laidOut (by kernel_rfl) (of_decide_eq_true (by kernel_rfl)) h0 bel (trod_low h0)) (trodAll_cons_mk (Below.trod laidOut (by kernel_rfl) (of_decide_eq_true (by kernel_rfl)) h1 bel (trod_low h1)) (trodAll_cons_mk (Below.trod laidOut (by kernel_rfl) (of_decide_eq_true (by kernel_rfl)) h2 bel (trod_low h2)) trodAll_mk0))), rfl, bel.frame _, fun h => by cases h⟩

theorem fnExactPartsOf_over : Rows.fnExactPartsOfRow.holds Try.pinned (OpenSpec.ofChange Rows.fnExactPartsOfSpec) :=
  OpenClaim.holds_of_wide 6 Try.f6 rfl rfl rfl rfl rfl rfl rfl ⟨rfl, rfl, rfl, rfl, rfl⟩ rfl rfl rfl rfl rfl (by kernel_rfl) Try.func6 (by kernel_rfl)
    (of_decide_eq_true (by kernel_rfl)) (by unfold Func.isWrapper; first | (rw [if_pos (by decide +kernel)]; kernel_rfl) | (rw [if_neg (by decide +kernel)]; exact ⟨rfl, rfl⟩))
    (fun os started H enc _ => fnExactPartsOf_lifted os started H enc)

/-- THE STATEMENT. -/
theorem fnExactPartsOf_proved : Rows.FnExactPartsOfSaid := fnExactPartsOf_over
#print axioms fnExactPartsOf_proved
end Go.Proofs.Ytjbnldgnoloobaa
