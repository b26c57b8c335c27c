/-
  The program's FamilyOf answers as the reference's, for all numbers and lists.
-/
import Derived.Test.YtdicihmhkglfhaaT39
import Derived.Test.YtdicihmhkglfhaaTop
import Derived.Test.YtdicihmhkglfhaaRows
namespace Go.Proofs.Ytdicihmhkglfhaa
open Go Go.Ab
open Go.ChangeShapes Go.WideShapes Go.ChangeAt Go.RowKit
set_option linter.unusedVariables false

set_option maxRecDepth 100000 in
theorem fnExactFamilyOf_lifted (os : Os) (started : os.Started) (H : Type) (enc : TypeId × Value → H) :
    ReturnsInHanded {} Try.checked os 5 .any (Rows.fnExactFamilyOfSpec.pre6 enc Try.prog Try.f5 Rows.fnExactFamilyOfRow.domain false) (Rows.fnExactFamilyOfSpec.post enc Try.prog Try.f5 false true false false) := by
  refine returnsInHanded_of_change (C := Try.checked) own started (by kernel_rfl) Try.func5
    (ChangeSpec.witness6 (enc := enc) (C := Try.checked) false ⟨#[], #[.int .i64 0, .slice none 0 0], []⟩ 8 (by kernel_rfl) (by kernel_rfl) (by kernel_rfl) (by kernel_rfl)) ?_
  intro W base args ds gs before hval0 hW hcnd _
  have hval : ∀ (j : Nat) t v, Try.f5.params[j]? = some t → args[j]? = some v → Value.okWide Try.prog W .any base t v := hval0
  have hW' := hW
  obtain ⟨p, q, hA0, hV, rfl, hfz, hnd⟩ := hW
  have hA : DataW.TrodAll enc Try.prog W 0 (fun _ => true) true Try.f5.params.toList args.toList ds p := hA0
  rw [Try.params5] at hA hval
  obtain ⟨v0, vs0, d0, ds0, p0, q0, hargs, rfl, rfl, h0, r0⟩ := trodAll_cons hA
  obtain ⟨v1, vs1, d1, ds1, p1, q1, rfl, rfl, rfl, h1, r1⟩ := trodAll_cons r0
  obtain ⟨rfl, rfl, rfl⟩ := trodAll_nil r1
  obtain rfl : args = #[v0, v1] := by cases args; simp_all
  obtain ⟨rfl, rfl⟩ := trodVars_none hV
  obtain ⟨a0, x0, b0⟩ := op_int (c := cx0 Try.prog W) (ρ := fun _ => none) Try.underlying3 (hval 0 _ v0 rfl rfl) h0
  obtain ⟨l1, x1, b1⟩ := op_ints (c := cx0 Try.prog W) (ρ := fun _ => none) rfl inX Try.underlying22 Try.underlying3 (by kernel_rfl) (hval 1 _ v1 rfl rfl) h1
  clear hA0 hval0
  refine (law_call (args := [.i a0, .sl .i64 l1]) (vs := [v0, v1]) exactFo_ok ⟨_, rfl, trivial⟩ (rvs_cons x0 (rvs_cons x1 rvs_nil))).mono fun e W' ⟨he, bel⟩ => ?_
  subst he
  exact ⟨_, rfl, _, _, _, [], _, [], hW', trodAll_mk1 (shut_bool Try.underlying4 _), (trodAll_cons_mk (Below.trod laidOut (by kernel_rfl) (of_decide_eq_true (by kernel_rfl)) h0 bel (trod_low h0)) (trodAll_cons_mk (Below.trod laidOut (by kernel_rfl) (of_decide_eq_true (by kernel_rfl)) h1 bel (trod_low h1)) trodAll_mk0)), rfl, bel.frame _, fun h => by cases h⟩

theorem fnExactFamilyOf_over : Rows.fnExactFamilyOfRow.holds Try.pinned (OpenSpec.ofChange Rows.fnExactFamilyOfSpec) :=
  OpenClaim.holds_of_wide 5 Try.f5 rfl rfl rfl rfl rfl rfl rfl ⟨rfl, rfl, rfl, rfl, rfl⟩ rfl rfl rfl rfl rfl (by kernel_rfl) Try.func5 (by kernel_rfl)
    (of_decide_eq_true (by kernel_rfl)) (by unfold Func.isWrapper; first | (rw [if_pos (by decide +kernel)]; kernel_rfl) | (rw [if_neg (by decide +kernel)]; exact ⟨rfl, rfl⟩))
    (fun os started H enc _ => fnExactFamilyOf_lifted os started H enc)

/-- THE STATEMENT. -/
theorem fnExactFamilyOf_proved : Rows.FnExactFamilyOfSaid := fnExactFamilyOf_over
#print axioms fnExactFamilyOf_proved
end Go.Proofs.Ytdicihmhkglfhaa
