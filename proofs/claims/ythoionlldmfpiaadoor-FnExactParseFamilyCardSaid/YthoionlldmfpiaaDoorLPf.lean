/-
  For every number n and every text s the program's ParseFamily answers as the reference's, and hands out memory of its own: the law FnExactParseFamily returns true, turns nothing that was there and never panics. No condition; the listed tables of Go's library are tied to the program's text.
-/
import Derived.Test.YthoionlldmfpiaaDoorT105
import Derived.Test.YthoionlldmfpiaaDoorTopD
namespace Go.Proofs.YthoionlldmfpiaaDoor
open Go Go.Ab
open Go.ChangeShapes Go.WideShapes Go.ChangeAt Go.RowKit
set_option linter.unusedVariables false

set_option maxRecDepth 100000 in
theorem fnExactParseFamily_lifted (os : Os) (started : os.Started) (H : Type) (enc : TypeId × Value → H) :
    ReturnsInHanded {} Tryd.checked os 6 .any (fun w args => (Rows.fnExactParseFamilySpec.pre enc Tryd.prog Tryd.f6 Rows.fnExactParseFamilyRow.domain false w args ∧ laidMetH Tryd.prog Rows.fnExactParseFamilyRow.laid w) ∧ sizedMet enc Tryd.prog Tryd.f6 (OpenSpec.ofChange Rows.fnExactParseFamilySpec) false w args)
      (Rows.fnExactParseFamilySpec.post enc Tryd.prog Tryd.f6 false true false false) := by
  refine returnsInHanded_of_calls (C := Tryd.checked) own started (by kernel_rfl)
    (ChangeSpec.witness_shaped (enc := enc) (C := Tryd.checked) (os := os) (X := fun w _ => laidMetH Tryd.prog Rows.fnExactParseFamilyRow.laid w) false (World.laidAll Tryd.prog os Rows.fnExactParseFamilyRow.laid) #[.int .i64 0, .string ⟨#[]⟩] 8 (World.laidAll_os _ _ _)
      (World.shaped_of_ZipB (by kernel_rfl) (by kernel_rfl)) (by kernel_rfl) (by kernel_rfl) (by kernel_rfl)
      (by rw [MakeChecks.laidMetH_plain _ _ _ (by kernel_rfl)]; exact laidMet_laidAll _ (by kernel_rfl) (by kernel_rfl))) ?_
  rintro w tape i _ hsh _ ⟨_, _, _, fn', hfn', _, _, _, _, hval0⟩ ⟨⟨⟨ds, gs, before, hw0, _⟩, hx⟩, _⟩ _
  cases hfn'.symm.trans Tryd.func6
  have hW := DataW.Whole.of_heap (w' := w.forCall tape i) (by rfl) hw0
  have hL : laidMetH Tryd.prog Rows.fnExactParseFamilyRow.laid (w.forCall tape i) := hx.of_heap (by rfl)
  clear hw0 hx
  generalize w.forCall tape i = W at *
  generalize i.args = args at *
  refine Calls.mono (R := fun e W' => ∃ v, e = .returned v ∧ Rows.fnExactParseFamilySpec.post enc Tryd.prog Tryd.f6 false true false false W args v W') ?_ (by rintro _ W' ⟨v, rfl, hp⟩; exact ChangeSpec.post_blind hp)
  have hgw : GW Tryd.prog W := gw_of (by kernel_rfl) hsh (by kernel_rfl) hL
  have hval : ∀ (j : Nat) t v, Tryd.f6.params[j]? = some t → args[j]? = some v → Value.okWide Tryd.prog W .any w.heap.size t v := hval0
  have hW' := hW
  obtain ⟨p, q, hA0, hV, rfl, hfz, hnd⟩ := hW
  have hA : DataW.TrodAll enc Tryd.prog W 0 (fun _ => true) true Tryd.f6.params.toList args.toList ds p := hA0
  rw [Tryd.params6] at hA hval
  obtain ⟨v0, vs0, d0, ds0, p0, q0, hargs, rfl, rfl, h0, r0⟩ := trodAll_cons hA
  obtain ⟨v1, vs1, d1, ds1, p1, q1, rfl, rfl, rfl, h1, r1⟩ := trodAll_cons r0
  obtain ⟨rfl, rfl, rfl⟩ := trodAll_nil r1
  obtain rfl : args = #[v0, v1] := by cases args; simp_all
  obtain ⟨rfl, rfl⟩ := trodVars_none hV
  obtain ⟨a0, x0, b0⟩ := op_int (c := cx0 Tryd.prog W) (ρ := fun _ => none) Tryd.underlying3 (hval 0 _ v0 rfl rfl) h0
  obtain ⟨s1, x1, b1⟩ := op_str (c := cx0 Tryd.prog W) (ρ := fun _ => none) Tryd.underlying9 (hval 1 _ v1 rfl rfl) h1
  clear hA0 hval0
  refine (law_call (args := [.i a0, .v (.string s1)]) (vs := [v0, v1]) exactPf_ok ⟨_, rfl, trivial⟩ hgw (rvs_cons x0 (rvs_cons x1 rvs_nil))).mono fun e W' ⟨he, bel⟩ => ?_
  subst he
  exact ⟨_, rfl, _, _, _, [], _, [], hW', trodAll_mk1 (shut_bool Tryd.underlying4 _), (trodAll_cons_mk (Below.trod laidOut (by kernel_rfl) (of_decide_eq_true (by kernel_rfl)) h0 bel (trod_low h0)) (trodAll_cons_mk (Below.trod laidOut (by kernel_rfl) (of_decide_eq_true (by kernel_rfl)) h1 bel (trod_low h1)) trodAll_mk0)), rfl, bel.frame _, fun h => by cases h⟩

theorem fnExactParseFamily_over : Rows.fnExactParseFamilyRow.holds Tryd.pinned (OpenSpec.ofChange Rows.fnExactParseFamilySpec) :=
  OpenClaim.holds_of_wide 6 Tryd.f6 rfl rfl rfl rfl rfl rfl rfl ⟨rfl, rfl, rfl, rfl, rfl⟩ rfl rfl rfl rfl rfl (by kernel_rfl) Tryd.func6 (by kernel_rfl)
    (of_decide_eq_true (by kernel_rfl)) (by unfold Func.isWrapper; first | (rw [if_pos (by decide +kernel)]; kernel_rfl) | (rw [if_neg (by decide +kernel)]; exact ⟨rfl, rfl⟩))
    (fun os started H enc _ => fnExactParseFamily_lifted os started H enc)

/-- THE STATEMENT: the tied card. -/
theorem fnExactParseFamily_proved : Rows.FnExactParseFamilyCardSaid :=
  Claim7.holds_tied_plain_at .later [] [.data, .data, .data, .data, .pinned] true Rows.fnExactParseFamilyCard.stood.harness false fnExactParseFamily_over (fun _ h => by cases h) (by kernel_rfl) (fun _ h => by cases h) fnExactParseFamily_row_tie rfl ⟨rfl, rfl⟩ (by kernel_rfl) rfl
    (fun f fn hf hfn => by
      obtain rfl : f = 6 := Option.some.inj ((show Tryd.prog.funcNamed Rows.fnExactParseFamilyRow.func = some 6 by kernel_rfl).symm.trans hf) |>.symm
      obtain rfl : fn = Tryd.f6 := (Option.some.inj (Tryd.func6.symm.trans hfn)).symm
      exact ⟨by kernel_rfl, fun j t ht => by
        rw [Tryd.params6] at ht
        have hm : t ∈ [3, 9] := by simpa using Array.mem_of_getElem? ht
        have hall : ([3, 9].all fun u => !Tryd.prog.wantsStandIn u) = true := by kernel_rfl
        exact (show Tryd.prog.wantsStandIn t = false by simpa using List.all_eq_true.1 hall t hm)⟩)
    (by kernel_rfl)
#print axioms fnExactParseFamily_proved
end Go.Proofs.YthoionlldmfpiaaDoor
