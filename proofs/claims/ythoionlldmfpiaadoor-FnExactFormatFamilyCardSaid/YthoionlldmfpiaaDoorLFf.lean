/-
  For every family the program's FormatFamily answers as the reference's: the law FnExactFormatFamily returns true, turns nothing that was there and never panics. No condition; the listed tables of Go's library are tied to the program's text.
-/
import Derived.Test.YthoionlldmfpiaaDoorT104
import Derived.Test.YthoionlldmfpiaaDoorTopD
namespace Go.Proofs.YthoionlldmfpiaaDoor
open Go Go.Ab
open Go.ChangeShapes Go.WideShapes Go.ChangeAt Go.RowKit
set_option linter.unusedVariables false

set_option maxRecDepth 100000 in
theorem fnExactFormatFamily_lifted (os : Os) (started : os.Started) (H : Type) (enc : TypeId × Value → H) :
    ReturnsInHanded {} Tryd.checked os 4 .any (fun w args => (Rows.fnExactFormatFamilySpec.pre enc Tryd.prog Tryd.f4 Rows.fnExactFormatFamilyRow.domain false w args ∧ laidMetH Tryd.prog Rows.fnExactFormatFamilyRow.laid w) ∧ sizedMet enc Tryd.prog Tryd.f4 (OpenSpec.ofChange Rows.fnExactFormatFamilySpec) false w args)
      (Rows.fnExactFormatFamilySpec.post enc Tryd.prog Tryd.f4 false true false false) := by
  refine returnsInHanded_of_calls (C := Tryd.checked) own started (by kernel_rfl)
    (ChangeSpec.witness_shaped (enc := enc) (C := Tryd.checked) (os := os) (X := fun w _ => laidMetH Tryd.prog Rows.fnExactFormatFamilyRow.laid w) false (World.laidAll Tryd.prog os Rows.fnExactFormatFamilyRow.laid) #[.agg #[.int .i64 0, .slice none 0 0]] 8 (World.laidAll_os _ _ _)
      (World.shaped_of_ZipB (by kernel_rfl) (by kernel_rfl)) (by kernel_rfl) (by kernel_rfl) (by kernel_rfl)
      (by rw [MakeChecks.laidMetH_plain _ _ _ (by kernel_rfl)]; exact laidMet_laidAll _ (by kernel_rfl) (by kernel_rfl))) ?_
  rintro w tape i _ hsh _ ⟨_, _, _, fn', hfn', _, _, _, _, hval0⟩ ⟨⟨⟨ds, gs, before, hw0, _⟩, hx⟩, _⟩ _
  cases hfn'.symm.trans Tryd.func4
  have hW := DataW.Whole.of_heap (w' := w.forCall tape i) (by rfl) hw0
  have hL : laidMetH Tryd.prog Rows.fnExactFormatFamilyRow.laid (w.forCall tape i) := hx.of_heap (by rfl)
  clear hw0 hx
  generalize w.forCall tape i = W at *
  generalize i.args = args at *
  refine Calls.mono (R := fun e W' => ∃ v, e = .returned v ∧ Rows.fnExactFormatFamilySpec.post enc Tryd.prog Tryd.f4 false true false false W args v W') ?_ (by rintro _ W' ⟨v, rfl, hp⟩; exact ChangeSpec.post_blind hp)
  have hgw : GW Tryd.prog W := gw_of (by kernel_rfl) hsh (by kernel_rfl) hL
  have hval : ∀ (j : Nat) t v, Tryd.f4.params[j]? = some t → args[j]? = some v → Value.okWide Tryd.prog W .any w.heap.size t v := hval0
  have hW' := hW
  obtain ⟨p, q, hA0, hV, rfl, hfz, hnd⟩ := hW
  have hA : DataW.TrodAll enc Tryd.prog W 0 (fun _ => true) true Tryd.f4.params.toList args.toList ds p := hA0
  rw [Tryd.params4] at hA hval
  obtain ⟨v0, vs0, d0, ds0, p0, q0, hargs, rfl, rfl, h0, r0⟩ := trodAll_cons hA
  obtain ⟨rfl, rfl, rfl⟩ := trodAll_nil r0
  obtain rfl : args = #[v0] := by cases args; simp_all
  obtain ⟨rfl, rfl⟩ := trodVars_none hV
  obtain ⟨a0, l0, x0, b0, c0⟩ := op_pair (c := cx0 Tryd.prog W) (ρ := fun _ => none) rfl inX Tryd.underlying26 (by kernel_rfl) (by kernel_rfl) rfl rfl (by kernel_rfl) Tryd.underlying3 Tryd.underlying24 Tryd.underlying3 (by kernel_rfl) (hval 0 _ v0 rfl rfl) h0
  clear hA0 hval0
  refine (law_call (args := [.ag [.i a0, .sl .i64 l0]]) (vs := [v0]) exactFf_ok ⟨_, rfl, trivial⟩ hgw (rvs_cons x0 rvs_nil)).mono fun e W' ⟨he, bel⟩ => ?_
  subst he
  exact ⟨_, rfl, _, _, _, [], _, [], hW', trodAll_mk1 (shut_bool Tryd.underlying4 _), (trodAll_cons_mk (Below.trod laidOut (by kernel_rfl) (of_decide_eq_true (by kernel_rfl)) h0 bel (trod_low h0)) trodAll_mk0), rfl, bel.frame _, fun h => by cases h⟩

theorem fnExactFormatFamily_over : Rows.fnExactFormatFamilyRow.holds Tryd.pinned (OpenSpec.ofChange Rows.fnExactFormatFamilySpec) :=
  OpenClaim.holds_of_wide 4 Tryd.f4 rfl rfl rfl rfl rfl rfl rfl ⟨rfl, rfl, rfl, rfl, rfl⟩ rfl rfl rfl rfl rfl (by kernel_rfl) Tryd.func4 (by kernel_rfl)
    (of_decide_eq_true (by kernel_rfl)) (by unfold Func.isWrapper; first | (rw [if_pos (by decide +kernel)]; kernel_rfl) | (rw [if_neg (by decide +kernel)]; exact ⟨rfl, rfl⟩))
    (fun os started H enc _ => fnExactFormatFamily_lifted os started H enc)

/-- THE STATEMENT: the tied card. -/
theorem fnExactFormatFamily_proved : Rows.FnExactFormatFamilyCardSaid :=
  Claim7.holds_tied_plain_at .later [] [.data, .data, .data] true Rows.fnExactFormatFamilyCard.stood.harness false fnExactFormatFamily_over (fun _ h => by cases h) (by kernel_rfl) (fun _ h => by cases h) fnExactFormatFamily_row_tie rfl ⟨rfl, rfl⟩ (by kernel_rfl) rfl
    (fun f fn hf hfn => by
      obtain rfl : f = 4 := Option.some.inj ((show Tryd.prog.funcNamed Rows.fnExactFormatFamilyRow.func = some 4 by kernel_rfl).symm.trans hf) |>.symm
      obtain rfl : fn = Tryd.f4 := (Option.some.inj (Tryd.func4.symm.trans hfn)).symm
      exact ⟨by kernel_rfl, fun j t ht => by
        rw [Tryd.params4] at ht
        have hm : t ∈ [26] := by simpa using Array.mem_of_getElem? ht
        have hall : ([26].all fun u => !Tryd.prog.wantsStandIn u) = true := by kernel_rfl
        exact (show Tryd.prog.wantsStandIn t = false by simpa using List.all_eq_true.1 hall t hm)⟩)
    (by kernel_rfl)
#print axioms fnExactFormatFamily_proved
end Go.Proofs.YthoionlldmfpiaaDoor
