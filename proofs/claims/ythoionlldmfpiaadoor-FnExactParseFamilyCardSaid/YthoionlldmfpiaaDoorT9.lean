import Derived.Test.YthoionlldmfpiaaDoorHs
import Derived.Test.YthoionlldmfpiaaDoorT8
set_option linter.unusedSimpArgs false
set_option linter.unusedVariables false
set_option maxHeartbeats 2000000
namespace Go.Proofs.YthoionlldmfpiaaDoor
open Go Go.Ab
attribute [local irreducible] aol
def marks (k : Int) (n : Nat) : List Int := (List.range n).map fun (i : Nat) => k + (i : Int)
theorem marks_len (k : Int) (n : Nat) : (marks k n).length = n := by simp [marks]
theorem marks_succ (k : Int) (n : Nat) : marks k (n + 1) = marks k n ++ [k + (n : Int)] := by simp [marks, List.range_succ]
theorem marks_getD {k : Int} {n i : Nat} (h : i < n) : (marks k n).getD i 0 = k + i := by
  rw [List.getD_eq_getElem?_getD, marks, List.getElem?_map, List.getElem?_range h]; rfl
theorem mark_step {k : Int} {l : List Int} {i : Nat} (h : i < l.length) : (marks k i ++ l.drop i).set i (k + i) = marks k (i + 1) ++ l.drop (i + 1) := by
  rw [List.set_append, if_neg (by rw [marks_len]; omega), marks_len, Nat.sub_self, List.drop_eq_getElem_cons h, List.set_cons_zero, marks_succ, List.append_assoc]; rfl
theorem mark_len {k : Int} {l : List Int} {i : Nat} (h : i ≤ l.length) : (marks k i ++ l.drop i).length = l.length := by
  rw [List.length_append, marks_len, List.length_drop]; omega
def tMark : MTab
  | [.own 0, .i k], [.row .i64 E l] => some (0 ≤ k ∧ k + l.length ≤ 9223372036854775807, .i (k + l.length), [.row .i64 E (marks k l.length)])
  | _, _ => none
theorem mark_ok : FitsM Tryd.prog 38 tMark := by
  refine ⟨?_⟩
  intro args L p out Ho h hp
  unfold tMark at h
  split at h <;> cases h
  rename_i k E l
  refine mok_by (env_ok (env := []) (by simp)) (callable_of Tryd.func38 (by kernel_rfl) rfl) Tryd.func38 rfl rfl rfl rfl rfl (by simp) ?_
  intro hlen c hc hX
  simp only [lensIn, AV.lenIn, AV.lenOk, List.getElem?_cons_zero, List.getElem?_cons_succ, true_and, and_true] at hlen
  simp only [Tryd.ntmps38, Tryd.results38, lsA, List.replicate, Nat.reduceAdd, Nat.reduceSub]
  repeat' first | ((with_reducible show aol _ _ _ _ _); first|(refine gF (by rfl) ?_ ?_; focus simp only [go_sem]; done)|(refine gU (by rfl) ?_ ?_; focus simp only [go_sem]; done))|((with_reducible refine hK _ ?_); clear hK K; try simp only [nx])|(with_reducible first|refine aS fun K hK => ?_|refine aB ?_|apply And.intro|exact True.intro)|((first|((with_reducible show aol _ _ _ _ _); try first|(refine gT (by rfl) ?_ ?_; focus simp only [go_sem]; done)|refine gB (by rfl) (by rfl) (fun h => ?_) (fun h => ?_) <;> (try simp only [hsX, reduceCtorEq] at h))|((with_reducible show Awp _ _ (Code.region _ _ _) _ _); first|refine rK (by repeat constructor) (fun K hK => ?_)|(refine dK (by kernel_rfl) (by repeat constructor) (fun K hK => ?_)))) <;> simp (maxSteps := 2000000) (disch := omega) only [go_sem, ↓reduceIte, Nat.reduceEqDiff, Nat.reduceAdd, Nat.reduceLT, Nat.reduceLeDiff, Nat.reduceSub])|((with_reducible show Awp _ _ (Code.cond _ _ _) _ _); refine aC rfl (fun h => ?_) (fun h => ?_) <;> (try simp only [hsX, reduceCtorEq] at h))|((with_reducible first|refine aK ?_|refine aR ?_); simp only [nx])|((with_reducible refine aE ?_); simp only [nx, ne_eq, not_false_eq_true, Nat.reduceEqDiff, reduceCtorEq]; try ((repeat ((fail_if_success refine hK _ ?_); clear hK K)); refine hK _ ?_; clear hK K))|((with_reducible first|show List.all _ _ = true|show lendOk _ _ = true); rfl)|omega|((with_reducible first|show ¬ _|show _ → _); intro h; first|contradiction|cases h; done|skip)
  all_goals (try (first|refine fK ?_|refine fM ?_; repeat clear hK))
  refine awp_for (fun s (i : Nat) => s.at [0] [(1, .i (k + i)), (5, .i i)] [.row .i64 E (marks k i ++ l.drop i)]) (fun i => i ≤ l.length) (fun i => l.length - i) 0 (by omega) ?_ ?_
  · simp [-List.getD_eq_getElem?_getD, -List.length_take, Le, leFr, ASt.at, keepFr, updAll, upd_zero, upd_succ, marks]
  rintro i hi
  simp only [ASt.at, keepFr, updAll, upd_zero, upd_succ, lgA, Nat.reduceEqDiff, Nat.reduceAdd, ↓reduceIte, eq_self]
  have hl := mark_len (k := k) hi
  repeat' first | ((with_reducible show aol _ _ _ _ _); first|(refine gF (by rfl) ?_ ?_; focus simp only [go_sem]; done)|(refine gU (by rfl) ?_ ?_; focus simp only [go_sem]; done))|((with_reducible refine hK _ ?_); clear hK K; try simp only [nx])|(with_reducible first|refine aS fun K hK => ?_|refine aB ?_|apply And.intro|exact True.intro)|((first|((with_reducible show aol _ _ _ _ _); try first|(refine gT (by rfl) ?_ ?_; focus simp only [go_sem]; done)|refine gB (by rfl) (by rfl) (fun h => ?_) (fun h => ?_) <;> (try simp only [hsX, reduceCtorEq] at h))|((with_reducible show Awp _ _ (Code.region _ _ _) _ _); first|refine rK (by repeat constructor) (fun K hK => ?_)|(refine dK (by kernel_rfl) (by repeat constructor) (fun K hK => ?_)))) <;> simp (maxSteps := 2000000) (disch := omega) only [go_sem, ↓reduceIte, Nat.reduceEqDiff, Nat.reduceAdd, Nat.reduceLT, Nat.reduceLeDiff, Nat.reduceSub, hl])|((with_reducible show Awp _ _ (Code.cond _ _ _) _ _); refine aC rfl (fun h => ?_) (fun h => ?_) <;> (try simp only [hsX, reduceCtorEq] at h))|((with_reducible first|refine aK ?_|refine aR ?_); simp only [nx])|((with_reducible refine aE ?_); simp only [nx, ne_eq, not_false_eq_true, Nat.reduceEqDiff, reduceCtorEq]; try ((repeat ((fail_if_success refine hK _ ?_); clear hK K)); refine hK _ ?_; clear hK K))|((with_reducible first|show List.all _ _ = true|show lendOk _ _ = true); rfl)|omega|((with_reducible first|show ¬ _|show _ → _); intro h; first|contradiction|cases h; done|skip)
  all_goals (try (first|refine fK ?_|refine fM ?_; repeat clear hK))
  · rw [mark_step (by omega)]
    refine ⟨i + 1, by omega, by omega, ?_⟩
    simp [-List.getD_eq_getElem?_getD, -List.length_take, Le, leFr, ASt.at, keepFr, updAll, upd_zero, upd_succ, Int.add_assoc]
  · obtain rfl : i = l.length := by omega
    refine finm_1 rfl rfl rfl ?_
    rw [List.drop_length, List.append_nil]; rfl
theorem take_succ_getD {l : List Int} {i : Nat} (h : i < l.length) : l.take (i + 1) = l.take i ++ [l.getD i 0] := by
  rw [List.take_add_one, List.getElem?_eq_getElem h, List.getD_eq_getElem?_getD, List.getElem?_eq_getElem h]; rfl
def heldV (l : List Int) (k : Int) : Int := if l = marks k l.length then k + l.length else -1
theorem heldV_marks (k : Int) (n : Nat) : heldV (marks k n) k = k + n := by unfold heldV; rw [marks_len, if_pos rfl]
def tHeld : Tab
  | [.sl .i64 l, .i k] => some (0 ≤ k ∧ k + l.length ≤ 9223372036854775807, .i (heldV l k), [])
  | _ => none
theorem held_ok : Fits Tryd.prog 39 tHeld := by
  refine ⟨callable_of Tryd.func39 (by kernel_rfl) rfl, ?_⟩
  intro args p out Ho h hp
  unfold tHeld at h
  split at h <;> cases h
  rename_i l k
  refine ⟨acall_by (env_ok (env := []) (by simp)) Tryd.func39 rfl rfl rfl rfl rfl ?_, rfl, rfl⟩
  intro hlen c hc hX
  simp only [lensOk, AV.lenOk, true_and, and_true] at hlen
  simp only [Tryd.ntmps39, Tryd.results39, lsA, List.replicate, Nat.reduceAdd, Nat.reduceSub]
  repeat' first | ((with_reducible show aol _ _ _ _ _); first|(refine gF (by rfl) ?_ ?_; focus simp only [go_sem]; done)|(refine gU (by rfl) ?_ ?_; focus simp only [go_sem]; done))|((with_reducible refine hK _ ?_); clear hK K; try simp only [nx])|(with_reducible first|refine aS fun K hK => ?_|refine aB ?_|apply And.intro|exact True.intro)|((first|((with_reducible show aol _ _ _ _ _); try first|(refine gT (by rfl) ?_ ?_; focus simp only [go_sem]; done)|refine gB (by rfl) (by rfl) (fun h => ?_) (fun h => ?_) <;> (try simp only [hsX, reduceCtorEq] at h))|((with_reducible show Awp _ _ (Code.region _ _ _) _ _); first|refine rK (by repeat constructor) (fun K hK => ?_)|(refine dK (by kernel_rfl) (by repeat constructor) (fun K hK => ?_)))) <;> simp (maxSteps := 2000000) (disch := omega) only [go_sem, ↓reduceIte, Nat.reduceEqDiff, Nat.reduceAdd, Nat.reduceLT, Nat.reduceLeDiff, Nat.reduceSub])|((with_reducible show Awp _ _ (Code.cond _ _ _) _ _); refine aC rfl (fun h => ?_) (fun h => ?_) <;> (try simp only [hsX, reduceCtorEq] at h))|((with_reducible first|refine aK ?_|refine aR ?_); simp only [nx])|((with_reducible refine aE ?_); simp only [nx, ne_eq, not_false_eq_true, Nat.reduceEqDiff, reduceCtorEq]; try ((repeat ((fail_if_success refine hK _ ?_); clear hK K)); refine hK _ ?_; clear hK K))|((with_reducible first|show List.all _ _ = true|show lendOk _ _ = true); rfl)|omega|((with_reducible first|show ¬ _|show _ → _); intro h; first|contradiction|cases h; done|skip)
  all_goals (try (first|refine fK ?_|refine fM ?_; repeat clear hK))
  refine awp_for (fun s (i : Nat) => s.at [0] [(1, .i (k + i)), (5, .i i)] s.hp) (fun i => i ≤ l.length ∧ l.take i = marks k i) (fun i => l.length - i) 0 ⟨by omega, rfl⟩ ?_ ?_
  · simp [-List.getD_eq_getElem?_getD, -List.length_take, Le, leFr, ASt.at, keepFr, updAll, upd_zero, upd_succ]
  rintro i ⟨hi, ha⟩
  simp only [ASt.at, keepFr, updAll, upd_zero, upd_succ, lgA, Nat.reduceEqDiff, Nat.reduceAdd, ↓reduceIte, eq_self]
  repeat' first | ((with_reducible show aol _ _ _ _ _); first|(refine gF (by rfl) ?_ ?_; focus simp only [go_sem]; done)|(refine gU (by rfl) ?_ ?_; focus simp only [go_sem]; done))|((with_reducible refine hK _ ?_); clear hK K; try simp only [nx])|(with_reducible first|refine aS fun K hK => ?_|refine aB ?_|apply And.intro|exact True.intro)|((first|((with_reducible show aol _ _ _ _ _); try first|(refine gT (by rfl) ?_ ?_; focus simp only [go_sem]; done)|refine gB (by rfl) (by rfl) (fun h => ?_) (fun h => ?_) <;> (try simp only [hsX, reduceCtorEq] at h))|((with_reducible show Awp _ _ (Code.region _ _ _) _ _); first|refine rK (by repeat constructor) (fun K hK => ?_)|(refine dK (by kernel_rfl) (by repeat constructor) (fun K hK => ?_)))) <;> simp (maxSteps := 2000000) (disch := omega) only [go_sem, ↓reduceIte, Nat.reduceEqDiff, Nat.reduceAdd, Nat.reduceLT, Nat.reduceLeDiff, Nat.reduceSub])|((with_reducible show Awp _ _ (Code.cond _ _ _) _ _); refine aC rfl (fun h => ?_) (fun h => ?_) <;> (try simp only [hsX, reduceCtorEq] at h))|((with_reducible first|refine aK ?_|refine aR ?_); simp only [nx])|((with_reducible refine aE ?_); simp only [nx, ne_eq, not_false_eq_true, Nat.reduceEqDiff, reduceCtorEq]; try ((repeat ((fail_if_success refine hK _ ?_); clear hK K)); refine hK _ ?_; clear hK K))|((with_reducible first|show List.all _ _ = true|show lendOk _ _ = true); rfl)|omega|((with_reducible first|show ¬ _|show _ → _); intro h; first|contradiction|cases h; done|skip)
  all_goals (try (first|refine fK ?_|refine fM ?_; repeat clear hK))
  · refine fin_tmp rfl ?_; simp only [nth_zero, nth_succ]; rw [heldV, if_neg]
    intro e
    rw [e, marks_getD (by omega)] at h; exact h rfl
  · refine ⟨i + 1, ⟨by omega, by rw [take_succ_getD (by omega), ha, marks_succ, h]⟩, by omega, ?_⟩
    simp [-List.getD_eq_getElem?_getD, -List.length_take, Le, leFr, ASt.at, keepFr, updAll, upd_zero, upd_succ, Int.add_assoc]
  · obtain rfl : i = l.length := by omega
    rw [List.take_length] at ha
    refine fin_tmp rfl ?_; simp only [nth_zero, nth_succ]; rw [heldV, if_pos ha]
def tMarkF : MTab
  | [.ag [.i _, .own 0], .i k], [.row .i64 E l] => some (0 ≤ k ∧ k + l.length ≤ 9223372036854775807, .i (k + l.length), [.row .i64 E (marks k l.length)])
  | _, _ => none
theorem markF_ok : FitsM Tryd.prog 18 tMarkF := by
  refine ⟨?_⟩
  intro args L p out Ho h hp
  unfold tMarkF at h
  split at h <;> cases h
  rename_i g k E l
  refine mok_by (env_ok2 (env := []) (envM := [(38, tMark)]) (by simp) (by simp only [fmA, and_true]; exact mark_ok)) (callable_of Tryd.func18 (by kernel_rfl) rfl) Tryd.func18 rfl rfl rfl rfl rfl (by simp) ?_
  intro hlen c hc hX
  simp only [lensIn, AV.lenIn, AV.lenOk, List.getElem?_cons_zero, List.getElem?_cons_succ, true_and, and_true] at hlen
  simp only [Tryd.ntmps18, Tryd.results18, lsA, List.replicate, Nat.reduceAdd, Nat.reduceSub]
  repeat' first | ((with_reducible show aol _ _ _ _ _); first|(refine gF (by rfl) ?_ ?_; focus simp only [go_sem]; done)|(refine gU (by rfl) ?_ ?_; focus simp only [go_sem]; done))|((with_reducible refine hK _ ?_); clear hK K; try simp only [nx])|(with_reducible first|refine aS fun K hK => ?_|refine aB ?_|apply And.intro|exact True.intro)|((first|((with_reducible show aol _ _ _ _ _); try first|(refine gT (by rfl) ?_ ?_; focus simp only [go_sem]; done)|refine gB (by rfl) (by rfl) (fun h => ?_) (fun h => ?_) <;> (try simp only [hsX, reduceCtorEq] at h))|((with_reducible show Awp _ _ (Code.region _ _ _) _ _); first|refine rK (by repeat constructor) (fun K hK => ?_)|(refine dK (by kernel_rfl) (by repeat constructor) (fun K hK => ?_)))) <;> simp (maxSteps := 2000000) (disch := omega) only [go_sem, ↓reduceIte, Nat.reduceEqDiff, Nat.reduceAdd, Nat.reduceLT, Nat.reduceLeDiff, Nat.reduceSub, tMark])|((with_reducible show Awp _ _ (Code.cond _ _ _) _ _); refine aC rfl (fun h => ?_) (fun h => ?_) <;> (try simp only [hsX, reduceCtorEq] at h))|((with_reducible first|refine aK ?_|refine aR ?_); simp only [nx])|((with_reducible refine aE ?_); simp only [nx, ne_eq, not_false_eq_true, Nat.reduceEqDiff, reduceCtorEq]; try ((repeat ((fail_if_success refine hK _ ?_); clear hK K)); refine hK _ ?_; clear hK K))|((with_reducible first|show List.all _ _ = true|show lendOk _ _ = true); rfl)|omega|((with_reducible first|show ¬ _|show _ → _); intro h; first|contradiction|cases h; done|skip)
  all_goals (try (first|refine fK ?_|refine fM ?_; repeat clear hK))
  refine finm_1 rfl rfl rfl rfl
def tHeldF : Tab
  | [.ag [.i _, .sl .i64 l], .i k] => some (0 ≤ k ∧ k + l.length ≤ 9223372036854775807, .i (heldV l k), [])
  | _ => none
theorem heldF_ok : Fits Tryd.prog 19 tHeldF := by
  refine ⟨callable_of Tryd.func19 (by kernel_rfl) rfl, ?_⟩
  intro args p out Ho h hp
  unfold tHeldF at h
  split at h <;> cases h
  rename_i g l k
  refine ⟨acall_by (env_ok (env := [(39, tHeld)]) (by simp only [fmA, and_true]; exact held_ok)) Tryd.func19 rfl rfl rfl rfl rfl ?_, rfl, rfl⟩
  intro hlen c hc hX
  simp only [lensOk, AV.lenOk, true_and, and_true] at hlen
  simp only [Tryd.ntmps19, Tryd.results19, lsA, List.replicate, Nat.reduceAdd, Nat.reduceSub]
  repeat' first | ((with_reducible show aol _ _ _ _ _); first|(refine gF (by rfl) ?_ ?_; focus simp only [go_sem]; done)|(refine gU (by rfl) ?_ ?_; focus simp only [go_sem]; done))|((with_reducible refine hK _ ?_); clear hK K; try simp only [nx])|(with_reducible first|refine aS fun K hK => ?_|refine aB ?_|apply And.intro|exact True.intro)|((first|((with_reducible show aol _ _ _ _ _); try first|(refine gT (by rfl) ?_ ?_; focus simp only [go_sem]; done)|refine gB (by rfl) (by rfl) (fun h => ?_) (fun h => ?_) <;> (try simp only [hsX, reduceCtorEq] at h))|((with_reducible show Awp _ _ (Code.region _ _ _) _ _); first|refine rK (by repeat constructor) (fun K hK => ?_)|(refine dK (by kernel_rfl) (by repeat constructor) (fun K hK => ?_)))) <;> simp (maxSteps := 2000000) (disch := omega) only [go_sem, ↓reduceIte, Nat.reduceEqDiff, Nat.reduceAdd, Nat.reduceLT, Nat.reduceLeDiff, Nat.reduceSub, tHeld])|((with_reducible show Awp _ _ (Code.cond _ _ _) _ _); refine aC rfl (fun h => ?_) (fun h => ?_) <;> (try simp only [hsX, reduceCtorEq] at h))|((with_reducible first|refine aK ?_|refine aR ?_); simp only [nx])|((with_reducible refine aE ?_); simp only [nx, ne_eq, not_false_eq_true, Nat.reduceEqDiff, reduceCtorEq]; try ((repeat ((fail_if_success refine hK _ ?_); clear hK K)); refine hK _ ?_; clear hK K))|((with_reducible first|show List.all _ _ = true|show lendOk _ _ = true); rfl)|omega|((with_reducible first|show ¬ _|show _ → _); intro h; first|contradiction|cases h; done|skip)
  all_goals (try (first|refine fK ?_|refine fM ?_; repeat clear hK))
  · refine fin_tmp rfl ?_; simp only [nth_zero, nth_succ]; unfold heldV at h ⊢; split at h <;> rename_i e
    · omega
    · rw [if_neg e]
  · refine fin_tmp rfl ?_; rfl
end Go.Proofs.YthoionlldmfpiaaDoor
