import Derived.Test.YthoionlldmfpiaaDoorHs
import Derived.Test.YthoionlldmfpiaaDoorT4
set_option linter.unusedSimpArgs false
set_option linter.unusedVariables false
set_option maxHeartbeats 2000000
namespace Go.Proofs.YthoionlldmfpiaaDoor
open Go Go.Ab
attribute [local irreducible] aol
def incB (l : List Int) : Bool := (List.range (l.length - 1)).all fun k => decide (l.getD k 0 < l.getD (k + 1) 0)
theorem inc_true {l : List Int} (h : ∀ j, j + 1 < l.length → l.getD j 0 < l.getD (j + 1) 0) : incB l = true := by
  unfold incB
  rw [List.all_eq_true]
  intro k hk
  rw [List.mem_range] at hk
  exact decide_eq_true (h k (by omega))
theorem inc_false {l : List Int} {j : Nat} (hj : j + 1 < l.length) (h : l.getD (j + 1) 0 ≤ l.getD j 0) : incB l = false := by
  unfold incB
  rw [List.all_eq_false]
  exact ⟨j, List.mem_range.2 (by omega), by simp only [decide_eq_true_eq]; omega⟩
def famV (g : Int) (l : List Int) : Bool := inR g 0 6 && (l.all (isSet g) && incB l)
def tIsF : Tab
  | [.ag [.i g, .sl .i64 l]] => some (True, .b (famV g l), [])
  | _ => none
theorem famV_no {g : Int} {l : List Int} (h : ¬ (0 ≤ g ∧ g ≤ 6)) : famV g l = false := by
  unfold famV; rw [← inR_not] at h; rw [h]; rfl
theorem famV_not {g : Int} {l : List Int} (h : l.all (isSet g) = false) : famV g l = false := by
  unfold famV; rw [h]; cases inR g 0 6 <;> rfl
theorem famV_dec {g : Int} {l : List Int} (h : incB l = false) : famV g l = false := by
  unfold famV; rw [h]; cases inR g 0 6 <;> cases l.all (isSet g) <;> rfl
theorem famV_yes {g : Int} {l : List Int} (h : 0 ≤ g ∧ g ≤ 6) (h1 : l.all (isSet g) = true) (h2 : incB l = true) : famV g l = true := by
  unfold famV; rw [← inR_iff] at h; rw [h1, h2, h]; rfl
theorem implIsF_ok : Fits Tryd.prog 31 tIsF := by
  refine ⟨callable_of Tryd.func31 (by kernel_rfl) rfl, ?_⟩
  intro args p out Ho h hp
  unfold tIsF at h
  split at h <;> cases h
  rename_i g l
  refine ⟨acall_by (env_ok (env := [(41, tAreSets)]) (by simp only [fmA, and_true]; exact areSets_ok)) Tryd.func31 rfl rfl rfl rfl rfl ?_, rfl, rfl⟩
  intro hlen c hc hX
  simp only [lensOk, AV.lenOk, true_and, and_true] at hlen
  simp only [Tryd.ntmps31, Tryd.results31, lsA, List.replicate, Nat.reduceAdd, Nat.reduceSub]
  repeat' first | ((with_reducible show aol _ _ _ _ _); first|(refine gF (by rfl) ?_ ?_; focus simp only [go_sem]; done)|(refine gU (by rfl) ?_ ?_; focus simp only [go_sem]; done))|((with_reducible refine hK _ ?_); clear hK K; try simp only [nx])|(with_reducible first|refine aS fun K hK => ?_|refine aB ?_|apply And.intro|exact True.intro)|((first|((with_reducible show aol _ _ _ _ _); try first|(refine gT (by rfl) ?_ ?_; focus simp only [go_sem]; done)|refine gB (by rfl) (by rfl) (fun h => ?_) (fun h => ?_) <;> (try simp only [hsX, reduceCtorEq] at h))|((with_reducible show Awp _ _ (Code.region _ _ _) _ _); first|refine rK (by repeat constructor) (fun K hK => ?_)|(refine dK (by kernel_rfl) (by repeat constructor) (fun K hK => ?_)))) <;> simp (maxSteps := 2000000) (disch := omega) only [go_sem, ↓reduceIte, Nat.reduceEqDiff, Nat.reduceAdd, Nat.reduceLT, Nat.reduceLeDiff, Nat.reduceSub, tAreSets])|((with_reducible show Awp _ _ (Code.cond _ _ _) _ _); refine aC rfl (fun h => ?_) (fun h => ?_) <;> (try simp only [hsX, reduceCtorEq] at h))|((with_reducible first|refine aK ?_|refine aR ?_); simp only [nx])|((with_reducible refine aE ?_); simp only [nx, ne_eq, not_false_eq_true, Nat.reduceEqDiff, reduceCtorEq]; try ((repeat ((fail_if_success refine hK _ ?_); clear hK K)); refine hK _ ?_; clear hK K))|((with_reducible first|show List.all _ _ = true|show lendOk _ _ = true); rfl)|omega|((with_reducible first|show ¬ _|show _ → _); intro h; first|contradiction|cases h; done|skip)
  all_goals (try (first|refine fK ?_|refine fM ?_; repeat clear hK))
  · refine fin_tmp rfl ?_; simp only [nth_zero, nth_succ]
    rcases h with h | h
    · rw [famV_no h]
    · rw [famV_not h]
  have hg := h
  refine awp_for (fun s (k : Nat) => s.at [1] [(3, .i (k + 1 : Nat))] s.hp) (fun k => k ≤ l.length ∧ ∀ j, j + 1 < k + 1 → j + 1 < l.length → l.getD j 0 < l.getD (j + 1) 0) (fun k => l.length - k) 0 ⟨by omega, by omega⟩ ?_ ?_
  · simp [-List.getD_eq_getElem?_getD, -List.length_take, Le, leFr, ASt.at, keepFr, updAll, upd_zero, upd_succ]
  rintro k ⟨hk, hi⟩
  simp only [ASt.at, keepFr, updAll, upd_zero, upd_succ, lgA, Nat.reduceEqDiff, Nat.reduceAdd, ↓reduceIte, eq_self]
  have tn : ((k + 1 : Nat) : Int) - 1 = k := by omega
  repeat' first | ((with_reducible show aol _ _ _ _ _); first|(refine gF (by rfl) ?_ ?_; focus simp only [go_sem]; done)|(refine gU (by rfl) ?_ ?_; focus simp only [go_sem]; done))|((with_reducible refine hK _ ?_); clear hK K; try simp only [nx])|(with_reducible first|refine aS fun K hK => ?_|refine aB ?_|apply And.intro|exact True.intro)|((first|((with_reducible show aol _ _ _ _ _); try first|(refine gT (by rfl) ?_ ?_; focus simp only [go_sem]; done)|refine gB (by rfl) (by rfl) (fun h => ?_) (fun h => ?_) <;> (try simp only [hsX, reduceCtorEq] at h))|((with_reducible show Awp _ _ (Code.region _ _ _) _ _); first|refine rK (by repeat constructor) (fun K hK => ?_)|(refine dK (by kernel_rfl) (by repeat constructor) (fun K hK => ?_)))) <;> simp (maxSteps := 2000000) (disch := omega) only [go_sem, ↓reduceIte, Nat.reduceEqDiff, Nat.reduceAdd, Nat.reduceLT, Nat.reduceLeDiff, Nat.reduceSub, tAreSets, tn])|((with_reducible show Awp _ _ (Code.cond _ _ _) _ _); refine aC rfl (fun h => ?_) (fun h => ?_) <;> (try simp only [hsX, reduceCtorEq] at h))|((with_reducible first|refine aK ?_|refine aR ?_); simp only [nx])|((with_reducible refine aE ?_); simp only [nx, ne_eq, not_false_eq_true, Nat.reduceEqDiff, reduceCtorEq]; try ((repeat ((fail_if_success refine hK _ ?_); clear hK K)); refine hK _ ?_; clear hK K))|((with_reducible first|show List.all _ _ = true|show lendOk _ _ = true); rfl)|omega|((with_reducible first|show ¬ _|show _ → _); intro h; first|contradiction|cases h; done|skip)
  all_goals (try (first|refine fK ?_|refine fM ?_; repeat clear hK))
  · refine fin_tmp rfl ?_; simp only [nth_zero, nth_succ]; rw [famV_dec (inc_false (by omega) h)]
  · refine ⟨k + 1, ⟨by omega, fun j h1 h2 => ?_⟩, by omega, ?_⟩
    · by_cases e : j = k
      · subst e; exact h
      · exact hi j (by omega) h2
    · simp [-List.getD_eq_getElem?_getD, -List.length_take, Le, leFr, ASt.at, keepFr, updAll, upd_zero, upd_succ]
  · refine fin_tmp rfl ?_; simp only [nth_zero, nth_succ]; rw [famV_yes hg.1 hg.2 (inc_true fun j h2 => hi j (by omega) h2)]
theorem specIsF_ok : Fits Tryd.prog 29 tIsF := by
  refine ⟨callable_of Tryd.func29 (by kernel_rfl) rfl, ?_⟩
  intro args p out Ho h hp
  unfold tIsF at h
  split at h <;> cases h
  rename_i g l
  refine ⟨acall_by (env_ok (env := [(20, tWithin), (21, tFull)]) (by simp only [fmA, and_true]; exact ⟨specIn_ok, full_ok⟩)) Tryd.func29 rfl rfl rfl rfl rfl ?_, rfl, rfl⟩
  intro hlen c hc hX
  simp only [lensOk, AV.lenOk, true_and, and_true] at hlen
  simp only [Tryd.ntmps29, Tryd.results29, lsA, List.replicate, Nat.reduceAdd, Nat.reduceSub]
  repeat' first | ((with_reducible show aol _ _ _ _ _); first|(refine gF (by rfl) ?_ ?_; focus simp only [go_sem]; done)|(refine gU (by rfl) ?_ ?_; focus simp only [go_sem]; done))|((with_reducible refine hK _ ?_); clear hK K; try simp only [nx])|(with_reducible first|refine aS fun K hK => ?_|refine aB ?_|apply And.intro|exact True.intro)|((first|((with_reducible show aol _ _ _ _ _); try first|(refine gT (by rfl) ?_ ?_; focus simp only [go_sem]; done)|refine gB (by rfl) (by rfl) (fun h => ?_) (fun h => ?_) <;> (try simp only [hsX, reduceCtorEq] at h))|((with_reducible show Awp _ _ (Code.region _ _ _) _ _); first|refine rK (by repeat constructor) (fun K hK => ?_)|(refine dK (by kernel_rfl) (by repeat constructor) (fun K hK => ?_)))) <;> simp (maxSteps := 2000000) (disch := omega) only [go_sem, ↓reduceIte, Nat.reduceEqDiff, Nat.reduceAdd, Nat.reduceLT, Nat.reduceLeDiff, Nat.reduceSub, tWithin, tFull, inR_isSet])|((with_reducible show Awp _ _ (Code.cond _ _ _) _ _); refine aC rfl (fun h => ?_) (fun h => ?_) <;> (try simp only [hsX, reduceCtorEq] at h))|((with_reducible first|refine aK ?_|refine aR ?_); simp only [nx])|((with_reducible refine aE ?_); simp only [nx, ne_eq, not_false_eq_true, Nat.reduceEqDiff, reduceCtorEq]; try ((repeat ((fail_if_success refine hK _ ?_); clear hK K)); refine hK _ ?_; clear hK K))|((with_reducible first|show List.all _ _ = true|show lendOk _ _ = true); rfl)|omega|((with_reducible first|show ¬ _|show _ → _); intro h; first|contradiction|cases h; done|skip)
  all_goals (try (first|refine fK ?_|refine fM ?_; repeat clear hK))
  · refine fin_tmp rfl ?_; simp only [nth_zero, nth_succ]; rw [famV_no (by assumption)]
  have hg := h
  refine awp_for (fun s (k : Nat) => s.at [1] [(3, .i k)] s.hp) (fun k => k ≤ l.length ∧ (l.take k).all (isSet g) = true ∧ ∀ j, j + 1 < k → l.getD j 0 < l.getD (j + 1) 0) (fun k => l.length - k) 0 ⟨by omega, by simp, by omega⟩ ?_ ?_
  · simp [-List.getD_eq_getElem?_getD, -List.length_take, Le, leFr, ASt.at, keepFr, updAll, upd_zero, upd_succ]
  rintro k ⟨hk, ha, hi⟩
  simp only [ASt.at, keepFr, updAll, upd_zero, upd_succ, lgA, Nat.reduceEqDiff, Nat.reduceAdd, ↓reduceIte, eq_self]
  have tn : ((k : Int) - 1).toNat = k - 1 := by omega
  repeat' first | ((with_reducible show aol _ _ _ _ _); first|(refine gF (by rfl) ?_ ?_; focus simp only [go_sem]; done)|(refine gU (by rfl) ?_ ?_; focus simp only [go_sem]; done))|((with_reducible refine hK _ ?_); clear hK K; try simp only [nx])|(with_reducible first|refine aS fun K hK => ?_|refine aB ?_|apply And.intro|exact True.intro)|((first|((with_reducible show aol _ _ _ _ _); try first|(refine gT (by rfl) ?_ ?_; focus simp only [go_sem]; done)|refine gB (by rfl) (by rfl) (fun h => ?_) (fun h => ?_) <;> (try simp only [hsX, reduceCtorEq] at h))|((with_reducible show Awp _ _ (Code.region _ _ _) _ _); first|refine rK (by repeat constructor) (fun K hK => ?_)|(refine dK (by kernel_rfl) (by repeat constructor) (fun K hK => ?_)))) <;> simp (maxSteps := 2000000) (disch := omega) only [go_sem, ↓reduceIte, Nat.reduceEqDiff, Nat.reduceAdd, Nat.reduceLT, Nat.reduceLeDiff, Nat.reduceSub, tWithin, tFull, inR_isSet, tn])|((with_reducible show Awp _ _ (Code.cond _ _ _) _ _); refine aC rfl (fun h => ?_) (fun h => ?_) <;> (try simp only [hsX, reduceCtorEq] at h))|((with_reducible first|refine aK ?_|refine aR ?_); simp only [nx])|((with_reducible refine aE ?_); simp only [nx, ne_eq, not_false_eq_true, Nat.reduceEqDiff, reduceCtorEq]; try ((repeat ((fail_if_success refine hK _ ?_); clear hK K)); refine hK _ ?_; clear hK K))|((with_reducible first|show List.all _ _ = true|show lendOk _ _ = true); rfl)|omega|((with_reducible first|show ¬ _|show _ → _); intro h; first|contradiction|cases h; done|skip)
  all_goals (try (first|refine fK ?_|refine fM ?_; repeat clear hK))
  · refine fin_tmp rfl ?_; simp only [nth_zero, nth_succ]
    rw [famV_dec (inc_false (j := k - 1) (by omega) (by rw [Nat.sub_add_cancel (by omega)]; exact h))]
  · refine ⟨k + 1, ⟨by omega, all_take_succ (by omega) ha (by rw [isSet_iff]; omega), fun j h1 => ?_⟩, by omega, ?_⟩
    · by_cases e : j + 1 = k
      · obtain rfl : j = k - 1 := by omega
        rw [Nat.sub_add_cancel (by omega)]; exact h
      · exact hi j (by omega)
    · simp [-List.getD_eq_getElem?_getD, -List.length_take, Le, leFr, ASt.at, keepFr, updAll, upd_zero, upd_succ]
  · refine ⟨k + 1, ⟨by omega, all_take_succ (by omega) ha (by rw [isSet_iff]; omega), fun j h1 => by omega⟩, by omega, ?_⟩
    simp [-List.getD_eq_getElem?_getD, -List.length_take, Le, leFr, ASt.at, keepFr, updAll, upd_zero, upd_succ]
  · refine fin_tmp rfl ?_; simp only [nth_zero, nth_succ]
    rw [famV_not (all_of_getD (k := k) (by omega) (by rw [isSet_not]; assumption))]
  · refine fin_tmp rfl ?_; simp only [nth_zero, nth_succ]
    rw [List.take_of_length_le (by omega)] at ha
    rw [famV_yes hg ha (inc_true fun j h2 => hi j (by omega))]
end Go.Proofs.YthoionlldmfpiaaDoor
