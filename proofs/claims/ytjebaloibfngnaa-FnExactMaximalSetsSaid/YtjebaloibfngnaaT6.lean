import Derived.Test.YtjebaloibfngnaaT5
set_option linter.unusedSimpArgs false
set_option linter.unusedVariables false
set_option maxHeartbeats 2000000
namespace Go.Proofs.Ytjebaloibfngnaa
open Go Go.Ab
attribute [local irreducible] aol

theorem famV_iff {g : Int} {l : List Int} : famV g l = true ↔ (0 ≤ g ∧ g ≤ 6) ∧ l.all (isSet g) = true ∧ incB l = true := by
  unfold famV; rw [Bool.and_eq_true, Bool.and_eq_true, inR_iff]

/-! ### Transversals -/
def meetsV (l : List Int) (s : Int) : Bool := l.all fun x => !decide (iand x s = 0)
def tMeets : Tab
  | [.sl .i64 l, .i s] => some (True, .b (meetsV l s), [])
  | _ => none
theorem specMeets_ok : Fits Try.prog 71 tMeets := by
  refine ⟨callable_of Try.func71 (by kernel_rfl) rfl, ?_⟩
  intro args p out Ho h hp
  unfold tMeets at h
  split at h <;> cases h
  rename_i l s
  refine ⟨acall_by (env_ok (env := []) (by simp)) Try.func71 rfl rfl rfl rfl rfl ?_, rfl, rfl⟩
  intro hlen c hc hX
  simp only [lensOk, AV.lenOk, true_and, and_true] at hlen
  simp only [Try.ntmps71, Try.results71, List.length_cons, List.length_nil, List.replicate, List.cons_append, List.nil_append, Nat.reduceAdd, Nat.reduceSub]
  repeat' first
    | ((with_reducible show aol _ _ _ _ _); first
        | (refine aol_guard_f (by rfl) ?_ ?_; (focus (simp only [go_sem]; done)))
        | (refine aol_guard_un (by rfl) ?_ ?_; (focus (simp only [go_sem]; done)))
        | (refine aol_guard_t (by rfl) ?_ ?_; (focus (simp only [go_sem]; done)); simp (config := { maxSteps := 2000000 }) (disch := omega) only [go_sem, ↓reduceIte, Nat.reduceEqDiff, Nat.reduceAdd, Nat.reduceLT, Nat.reduceLeDiff, Nat.reduceSub])
        | (refine aol_guard_b (by rfl) (by rfl) (fun h => ?_) (fun h => ?_) <;> (try simp only [Bool.and_eq_true, Bool.and_eq_false_iff, Bool.or_eq_true, Bool.or_eq_false_iff, List.all_cons, List.all_nil, Bool.and_true, beq_self_eq_true, beq_iff_eq, beq_eq_false_iff_ne, ne_eq, decide_true, decide_false, not_true_eq_false, not_false_eq_true, decide_eq_true_eq, decide_eq_false_iff_not, Bool.not_true, Bool.not_false, Bool.not_eq_true', Bool.not_eq_false', Int.not_le, Int.not_lt, reduceCtorEq, inR_iff, inR_not, isSet_iff, isSet_not] at h) <;> simp (config := { maxSteps := 2000000 }) (disch := omega) only [go_sem, ↓reduceIte, Nat.reduceEqDiff, Nat.reduceAdd, Nat.reduceLT, Nat.reduceLeDiff, Nat.reduceSub])
        | simp (config := { maxSteps := 2000000 }) (disch := omega) only [go_sem, ↓reduceIte, Nat.reduceEqDiff, Nat.reduceAdd, Nat.reduceLT, Nat.reduceLeDiff, Nat.reduceSub])
    | ((with_reducible refine hK _ ?_); clear hK K; try simp only [thn_n, blk_n, fin_n, finm_n])
    | (with_reducible refine awp_seq fun K hK => ?_)
    | ((with_reducible show Awp _ _ (Code.region _ _ _) _ _); first
        | (refine awp_regK (by repeat constructor) (fun K hK => ?_); simp (config := { maxSteps := 2000000 }) (disch := omega) only [go_sem, ↓reduceIte, Nat.reduceEqDiff, Nat.reduceAdd, Nat.reduceLT, Nat.reduceLeDiff, Nat.reduceSub])
        | (refine awp_drwK (by kernel_rfl) (by repeat constructor) (fun K hK => ?_); simp (config := { maxSteps := 2000000 }) (disch := omega) only [go_sem, ↓reduceIte, Nat.reduceEqDiff, Nat.reduceAdd, Nat.reduceLT, Nat.reduceLeDiff, Nat.reduceSub]))
    | ((with_reducible show Awp _ _ (Code.cond _ _ _) _ _); refine awp_cond rfl (fun h => ?_) (fun h => ?_) <;> (try simp only [Bool.and_eq_true, Bool.and_eq_false_iff, Bool.or_eq_true, Bool.or_eq_false_iff, List.all_cons, List.all_nil, Bool.and_true, beq_self_eq_true, beq_iff_eq, beq_eq_false_iff_ne, ne_eq, decide_true, decide_false, not_true_eq_false, not_false_eq_true, decide_eq_true_eq, decide_eq_false_iff_not, Bool.not_true, Bool.not_false, Bool.not_eq_true', Bool.not_eq_false', Int.not_le, Int.not_lt, reduceCtorEq, inR_iff, inR_not, isSet_iff, isSet_not] at h))
    | ((with_reducible refine awp_skip ?_); simp only [thn_n, blk_n, fin_n, finm_n])
    | ((with_reducible refine awp_ret ?_); simp only [thn_r, blk_r, fin_r, finm_r])
    | (with_reducible refine awp_block ?_)
    | ((with_reducible refine awp_exit ?_); simp only [thn_e, blk_e, blk_x, blk_n, thn_n, ne_eq, not_false_eq_true, Nat.reduceEqDiff, reduceCtorEq]; first | (refine hK _ ?_; clear hK K) | (clear hK K; refine hK _ ?_; clear hK K) | (clear hK K; clear hK K; refine hK _ ?_; clear hK K) | (clear hK K; clear hK K; clear hK K; refine hK _ ?_; clear hK K) | skip)
    | (with_reducible apply And.intro)
    | (with_reducible exact True.intro)
    | ((with_reducible show List.all _ _ = true); rfl)
    | ((with_reducible show lendOk _ _ = true); rfl)
    | omega
    | ((first | (with_reducible show ¬ _) | (with_reducible show _ → _)); intro h; first | contradiction | cases h; done | skip)
  all_goals (try (first | refine fin_keep ?_ | refine finm_keep ?_; repeat clear hK))
  refine awp_for (fun s (k : Nat) => s.at [0, 1] [(5, .i k)] s.hp) (fun k => k ≤ l.length ∧ (l.take k).all (fun x => !decide (iand x s = 0)) = true) (fun k => l.length - k) 0 ⟨by omega, by simp⟩ ?_ ?_
  · simp [-List.getD_eq_getElem?_getD, -List.length_take, Le, leFr, ASt.at, keepFr, updAll, upd_zero, upd_succ]
  rintro k ⟨hk, ha⟩
  simp only [ASt.at, keepFr, updAll, upd_zero, upd_succ, List.mem_cons, List.not_mem_nil, Nat.reduceEqDiff, Nat.reduceAdd, or_false, or_true, false_or, true_or, ↓reduceIte, eq_self]
  repeat' first
    | ((with_reducible show aol _ _ _ _ _); first
        | (refine aol_guard_f (by rfl) ?_ ?_; (focus (simp only [go_sem]; done)))
        | (refine aol_guard_un (by rfl) ?_ ?_; (focus (simp only [go_sem]; done)))
        | (refine aol_guard_t (by rfl) ?_ ?_; (focus (simp only [go_sem]; done)); simp (config := { maxSteps := 2000000 }) (disch := omega) only [go_sem, ↓reduceIte, Nat.reduceEqDiff, Nat.reduceAdd, Nat.reduceLT, Nat.reduceLeDiff, Nat.reduceSub])
        | (refine aol_guard_b (by rfl) (by rfl) (fun h => ?_) (fun h => ?_) <;> (try simp only [Bool.and_eq_true, Bool.and_eq_false_iff, Bool.or_eq_true, Bool.or_eq_false_iff, List.all_cons, List.all_nil, Bool.and_true, beq_self_eq_true, beq_iff_eq, beq_eq_false_iff_ne, ne_eq, decide_true, decide_false, not_true_eq_false, not_false_eq_true, decide_eq_true_eq, decide_eq_false_iff_not, Bool.not_true, Bool.not_false, Bool.not_eq_true', Bool.not_eq_false', Int.not_le, Int.not_lt, reduceCtorEq, inR_iff, inR_not, isSet_iff, isSet_not] at h) <;> simp (config := { maxSteps := 2000000 }) (disch := omega) only [go_sem, ↓reduceIte, Nat.reduceEqDiff, Nat.reduceAdd, Nat.reduceLT, Nat.reduceLeDiff, Nat.reduceSub])
        | simp (config := { maxSteps := 2000000 }) (disch := omega) only [go_sem, ↓reduceIte, Nat.reduceEqDiff, Nat.reduceAdd, Nat.reduceLT, Nat.reduceLeDiff, Nat.reduceSub])
    | ((with_reducible refine hK _ ?_); clear hK K; try simp only [thn_n, blk_n, fin_n, finm_n])
    | (with_reducible refine awp_seq fun K hK => ?_)
    | ((with_reducible show Awp _ _ (Code.region _ _ _) _ _); first
        | (refine awp_regK (by repeat constructor) (fun K hK => ?_); simp (config := { maxSteps := 2000000 }) (disch := omega) only [go_sem, ↓reduceIte, Nat.reduceEqDiff, Nat.reduceAdd, Nat.reduceLT, Nat.reduceLeDiff, Nat.reduceSub])
        | (refine awp_drwK (by kernel_rfl) (by repeat constructor) (fun K hK => ?_); simp (config := { maxSteps := 2000000 }) (disch := omega) only [go_sem, ↓reduceIte, Nat.reduceEqDiff, Nat.reduceAdd, Nat.reduceLT, Nat.reduceLeDiff, Nat.reduceSub]))
    | ((with_reducible show Awp _ _ (Code.cond _ _ _) _ _); refine awp_cond rfl (fun h => ?_) (fun h => ?_) <;> (try simp only [Bool.and_eq_true, Bool.and_eq_false_iff, Bool.or_eq_true, Bool.or_eq_false_iff, List.all_cons, List.all_nil, Bool.and_true, beq_self_eq_true, beq_iff_eq, beq_eq_false_iff_ne, ne_eq, decide_true, decide_false, not_true_eq_false, not_false_eq_true, decide_eq_true_eq, decide_eq_false_iff_not, Bool.not_true, Bool.not_false, Bool.not_eq_true', Bool.not_eq_false', Int.not_le, Int.not_lt, reduceCtorEq, inR_iff, inR_not, isSet_iff, isSet_not] at h))
    | ((with_reducible refine awp_skip ?_); simp only [thn_n, blk_n, fin_n, finm_n])
    | ((with_reducible refine awp_ret ?_); simp only [thn_r, blk_r, fin_r, finm_r])
    | (with_reducible refine awp_block ?_)
    | ((with_reducible refine awp_exit ?_); simp only [thn_e, blk_e, blk_x, blk_n, thn_n, ne_eq, not_false_eq_true, Nat.reduceEqDiff, reduceCtorEq]; first | (refine hK _ ?_; clear hK K) | (clear hK K; refine hK _ ?_; clear hK K) | (clear hK K; clear hK K; refine hK _ ?_; clear hK K) | (clear hK K; clear hK K; clear hK K; refine hK _ ?_; clear hK K) | skip)
    | (with_reducible apply And.intro)
    | (with_reducible exact True.intro)
    | ((with_reducible show List.all _ _ = true); rfl)
    | ((with_reducible show lendOk _ _ = true); rfl)
    | omega
    | ((first | (with_reducible show ¬ _) | (with_reducible show _ → _)); intro h; first | contradiction | cases h; done | skip)
  all_goals (try (first | refine fin_keep ?_ | refine finm_keep ?_; repeat clear hK))
  · refine fin_tmp rfl ?_; simp only [nth_zero, nth_succ]; rw [meetsV, all_of_getD (k := k) (by omega) (by simp only [h, decide_true, decide_false, Bool.not_true, Bool.not_false])]
  · refine ⟨k + 1, ⟨by omega, all_take_succ (by omega) ha (by simp only [h, decide_true, decide_false, Bool.not_true, Bool.not_false])⟩, by omega, ?_⟩
    simp [-List.getD_eq_getElem?_getD, -List.length_take, Le, leFr, ASt.at, keepFr, updAll, upd_zero, upd_succ]
  · refine fin_tmp rfl ?_; simp only [nth_zero, nth_succ]
    rw [List.take_of_length_le (by omega)] at ha; rw [meetsV, ha]
theorem implMeets_ok : Fits Try.prog 73 tMeets := by
  refine ⟨callable_of Try.func73 (by kernel_rfl) rfl, ?_⟩
  intro args p out Ho h hp
  unfold tMeets at h
  split at h <;> cases h
  rename_i l s
  refine ⟨acall_by (env_ok (env := []) (by simp)) Try.func73 rfl rfl rfl rfl rfl ?_, rfl, rfl⟩
  intro hlen c hc hX
  simp only [lensOk, AV.lenOk, true_and, and_true] at hlen
  simp only [Try.ntmps73, Try.results73, List.length_cons, List.length_nil, List.replicate, List.cons_append, List.nil_append, Nat.reduceAdd, Nat.reduceSub]
  repeat' first
    | ((with_reducible show aol _ _ _ _ _); first
        | (refine aol_guard_f (by rfl) ?_ ?_; (focus (simp only [go_sem]; done)))
        | (refine aol_guard_un (by rfl) ?_ ?_; (focus (simp only [go_sem]; done)))
        | (refine aol_guard_t (by rfl) ?_ ?_; (focus (simp only [go_sem]; done)); simp (config := { maxSteps := 2000000 }) (disch := omega) only [go_sem, ↓reduceIte, Nat.reduceEqDiff, Nat.reduceAdd, Nat.reduceLT, Nat.reduceLeDiff, Nat.reduceSub])
        | (refine aol_guard_b (by rfl) (by rfl) (fun h => ?_) (fun h => ?_) <;> (try simp only [Bool.and_eq_true, Bool.and_eq_false_iff, Bool.or_eq_true, Bool.or_eq_false_iff, List.all_cons, List.all_nil, Bool.and_true, beq_self_eq_true, beq_iff_eq, beq_eq_false_iff_ne, ne_eq, decide_true, decide_false, not_true_eq_false, not_false_eq_true, decide_eq_true_eq, decide_eq_false_iff_not, Bool.not_true, Bool.not_false, Bool.not_eq_true', Bool.not_eq_false', Int.not_le, Int.not_lt, reduceCtorEq, inR_iff, inR_not, isSet_iff, isSet_not] at h) <;> simp (config := { maxSteps := 2000000 }) (disch := omega) only [go_sem, ↓reduceIte, Nat.reduceEqDiff, Nat.reduceAdd, Nat.reduceLT, Nat.reduceLeDiff, Nat.reduceSub])
        | simp (config := { maxSteps := 2000000 }) (disch := omega) only [go_sem, ↓reduceIte, Nat.reduceEqDiff, Nat.reduceAdd, Nat.reduceLT, Nat.reduceLeDiff, Nat.reduceSub])
    | ((with_reducible refine hK _ ?_); clear hK K; try simp only [thn_n, blk_n, fin_n, finm_n])
    | (with_reducible refine awp_seq fun K hK => ?_)
    | ((with_reducible show Awp _ _ (Code.region _ _ _) _ _); first
        | (refine awp_regK (by repeat constructor) (fun K hK => ?_); simp (config := { maxSteps := 2000000 }) (disch := omega) only [go_sem, ↓reduceIte, Nat.reduceEqDiff, Nat.reduceAdd, Nat.reduceLT, Nat.reduceLeDiff, Nat.reduceSub])
        | (refine awp_drwK (by kernel_rfl) (by repeat constructor) (fun K hK => ?_); simp (config := { maxSteps := 2000000 }) (disch := omega) only [go_sem, ↓reduceIte, Nat.reduceEqDiff, Nat.reduceAdd, Nat.reduceLT, Nat.reduceLeDiff, Nat.reduceSub]))
    | ((with_reducible show Awp _ _ (Code.cond _ _ _) _ _); refine awp_cond rfl (fun h => ?_) (fun h => ?_) <;> (try simp only [Bool.and_eq_true, Bool.and_eq_false_iff, Bool.or_eq_true, Bool.or_eq_false_iff, List.all_cons, List.all_nil, Bool.and_true, beq_self_eq_true, beq_iff_eq, beq_eq_false_iff_ne, ne_eq, decide_true, decide_false, not_true_eq_false, not_false_eq_true, decide_eq_true_eq, decide_eq_false_iff_not, Bool.not_true, Bool.not_false, Bool.not_eq_true', Bool.not_eq_false', Int.not_le, Int.not_lt, reduceCtorEq, inR_iff, inR_not, isSet_iff, isSet_not] at h))
    | ((with_reducible refine awp_skip ?_); simp only [thn_n, blk_n, fin_n, finm_n])
    | ((with_reducible refine awp_ret ?_); simp only [thn_r, blk_r, fin_r, finm_r])
    | (with_reducible refine awp_block ?_)
    | ((with_reducible refine awp_exit ?_); simp only [thn_e, blk_e, blk_x, blk_n, thn_n, ne_eq, not_false_eq_true, Nat.reduceEqDiff, reduceCtorEq]; first | (refine hK _ ?_; clear hK K) | (clear hK K; refine hK _ ?_; clear hK K) | (clear hK K; clear hK K; refine hK _ ?_; clear hK K) | (clear hK K; clear hK K; clear hK K; refine hK _ ?_; clear hK K) | skip)
    | (with_reducible apply And.intro)
    | (with_reducible exact True.intro)
    | ((with_reducible show List.all _ _ = true); rfl)
    | ((with_reducible show lendOk _ _ = true); rfl)
    | omega
    | ((first | (with_reducible show ¬ _) | (with_reducible show _ → _)); intro h; first | contradiction | cases h; done | skip)
  all_goals (try (first | refine fin_keep ?_ | refine finm_keep ?_; repeat clear hK))
  refine awp_for (fun s (k : Nat) => s.at [1, 7, 8] [(9, .i k)] s.hp) (fun k => k ≤ l.length ∧ (l.take k).all (fun x => !decide (iand x s = 0)) = true) (fun k => l.length - k) 0 ⟨by omega, by simp⟩ ?_ ?_
  · simp [-List.getD_eq_getElem?_getD, -List.length_take, Le, leFr, ASt.at, keepFr, updAll, upd_zero, upd_succ]
  rintro k ⟨hk, ha⟩
  simp only [ASt.at, keepFr, updAll, upd_zero, upd_succ, List.mem_cons, List.not_mem_nil, Nat.reduceEqDiff, Nat.reduceAdd, or_false, or_true, false_or, true_or, ↓reduceIte, eq_self]
  repeat' first
    | ((with_reducible show aol _ _ _ _ _); first
        | (refine aol_guard_f (by rfl) ?_ ?_; (focus (simp only [go_sem]; done)))
        | (refine aol_guard_un (by rfl) ?_ ?_; (focus (simp only [go_sem]; done)))
        | (refine aol_guard_t (by rfl) ?_ ?_; (focus (simp only [go_sem]; done)); simp (config := { maxSteps := 2000000 }) (disch := omega) only [go_sem, ↓reduceIte, Nat.reduceEqDiff, Nat.reduceAdd, Nat.reduceLT, Nat.reduceLeDiff, Nat.reduceSub])
        | (refine aol_guard_b (by rfl) (by rfl) (fun h => ?_) (fun h => ?_) <;> (try simp only [Bool.and_eq_true, Bool.and_eq_false_iff, Bool.or_eq_true, Bool.or_eq_false_iff, List.all_cons, List.all_nil, Bool.and_true, beq_self_eq_true, beq_iff_eq, beq_eq_false_iff_ne, ne_eq, decide_true, decide_false, not_true_eq_false, not_false_eq_true, decide_eq_true_eq, decide_eq_false_iff_not, Bool.not_true, Bool.not_false, Bool.not_eq_true', Bool.not_eq_false', Int.not_le, Int.not_lt, reduceCtorEq, inR_iff, inR_not, isSet_iff, isSet_not] at h) <;> simp (config := { maxSteps := 2000000 }) (disch := omega) only [go_sem, ↓reduceIte, Nat.reduceEqDiff, Nat.reduceAdd, Nat.reduceLT, Nat.reduceLeDiff, Nat.reduceSub])
        | simp (config := { maxSteps := 2000000 }) (disch := omega) only [go_sem, ↓reduceIte, Nat.reduceEqDiff, Nat.reduceAdd, Nat.reduceLT, Nat.reduceLeDiff, Nat.reduceSub])
    | ((with_reducible refine hK _ ?_); clear hK K; try simp only [thn_n, blk_n, fin_n, finm_n])
    | (with_reducible refine awp_seq fun K hK => ?_)
    | ((with_reducible show Awp _ _ (Code.region _ _ _) _ _); first
        | (refine awp_regK (by repeat constructor) (fun K hK => ?_); simp (config := { maxSteps := 2000000 }) (disch := omega) only [go_sem, ↓reduceIte, Nat.reduceEqDiff, Nat.reduceAdd, Nat.reduceLT, Nat.reduceLeDiff, Nat.reduceSub])
        | (refine awp_drwK (by kernel_rfl) (by repeat constructor) (fun K hK => ?_); simp (config := { maxSteps := 2000000 }) (disch := omega) only [go_sem, ↓reduceIte, Nat.reduceEqDiff, Nat.reduceAdd, Nat.reduceLT, Nat.reduceLeDiff, Nat.reduceSub]))
    | ((with_reducible show Awp _ _ (Code.cond _ _ _) _ _); refine awp_cond rfl (fun h => ?_) (fun h => ?_) <;> (try simp only [Bool.and_eq_true, Bool.and_eq_false_iff, Bool.or_eq_true, Bool.or_eq_false_iff, List.all_cons, List.all_nil, Bool.and_true, beq_self_eq_true, beq_iff_eq, beq_eq_false_iff_ne, ne_eq, decide_true, decide_false, not_true_eq_false, not_false_eq_true, decide_eq_true_eq, decide_eq_false_iff_not, Bool.not_true, Bool.not_false, Bool.not_eq_true', Bool.not_eq_false', Int.not_le, Int.not_lt, reduceCtorEq, inR_iff, inR_not, isSet_iff, isSet_not] at h))
    | ((with_reducible refine awp_skip ?_); simp only [thn_n, blk_n, fin_n, finm_n])
    | ((with_reducible refine awp_ret ?_); simp only [thn_r, blk_r, fin_r, finm_r])
    | (with_reducible refine awp_block ?_)
    | ((with_reducible refine awp_exit ?_); simp only [thn_e, blk_e, blk_x, blk_n, thn_n, ne_eq, not_false_eq_true, Nat.reduceEqDiff, reduceCtorEq]; first | (refine hK _ ?_; clear hK K) | (clear hK K; refine hK _ ?_; clear hK K) | (clear hK K; clear hK K; refine hK _ ?_; clear hK K) | (clear hK K; clear hK K; clear hK K; refine hK _ ?_; clear hK K) | skip)
    | (with_reducible apply And.intro)
    | (with_reducible exact True.intro)
    | ((with_reducible show List.all _ _ = true); rfl)
    | ((with_reducible show lendOk _ _ = true); rfl)
    | omega
    | ((first | (with_reducible show ¬ _) | (with_reducible show _ → _)); intro h; first | contradiction | cases h; done | skip)
  all_goals (try (first | refine fin_keep ?_ | refine finm_keep ?_; repeat clear hK))
  · refine fin_tmp rfl ?_; simp only [nth_zero, nth_succ]; rw [meetsV, all_of_getD (k := k) (by omega) (by simp only [h, decide_true, decide_false, Bool.not_true, Bool.not_false])]
  · refine ⟨k + 1, ⟨by omega, all_take_succ (by omega) ha (by simp only [h, decide_true, decide_false, Bool.not_true, Bool.not_false])⟩, by omega, ?_⟩
    simp [-List.getD_eq_getElem?_getD, -List.length_take, Le, leFr, ASt.at, keepFr, updAll, upd_zero, upd_succ]
  · refine fin_tmp rfl ?_; simp only [nth_zero, nth_succ]
    rw [List.take_of_length_le (by omega)] at ha; rw [meetsV, ha]

def tIsTr : Tab
  | [.ag [.i g, .sl .i64 l], .i s] => some (True, .b (famV g l && (isSet g s && meetsV l s)), [])
  | _ => none
theorem specIsTr_ok : Fits Try.prog 28 tIsTr := by
  refine ⟨callable_of Try.func28 (by kernel_rfl) rfl, ?_⟩
  intro args p out Ho h hp
  unfold tIsTr at h
  split at h <;> cases h
  rename_i g l s
  refine ⟨acall_by (env_ok (env := [(26, tIsF), (62, tWithin), (65, tFull), (71, tMeets)]) (by simp only [List.forall_mem_cons, List.not_mem_nil, false_implies, implies_true, and_true]; exact ⟨specIsF_ok, specIn_ok, full_ok, specMeets_ok⟩)) Try.func28 rfl rfl rfl rfl rfl ?_, rfl, rfl⟩
  intro hlen c hc hX
  simp only [lensOk, AV.lenOk, true_and, and_true] at hlen
  simp only [Try.ntmps28, Try.results28, List.length_cons, List.length_nil, List.replicate, List.cons_append, List.nil_append, Nat.reduceAdd, Nat.reduceSub]
  repeat' first
    | ((with_reducible show aol _ _ _ _ _); first
        | (refine aol_guard_f (by rfl) ?_ ?_; (focus (simp only [go_sem]; done)))
        | (refine aol_guard_un (by rfl) ?_ ?_; (focus (simp only [go_sem]; done)))
        | (refine aol_guard_t (by rfl) ?_ ?_; (focus (simp only [go_sem]; done)); simp (config := { maxSteps := 2000000 }) (disch := omega) only [go_sem, ↓reduceIte, Nat.reduceEqDiff, Nat.reduceAdd, Nat.reduceLT, Nat.reduceLeDiff, Nat.reduceSub, tIsF, tWithin, tFull, tMeets, inR_isSet])
        | (refine aol_guard_b (by rfl) (by rfl) (fun h => ?_) (fun h => ?_) <;> (try simp only [Bool.and_eq_true, Bool.and_eq_false_iff, Bool.or_eq_true, Bool.or_eq_false_iff, List.all_cons, List.all_nil, Bool.and_true, beq_self_eq_true, beq_iff_eq, beq_eq_false_iff_ne, ne_eq, decide_true, decide_false, not_true_eq_false, not_false_eq_true, decide_eq_true_eq, decide_eq_false_iff_not, Bool.not_true, Bool.not_false, Bool.not_eq_true', Bool.not_eq_false', Int.not_le, Int.not_lt, reduceCtorEq, inR_iff, inR_not, isSet_iff, isSet_not, famV_iff] at h) <;> simp (config := { maxSteps := 2000000 }) (disch := omega) only [go_sem, ↓reduceIte, Nat.reduceEqDiff, Nat.reduceAdd, Nat.reduceLT, Nat.reduceLeDiff, Nat.reduceSub, tIsF, tWithin, tFull, tMeets, inR_isSet])
        | simp (config := { maxSteps := 2000000 }) (disch := omega) only [go_sem, ↓reduceIte, Nat.reduceEqDiff, Nat.reduceAdd, Nat.reduceLT, Nat.reduceLeDiff, Nat.reduceSub, tIsF, tWithin, tFull, tMeets, inR_isSet])
    | ((with_reducible refine hK _ ?_); clear hK K; try simp only [thn_n, blk_n, fin_n, finm_n])
    | (with_reducible refine awp_seq fun K hK => ?_)
    | ((with_reducible show Awp _ _ (Code.region _ _ _) _ _); first
        | (refine awp_regK (by repeat constructor) (fun K hK => ?_); simp (config := { maxSteps := 2000000 }) (disch := omega) only [go_sem, ↓reduceIte, Nat.reduceEqDiff, Nat.reduceAdd, Nat.reduceLT, Nat.reduceLeDiff, Nat.reduceSub, tIsF, tWithin, tFull, tMeets, inR_isSet])
        | (refine awp_drwK (by kernel_rfl) (by repeat constructor) (fun K hK => ?_); simp (config := { maxSteps := 2000000 }) (disch := omega) only [go_sem, ↓reduceIte, Nat.reduceEqDiff, Nat.reduceAdd, Nat.reduceLT, Nat.reduceLeDiff, Nat.reduceSub, tIsF, tWithin, tFull, tMeets, inR_isSet]))
    | ((with_reducible show Awp _ _ (Code.cond _ _ _) _ _); refine awp_cond rfl (fun h => ?_) (fun h => ?_) <;> (try simp only [Bool.and_eq_true, Bool.and_eq_false_iff, Bool.or_eq_true, Bool.or_eq_false_iff, List.all_cons, List.all_nil, Bool.and_true, beq_self_eq_true, beq_iff_eq, beq_eq_false_iff_ne, ne_eq, decide_true, decide_false, not_true_eq_false, not_false_eq_true, decide_eq_true_eq, decide_eq_false_iff_not, Bool.not_true, Bool.not_false, Bool.not_eq_true', Bool.not_eq_false', Int.not_le, Int.not_lt, reduceCtorEq, inR_iff, inR_not, isSet_iff, isSet_not, famV_iff] at h))
    | ((with_reducible refine awp_skip ?_); simp only [thn_n, blk_n, fin_n, finm_n])
    | ((with_reducible refine awp_ret ?_); simp only [thn_r, blk_r, fin_r, finm_r])
    | (with_reducible refine awp_block ?_)
    | ((with_reducible refine awp_exit ?_); simp only [thn_e, blk_e, blk_x, blk_n, thn_n, ne_eq, not_false_eq_true, Nat.reduceEqDiff, reduceCtorEq]; first | (refine hK _ ?_; clear hK K) | (clear hK K; refine hK _ ?_; clear hK K) | (clear hK K; clear hK K; refine hK _ ?_; clear hK K) | (clear hK K; clear hK K; clear hK K; refine hK _ ?_; clear hK K) | skip)
    | (with_reducible apply And.intro)
    | (with_reducible exact True.intro)
    | ((with_reducible show List.all _ _ = true); rfl)
    | ((with_reducible show lendOk _ _ = true); rfl)
    | omega
    | ((first | (with_reducible show ¬ _) | (with_reducible show _ → _)); intro h; first | contradiction | cases h; done | skip)
  all_goals (try (first | refine fin_keep ?_ | refine finm_keep ?_; repeat clear hK))
  all_goals (refine fin_tmp rfl ?_; simp only [nth_zero, nth_succ]; first | rfl | (simp [*]; done) | (refine congrArg AV.b (Bool.eq_iff_iff.2 ?_); simp only [Bool.and_eq_true, Bool.or_eq_true, isSet_iff, inR_iff, Bool.not_eq_true', decide_eq_true_eq, decide_eq_false_iff_not, reduceCtorEq, Bool.false_eq_true, famV_iff]; first | (simp [*]; done) | (simp only [*]; omega) | grind))
theorem implIsTr_ok : Fits Try.prog 29 tIsTr := by
  refine ⟨callable_of Try.func29 (by kernel_rfl) rfl, ?_⟩
  intro args p out Ho h hp
  unfold tIsTr at h
  split at h <;> cases h
  rename_i g l s
  refine ⟨acall_by (env_ok (env := [(27, tIsF), (72, tIsSetOf), (73, tMeets)]) (by simp only [List.forall_mem_cons, List.not_mem_nil, false_implies, implies_true, and_true]; exact ⟨implIsF_ok, isSetOf_ok, implMeets_ok⟩)) Try.func29 rfl rfl rfl rfl rfl ?_, rfl, rfl⟩
  intro hlen c hc hX
  simp only [lensOk, AV.lenOk, true_and, and_true] at hlen
  simp only [Try.ntmps29, Try.results29, List.length_cons, List.length_nil, List.replicate, List.cons_append, List.nil_append, Nat.reduceAdd, Nat.reduceSub]
  repeat' first
    | ((with_reducible show aol _ _ _ _ _); first
        | (refine aol_guard_f (by rfl) ?_ ?_; (focus (simp only [go_sem]; done)))
        | (refine aol_guard_un (by rfl) ?_ ?_; (focus (simp only [go_sem]; done)))
        | (refine aol_guard_t (by rfl) ?_ ?_; (focus (simp only [go_sem]; done)); simp (config := { maxSteps := 2000000 }) (disch := omega) only [go_sem, ↓reduceIte, Nat.reduceEqDiff, Nat.reduceAdd, Nat.reduceLT, Nat.reduceLeDiff, Nat.reduceSub, tIsF, tIsSetOf, tMeets])
        | (refine aol_guard_b (by rfl) (by rfl) (fun h => ?_) (fun h => ?_) <;> (try simp only [Bool.and_eq_true, Bool.and_eq_false_iff, Bool.or_eq_true, Bool.or_eq_false_iff, List.all_cons, List.all_nil, Bool.and_true, beq_self_eq_true, beq_iff_eq, beq_eq_false_iff_ne, ne_eq, decide_true, decide_false, not_true_eq_false, not_false_eq_true, decide_eq_true_eq, decide_eq_false_iff_not, Bool.not_true, Bool.not_false, Bool.not_eq_true', Bool.not_eq_false', Int.not_le, Int.not_lt, reduceCtorEq, inR_iff, inR_not, isSet_iff, isSet_not, famV_iff] at h) <;> simp (config := { maxSteps := 2000000 }) (disch := omega) only [go_sem, ↓reduceIte, Nat.reduceEqDiff, Nat.reduceAdd, Nat.reduceLT, Nat.reduceLeDiff, Nat.reduceSub, tIsF, tIsSetOf, tMeets])
        | simp (config := { maxSteps := 2000000 }) (disch := omega) only [go_sem, ↓reduceIte, Nat.reduceEqDiff, Nat.reduceAdd, Nat.reduceLT, Nat.reduceLeDiff, Nat.reduceSub, tIsF, tIsSetOf, tMeets])
    | ((with_reducible refine hK _ ?_); clear hK K; try simp only [thn_n, blk_n, fin_n, finm_n])
    | (with_reducible refine awp_seq fun K hK => ?_)
    | ((with_reducible show Awp _ _ (Code.region _ _ _) _ _); first
        | (refine awp_regK (by repeat constructor) (fun K hK => ?_); simp (config := { maxSteps := 2000000 }) (disch := omega) only [go_sem, ↓reduceIte, Nat.reduceEqDiff, Nat.reduceAdd, Nat.reduceLT, Nat.reduceLeDiff, Nat.reduceSub, tIsF, tIsSetOf, tMeets])
        | (refine awp_drwK (by kernel_rfl) (by repeat constructor) (fun K hK => ?_); simp (config := { maxSteps := 2000000 }) (disch := omega) only [go_sem, ↓reduceIte, Nat.reduceEqDiff, Nat.reduceAdd, Nat.reduceLT, Nat.reduceLeDiff, Nat.reduceSub, tIsF, tIsSetOf, tMeets]))
    | ((with_reducible show Awp _ _ (Code.cond _ _ _) _ _); refine awp_cond rfl (fun h => ?_) (fun h => ?_) <;> (try simp only [Bool.and_eq_true, Bool.and_eq_false_iff, Bool.or_eq_true, Bool.or_eq_false_iff, List.all_cons, List.all_nil, Bool.and_true, beq_self_eq_true, beq_iff_eq, beq_eq_false_iff_ne, ne_eq, decide_true, decide_false, not_true_eq_false, not_false_eq_true, decide_eq_true_eq, decide_eq_false_iff_not, Bool.not_true, Bool.not_false, Bool.not_eq_true', Bool.not_eq_false', Int.not_le, Int.not_lt, reduceCtorEq, inR_iff, inR_not, isSet_iff, isSet_not, famV_iff] at h))
    | ((with_reducible refine awp_skip ?_); simp only [thn_n, blk_n, fin_n, finm_n])
    | ((with_reducible refine awp_ret ?_); simp only [thn_r, blk_r, fin_r, finm_r])
    | (with_reducible refine awp_block ?_)
    | ((with_reducible refine awp_exit ?_); simp only [thn_e, blk_e, blk_x, blk_n, thn_n, ne_eq, not_false_eq_true, Nat.reduceEqDiff, reduceCtorEq]; first | (refine hK _ ?_; clear hK K) | (clear hK K; refine hK _ ?_; clear hK K) | (clear hK K; clear hK K; refine hK _ ?_; clear hK K) | (clear hK K; clear hK K; clear hK K; refine hK _ ?_; clear hK K) | skip)
    | (with_reducible apply And.intro)
    | (with_reducible exact True.intro)
    | ((with_reducible show List.all _ _ = true); rfl)
    | ((with_reducible show lendOk _ _ = true); rfl)
    | omega
    | ((first | (with_reducible show ¬ _) | (with_reducible show _ → _)); intro h; first | contradiction | cases h; done | skip)
  all_goals (try (first | refine fin_keep ?_ | refine finm_keep ?_; repeat clear hK))
  all_goals (refine fin_tmp rfl ?_; simp only [nth_zero, nth_succ]; first | rfl | (simp [*]; done) | (refine congrArg AV.b (Bool.eq_iff_iff.2 ?_); simp only [Bool.and_eq_true, Bool.or_eq_true, isSet_iff, inR_iff, Bool.not_eq_true', decide_eq_true_eq, decide_eq_false_iff_not, reduceCtorEq, Bool.false_eq_true, famV_iff]; first | (simp [*]; done) | (simp only [*]; omega) | grind))
def tTrueFI : Tab
  | [.ag [.i _, .sl .i64 _], .i _] => some (True, .b true, [])
  | _ => none
theorem exactIsTr_ok : Fits Try.prog 8 tTrueFI := by
  refine ⟨callable_of Try.func8 (by kernel_rfl) rfl, ?_⟩
  intro args p out Ho h hp
  unfold tTrueFI at h
  split at h <;> cases h
  rename_i g l s
  refine ⟨acall_by (env_ok (env := [(21, tSzF), (23, tToFamily), (28, tIsTr), (29, tIsTr), (25, tEqF)]) (by simp only [List.forall_mem_cons, List.not_mem_nil, false_implies, implies_true, and_true]; exact ⟨szFamily_ok, toFamily_ok, specIsTr_ok, implIsTr_ok, eqFamily_ok⟩)) Try.func8 rfl rfl rfl rfl rfl ?_, rfl, rfl⟩
  intro hlen c hc hX
  simp only [lensOk, AV.lenOk, true_and, and_true] at hlen
  simp only [Try.ntmps8, Try.results8, List.length_cons, List.length_nil, List.replicate, List.cons_append, List.nil_append, Nat.reduceAdd, Nat.reduceSub]
  repeat' first
    | ((with_reducible show aol _ _ _ _ _); first
        | (refine aol_guard_f (by rfl) ?_ ?_; (focus (simp only [go_sem]; done)))
        | (refine aol_guard_un (by rfl) ?_ ?_; (focus (simp only [go_sem]; done)))
        | (refine aol_guard_t (by rfl) ?_ ?_; (focus (simp only [go_sem]; done)); simp (config := { maxSteps := 2000000 }) (disch := omega) only [go_sem, ↓reduceIte, Nat.reduceEqDiff, Nat.reduceAdd, Nat.reduceLT, Nat.reduceLeDiff, Nat.reduceSub, tSzF, tToFamily, tIsTr, tEqF])
        | (refine aol_guard_b (by rfl) (by rfl) (fun h => ?_) (fun h => ?_) <;> (try simp only [Bool.and_eq_true, Bool.and_eq_false_iff, Bool.or_eq_true, Bool.or_eq_false_iff, List.all_cons, List.all_nil, Bool.and_true, beq_self_eq_true, beq_iff_eq, beq_eq_false_iff_ne, ne_eq, decide_true, decide_false, not_true_eq_false, not_false_eq_true, decide_eq_true_eq, decide_eq_false_iff_not, Bool.not_true, Bool.not_false, Bool.not_eq_true', Bool.not_eq_false', Int.not_le, Int.not_lt, reduceCtorEq, inR_iff, inR_not, isSet_iff, isSet_not] at h) <;> simp (config := { maxSteps := 2000000 }) (disch := omega) only [go_sem, ↓reduceIte, Nat.reduceEqDiff, Nat.reduceAdd, Nat.reduceLT, Nat.reduceLeDiff, Nat.reduceSub, tSzF, tToFamily, tIsTr, tEqF])
        | simp (config := { maxSteps := 2000000 }) (disch := omega) only [go_sem, ↓reduceIte, Nat.reduceEqDiff, Nat.reduceAdd, Nat.reduceLT, Nat.reduceLeDiff, Nat.reduceSub, tSzF, tToFamily, tIsTr, tEqF])
    | ((with_reducible refine hK _ ?_); clear hK K; try simp only [thn_n, blk_n, fin_n, finm_n])
    | (with_reducible refine awp_seq fun K hK => ?_)
    | ((with_reducible show Awp _ _ (Code.region _ _ _) _ _); first
        | (refine awp_regK (by repeat constructor) (fun K hK => ?_); simp (config := { maxSteps := 2000000 }) (disch := omega) only [go_sem, ↓reduceIte, Nat.reduceEqDiff, Nat.reduceAdd, Nat.reduceLT, Nat.reduceLeDiff, Nat.reduceSub, tSzF, tToFamily, tIsTr, tEqF])
        | (refine awp_drwK (by kernel_rfl) (by repeat constructor) (fun K hK => ?_); simp (config := { maxSteps := 2000000 }) (disch := omega) only [go_sem, ↓reduceIte, Nat.reduceEqDiff, Nat.reduceAdd, Nat.reduceLT, Nat.reduceLeDiff, Nat.reduceSub, tSzF, tToFamily, tIsTr, tEqF]))
    | ((with_reducible show Awp _ _ (Code.cond _ _ _) _ _); refine awp_cond rfl (fun h => ?_) (fun h => ?_) <;> (try simp only [Bool.and_eq_true, Bool.and_eq_false_iff, Bool.or_eq_true, Bool.or_eq_false_iff, List.all_cons, List.all_nil, Bool.and_true, beq_self_eq_true, beq_iff_eq, beq_eq_false_iff_ne, ne_eq, decide_true, decide_false, not_true_eq_false, not_false_eq_true, decide_eq_true_eq, decide_eq_false_iff_not, Bool.not_true, Bool.not_false, Bool.not_eq_true', Bool.not_eq_false', Int.not_le, Int.not_lt, reduceCtorEq, inR_iff, inR_not, isSet_iff, isSet_not] at h))
    | ((with_reducible refine awp_skip ?_); simp only [thn_n, blk_n, fin_n, finm_n])
    | ((with_reducible refine awp_ret ?_); simp only [thn_r, blk_r, fin_r, finm_r])
    | (with_reducible refine awp_block ?_)
    | ((with_reducible refine awp_exit ?_); simp only [thn_e, blk_e, blk_x, blk_n, thn_n, ne_eq, not_false_eq_true, Nat.reduceEqDiff, reduceCtorEq]; first | (refine hK _ ?_; clear hK K) | (clear hK K; refine hK _ ?_; clear hK K) | (clear hK K; clear hK K; refine hK _ ?_; clear hK K) | (clear hK K; clear hK K; clear hK K; refine hK _ ?_; clear hK K) | skip)
    | (with_reducible apply And.intro)
    | (with_reducible exact True.intro)
    | ((with_reducible show List.all _ _ = true); rfl)
    | ((with_reducible show lendOk _ _ = true); rfl)
    | omega
    | ((first | (with_reducible show ¬ _) | (with_reducible show _ → _)); intro h; first | contradiction | cases h; done | skip)
  all_goals (try (first | refine fin_keep ?_ | refine finm_keep ?_; repeat clear hK))
  all_goals (refine fin_tmp rfl ?_; rfl)

/-! ### Degrees -/
def foldK (f : Int → Int → Int) (l : List Int) (k : Nat) : Int := (l.take k).foldl f 0
theorem foldK_succ {f : Int → Int → Int} {l : List Int} {k : Nat} (h : k < l.length) : foldK f l (k + 1) = f (foldK f l k) (l.getD k 0) := by
  unfold foldK
  rw [List.take_add_one, List.foldl_append, List.getElem?_eq_getElem h, List.getD_eq_getElem?_getD, List.getElem?_eq_getElem h]; rfl
def degF (e : Int) (n x : Int) : Int := RowKit.wrap64 (n + iand (ishr x e) 1)
def tDeg : Tab
  | [.ag [.i g, .sl .i64 l], .i e] => some (True, .i (if famV g l && inR e 0 (g - 1) then foldK (degF e) l l.length else -1), [])
  | _ => none
def tIsEl : Tab
  | [.i n, .i e] => some (True, .b (inR e 0 (n - 1)), [])
  | _ => none
theorem isElement_ok : Fits Try.prog 92 tIsEl := by
  refine ⟨callable_of Try.func92 (by kernel_rfl) rfl, ?_⟩
  intro args p out Ho h hp
  unfold tIsEl at h
  split at h <;> cases h
  rename_i n e
  refine ⟨acall_by (env_ok (env := []) (by simp)) Try.func92 rfl rfl rfl rfl rfl ?_, rfl, rfl⟩
  intro hlen c hc hX
  simp only [lensOk, AV.lenOk, true_and, and_true] at hlen
  simp only [Try.ntmps92, Try.results92, List.length_cons, List.length_nil, List.replicate, List.cons_append, List.nil_append, Nat.reduceAdd, Nat.reduceSub]
  repeat' first
    | ((with_reducible show aol _ _ _ _ _); first
        | (refine aol_guard_f (by rfl) ?_ ?_; (focus (simp only [go_sem]; done)))
        | (refine aol_guard_un (by rfl) ?_ ?_; (focus (simp only [go_sem]; done)))
        | (refine aol_guard_t (by rfl) ?_ ?_; (focus (simp only [go_sem]; done)); simp (config := { maxSteps := 2000000 }) (disch := omega) only [go_sem, ↓reduceIte, Nat.reduceEqDiff, Nat.reduceAdd, Nat.reduceLT, Nat.reduceLeDiff, Nat.reduceSub])
        | (refine aol_guard_b (by rfl) (by rfl) (fun h => ?_) (fun h => ?_) <;> (try simp only [Bool.and_eq_true, Bool.and_eq_false_iff, Bool.or_eq_true, Bool.or_eq_false_iff, List.all_cons, List.all_nil, Bool.and_true, beq_self_eq_true, beq_iff_eq, beq_eq_false_iff_ne, ne_eq, decide_true, decide_false, not_true_eq_false, not_false_eq_true, decide_eq_true_eq, decide_eq_false_iff_not, Bool.not_true, Bool.not_false, Bool.not_eq_true', Bool.not_eq_false', Int.not_le, Int.not_lt, reduceCtorEq, inR_iff, inR_not, isSet_iff, isSet_not] at h) <;> simp (config := { maxSteps := 2000000 }) (disch := omega) only [go_sem, ↓reduceIte, Nat.reduceEqDiff, Nat.reduceAdd, Nat.reduceLT, Nat.reduceLeDiff, Nat.reduceSub])
        | simp (config := { maxSteps := 2000000 }) (disch := omega) only [go_sem, ↓reduceIte, Nat.reduceEqDiff, Nat.reduceAdd, Nat.reduceLT, Nat.reduceLeDiff, Nat.reduceSub])
    | ((with_reducible refine hK _ ?_); clear hK K; try simp only [thn_n, blk_n, fin_n, finm_n])
    | (with_reducible refine awp_seq fun K hK => ?_)
    | ((with_reducible show Awp _ _ (Code.region _ _ _) _ _); first
        | (refine awp_regK (by repeat constructor) (fun K hK => ?_); simp (config := { maxSteps := 2000000 }) (disch := omega) only [go_sem, ↓reduceIte, Nat.reduceEqDiff, Nat.reduceAdd, Nat.reduceLT, Nat.reduceLeDiff, Nat.reduceSub])
        | (refine awp_drwK (by kernel_rfl) (by repeat constructor) (fun K hK => ?_); simp (config := { maxSteps := 2000000 }) (disch := omega) only [go_sem, ↓reduceIte, Nat.reduceEqDiff, Nat.reduceAdd, Nat.reduceLT, Nat.reduceLeDiff, Nat.reduceSub]))
    | ((with_reducible show Awp _ _ (Code.cond _ _ _) _ _); refine awp_cond rfl (fun h => ?_) (fun h => ?_) <;> (try simp only [Bool.and_eq_true, Bool.and_eq_false_iff, Bool.or_eq_true, Bool.or_eq_false_iff, List.all_cons, List.all_nil, Bool.and_true, beq_self_eq_true, beq_iff_eq, beq_eq_false_iff_ne, ne_eq, decide_true, decide_false, not_true_eq_false, not_false_eq_true, decide_eq_true_eq, decide_eq_false_iff_not, Bool.not_true, Bool.not_false, Bool.not_eq_true', Bool.not_eq_false', Int.not_le, Int.not_lt, reduceCtorEq, inR_iff, inR_not, isSet_iff, isSet_not] at h))
    | ((with_reducible refine awp_skip ?_); simp only [thn_n, blk_n, fin_n, finm_n])
    | ((with_reducible refine awp_ret ?_); simp only [thn_r, blk_r, fin_r, finm_r])
    | (with_reducible refine awp_block ?_)
    | ((with_reducible refine awp_exit ?_); simp only [thn_e, blk_e, blk_x, blk_n, thn_n, ne_eq, not_false_eq_true, Nat.reduceEqDiff, reduceCtorEq]; first | (refine hK _ ?_; clear hK K) | (clear hK K; refine hK _ ?_; clear hK K) | (clear hK K; clear hK K; refine hK _ ?_; clear hK K) | (clear hK K; clear hK K; clear hK K; refine hK _ ?_; clear hK K) | skip)
    | (with_reducible apply And.intro)
    | (with_reducible exact True.intro)
    | ((with_reducible show List.all _ _ = true); rfl)
    | ((with_reducible show lendOk _ _ = true); rfl)
    | omega
    | ((first | (with_reducible show ¬ _) | (with_reducible show _ → _)); intro h; first | contradiction | cases h; done | skip)
  all_goals (try (first | refine fin_keep ?_ | refine finm_keep ?_; repeat clear hK))
  all_goals (refine fin_tmp rfl ?_; simp only [nth_zero, nth_succ]; first | rfl | (simp [*]; done) | (refine congrArg AV.b (Bool.eq_iff_iff.2 ?_); simp only [Bool.and_eq_true, Bool.or_eq_true, isSet_iff, inR_iff, Bool.not_eq_true', decide_eq_true_eq, decide_eq_false_iff_not, reduceCtorEq, Bool.false_eq_true]; first | (simp [*]; done) | (simp only [*]; omega) | grind))
theorem specDeg_ok : Fits Try.prog 48 tDeg := by
  refine ⟨callable_of Try.func48 (by kernel_rfl) rfl, ?_⟩
  intro args p out Ho h hp
  unfold tDeg at h
  split at h <;> cases h
  rename_i g l e
  refine ⟨acall_by (env_ok (env := [(26, tIsF), (62, tWithin)]) (by simp only [List.forall_mem_cons, List.not_mem_nil, false_implies, implies_true, and_true]; exact ⟨specIsF_ok, specIn_ok⟩)) Try.func48 rfl rfl rfl rfl rfl ?_, rfl, rfl⟩
  intro hlen c hc hX
  simp only [lensOk, AV.lenOk, true_and, and_true] at hlen
  simp only [Try.ntmps48, Try.results48, List.length_cons, List.length_nil, List.replicate, List.cons_append, List.nil_append, Nat.reduceAdd, Nat.reduceSub]
  repeat' first
    | ((with_reducible show aol _ _ _ _ _); first
        | (refine aol_guard_f (by rfl) ?_ ?_; (focus (simp only [go_sem]; done)))
        | (refine aol_guard_un (by rfl) ?_ ?_; (focus (simp only [go_sem]; done)))
        | (refine aol_guard_t (by rfl) ?_ ?_; (focus (simp only [go_sem]; done)); simp (config := { maxSteps := 2000000 }) (disch := omega) only [go_sem, ↓reduceIte, Nat.reduceEqDiff, Nat.reduceAdd, Nat.reduceLT, Nat.reduceLeDiff, Nat.reduceSub, tIsF, tWithin])
        | (refine aol_guard_b (by rfl) (by rfl) (fun h => ?_) (fun h => ?_) <;> (try simp only [Bool.and_eq_true, Bool.and_eq_false_iff, Bool.or_eq_true, Bool.or_eq_false_iff, List.all_cons, List.all_nil, Bool.and_true, beq_self_eq_true, beq_iff_eq, beq_eq_false_iff_ne, ne_eq, decide_true, decide_false, not_true_eq_false, not_false_eq_true, decide_eq_true_eq, decide_eq_false_iff_not, Bool.not_true, Bool.not_false, Bool.not_eq_true', Bool.not_eq_false', Int.not_le, Int.not_lt, reduceCtorEq, inR_iff, inR_not, isSet_iff, isSet_not, famV_iff] at h) <;> simp (config := { maxSteps := 2000000 }) (disch := omega) only [go_sem, ↓reduceIte, Nat.reduceEqDiff, Nat.reduceAdd, Nat.reduceLT, Nat.reduceLeDiff, Nat.reduceSub, tIsF, tWithin])
        | simp (config := { maxSteps := 2000000 }) (disch := omega) only [go_sem, ↓reduceIte, Nat.reduceEqDiff, Nat.reduceAdd, Nat.reduceLT, Nat.reduceLeDiff, Nat.reduceSub, tIsF, tWithin])
    | ((with_reducible refine hK _ ?_); clear hK K; try simp only [thn_n, blk_n, fin_n, finm_n])
    | (with_reducible refine awp_seq fun K hK => ?_)
    | ((with_reducible show Awp _ _ (Code.region _ _ _) _ _); first
        | (refine awp_regK (by repeat constructor) (fun K hK => ?_); simp (config := { maxSteps := 2000000 }) (disch := omega) only [go_sem, ↓reduceIte, Nat.reduceEqDiff, Nat.reduceAdd, Nat.reduceLT, Nat.reduceLeDiff, Nat.reduceSub, tIsF, tWithin])
        | (refine awp_drwK (by kernel_rfl) (by repeat constructor) (fun K hK => ?_); simp (config := { maxSteps := 2000000 }) (disch := omega) only [go_sem, ↓reduceIte, Nat.reduceEqDiff, Nat.reduceAdd, Nat.reduceLT, Nat.reduceLeDiff, Nat.reduceSub, tIsF, tWithin]))
    | ((with_reducible show Awp _ _ (Code.cond _ _ _) _ _); refine awp_cond rfl (fun h => ?_) (fun h => ?_) <;> (try simp only [Bool.and_eq_true, Bool.and_eq_false_iff, Bool.or_eq_true, Bool.or_eq_false_iff, List.all_cons, List.all_nil, Bool.and_true, beq_self_eq_true, beq_iff_eq, beq_eq_false_iff_ne, ne_eq, decide_true, decide_false, not_true_eq_false, not_false_eq_true, decide_eq_true_eq, decide_eq_false_iff_not, Bool.not_true, Bool.not_false, Bool.not_eq_true', Bool.not_eq_false', Int.not_le, Int.not_lt, reduceCtorEq, inR_iff, inR_not, isSet_iff, isSet_not, famV_iff] at h))
    | ((with_reducible refine awp_skip ?_); simp only [thn_n, blk_n, fin_n, finm_n])
    | ((with_reducible refine awp_ret ?_); simp only [thn_r, blk_r, fin_r, finm_r])
    | (with_reducible refine awp_block ?_)
    | ((with_reducible refine awp_exit ?_); simp only [thn_e, blk_e, blk_x, blk_n, thn_n, ne_eq, not_false_eq_true, Nat.reduceEqDiff, reduceCtorEq]; first | (refine hK _ ?_; clear hK K) | (clear hK K; refine hK _ ?_; clear hK K) | (clear hK K; clear hK K; refine hK _ ?_; clear hK K) | (clear hK K; clear hK K; clear hK K; refine hK _ ?_; clear hK K) | skip)
    | (with_reducible apply And.intro)
    | (with_reducible exact True.intro)
    | ((with_reducible show List.all _ _ = true); rfl)
    | ((with_reducible show lendOk _ _ = true); rfl)
    | omega
    | ((first | (with_reducible show ¬ _) | (with_reducible show _ → _)); intro h; first | contradiction | cases h; done | skip)
  all_goals (try (first | refine fin_keep ?_ | refine finm_keep ?_; repeat clear hK))
  · refine fin_tmp rfl ?_; simp only [nth_zero, nth_succ]; rw [if_neg (by rw [Bool.and_eq_true, inR_iff]; omega)]
  rotate_left
  · refine fin_tmp rfl ?_; simp only [nth_zero, nth_succ]; rw [if_neg (by simp [*])]
  have hv : (famV g l && inR e 0 (g - 1)) = true := by rw [Bool.and_eq_true, famV_iff, inR_iff]; exact ⟨by assumption, by assumption⟩
  refine awp_for (fun s (k : Nat) => s.at [1, 2] [(5, .i (foldK (degF e) l k)), (6, .i k)] s.hp) (fun k => k ≤ l.length) (fun k => l.length - k) 0 (by omega) ?_ ?_
  · simp [-List.getD_eq_getElem?_getD, -List.length_take, Le, leFr, ASt.at, keepFr, updAll, upd_zero, upd_succ, foldK]
  rintro k hk
  simp only [ASt.at, keepFr, updAll, upd_zero, upd_succ, List.mem_cons, List.not_mem_nil, Nat.reduceEqDiff, Nat.reduceAdd, or_false, or_true, false_or, true_or, ↓reduceIte, eq_self]
  repeat' first
    | ((with_reducible show aol _ _ _ _ _); first
        | (refine aol_guard_f (by rfl) ?_ ?_; (focus (simp only [go_sem]; done)))
        | (refine aol_guard_un (by rfl) ?_ ?_; (focus (simp only [go_sem]; done)))
        | (refine aol_guard_t (by rfl) ?_ ?_; (focus (simp only [go_sem]; done)); simp (config := { maxSteps := 2000000 }) (disch := omega) only [go_sem, ↓reduceIte, Nat.reduceEqDiff, Nat.reduceAdd, Nat.reduceLT, Nat.reduceLeDiff, Nat.reduceSub])
        | (refine aol_guard_b (by rfl) (by rfl) (fun h => ?_) (fun h => ?_) <;> (try simp only [Bool.and_eq_true, Bool.and_eq_false_iff, Bool.or_eq_true, Bool.or_eq_false_iff, List.all_cons, List.all_nil, Bool.and_true, beq_self_eq_true, beq_iff_eq, beq_eq_false_iff_ne, ne_eq, decide_true, decide_false, not_true_eq_false, not_false_eq_true, decide_eq_true_eq, decide_eq_false_iff_not, Bool.not_true, Bool.not_false, Bool.not_eq_true', Bool.not_eq_false', Int.not_le, Int.not_lt, reduceCtorEq, inR_iff, inR_not, isSet_iff, isSet_not] at h) <;> simp (config := { maxSteps := 2000000 }) (disch := omega) only [go_sem, ↓reduceIte, Nat.reduceEqDiff, Nat.reduceAdd, Nat.reduceLT, Nat.reduceLeDiff, Nat.reduceSub])
        | simp (config := { maxSteps := 2000000 }) (disch := omega) only [go_sem, ↓reduceIte, Nat.reduceEqDiff, Nat.reduceAdd, Nat.reduceLT, Nat.reduceLeDiff, Nat.reduceSub])
    | ((with_reducible refine hK _ ?_); clear hK K; try simp only [thn_n, blk_n, fin_n, finm_n])
    | (with_reducible refine awp_seq fun K hK => ?_)
    | ((with_reducible show Awp _ _ (Code.region _ _ _) _ _); first
        | (refine awp_regK (by repeat constructor) (fun K hK => ?_); simp (config := { maxSteps := 2000000 }) (disch := omega) only [go_sem, ↓reduceIte, Nat.reduceEqDiff, Nat.reduceAdd, Nat.reduceLT, Nat.reduceLeDiff, Nat.reduceSub])
        | (refine awp_drwK (by kernel_rfl) (by repeat constructor) (fun K hK => ?_); simp (config := { maxSteps := 2000000 }) (disch := omega) only [go_sem, ↓reduceIte, Nat.reduceEqDiff, Nat.reduceAdd, Nat.reduceLT, Nat.reduceLeDiff, Nat.reduceSub]))
    | ((with_reducible show Awp _ _ (Code.cond _ _ _) _ _); refine awp_cond rfl (fun h => ?_) (fun h => ?_) <;> (try simp only [Bool.and_eq_true, Bool.and_eq_false_iff, Bool.or_eq_true, Bool.or_eq_false_iff, List.all_cons, List.all_nil, Bool.and_true, beq_self_eq_true, beq_iff_eq, beq_eq_false_iff_ne, ne_eq, decide_true, decide_false, not_true_eq_false, not_false_eq_true, decide_eq_true_eq, decide_eq_false_iff_not, Bool.not_true, Bool.not_false, Bool.not_eq_true', Bool.not_eq_false', Int.not_le, Int.not_lt, reduceCtorEq, inR_iff, inR_not, isSet_iff, isSet_not] at h))
    | ((with_reducible refine awp_skip ?_); simp only [thn_n, blk_n, fin_n, finm_n])
    | ((with_reducible refine awp_ret ?_); simp only [thn_r, blk_r, fin_r, finm_r])
    | (with_reducible refine awp_block ?_)
    | ((with_reducible refine awp_exit ?_); simp only [thn_e, blk_e, blk_x, blk_n, thn_n, ne_eq, not_false_eq_true, Nat.reduceEqDiff, reduceCtorEq]; first | (refine hK _ ?_; clear hK K) | (clear hK K; refine hK _ ?_; clear hK K) | (clear hK K; clear hK K; refine hK _ ?_; clear hK K) | (clear hK K; clear hK K; clear hK K; refine hK _ ?_; clear hK K) | skip)
    | (with_reducible apply And.intro)
    | (with_reducible exact True.intro)
    | ((with_reducible show List.all _ _ = true); rfl)
    | ((with_reducible show lendOk _ _ = true); rfl)
    | omega
    | ((first | (with_reducible show ¬ _) | (with_reducible show _ → _)); intro h; first | contradiction | cases h; done | skip)
  all_goals (try (first | refine fin_keep ?_ | refine finm_keep ?_; repeat clear hK))
  · refine ⟨k + 1, by omega, by omega, ?_⟩
    simp [-List.getD_eq_getElem?_getD, -List.length_take, Le, leFr, ASt.at, keepFr, updAll, upd_zero, upd_succ, foldK_succ (Int.ofNat_lt.1 h), degF]
  · obtain rfl : k = l.length := by omega
    refine fin_tmp rfl ?_; simp only [nth_zero, nth_succ]; rw [if_pos hv]
theorem implDeg_ok : Fits Try.prog 49 tDeg := by
  refine ⟨callable_of Try.func49 (by kernel_rfl) rfl, ?_⟩
  intro args p out Ho h hp
  unfold tDeg at h
  split at h <;> cases h
  rename_i g l e
  refine ⟨acall_by (env_ok (env := [(27, tIsF), (92, tIsEl)]) (by simp only [List.forall_mem_cons, List.not_mem_nil, false_implies, implies_true, and_true]; exact ⟨implIsF_ok, isElement_ok⟩)) Try.func49 rfl rfl rfl rfl rfl ?_, rfl, rfl⟩
  intro hlen c hc hX
  simp only [lensOk, AV.lenOk, true_and, and_true] at hlen
  simp only [Try.ntmps49, Try.results49, List.length_cons, List.length_nil, List.replicate, List.cons_append, List.nil_append, Nat.reduceAdd, Nat.reduceSub]
  repeat' first
    | ((with_reducible show aol _ _ _ _ _); first
        | (refine aol_guard_f (by rfl) ?_ ?_; (focus (simp only [go_sem]; done)))
        | (refine aol_guard_un (by rfl) ?_ ?_; (focus (simp only [go_sem]; done)))
        | (refine aol_guard_t (by rfl) ?_ ?_; (focus (simp only [go_sem]; done)); simp (config := { maxSteps := 2000000 }) (disch := omega) only [go_sem, ↓reduceIte, Nat.reduceEqDiff, Nat.reduceAdd, Nat.reduceLT, Nat.reduceLeDiff, Nat.reduceSub, tIsF, tIsEl])
        | (refine aol_guard_b (by rfl) (by rfl) (fun h => ?_) (fun h => ?_) <;> (try simp only [Bool.and_eq_true, Bool.and_eq_false_iff, Bool.or_eq_true, Bool.or_eq_false_iff, List.all_cons, List.all_nil, Bool.and_true, beq_self_eq_true, beq_iff_eq, beq_eq_false_iff_ne, ne_eq, decide_true, decide_false, not_true_eq_false, not_false_eq_true, decide_eq_true_eq, decide_eq_false_iff_not, Bool.not_true, Bool.not_false, Bool.not_eq_true', Bool.not_eq_false', Int.not_le, Int.not_lt, reduceCtorEq, inR_iff, inR_not, isSet_iff, isSet_not, famV_iff] at h) <;> simp (config := { maxSteps := 2000000 }) (disch := omega) only [go_sem, ↓reduceIte, Nat.reduceEqDiff, Nat.reduceAdd, Nat.reduceLT, Nat.reduceLeDiff, Nat.reduceSub, tIsF, tIsEl])
        | simp (config := { maxSteps := 2000000 }) (disch := omega) only [go_sem, ↓reduceIte, Nat.reduceEqDiff, Nat.reduceAdd, Nat.reduceLT, Nat.reduceLeDiff, Nat.reduceSub, tIsF, tIsEl])
    | ((with_reducible refine hK _ ?_); clear hK K; try simp only [thn_n, blk_n, fin_n, finm_n])
    | (with_reducible refine awp_seq fun K hK => ?_)
    | ((with_reducible show Awp _ _ (Code.region _ _ _) _ _); first
        | (refine awp_regK (by repeat constructor) (fun K hK => ?_); simp (config := { maxSteps := 2000000 }) (disch := omega) only [go_sem, ↓reduceIte, Nat.reduceEqDiff, Nat.reduceAdd, Nat.reduceLT, Nat.reduceLeDiff, Nat.reduceSub, tIsF, tIsEl])
        | (refine awp_drwK (by kernel_rfl) (by repeat constructor) (fun K hK => ?_); simp (config := { maxSteps := 2000000 }) (disch := omega) only [go_sem, ↓reduceIte, Nat.reduceEqDiff, Nat.reduceAdd, Nat.reduceLT, Nat.reduceLeDiff, Nat.reduceSub, tIsF, tIsEl]))
    | ((with_reducible show Awp _ _ (Code.cond _ _ _) _ _); refine awp_cond rfl (fun h => ?_) (fun h => ?_) <;> (try simp only [Bool.and_eq_true, Bool.and_eq_false_iff, Bool.or_eq_true, Bool.or_eq_false_iff, List.all_cons, List.all_nil, Bool.and_true, beq_self_eq_true, beq_iff_eq, beq_eq_false_iff_ne, ne_eq, decide_true, decide_false, not_true_eq_false, not_false_eq_true, decide_eq_true_eq, decide_eq_false_iff_not, Bool.not_true, Bool.not_false, Bool.not_eq_true', Bool.not_eq_false', Int.not_le, Int.not_lt, reduceCtorEq, inR_iff, inR_not, isSet_iff, isSet_not, famV_iff] at h))
    | ((with_reducible refine awp_skip ?_); simp only [thn_n, blk_n, fin_n, finm_n])
    | ((with_reducible refine awp_ret ?_); simp only [thn_r, blk_r, fin_r, finm_r])
    | (with_reducible refine awp_block ?_)
    | ((with_reducible refine awp_exit ?_); simp only [thn_e, blk_e, blk_x, blk_n, thn_n, ne_eq, not_false_eq_true, Nat.reduceEqDiff, reduceCtorEq]; first | (refine hK _ ?_; clear hK K) | (clear hK K; refine hK _ ?_; clear hK K) | (clear hK K; clear hK K; refine hK _ ?_; clear hK K) | (clear hK K; clear hK K; clear hK K; refine hK _ ?_; clear hK K) | skip)
    | (with_reducible apply And.intro)
    | (with_reducible exact True.intro)
    | ((with_reducible show List.all _ _ = true); rfl)
    | ((with_reducible show lendOk _ _ = true); rfl)
    | omega
    | ((first | (with_reducible show ¬ _) | (with_reducible show _ → _)); intro h; first | contradiction | cases h; done | skip)
  all_goals (try (first | refine fin_keep ?_ | refine finm_keep ?_; repeat clear hK))
  · refine fin_tmp rfl ?_; simp only [nth_zero, nth_succ]; rw [if_neg (by rw [Bool.and_eq_true, inR_iff]; omega)]
  rotate_left
  · refine fin_tmp rfl ?_; simp only [nth_zero, nth_succ]; rw [if_neg (by simp [*])]
  have hv : (famV g l && inR e 0 (g - 1)) = true := by rw [Bool.and_eq_true, famV_iff, inR_iff]; exact ⟨by assumption, by assumption⟩
  have hu := u64_id (n := e) (by omega) (by omega)
  refine awp_for (fun s (k : Nat) => s.at [1, 19, 20] [(5, .i (foldK (degF e) l k)), (21, .i k)] s.hp) (fun k => k ≤ l.length) (fun k => l.length - k) 0 (by omega) ?_ ?_
  · simp [-List.getD_eq_getElem?_getD, -List.length_take, Le, leFr, ASt.at, keepFr, updAll, upd_zero, upd_succ, foldK]
  rintro k hk
  simp only [ASt.at, keepFr, updAll, upd_zero, upd_succ, List.mem_cons, List.not_mem_nil, Nat.reduceEqDiff, Nat.reduceAdd, or_false, or_true, false_or, true_or, ↓reduceIte, eq_self]
  repeat' first
    | ((with_reducible show aol _ _ _ _ _); first
        | (refine aol_guard_f (by rfl) ?_ ?_; (focus (simp only [go_sem]; done)))
        | (refine aol_guard_un (by rfl) ?_ ?_; (focus (simp only [go_sem]; done)))
        | (refine aol_guard_t (by rfl) ?_ ?_; (focus (simp only [go_sem]; done)); simp (config := { maxSteps := 2000000 }) (disch := omega) only [go_sem, ↓reduceIte, Nat.reduceEqDiff, Nat.reduceAdd, Nat.reduceLT, Nat.reduceLeDiff, Nat.reduceSub, hu])
        | (refine aol_guard_b (by rfl) (by rfl) (fun h => ?_) (fun h => ?_) <;> (try simp only [Bool.and_eq_true, Bool.and_eq_false_iff, Bool.or_eq_true, Bool.or_eq_false_iff, List.all_cons, List.all_nil, Bool.and_true, beq_self_eq_true, beq_iff_eq, beq_eq_false_iff_ne, ne_eq, decide_true, decide_false, not_true_eq_false, not_false_eq_true, decide_eq_true_eq, decide_eq_false_iff_not, Bool.not_true, Bool.not_false, Bool.not_eq_true', Bool.not_eq_false', Int.not_le, Int.not_lt, reduceCtorEq, inR_iff, inR_not, isSet_iff, isSet_not] at h) <;> simp (config := { maxSteps := 2000000 }) (disch := omega) only [go_sem, ↓reduceIte, Nat.reduceEqDiff, Nat.reduceAdd, Nat.reduceLT, Nat.reduceLeDiff, Nat.reduceSub, hu])
        | simp (config := { maxSteps := 2000000 }) (disch := omega) only [go_sem, ↓reduceIte, Nat.reduceEqDiff, Nat.reduceAdd, Nat.reduceLT, Nat.reduceLeDiff, Nat.reduceSub, hu])
    | ((with_reducible refine hK _ ?_); clear hK K; try simp only [thn_n, blk_n, fin_n, finm_n])
    | (with_reducible refine awp_seq fun K hK => ?_)
    | ((with_reducible show Awp _ _ (Code.region _ _ _) _ _); first
        | (refine awp_regK (by repeat constructor) (fun K hK => ?_); simp (config := { maxSteps := 2000000 }) (disch := omega) only [go_sem, ↓reduceIte, Nat.reduceEqDiff, Nat.reduceAdd, Nat.reduceLT, Nat.reduceLeDiff, Nat.reduceSub, hu])
        | (refine awp_drwK (by kernel_rfl) (by repeat constructor) (fun K hK => ?_); simp (config := { maxSteps := 2000000 }) (disch := omega) only [go_sem, ↓reduceIte, Nat.reduceEqDiff, Nat.reduceAdd, Nat.reduceLT, Nat.reduceLeDiff, Nat.reduceSub, hu]))
    | ((with_reducible show Awp _ _ (Code.cond _ _ _) _ _); refine awp_cond rfl (fun h => ?_) (fun h => ?_) <;> (try simp only [Bool.and_eq_true, Bool.and_eq_false_iff, Bool.or_eq_true, Bool.or_eq_false_iff, List.all_cons, List.all_nil, Bool.and_true, beq_self_eq_true, beq_iff_eq, beq_eq_false_iff_ne, ne_eq, decide_true, decide_false, not_true_eq_false, not_false_eq_true, decide_eq_true_eq, decide_eq_false_iff_not, Bool.not_true, Bool.not_false, Bool.not_eq_true', Bool.not_eq_false', Int.not_le, Int.not_lt, reduceCtorEq, inR_iff, inR_not, isSet_iff, isSet_not] at h))
    | ((with_reducible refine awp_skip ?_); simp only [thn_n, blk_n, fin_n, finm_n])
    | ((with_reducible refine awp_ret ?_); simp only [thn_r, blk_r, fin_r, finm_r])
    | (with_reducible refine awp_block ?_)
    | ((with_reducible refine awp_exit ?_); simp only [thn_e, blk_e, blk_x, blk_n, thn_n, ne_eq, not_false_eq_true, Nat.reduceEqDiff, reduceCtorEq]; first | (refine hK _ ?_; clear hK K) | (clear hK K; refine hK _ ?_; clear hK K) | (clear hK K; clear hK K; refine hK _ ?_; clear hK K) | (clear hK K; clear hK K; clear hK K; refine hK _ ?_; clear hK K) | skip)
    | (with_reducible apply And.intro)
    | (with_reducible exact True.intro)
    | ((with_reducible show List.all _ _ = true); rfl)
    | ((with_reducible show lendOk _ _ = true); rfl)
    | omega
    | ((first | (with_reducible show ¬ _) | (with_reducible show _ → _)); intro h; first | contradiction | cases h; done | skip)
  all_goals (try (first | refine fin_keep ?_ | refine finm_keep ?_; repeat clear hK))
  · refine ⟨k + 1, by omega, by omega, ?_⟩
    simp [-List.getD_eq_getElem?_getD, -List.length_take, Le, leFr, ASt.at, keepFr, updAll, upd_zero, upd_succ, foldK_succ (Int.ofNat_lt.1 h), degF]
  · obtain rfl : k = l.length := by omega
    refine fin_tmp rfl ?_; simp only [nth_zero, nth_succ]; rw [if_pos hv]
theorem exactDeg_ok : Fits Try.prog 10 tTrueFI := by
  refine ⟨callable_of Try.func10 (by kernel_rfl) rfl, ?_⟩
  intro args p out Ho h hp
  unfold tTrueFI at h
  split at h <;> cases h
  rename_i g l e
  refine ⟨acall_by (env_ok (env := [(21, tSzF), (23, tToFamily), (48, tDeg), (49, tDeg), (25, tEqF)]) (by simp only [List.forall_mem_cons, List.not_mem_nil, false_implies, implies_true, and_true]; exact ⟨szFamily_ok, toFamily_ok, specDeg_ok, implDeg_ok, eqFamily_ok⟩)) Try.func10 rfl rfl rfl rfl rfl ?_, rfl, rfl⟩
  intro hlen c hc hX
  simp only [lensOk, AV.lenOk, true_and, and_true] at hlen
  simp only [Try.ntmps10, Try.results10, List.length_cons, List.length_nil, List.replicate, List.cons_append, List.nil_append, Nat.reduceAdd, Nat.reduceSub]
  repeat' first
    | ((with_reducible show aol _ _ _ _ _); first
        | (refine aol_guard_f (by rfl) ?_ ?_; (focus (simp only [go_sem]; done)))
        | (refine aol_guard_un (by rfl) ?_ ?_; (focus (simp only [go_sem]; done)))
        | (refine aol_guard_t (by rfl) ?_ ?_; (focus (simp only [go_sem]; done)); simp (config := { maxSteps := 2000000 }) (disch := omega) only [go_sem, ↓reduceIte, Nat.reduceEqDiff, Nat.reduceAdd, Nat.reduceLT, Nat.reduceLeDiff, Nat.reduceSub, tSzF, tToFamily, tDeg, tEqF])
        | (refine aol_guard_b (by rfl) (by rfl) (fun h => ?_) (fun h => ?_) <;> (try simp only [Bool.and_eq_true, Bool.and_eq_false_iff, Bool.or_eq_true, Bool.or_eq_false_iff, List.all_cons, List.all_nil, Bool.and_true, beq_self_eq_true, beq_iff_eq, beq_eq_false_iff_ne, ne_eq, decide_true, decide_false, not_true_eq_false, not_false_eq_true, decide_eq_true_eq, decide_eq_false_iff_not, Bool.not_true, Bool.not_false, Bool.not_eq_true', Bool.not_eq_false', Int.not_le, Int.not_lt, reduceCtorEq, inR_iff, inR_not, isSet_iff, isSet_not] at h) <;> simp (config := { maxSteps := 2000000 }) (disch := omega) only [go_sem, ↓reduceIte, Nat.reduceEqDiff, Nat.reduceAdd, Nat.reduceLT, Nat.reduceLeDiff, Nat.reduceSub, tSzF, tToFamily, tDeg, tEqF])
        | simp (config := { maxSteps := 2000000 }) (disch := omega) only [go_sem, ↓reduceIte, Nat.reduceEqDiff, Nat.reduceAdd, Nat.reduceLT, Nat.reduceLeDiff, Nat.reduceSub, tSzF, tToFamily, tDeg, tEqF])
    | ((with_reducible refine hK _ ?_); clear hK K; try simp only [thn_n, blk_n, fin_n, finm_n])
    | (with_reducible refine awp_seq fun K hK => ?_)
    | ((with_reducible show Awp _ _ (Code.region _ _ _) _ _); first
        | (refine awp_regK (by repeat constructor) (fun K hK => ?_); simp (config := { maxSteps := 2000000 }) (disch := omega) only [go_sem, ↓reduceIte, Nat.reduceEqDiff, Nat.reduceAdd, Nat.reduceLT, Nat.reduceLeDiff, Nat.reduceSub, tSzF, tToFamily, tDeg, tEqF])
        | (refine awp_drwK (by kernel_rfl) (by repeat constructor) (fun K hK => ?_); simp (config := { maxSteps := 2000000 }) (disch := omega) only [go_sem, ↓reduceIte, Nat.reduceEqDiff, Nat.reduceAdd, Nat.reduceLT, Nat.reduceLeDiff, Nat.reduceSub, tSzF, tToFamily, tDeg, tEqF]))
    | ((with_reducible show Awp _ _ (Code.cond _ _ _) _ _); refine awp_cond rfl (fun h => ?_) (fun h => ?_) <;> (try simp only [Bool.and_eq_true, Bool.and_eq_false_iff, Bool.or_eq_true, Bool.or_eq_false_iff, List.all_cons, List.all_nil, Bool.and_true, beq_self_eq_true, beq_iff_eq, beq_eq_false_iff_ne, ne_eq, decide_true, decide_false, not_true_eq_false, not_false_eq_true, decide_eq_true_eq, decide_eq_false_iff_not, Bool.not_true, Bool.not_false, Bool.not_eq_true', Bool.not_eq_false', Int.not_le, Int.not_lt, reduceCtorEq, inR_iff, inR_not, isSet_iff, isSet_not] at h))
    | ((with_reducible refine awp_skip ?_); simp only [thn_n, blk_n, fin_n, finm_n])
    | ((with_reducible refine awp_ret ?_); simp only [thn_r, blk_r, fin_r, finm_r])
    | (with_reducible refine awp_block ?_)
    | ((with_reducible refine awp_exit ?_); simp only [thn_e, blk_e, blk_x, blk_n, thn_n, ne_eq, not_false_eq_true, Nat.reduceEqDiff, reduceCtorEq]; first | (refine hK _ ?_; clear hK K) | (clear hK K; refine hK _ ?_; clear hK K) | (clear hK K; clear hK K; refine hK _ ?_; clear hK K) | (clear hK K; clear hK K; clear hK K; refine hK _ ?_; clear hK K) | skip)
    | (with_reducible apply And.intro)
    | (with_reducible exact True.intro)
    | ((with_reducible show List.all _ _ = true); rfl)
    | ((with_reducible show lendOk _ _ = true); rfl)
    | omega
    | ((first | (with_reducible show ¬ _) | (with_reducible show _ → _)); intro h; first | contradiction | cases h; done | skip)
  all_goals (try (first | refine fin_keep ?_ | refine finm_keep ?_; repeat clear hK))
  all_goals (refine fin_tmp rfl ?_; rfl)

end Go.Proofs.Ytjebaloibfngnaa
