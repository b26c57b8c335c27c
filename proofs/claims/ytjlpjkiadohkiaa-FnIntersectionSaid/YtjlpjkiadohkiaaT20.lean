import Derived.Test.YtjlpjkiadohkiaaT17
import Derived.Test.YtjlpjkiadohkiaaHs
import Derived.Test.YtjlpjkiadohkiaaT19
set_option linter.unusedSimpArgs false
set_option linter.unusedVariables false
set_option maxHeartbeats 2000000
namespace Go.Proofs.Ytjlpjkiadohkiaa
open Go Go.Ab
attribute [local irreducible] aol
attribute [local irreducible] popN


theorem mat_fn {n : Int} {l : List Int} (h : matV n l = true) : fnV n l = true := by
  unfold matV at h; rw [Bool.and_eq_true] at h; exact pol_fn h.1
theorem isSet_in {n s : Int} (h : 0 ≤ s ∧ s < 2 ^ n.toNat) : isSet n s = true := by rw [isSet_iff]; exact h
theorem isSet_out {n s : Int} (h : ¬ (0 ≤ s ∧ s < 2 ^ n.toNat)) : isSet n s = false := by rw [isSet_not]; exact h
theorem set_fn {n s : Int} {l : List Int} (h : fnV n l = true ∧ 0 ≤ s ∧ s < 2 ^ n.toNat) : s < l.length ∧ s < 64 := by
  have hl := fnV_len h.1
  have hf := (fnV_iff.1 h.1).1
  have hp6 : 2 ^ n.toNat ≤ 32 := Nat.le_trans (Nat.pow_le_pow_right (by omega) (show n.toNat ≤ 5 by omega)) (by decide)
  have hpw := pow_nat n.toNat
  omega
def freeV (l : List Int) (s : Int) : Bool := decide (l.getD s.toNat 0 = (popN s.toNat : Int))
def tFree : Tab
  | [.ag [.i n, .sl .i64 l], .i s] => some (fnV n l = true ∧ (0 ≤ s ∧ s < 2 ^ n.toNat), .b (freeV l s), [])
  | _ => none
theorem free_ok : Fits Try.prog 129 tFree := by
  refine ⟨callable_of Try.func129 (by kernel_rfl) rfl, ?_⟩
  intro args p out Ho h hp
  unfold tFree at h
  split at h <;> cases h
  rename_i n l s
  refine ⟨acall_by (env_ok (env := [(118, tSize)]) (by simp only [List.forall_mem_cons, List.not_mem_nil, false_implies, implies_true, and_true]; exact sizeOf_ok)) Try.func129 rfl rfl rfl rfl rfl ?_, rfl, rfl⟩
  intro hlen c hc hX
  simp only [lensOk, AV.lenOk, true_and, and_true] at hlen
  simp only [Try.ntmps129, Try.results129, List.length_cons, List.length_nil, List.replicate, List.cons_append, List.nil_append, Nat.reduceAdd, Nat.reduceSub]
  obtain ⟨hf, hs⟩ := hp
  have hlen2 := fnV_len hf
  rw [fnV_iff] at hf
  have hpw := pow_nat n.toNat
  have hp6 : 2 ^ n.toNat ≤ 64 := Nat.le_trans (Nat.pow_le_pow_right (by omega) (show n.toNat ≤ 6 by omega)) (by decide)
  repeat' first | ((with_reducible show aol _ _ _ _ _); first | (refine aol_guard_f (by rfl) ?_ ?_; (focus (simp only [go_sem]; done))) | (refine aol_guard_un (by rfl) ?_ ?_; (focus (simp only [go_sem]; done)))) | ((with_reducible refine hK _ ?_); clear hK K; try simp only [nxA, nxB]) | (with_reducible refine awp_seq fun K hK => ?_) | ((first | ((with_reducible show aol _ _ _ _ _); try first | (refine aol_guard_t (by rfl) ?_ ?_; (focus (simp only [go_sem]; done))) | (refine aol_guard_b (by rfl) (by rfl) (fun h => ?_) (fun h => ?_) <;> (try simp only [hsA, hsB, hsC, hsD, hsE, List.all_cons, List.all_nil, ne_eq, reduceCtorEq] at h))) | ((with_reducible show Awp _ _ (Code.region _ _ _) _ _); first | refine awp_regK (by repeat constructor) (fun K hK => ?_) | (refine awp_drwK (by kernel_rfl) (by repeat constructor) (fun K hK => ?_)))) <;> simp (config := { maxSteps := 2000000 }) (disch := omega) only [go_sem, ↓reduceIte, Nat.reduceEqDiff, Nat.reduceAdd, Nat.reduceLT, Nat.reduceLeDiff, Nat.reduceSub, tSize]) | ((with_reducible show Awp _ _ (Code.cond _ _ _) _ _); refine awp_cond rfl (fun h => ?_) (fun h => ?_) <;> (try simp only [hsA, hsB, hsC, hsD, hsE, List.all_cons, List.all_nil, ne_eq, reduceCtorEq] at h)) | ((with_reducible first | refine awp_skip ?_ | refine awp_ret ?_); simp only [nxA, nxB]) | (with_reducible refine awp_block ?_) | ((with_reducible refine awp_exit ?_); simp only [nxA, ne_eq, not_false_eq_true, Nat.reduceEqDiff, reduceCtorEq]; try ((first | refine hK _ ?_ | (clear hK K; first | refine hK _ ?_ | (clear hK K; first | refine hK _ ?_ | (clear hK K; refine hK _ ?_)))); clear hK K)) | (with_reducible first | apply And.intro | exact True.intro) | ((with_reducible first | show List.all _ _ = true | show lendOk _ _ = true); rfl) | omega | ((with_reducible first | show ¬ _ | show _ → _); intro h; first | contradiction | cases h; done | skip)
  all_goals (try (first | refine fin_keep ?_ | refine finm_keep ?_; repeat clear hK))
  refine fin_tmp rfl ?_; rfl
def tIn5 : Tab
  | [.ag [.i n, .sl .i64 l], .i s] => some (True, .b (fnV n l && isSet n s), [])
  | _ => none
theorem in5_ok : Fits Try.prog 134 tIn5 := by
  refine ⟨callable_of Try.func134 (by kernel_rfl) rfl, ?_⟩
  intro args p out Ho h hp
  unfold tIn5 at h
  split at h <;> cases h
  rename_i n l s
  refine ⟨acall_by (env_ok (env := [(163, tIsFn), (126, tFull), (125, tWithin)]) (by simp only [List.forall_mem_cons, List.not_mem_nil, false_implies, implies_true, and_true]; exact ⟨specIsFn_ok, full_ok, specIn_ok⟩)) Try.func134 rfl rfl rfl rfl rfl ?_, rfl, rfl⟩
  intro hlen c hc hX
  simp only [lensOk, AV.lenOk, true_and, and_true] at hlen
  simp only [Try.ntmps134, Try.results134, List.length_cons, List.length_nil, List.replicate, List.cons_append, List.nil_append, Nat.reduceAdd, Nat.reduceSub]
  repeat' first | ((with_reducible show aol _ _ _ _ _); first | (refine aol_guard_f (by rfl) ?_ ?_; (focus (simp only [go_sem]; done))) | (refine aol_guard_un (by rfl) ?_ ?_; (focus (simp only [go_sem]; done)))) | ((with_reducible refine hK _ ?_); clear hK K; try simp only [nxA, nxB]) | (with_reducible refine awp_seq fun K hK => ?_) | ((first | ((with_reducible show aol _ _ _ _ _); try first | (refine aol_guard_t (by rfl) ?_ ?_; (focus (simp only [go_sem]; done))) | (refine aol_guard_b (by rfl) (by rfl) (fun h => ?_) (fun h => ?_) <;> (try simp only [hsA, hsB, hsC, hsD, hsE, List.all_cons, List.all_nil, ne_eq, reduceCtorEq, fnV_iff] at h))) | ((with_reducible show Awp _ _ (Code.region _ _ _) _ _); first | refine awp_regK (by repeat constructor) (fun K hK => ?_) | (refine awp_drwK (by kernel_rfl) (by repeat constructor) (fun K hK => ?_)))) <;> simp (config := { maxSteps := 2000000 }) (disch := omega) only [go_sem, ↓reduceIte, Nat.reduceEqDiff, Nat.reduceAdd, Nat.reduceLT, Nat.reduceLeDiff, Nat.reduceSub, tIsFn, tFull, tWithin, inR_isSet]) | ((with_reducible show Awp _ _ (Code.cond _ _ _) _ _); refine awp_cond rfl (fun h => ?_) (fun h => ?_) <;> (try simp only [hsA, hsB, hsC, hsD, hsE, List.all_cons, List.all_nil, ne_eq, reduceCtorEq, fnV_iff] at h)) | ((with_reducible first | refine awp_skip ?_ | refine awp_ret ?_); simp only [nxA, nxB]) | (with_reducible refine awp_block ?_) | ((with_reducible refine awp_exit ?_); simp only [nxA, ne_eq, not_false_eq_true, Nat.reduceEqDiff, reduceCtorEq]; try ((first | refine hK _ ?_ | (clear hK K; first | refine hK _ ?_ | (clear hK K; first | refine hK _ ?_ | (clear hK K; refine hK _ ?_)))); clear hK K)) | (with_reducible first | apply And.intro | exact True.intro) | ((with_reducible first | show List.all _ _ = true | show lendOk _ _ = true); rfl) | omega | ((with_reducible first | show ¬ _ | show _ → _); intro h; first | contradiction | cases h; done | skip)
  all_goals (try (first | refine fin_keep ?_ | refine finm_keep ?_; repeat clear hK))
  · refine fin_tmp rfl ?_; simp only [nth_zero, nth_succ]; rw [fnV_iff.2 h, Bool.true_and]
  · refine fin_tmp rfl ?_; simp only [nth_zero, nth_succ]; rw [h, Bool.false_and]
def indV (n : Int) (l : List Int) (s : Int) : Bool := matV n l && (isSet n s && freeV l s)
def tInd : Tab
  | [.ag [.i n, .sl .i64 l], .i s] => some (True, .b (indV n l s), [])
  | _ => none
theorem specInd_ok : Fits Try.prog 153 tInd := by
  refine ⟨callable_of Try.func153 (by kernel_rfl) rfl, ?_⟩
  intro args p out Ho h hp
  unfold tInd at h
  split at h <;> cases h
  rename_i n l s
  refine ⟨acall_by (env_ok (env := [(134, tIn5), (132, tIsMat), (120, tSize2)]) (by simp only [List.forall_mem_cons, List.not_mem_nil, false_implies, implies_true, and_true]; exact ⟨in5_ok, specIsMat_ok, size2_ok⟩)) Try.func153 rfl rfl rfl rfl rfl ?_, rfl, rfl⟩
  intro hlen c hc hX
  simp only [lensOk, AV.lenOk, true_and, and_true] at hlen
  simp only [Try.ntmps153, Try.results153, List.length_cons, List.length_nil, List.replicate, List.cons_append, List.nil_append, Nat.reduceAdd, Nat.reduceSub]
  repeat' first | ((with_reducible show aol _ _ _ _ _); first | (refine aol_guard_f (by rfl) ?_ ?_; (focus (simp only [go_sem]; done))) | (refine aol_guard_un (by rfl) ?_ ?_; (focus (simp only [go_sem]; done)))) | ((with_reducible refine hK _ ?_); clear hK K; try simp only [nxA, nxB]) | (with_reducible refine awp_seq fun K hK => ?_) | ((first | ((with_reducible show aol _ _ _ _ _); try first | (refine aol_guard_t (by rfl) ?_ ?_; (focus (simp only [go_sem]; done))) | (refine aol_guard_b (by rfl) (by rfl) (fun h => ?_) (fun h => ?_) <;> (try simp only [hsA, hsB, hsC, hsD, hsE, List.all_cons, List.all_nil, ne_eq, reduceCtorEq] at h))) | ((with_reducible show Awp _ _ (Code.region _ _ _) _ _); first | refine awp_regK (by repeat constructor) (fun K hK => ?_) | (refine awp_drwK (by kernel_rfl) (by repeat constructor) (fun K hK => ?_)))) <;> simp (config := { maxSteps := 2000000 }) (disch := omega) only [go_sem, ↓reduceIte, Nat.reduceEqDiff, Nat.reduceAdd, Nat.reduceLT, Nat.reduceLeDiff, Nat.reduceSub, tIn5, tIsMat, tSize2]) | ((with_reducible show Awp _ _ (Code.cond _ _ _) _ _); refine awp_cond rfl (fun h => ?_) (fun h => ?_) <;> (try simp only [hsA, hsB, hsC, hsD, hsE, List.all_cons, List.all_nil, ne_eq, reduceCtorEq] at h)) | ((with_reducible first | refine awp_skip ?_ | refine awp_ret ?_); simp only [nxA, nxB]) | (with_reducible refine awp_block ?_) | ((with_reducible refine awp_exit ?_); simp only [nxA, ne_eq, not_false_eq_true, Nat.reduceEqDiff, reduceCtorEq]; try ((first | refine hK _ ?_ | (clear hK K; first | refine hK _ ?_ | (clear hK K; first | refine hK _ ?_ | (clear hK K; refine hK _ ?_)))); clear hK K)) | (with_reducible first | apply And.intro | exact True.intro) | ((with_reducible first | show List.all _ _ = true | show lendOk _ _ = true); rfl) | omega | ((with_reducible first | show ¬ _ | show _ → _); intro h; first | contradiction | cases h; done | skip)
  all_goals (try (first | refine fin_keep ?_ | refine finm_keep ?_; repeat clear hK))
  · rename_i h1; have := set_fn h1; omega
  · rename_i h1; have := set_fn h1; omega
  · rename_i h1; refine fin_tmp rfl ?_; simp only [nth_zero, nth_succ]; rw [indV, h, isSet_in h1.2]; rfl
  · refine fin_tmp rfl ?_; simp only [nth_zero, nth_succ]; rw [indV, h]; rfl
  · refine fin_tmp rfl ?_; simp only [nth_zero, nth_succ]
    rcases h with h | h
    · rw [indV, Bool.eq_false_iff (b := matV n l) |>.2 fun h2 => by rw [mat_fn h2] at h; cases h]; rfl
    · rw [indV, isSet_out h, Bool.false_and, Bool.and_false]
def areV (n : Int) (l : List Int) (n' : Int) (l' : List Int) : Bool := matV n l && (matV n' l' && decide (n = n'))
def tAre : Tab
  | [.ag [.i n, .sl .i64 l], .ag [.i n', .sl .i64 l']] => some (True, .b (areV n l n' l'), [])
  | _ => none
theorem are_ok : Fits Try.prog 115 tAre := by
  refine ⟨callable_of Try.func115 (by kernel_rfl) rfl, ?_⟩
  intro args p out Ho h hp
  unfold tAre at h
  split at h <;> cases h
  rename_i n l n' l'
  refine ⟨acall_by (env_ok (env := [(15, tIsMat)]) (by simp only [List.forall_mem_cons, List.not_mem_nil, false_implies, implies_true, and_true]; exact implIsMat_ok)) Try.func115 rfl rfl rfl rfl rfl ?_, rfl, rfl⟩
  intro hlen c hc hX
  simp only [lensOk, AV.lenOk, true_and, and_true] at hlen
  simp only [Try.ntmps115, Try.results115, List.length_cons, List.length_nil, List.replicate, List.cons_append, List.nil_append, Nat.reduceAdd, Nat.reduceSub]
  repeat' first | ((with_reducible show aol _ _ _ _ _); first | (refine aol_guard_f (by rfl) ?_ ?_; (focus (simp only [go_sem]; done))) | (refine aol_guard_un (by rfl) ?_ ?_; (focus (simp only [go_sem]; done)))) | ((with_reducible refine hK _ ?_); clear hK K; try simp only [nxA, nxB]) | (with_reducible refine awp_seq fun K hK => ?_) | ((first | ((with_reducible show aol _ _ _ _ _); try first | (refine aol_guard_t (by rfl) ?_ ?_; (focus (simp only [go_sem]; done))) | (refine aol_guard_b (by rfl) (by rfl) (fun h => ?_) (fun h => ?_) <;> (try simp only [hsA, hsB, hsC, hsD, hsE, List.all_cons, List.all_nil, ne_eq, reduceCtorEq] at h))) | ((with_reducible show Awp _ _ (Code.region _ _ _) _ _); first | refine awp_regK (by repeat constructor) (fun K hK => ?_) | (refine awp_drwK (by kernel_rfl) (by repeat constructor) (fun K hK => ?_)))) <;> simp (config := { maxSteps := 2000000 }) (disch := omega) only [go_sem, ↓reduceIte, Nat.reduceEqDiff, Nat.reduceAdd, Nat.reduceLT, Nat.reduceLeDiff, Nat.reduceSub, tIsMat]) | ((with_reducible show Awp _ _ (Code.cond _ _ _) _ _); refine awp_cond rfl (fun h => ?_) (fun h => ?_) <;> (try simp only [hsA, hsB, hsC, hsD, hsE, List.all_cons, List.all_nil, ne_eq, reduceCtorEq] at h)) | ((with_reducible first | refine awp_skip ?_ | refine awp_ret ?_); simp only [nxA, nxB]) | (with_reducible refine awp_block ?_) | ((with_reducible refine awp_exit ?_); simp only [nxA, ne_eq, not_false_eq_true, Nat.reduceEqDiff, reduceCtorEq]; try ((first | refine hK _ ?_ | (clear hK K; first | refine hK _ ?_ | (clear hK K; first | refine hK _ ?_ | (clear hK K; refine hK _ ?_)))); clear hK K)) | (with_reducible first | apply And.intro | exact True.intro) | ((with_reducible first | show List.all _ _ = true | show lendOk _ _ = true); rfl) | omega | ((with_reducible first | show ¬ _ | show _ → _); intro h; first | contradiction | cases h; done | skip)
  all_goals (try (first | refine fin_keep ?_ | refine finm_keep ?_; repeat clear hK))
  all_goals (refine fin_tmp rfl ?_; simp only [nth_zero, nth_succ, areV]; simp [*])
theorem fit_ok : Fits Try.prog 119 tAre := by
  refine ⟨callable_of Try.func119 (by kernel_rfl) rfl, ?_⟩
  intro args p out Ho h hp
  unfold tAre at h
  split at h <;> cases h
  rename_i n l n' l'
  refine ⟨acall_by (env_ok (env := [(132, tIsMat)]) (by simp only [List.forall_mem_cons, List.not_mem_nil, false_implies, implies_true, and_true]; exact specIsMat_ok)) Try.func119 rfl rfl rfl rfl rfl ?_, rfl, rfl⟩
  intro hlen c hc hX
  simp only [lensOk, AV.lenOk, true_and, and_true] at hlen
  simp only [Try.ntmps119, Try.results119, List.length_cons, List.length_nil, List.replicate, List.cons_append, List.nil_append, Nat.reduceAdd, Nat.reduceSub]
  repeat' first | ((with_reducible show aol _ _ _ _ _); first | (refine aol_guard_f (by rfl) ?_ ?_; (focus (simp only [go_sem]; done))) | (refine aol_guard_un (by rfl) ?_ ?_; (focus (simp only [go_sem]; done)))) | ((with_reducible refine hK _ ?_); clear hK K; try simp only [nxA, nxB]) | (with_reducible refine awp_seq fun K hK => ?_) | ((first | ((with_reducible show aol _ _ _ _ _); try first | (refine aol_guard_t (by rfl) ?_ ?_; (focus (simp only [go_sem]; done))) | (refine aol_guard_b (by rfl) (by rfl) (fun h => ?_) (fun h => ?_) <;> (try simp only [hsA, hsB, hsC, hsD, hsE, List.all_cons, List.all_nil, ne_eq, reduceCtorEq] at h))) | ((with_reducible show Awp _ _ (Code.region _ _ _) _ _); first | refine awp_regK (by repeat constructor) (fun K hK => ?_) | (refine awp_drwK (by kernel_rfl) (by repeat constructor) (fun K hK => ?_)))) <;> simp (config := { maxSteps := 2000000 }) (disch := omega) only [go_sem, ↓reduceIte, Nat.reduceEqDiff, Nat.reduceAdd, Nat.reduceLT, Nat.reduceLeDiff, Nat.reduceSub, tIsMat]) | ((with_reducible show Awp _ _ (Code.cond _ _ _) _ _); refine awp_cond rfl (fun h => ?_) (fun h => ?_) <;> (try simp only [hsA, hsB, hsC, hsD, hsE, List.all_cons, List.all_nil, ne_eq, reduceCtorEq] at h)) | ((with_reducible first | refine awp_skip ?_ | refine awp_ret ?_); simp only [nxA, nxB]) | (with_reducible refine awp_block ?_) | ((with_reducible refine awp_exit ?_); simp only [nxA, ne_eq, not_false_eq_true, Nat.reduceEqDiff, reduceCtorEq]; try ((first | refine hK _ ?_ | (clear hK K; first | refine hK _ ?_ | (clear hK K; first | refine hK _ ?_ | (clear hK K; refine hK _ ?_)))); clear hK K)) | (with_reducible first | apply And.intro | exact True.intro) | ((with_reducible first | show List.all _ _ = true | show lendOk _ _ = true); rfl) | omega | ((with_reducible first | show ¬ _ | show _ → _); intro h; first | contradiction | cases h; done | skip)
  all_goals (try (first | refine fin_keep ?_ | refine finm_keep ?_; repeat clear hK))
  all_goals (refine fin_tmp rfl ?_; simp only [nth_zero, nth_succ, areV]; simp [*])
def comV (n : Int) (l : List Int) (n' : Int) (l' : List Int) (s : Int) : Bool := areV n l n' l' && (isSet n s && (freeV l s && freeV l' s))
def tCom : Tab
  | [.ag [.i n, .sl .i64 l], .ag [.i n', .sl .i64 l'], .i s] => some (True, .b (comV n l n' l' s), [])
  | _ => none
theorem are_iff {n n' : Int} {l l' : List Int} : areV n l n' l' = true ↔ matV n l = true ∧ matV n' l' = true ∧ n = n' := by
  unfold areV; rw [Bool.and_eq_true, Bool.and_eq_true, decide_eq_true_eq]
theorem implCom_ok : Fits Try.prog 34 tCom := by
  refine ⟨callable_of Try.func34 (by kernel_rfl) rfl, ?_⟩
  intro args p out Ho h hp
  unfold tCom at h
  split at h <;> cases h
  rename_i n l n' l' s
  refine ⟨acall_by (env_ok (env := [(115, tAre), (128, tIsSetOf), (129, tFree)]) (by simp only [List.forall_mem_cons, List.not_mem_nil, false_implies, implies_true, and_true]; exact ⟨are_ok, isSetOf_ok, free_ok⟩)) Try.func34 rfl rfl rfl rfl rfl ?_, rfl, rfl⟩
  intro hlen c hc hX
  simp only [lensOk, AV.lenOk, true_and, and_true] at hlen
  simp only [Try.ntmps34, Try.results34, List.length_cons, List.length_nil, List.replicate, List.cons_append, List.nil_append, Nat.reduceAdd, Nat.reduceSub]
  have hn := fun h : areV n l n' l' = true => (fnV_iff.1 (mat_fn (are_iff.1 h).1)).1
  have hm := fun h : areV n l n' l' = true => mat_fn (are_iff.1 h).1
  have hm' := fun h : areV n l n' l' = true => mat_fn (are_iff.1 h).2.1
  have he := fun h : areV n l n' l' = true => (are_iff.1 h).2.2
  repeat' first | ((with_reducible show aol _ _ _ _ _); first | (refine aol_guard_f (by rfl) ?_ ?_; (focus (simp only [go_sem]; done))) | (refine aol_guard_un (by rfl) ?_ ?_; (focus (simp only [go_sem]; done)))) | ((with_reducible refine hK _ ?_); clear hK K; try simp only [nxA, nxB]) | (with_reducible refine awp_seq fun K hK => ?_) | ((first | ((with_reducible show aol _ _ _ _ _); try first | (refine aol_guard_t (by rfl) ?_ ?_; (focus (simp only [go_sem]; done))) | (refine aol_guard_b (by rfl) (by rfl) (fun h => ?_) (fun h => ?_) <;> (try simp only [hsA, hsB, hsC, hsD, hsE, List.all_cons, List.all_nil, ne_eq, reduceCtorEq] at h))) | ((with_reducible show Awp _ _ (Code.region _ _ _) _ _); first | refine awp_regK (by repeat constructor) (fun K hK => ?_) | (refine awp_drwK (by kernel_rfl) (by repeat constructor) (fun K hK => ?_)))) <;> simp (config := { maxSteps := 2000000 }) (disch := omega) only [go_sem, ↓reduceIte, Nat.reduceEqDiff, Nat.reduceAdd, Nat.reduceLT, Nat.reduceLeDiff, Nat.reduceSub, tAre, tIsSetOf, tFree]) | ((with_reducible show Awp _ _ (Code.cond _ _ _) _ _); refine awp_cond rfl (fun h => ?_) (fun h => ?_) <;> (try simp only [hsA, hsB, hsC, hsD, hsE, List.all_cons, List.all_nil, ne_eq, reduceCtorEq] at h)) | ((with_reducible first | refine awp_skip ?_ | refine awp_ret ?_); simp only [nxA, nxB]) | (with_reducible refine awp_block ?_) | ((with_reducible refine awp_exit ?_); simp only [nxA, ne_eq, not_false_eq_true, Nat.reduceEqDiff, reduceCtorEq]; try ((first | refine hK _ ?_ | (clear hK K; first | refine hK _ ?_ | (clear hK K; first | refine hK _ ?_ | (clear hK K; refine hK _ ?_)))); clear hK K)) | (with_reducible first | apply And.intro | exact True.intro) | ((with_reducible first | show List.all _ _ = true | show lendOk _ _ = true); rfl) | omega | ((with_reducible first | show ¬ _ | show _ → _); intro h; first | contradiction | cases h; done | skip)
  all_goals (try (first | refine fin_keep ?_ | refine finm_keep ?_; repeat clear hK))
  · exact (hn h).1
  · have := hn h; omega
  · apply hm; assumption
  · apply hm'; assumption
  · rename_i h1 h2; rw [← he h1]; exact h2.2
  · rename_i h1 h2; refine fin_tmp rfl ?_; simp only [nth_zero, nth_succ]; rw [comV, h1, isSet_in h2, h]; rfl
  · rename_i h1 h2; refine fin_tmp rfl ?_; simp only [nth_zero, nth_succ]; rw [comV, h1, isSet_in h2, h]; rfl
  · rename_i h1; refine fin_tmp rfl ?_; simp only [nth_zero, nth_succ]; rw [comV, h1, isSet_out h]; rfl
  · refine fin_tmp rfl ?_; simp only [nth_zero, nth_succ]; rw [comV, h]; rfl
theorem com_ind {n n' : Int} {l l' : List Int} {s : Int} (h : areV n l n' l' = true) : comV n l n' l' s = (indV n l s && indV n' l' s) := by
  obtain ⟨h1, h2, rfl⟩ := are_iff.1 h
  unfold comV indV; rw [h, h1, h2]
  cases isSet n s <;> cases freeV l s <;> rfl
theorem specCom_ok : Fits Try.prog 44 tCom := by
  refine ⟨callable_of Try.func44 (by kernel_rfl) rfl, ?_⟩
  intro args p out Ho h hp
  unfold tCom at h
  split at h <;> cases h
  rename_i n l n' l' s
  refine ⟨acall_by (env_ok (env := [(119, tAre), (153, tInd)]) (by simp only [List.forall_mem_cons, List.not_mem_nil, false_implies, implies_true, and_true]; exact ⟨fit_ok, specInd_ok⟩)) Try.func44 rfl rfl rfl rfl rfl ?_, rfl, rfl⟩
  intro hlen c hc hX
  simp only [lensOk, AV.lenOk, true_and, and_true] at hlen
  simp only [Try.ntmps44, Try.results44, List.length_cons, List.length_nil, List.replicate, List.cons_append, List.nil_append, Nat.reduceAdd, Nat.reduceSub]
  repeat' first | ((with_reducible show aol _ _ _ _ _); first | (refine aol_guard_f (by rfl) ?_ ?_; (focus (simp only [go_sem]; done))) | (refine aol_guard_un (by rfl) ?_ ?_; (focus (simp only [go_sem]; done)))) | ((with_reducible refine hK _ ?_); clear hK K; try simp only [nxA, nxB]) | (with_reducible refine awp_seq fun K hK => ?_) | ((first | ((with_reducible show aol _ _ _ _ _); try first | (refine aol_guard_t (by rfl) ?_ ?_; (focus (simp only [go_sem]; done))) | (refine aol_guard_b (by rfl) (by rfl) (fun h => ?_) (fun h => ?_) <;> (try simp only [hsA, hsB, hsC, hsD, hsE, List.all_cons, List.all_nil, ne_eq, reduceCtorEq] at h))) | ((with_reducible show Awp _ _ (Code.region _ _ _) _ _); first | refine awp_regK (by repeat constructor) (fun K hK => ?_) | (refine awp_drwK (by kernel_rfl) (by repeat constructor) (fun K hK => ?_)))) <;> simp (config := { maxSteps := 2000000 }) (disch := omega) only [go_sem, ↓reduceIte, Nat.reduceEqDiff, Nat.reduceAdd, Nat.reduceLT, Nat.reduceLeDiff, Nat.reduceSub, tAre, tInd]) | ((with_reducible show Awp _ _ (Code.cond _ _ _) _ _); refine awp_cond rfl (fun h => ?_) (fun h => ?_) <;> (try simp only [hsA, hsB, hsC, hsD, hsE, List.all_cons, List.all_nil, ne_eq, reduceCtorEq] at h)) | ((with_reducible first | refine awp_skip ?_ | refine awp_ret ?_); simp only [nxA, nxB]) | (with_reducible refine awp_block ?_) | ((with_reducible refine awp_exit ?_); simp only [nxA, ne_eq, not_false_eq_true, Nat.reduceEqDiff, reduceCtorEq]; try ((first | refine hK _ ?_ | (clear hK K; first | refine hK _ ?_ | (clear hK K; first | refine hK _ ?_ | (clear hK K; refine hK _ ?_)))); clear hK K)) | (with_reducible first | apply And.intro | exact True.intro) | ((with_reducible first | show List.all _ _ = true | show lendOk _ _ = true); rfl) | omega | ((with_reducible first | show ¬ _ | show _ → _); intro h; first | contradiction | cases h; done | skip)
  all_goals (try (first | refine fin_keep ?_ | refine finm_keep ?_; repeat clear hK))
  · rename_i h1; refine fin_tmp rfl ?_; simp only [nth_zero, nth_succ]; rw [com_ind h1, h, Bool.true_and]
  · rename_i h1; refine fin_tmp rfl ?_; simp only [nth_zero, nth_succ]; rw [com_ind h1, h, Bool.false_and]
  · refine fin_tmp rfl ?_; simp only [nth_zero, nth_succ]; rw [comV, h]; rfl
end Go.Proofs.Ytjlpjkiadohkiaa
