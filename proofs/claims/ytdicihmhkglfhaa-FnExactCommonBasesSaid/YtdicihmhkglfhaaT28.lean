import Derived.Test.YtdicihmhkglfhaaT27
set_option linter.unusedSimpArgs false
set_option linter.unusedVariables false
set_option maxHeartbeats 2000000
namespace Go.Proofs.Ytdicihmhkglfhaa
open Go Go.Ab
attribute [local irreducible] aol
attribute [local irreducible] popN


def bsP (n : Int) (l : List Int) (s : Int) : Bool := freeV l s && decide (l.getD s.toNat 0 = l.getD (cbF n) 0)
def tBsC : Tab
  | [.i s, .ref [.i n, .sl .i64 l]] => some (fnV n l = true ∧ (0 ≤ s ∧ s < 2 ^ n.toNat), .b (bsP n l s), [])
  | _ => none
theorem bsC_ok : Fits Try.prog 68 tBsC := by
  refine ⟨callable_of Try.func68 (by kernel_rfl) rfl, ?_⟩
  intro args p out Ho h hp
  unfold tBsC at h
  split at h <;> cases h
  rename_i s n l
  refine ⟨acall_by (env_ok (env := [(69, tFree), (70, tAllOf)]) (by simp only [List.forall_mem_cons, List.not_mem_nil, false_implies, implies_true, and_true]; exact ⟨free_ok, allOf_ok⟩)) Try.func68 rfl rfl rfl rfl rfl ?_, rfl, rfl⟩
  intro hlen c hc hX
  simp only [lensOk, AV.lenOk, true_and, and_true] at hlen
  simp only [Try.ntmps68, Try.results68, List.length_cons, List.length_nil, List.replicate, List.cons_append, List.nil_append, Nat.reduceAdd, Nat.reduceSub]
  obtain ⟨hf, hs⟩ := hp
  have hf' := fnV_iff.1 hf
  have hlen1 := fnV_len hf
  have hs' := set_fn ⟨hf, hs⟩
  have hF := cbF_eq n
  have hcl := cbF_lt n
  have hpw := pow_nat n.toNat
  repeat' first
    | ((with_reducible show aol _ _ _ _ _); first
        | (refine aol_guard_f (by rfl) ?_ ?_; (focus (simp only [go_sem]; done)))
        | (refine aol_guard_un (by rfl) ?_ ?_; (focus (simp only [go_sem]; done)))
        | (refine aol_guard_t (by rfl) ?_ ?_; (focus (simp only [go_sem]; done)); simp (config := { maxSteps := 2000000 }) (disch := omega) only [go_sem, ↓reduceIte, Nat.reduceEqDiff, Nat.reduceAdd, Nat.reduceLT, Nat.reduceLeDiff, Nat.reduceSub, tFree, hf, tAllOf, hF])
        | (refine aol_guard_b (by rfl) (by rfl) (fun h => ?_) (fun h => ?_) <;> (try simp only [Bool.and_eq_true, Bool.and_eq_false_iff, Bool.or_eq_true, Bool.or_eq_false_iff, List.all_cons, List.all_nil, Bool.and_true, beq_self_eq_true, beq_iff_eq, beq_eq_false_iff_ne, ne_eq, decide_true, decide_false, not_true_eq_false, not_false_eq_true, decide_eq_true_eq, decide_eq_false_iff_not, Bool.not_true, Bool.not_false, Bool.not_eq_true', Bool.not_eq_false', Int.not_le, Int.not_lt, reduceCtorEq, inR_iff, inR_not, isSet_iff, isSet_not] at h) <;> simp (config := { maxSteps := 2000000 }) (disch := omega) only [go_sem, ↓reduceIte, Nat.reduceEqDiff, Nat.reduceAdd, Nat.reduceLT, Nat.reduceLeDiff, Nat.reduceSub, tFree, hf, tAllOf, hF])
        | simp (config := { maxSteps := 2000000 }) (disch := omega) only [go_sem, ↓reduceIte, Nat.reduceEqDiff, Nat.reduceAdd, Nat.reduceLT, Nat.reduceLeDiff, Nat.reduceSub, tFree, hf, tAllOf, hF])
    | ((with_reducible refine hK _ ?_); clear hK K; try simp only [thn_n, blk_n, fin_n, finm_n])
    | (with_reducible refine awp_seq fun K hK => ?_)
    | ((with_reducible show Awp _ _ (Code.region _ _ _) _ _); first
        | (refine awp_regK (by repeat constructor) (fun K hK => ?_); simp (config := { maxSteps := 2000000 }) (disch := omega) only [go_sem, ↓reduceIte, Nat.reduceEqDiff, Nat.reduceAdd, Nat.reduceLT, Nat.reduceLeDiff, Nat.reduceSub, tFree, hf, tAllOf, hF])
        | (refine awp_drwK (by kernel_rfl) (by repeat constructor) (fun K hK => ?_); simp (config := { maxSteps := 2000000 }) (disch := omega) only [go_sem, ↓reduceIte, Nat.reduceEqDiff, Nat.reduceAdd, Nat.reduceLT, Nat.reduceLeDiff, Nat.reduceSub, tFree, hf, tAllOf, hF]))
    | ((with_reducible show Awp _ _ (Code.cond _ _ _) _ _); refine awp_cond rfl (fun h => ?_) (fun h => ?_) <;> (try simp only [Bool.and_eq_true, Bool.and_eq_false_iff, Bool.or_eq_true, Bool.or_eq_false_iff, List.all_cons, List.all_nil, Bool.and_true, beq_self_eq_true, beq_iff_eq, beq_eq_false_iff_ne, ne_eq, decide_true, decide_false, not_true_eq_false, not_false_eq_true, decide_eq_true_eq, decide_eq_false_iff_not, Bool.not_true, Bool.not_false, Bool.not_eq_true', Bool.not_eq_false', Int.not_le, Int.not_lt, reduceCtorEq, inR_iff, inR_not, isSet_iff, isSet_not] at h))
    | ((with_reducible refine awp_skip ?_); simp only [thn_n, blk_n, fin_n, finm_n])
    | ((with_reducible refine awp_ret ?_); simp only [thn_r, blk_r, fin_r, finm_r])
    | (with_reducible refine awp_block ?_)
    | ((with_reducible refine awp_exit ?_); simp only [thn_e, blk_e, blk_x, blk_n, thn_n, ne_eq, not_false_eq_true, Nat.reduceEqDiff, reduceCtorEq]; first | (refine hK _ ?_; clear hK K) | (clear hK K; refine hK _ ?_; clear hK K) | (clear hK K; clear hK K; refine hK _ ?_; clear hK K) | (clear hK K; clear hK K; clear hK K; refine hK _ ?_; clear hK K) | skip)
    | (with_reducible apply And.intro)
    | (with_reducible exact True.intro)
    | ((with_reducible show List.all _ _ = true); rfl)
    | ((with_reducible show lendOk _ _ = true); rfl)
    | omega
    | ((first | (with_reducible show ¬ _) | (with_reducible show _ → _)); intro h; first | contradiction | cases h; done | skip)
  all_goals (try (first | refine fin_keep ?_ | refine finm_keep ?_; repeat clear hK))
  · refine fin_tmp rfl ?_; simp only [nth_zero, nth_succ]; rw [bsP, show freeV l s = true by assumption, Bool.true_and]
  · refine fin_tmp rfl ?_; simp only [nth_zero, nth_succ]; rw [bsP, show freeV l s = false by assumption, Bool.false_and]
def tBsCC : Tab
  | [.i n, .fn 68 [.ref [.i m, .sl .i64 l]]] => some ((0 ≤ n ∧ n ≤ 6) ∧ (n = m ∧ fnV n l = true), .ag [.i n, .own 0], [.row .i64 3 (rangeL (bsP n l) (2 ^ n.toNat))])
  | _ => none
theorem BsCC_ok : Fits Try.prog 42 tBsCC := by
  refine ⟨callable_of Try.func42 (by kernel_rfl) rfl, ?_⟩
  intro args p out Ho h hp
  unfold tBsCC at h
  split at h <;> cases h
  rename_i n m l
  refine ⟨acall_by (env_ok (env := [(68, tBsC)]) (by simp only [List.forall_mem_cons, List.not_mem_nil, false_implies, implies_true, and_true]; exact bsC_ok)) Try.func42 rfl rfl rfl rfl rfl ?_, rfl, rfl⟩
  intro hlen c hc hX
  simp only [lensOk, AV.lenOk, true_and, and_true] at hlen
  simp only [Try.ntmps42, Try.results42, List.length_cons, List.length_nil, List.replicate, List.cons_append, List.nil_append, Nat.reduceAdd, Nat.reduceSub]
  obtain ⟨hn, hpre⟩ := hp
  obtain ⟨rfl, hpre⟩ := hpre
  have hu := u64_id (n := n) (by omega) (by omega)
  have hsh := ishl_one (n := n) hn.1 (by omega)
  have hpw := pow_nat n.toNat
  have hp6 : 2 ^ n.toNat ≤ 64 := Nat.le_trans (Nat.pow_le_pow_right (by omega) (show n.toNat ≤ 6 by omega)) (by decide)
  repeat' first
    | ((with_reducible show aol _ _ _ _ _); first
        | (refine aol_guard_f (by rfl) ?_ ?_; (focus (simp only [go_sem]; done)))
        | (refine aol_guard_un (by rfl) ?_ ?_; (focus (simp only [go_sem]; done)))
        | (refine aol_guard_t (by rfl) ?_ ?_; (focus (simp only [go_sem]; done)); simp (config := { maxSteps := 2000000 }) (disch := omega) only [go_sem, ↓reduceIte, Nat.reduceEqDiff, Nat.reduceAdd, Nat.reduceLT, Nat.reduceLeDiff, Nat.reduceSub, tBsC, hu, hsh])
        | (refine aol_guard_b (by rfl) (by rfl) (fun h => ?_) (fun h => ?_) <;> (try simp only [Bool.and_eq_true, Bool.and_eq_false_iff, Bool.or_eq_true, Bool.or_eq_false_iff, List.all_cons, List.all_nil, Bool.and_true, beq_self_eq_true, beq_iff_eq, beq_eq_false_iff_ne, ne_eq, decide_true, decide_false, not_true_eq_false, not_false_eq_true, decide_eq_true_eq, decide_eq_false_iff_not, Bool.not_true, Bool.not_false, Bool.not_eq_true', Bool.not_eq_false', Int.not_le, Int.not_lt, reduceCtorEq, inR_iff, inR_not, isSet_iff, isSet_not] at h) <;> simp (config := { maxSteps := 2000000 }) (disch := omega) only [go_sem, ↓reduceIte, Nat.reduceEqDiff, Nat.reduceAdd, Nat.reduceLT, Nat.reduceLeDiff, Nat.reduceSub, tBsC, hu, hsh])
        | simp (config := { maxSteps := 2000000 }) (disch := omega) only [go_sem, ↓reduceIte, Nat.reduceEqDiff, Nat.reduceAdd, Nat.reduceLT, Nat.reduceLeDiff, Nat.reduceSub, tBsC, hu, hsh])
    | ((with_reducible refine hK _ ?_); clear hK K; try simp only [thn_n, blk_n, fin_n, finm_n])
    | (with_reducible refine awp_seq fun K hK => ?_)
    | ((with_reducible show Awp _ _ (Code.region _ _ _) _ _); first
        | (refine awp_regK (by repeat constructor) (fun K hK => ?_); simp (config := { maxSteps := 2000000 }) (disch := omega) only [go_sem, ↓reduceIte, Nat.reduceEqDiff, Nat.reduceAdd, Nat.reduceLT, Nat.reduceLeDiff, Nat.reduceSub, tBsC, hu, hsh])
        | (refine awp_drwK (by kernel_rfl) (by repeat constructor) (fun K hK => ?_); simp (config := { maxSteps := 2000000 }) (disch := omega) only [go_sem, ↓reduceIte, Nat.reduceEqDiff, Nat.reduceAdd, Nat.reduceLT, Nat.reduceLeDiff, Nat.reduceSub, tBsC, hu, hsh]))
    | ((with_reducible show Awp _ _ (Code.cond _ _ _) _ _); refine awp_cond rfl (fun h => ?_) (fun h => ?_) <;> (try simp only [Bool.and_eq_true, Bool.and_eq_false_iff, Bool.or_eq_true, Bool.or_eq_false_iff, List.all_cons, List.all_nil, Bool.and_true, beq_self_eq_true, beq_iff_eq, beq_eq_false_iff_ne, ne_eq, decide_true, decide_false, not_true_eq_false, not_false_eq_true, decide_eq_true_eq, decide_eq_false_iff_not, Bool.not_true, Bool.not_false, Bool.not_eq_true', Bool.not_eq_false', Int.not_le, Int.not_lt, reduceCtorEq, inR_iff, inR_not, isSet_iff, isSet_not] at h))
    | ((with_reducible refine awp_skip ?_); simp only [thn_n, blk_n, fin_n, finm_n])
    | ((with_reducible refine awp_ret ?_); simp only [thn_r, blk_r, fin_r, finm_r])
    | (with_reducible refine awp_block ?_)
    | ((with_reducible refine awp_exit ?_); simp only [thn_e, blk_e, blk_x, blk_n, thn_n, ne_eq, not_false_eq_true, Nat.reduceEqDiff, reduceCtorEq]; first | (refine hK _ ?_; clear hK K) | (clear hK K; refine hK _ ?_; clear hK K) | (clear hK K; clear hK K; refine hK _ ?_; clear hK K) | (clear hK K; clear hK K; clear hK K; refine hK _ ?_; clear hK K) | skip)
    | (with_reducible apply And.intro)
    | (with_reducible exact True.intro)
    | ((with_reducible show List.all _ _ = true); rfl)
    | ((with_reducible show lendOk _ _ = true); rfl)
    | omega
    | ((first | (with_reducible show ¬ _) | (with_reducible show _ → _)); intro h; first | contradiction | cases h; done | skip)
  all_goals (try (first | refine fin_keep ?_ | refine finm_keep ?_; repeat clear hK))
  refine awp_wk (wk_cell .i64 3 (b := 1) (j := 1) rfl rfl (by simp)) ?_
  refine awp_forR 0 hX (fun st (k : Nat) => st.at [1, 4, 5, 11] [(12, .i k)] [.box 27 [.i 0, .nl], .box 27 [.i n, .own 2], .row .i64 3 (rangeL (bsP n l) k)]) (fun k => k ≤ 2 ^ n.toNat) (fun k => 2 ^ n.toNat - k) 0 (Nat.zero_le _) ?_ ?_
  · exact ⟨[0, 1, 2], rfl, rfl, by simp [-List.getD_eq_getElem?_getD, -List.length_take, List.getD_cons_zero, List.getD_cons_succ, leFr, ASt.at, keepFr, updAll, upd_zero, upd_succ, AV.rnb, AV.rnb0, rangeL], by simp [-List.getD_eq_getElem?_getD, List.getD_cons_zero, List.getD_cons_succ, ASt.at, AO.rnb, AV.rnb0, upd_k0, upd_k1, upd_k2, upd_k3, rangeL], rfl, rfl⟩
  rintro k hk
  simp only [ASt.at, keepFr, updAll, upd_zero, upd_succ, List.mem_cons, List.not_mem_nil, Nat.reduceEqDiff, Nat.reduceAdd, or_false, or_true, false_or, true_or, ↓reduceIte, eq_self]
  have hrl := rangeL_len (bsP n l) k
  have hcl : (k : Int) < 2 ^ n.toNat → (fnV n l = true ∧ (0 ≤ (k : Int) ∧ (k : Int) < 2 ^ n.toNat)) = True := fun hkn => eq_true (⟨hpre, by omega, hkn⟩)
  repeat' first
    | ((with_reducible show aol _ _ _ _ _); first
        | (refine aol_guard_f (by rfl) ?_ ?_; (focus (simp only [go_sem]; done)))
        | (refine aol_guard_un (by rfl) ?_ ?_; (focus (simp only [go_sem]; done)))
        | (refine aol_guard_t (by rfl) ?_ ?_; (focus (simp only [go_sem]; done)); simp (config := { maxSteps := 2000000 }) (disch := omega) only [go_sem, ↓reduceIte, Nat.reduceEqDiff, Nat.reduceAdd, Nat.reduceLT, Nat.reduceLeDiff, Nat.reduceSub, tBsC, hpre, hcl])
        | (refine aol_guard_b (by rfl) (by rfl) (fun h => ?_) (fun h => ?_) <;> (try simp only [Bool.and_eq_true, Bool.and_eq_false_iff, Bool.or_eq_true, Bool.or_eq_false_iff, List.all_cons, List.all_nil, Bool.and_true, beq_self_eq_true, beq_iff_eq, beq_eq_false_iff_ne, ne_eq, decide_true, decide_false, not_true_eq_false, not_false_eq_true, decide_eq_true_eq, decide_eq_false_iff_not, Bool.not_true, Bool.not_false, Bool.not_eq_true', Bool.not_eq_false', Int.not_le, Int.not_lt, reduceCtorEq, inR_iff, inR_not, isSet_iff, isSet_not] at h) <;> simp (config := { maxSteps := 2000000 }) (disch := omega) only [go_sem, ↓reduceIte, Nat.reduceEqDiff, Nat.reduceAdd, Nat.reduceLT, Nat.reduceLeDiff, Nat.reduceSub, tBsC, hpre, hcl])
        | simp (config := { maxSteps := 2000000 }) (disch := omega) only [go_sem, ↓reduceIte, Nat.reduceEqDiff, Nat.reduceAdd, Nat.reduceLT, Nat.reduceLeDiff, Nat.reduceSub, tBsC, hpre, hcl])
    | ((with_reducible refine hK _ ?_); clear hK K; try simp only [thn_n, blk_n, fin_n, finm_n])
    | (with_reducible refine awp_seq fun K hK => ?_)
    | ((with_reducible show Awp _ _ (Code.region _ _ _) _ _); first
        | (refine awp_regK (by repeat constructor) (fun K hK => ?_); simp (config := { maxSteps := 2000000 }) (disch := omega) only [go_sem, ↓reduceIte, Nat.reduceEqDiff, Nat.reduceAdd, Nat.reduceLT, Nat.reduceLeDiff, Nat.reduceSub, tBsC, hpre, hcl])
        | (refine awp_drwK (by kernel_rfl) (by repeat constructor) (fun K hK => ?_); simp (config := { maxSteps := 2000000 }) (disch := omega) only [go_sem, ↓reduceIte, Nat.reduceEqDiff, Nat.reduceAdd, Nat.reduceLT, Nat.reduceLeDiff, Nat.reduceSub, tBsC, hpre, hcl]))
    | ((with_reducible show Awp _ _ (Code.cond _ _ _) _ _); refine awp_cond rfl (fun h => ?_) (fun h => ?_) <;> (try simp only [Bool.and_eq_true, Bool.and_eq_false_iff, Bool.or_eq_true, Bool.or_eq_false_iff, List.all_cons, List.all_nil, Bool.and_true, beq_self_eq_true, beq_iff_eq, beq_eq_false_iff_ne, ne_eq, decide_true, decide_false, not_true_eq_false, not_false_eq_true, decide_eq_true_eq, decide_eq_false_iff_not, Bool.not_true, Bool.not_false, Bool.not_eq_true', Bool.not_eq_false', Int.not_le, Int.not_lt, reduceCtorEq, inR_iff, inR_not, isSet_iff, isSet_not] at h))
    | ((with_reducible refine awp_skip ?_); simp only [thn_n, blk_n, fin_n, finm_n])
    | ((with_reducible refine awp_ret ?_); simp only [thn_r, blk_r, fin_r, finm_r])
    | (with_reducible refine awp_block ?_)
    | ((with_reducible refine awp_exit ?_); simp only [thn_e, blk_e, blk_x, blk_n, thn_n, ne_eq, not_false_eq_true, Nat.reduceEqDiff, reduceCtorEq]; first | (refine hK _ ?_; clear hK K) | (clear hK K; refine hK _ ?_; clear hK K) | (clear hK K; clear hK K; refine hK _ ?_; clear hK K) | (clear hK K; clear hK K; clear hK K; refine hK _ ?_; clear hK K) | skip)
    | (with_reducible apply And.intro)
    | (with_reducible exact True.intro)
    | ((with_reducible show List.all _ _ = true); rfl)
    | ((with_reducible show lendOk _ _ = true); rfl)
    | omega
    | ((first | (with_reducible show ¬ _) | (with_reducible show _ → _)); intro h; first | contradiction | cases h; done | skip)
  all_goals (try (first | refine fin_keep ?_ | refine finm_keep ?_; repeat clear hK))
  · refine ⟨k + 1, by omega, by omega, ?_⟩
    rw [rangeL_yes (by simpa using h)]
    exact ⟨[0, 1, 4], rfl, rfl, by simp [-List.getD_eq_getElem?_getD, -List.length_take, List.getD_cons_zero, List.getD_cons_succ, leFr, ASt.at, keepFr, updAll, upd_zero, upd_succ, AV.rnb, AV.rnb0], by simp [-List.getD_eq_getElem?_getD, List.getD_cons_zero, List.getD_cons_succ, ASt.at, AO.rnb, AV.rnb0, upd_k0, upd_k1, upd_k2, upd_k3], rfl, rfl⟩
  · refine ⟨k + 1, by omega, by omega, ?_⟩
    rw [rangeL_no (by simpa using h)]
    exact ⟨[0, 1, 2], rfl, rfl, by simp [-List.getD_eq_getElem?_getD, -List.length_take, List.getD_cons_zero, List.getD_cons_succ, leFr, ASt.at, keepFr, updAll, upd_zero, upd_succ, AV.rnb, AV.rnb0], by simp [-List.getD_eq_getElem?_getD, List.getD_cons_zero, List.getD_cons_succ, ASt.at, AO.rnb, AV.rnb0, upd_k0, upd_k1, upd_k2, upd_k3], rfl, rfl⟩
  · obtain rfl : k = 2 ^ n.toNat := by omega
    exact fin_pair (d := tPair) (j := 2) rfl rfl rfl rfl rfl rfl

def bsL (n : Int) (l : List Int) : List Int := rangeL (bsP n l) (2 ^ n.toNat)
def tBss : Tab
  | [.ag [.i n, .sl .i64 l]] => some (True, .tu [.ag [.i (or0 (matV n l) n), .own 0], .b (matV n l)], [.row .i64 3 (orE (matV n l) (bsL n l))])
  | _ => none
theorem implBss_ok : Fits Try.prog 41 tBss := by
  refine ⟨callable_of Try.func41 (by kernel_rfl) rfl, ?_⟩
  intro args p out Ho h hp
  unfold tBss at h
  split at h <;> cases h
  rename_i n l
  refine ⟨acall_by (env_ok (env := [(47, tIsMat), (42, tBsCC)]) (by simp only [List.forall_mem_cons, List.not_mem_nil, false_implies, implies_true, and_true]; exact ⟨implIsMat_ok, BsCC_ok⟩)) Try.func41 rfl rfl rfl rfl rfl ?_, rfl, rfl⟩
  intro hlen c hc hX
  simp only [lensOk, AV.lenOk, true_and, and_true] at hlen
  simp only [Try.ntmps41, Try.results41, List.length_cons, List.length_nil, List.replicate, List.cons_append, List.nil_append, Nat.reduceAdd, Nat.reduceSub]
  cases hg : matV n l with
  | false =>
    repeat' first
      | ((with_reducible show aol _ _ _ _ _); first
          | (refine aol_guard_f (by rfl) ?_ ?_; (focus (simp only [go_sem]; done)))
          | (refine aol_guard_un (by rfl) ?_ ?_; (focus (simp only [go_sem]; done)))
          | (refine aol_guard_t (by rfl) ?_ ?_; (focus (simp only [go_sem]; done)); simp (config := { maxSteps := 2000000 }) (disch := omega) only [go_sem, ↓reduceIte, Nat.reduceEqDiff, Nat.reduceAdd, Nat.reduceLT, Nat.reduceLeDiff, Nat.reduceSub, tIsMat, hg])
          | (refine aol_guard_b (by rfl) (by rfl) (fun h => ?_) (fun h => ?_) <;> (try simp only [Bool.and_eq_true, Bool.and_eq_false_iff, Bool.or_eq_true, Bool.or_eq_false_iff, List.all_cons, List.all_nil, Bool.and_true, beq_self_eq_true, beq_iff_eq, beq_eq_false_iff_ne, ne_eq, decide_true, decide_false, not_true_eq_false, not_false_eq_true, decide_eq_true_eq, decide_eq_false_iff_not, Bool.not_true, Bool.not_false, Bool.not_eq_true', Bool.not_eq_false', Int.not_le, Int.not_lt, reduceCtorEq, inR_iff, inR_not, isSet_iff, isSet_not] at h) <;> simp (config := { maxSteps := 2000000 }) (disch := omega) only [go_sem, ↓reduceIte, Nat.reduceEqDiff, Nat.reduceAdd, Nat.reduceLT, Nat.reduceLeDiff, Nat.reduceSub, tIsMat, hg])
          | simp (config := { maxSteps := 2000000 }) (disch := omega) only [go_sem, ↓reduceIte, Nat.reduceEqDiff, Nat.reduceAdd, Nat.reduceLT, Nat.reduceLeDiff, Nat.reduceSub, tIsMat, hg])
      | ((with_reducible refine hK _ ?_); clear hK K; try simp only [thn_n, blk_n, fin_n, finm_n])
      | (with_reducible refine awp_seq fun K hK => ?_)
      | ((with_reducible show Awp _ _ (Code.region _ _ _) _ _); first
          | (refine awp_regK (by repeat constructor) (fun K hK => ?_); simp (config := { maxSteps := 2000000 }) (disch := omega) only [go_sem, ↓reduceIte, Nat.reduceEqDiff, Nat.reduceAdd, Nat.reduceLT, Nat.reduceLeDiff, Nat.reduceSub, tIsMat, hg])
          | (refine awp_drwK (by kernel_rfl) (by repeat constructor) (fun K hK => ?_); simp (config := { maxSteps := 2000000 }) (disch := omega) only [go_sem, ↓reduceIte, Nat.reduceEqDiff, Nat.reduceAdd, Nat.reduceLT, Nat.reduceLeDiff, Nat.reduceSub, tIsMat, hg]))
      | ((with_reducible show Awp _ _ (Code.cond _ _ _) _ _); refine awp_cond rfl (fun h => ?_) (fun h => ?_) <;> (try simp only [Bool.and_eq_true, Bool.and_eq_false_iff, Bool.or_eq_true, Bool.or_eq_false_iff, List.all_cons, List.all_nil, Bool.and_true, beq_self_eq_true, beq_iff_eq, beq_eq_false_iff_ne, ne_eq, decide_true, decide_false, not_true_eq_false, not_false_eq_true, decide_eq_true_eq, decide_eq_false_iff_not, Bool.not_true, Bool.not_false, Bool.not_eq_true', Bool.not_eq_false', Int.not_le, Int.not_lt, reduceCtorEq, inR_iff, inR_not, isSet_iff, isSet_not] at h))
      | ((with_reducible refine awp_skip ?_); simp only [thn_n, blk_n, fin_n, finm_n])
      | ((with_reducible refine awp_ret ?_); simp only [thn_r, blk_r, fin_r, finm_r])
      | (with_reducible refine awp_block ?_)
      | ((with_reducible refine awp_exit ?_); simp only [thn_e, blk_e, blk_x, blk_n, thn_n, ne_eq, not_false_eq_true, Nat.reduceEqDiff, reduceCtorEq]; first | (refine hK _ ?_; clear hK K) | (clear hK K; refine hK _ ?_; clear hK K) | (clear hK K; clear hK K; refine hK _ ?_; clear hK K) | (clear hK K; clear hK K; clear hK K; refine hK _ ?_; clear hK K) | skip)
      | (with_reducible apply And.intro)
      | (with_reducible exact True.intro)
      | ((with_reducible show List.all _ _ = true); rfl)
      | ((with_reducible show lendOk _ _ = true); rfl)
      | omega
      | ((first | (with_reducible show ¬ _) | (with_reducible show _ → _)); intro h; first | contradiction | cases h; done | skip)
    all_goals (try (first | refine fin_keep ?_ | refine finm_keep ?_; repeat clear hK))
    exact fin_pairb_nl (d := tPair) rfl rfl rfl rfl rfl rfl
  | true =>
    have hfn := mat_fn hg
    have hn := (fnV_iff.1 hfn).1
    repeat' first
      | ((with_reducible show aol _ _ _ _ _); first
          | (refine aol_guard_f (by rfl) ?_ ?_; (focus (simp only [go_sem]; done)))
          | (refine aol_guard_un (by rfl) ?_ ?_; (focus (simp only [go_sem]; done)))
          | (refine aol_guard_t (by rfl) ?_ ?_; (focus (simp only [go_sem]; done)); simp (config := { maxSteps := 2000000 }) (disch := omega) only [go_sem, ↓reduceIte, Nat.reduceEqDiff, Nat.reduceAdd, Nat.reduceLT, Nat.reduceLeDiff, Nat.reduceSub, tIsMat, hg, tBsCC, hfn])
          | (refine aol_guard_b (by rfl) (by rfl) (fun h => ?_) (fun h => ?_) <;> (try simp only [Bool.and_eq_true, Bool.and_eq_false_iff, Bool.or_eq_true, Bool.or_eq_false_iff, List.all_cons, List.all_nil, Bool.and_true, beq_self_eq_true, beq_iff_eq, beq_eq_false_iff_ne, ne_eq, decide_true, decide_false, not_true_eq_false, not_false_eq_true, decide_eq_true_eq, decide_eq_false_iff_not, Bool.not_true, Bool.not_false, Bool.not_eq_true', Bool.not_eq_false', Int.not_le, Int.not_lt, reduceCtorEq, inR_iff, inR_not, isSet_iff, isSet_not] at h) <;> simp (config := { maxSteps := 2000000 }) (disch := omega) only [go_sem, ↓reduceIte, Nat.reduceEqDiff, Nat.reduceAdd, Nat.reduceLT, Nat.reduceLeDiff, Nat.reduceSub, tIsMat, hg, tBsCC, hfn])
          | simp (config := { maxSteps := 2000000 }) (disch := omega) only [go_sem, ↓reduceIte, Nat.reduceEqDiff, Nat.reduceAdd, Nat.reduceLT, Nat.reduceLeDiff, Nat.reduceSub, tIsMat, hg, tBsCC, hfn])
      | ((with_reducible refine hK _ ?_); clear hK K; try simp only [thn_n, blk_n, fin_n, finm_n])
      | (with_reducible refine awp_seq fun K hK => ?_)
      | ((with_reducible show Awp _ _ (Code.region _ _ _) _ _); first
          | (refine awp_regK (by repeat constructor) (fun K hK => ?_); simp (config := { maxSteps := 2000000 }) (disch := omega) only [go_sem, ↓reduceIte, Nat.reduceEqDiff, Nat.reduceAdd, Nat.reduceLT, Nat.reduceLeDiff, Nat.reduceSub, tIsMat, hg, tBsCC, hfn])
          | (refine awp_drwK (by kernel_rfl) (by repeat constructor) (fun K hK => ?_); simp (config := { maxSteps := 2000000 }) (disch := omega) only [go_sem, ↓reduceIte, Nat.reduceEqDiff, Nat.reduceAdd, Nat.reduceLT, Nat.reduceLeDiff, Nat.reduceSub, tIsMat, hg, tBsCC, hfn]))
      | ((with_reducible show Awp _ _ (Code.cond _ _ _) _ _); refine awp_cond rfl (fun h => ?_) (fun h => ?_) <;> (try simp only [Bool.and_eq_true, Bool.and_eq_false_iff, Bool.or_eq_true, Bool.or_eq_false_iff, List.all_cons, List.all_nil, Bool.and_true, beq_self_eq_true, beq_iff_eq, beq_eq_false_iff_ne, ne_eq, decide_true, decide_false, not_true_eq_false, not_false_eq_true, decide_eq_true_eq, decide_eq_false_iff_not, Bool.not_true, Bool.not_false, Bool.not_eq_true', Bool.not_eq_false', Int.not_le, Int.not_lt, reduceCtorEq, inR_iff, inR_not, isSet_iff, isSet_not] at h))
      | ((with_reducible refine awp_skip ?_); simp only [thn_n, blk_n, fin_n, finm_n])
      | ((with_reducible refine awp_ret ?_); simp only [thn_r, blk_r, fin_r, finm_r])
      | (with_reducible refine awp_block ?_)
      | ((with_reducible refine awp_exit ?_); simp only [thn_e, blk_e, blk_x, blk_n, thn_n, ne_eq, not_false_eq_true, Nat.reduceEqDiff, reduceCtorEq]; first | (refine hK _ ?_; clear hK K) | (clear hK K; refine hK _ ?_; clear hK K) | (clear hK K; clear hK K; refine hK _ ?_; clear hK K) | (clear hK K; clear hK K; clear hK K; refine hK _ ?_; clear hK K) | skip)
      | (with_reducible apply And.intro)
      | (with_reducible exact True.intro)
      | ((with_reducible show List.all _ _ = true); rfl)
      | ((with_reducible show lendOk _ _ = true); rfl)
      | omega
      | ((first | (with_reducible show ¬ _) | (with_reducible show _ → _)); intro h; first | contradiction | cases h; done | skip)
    all_goals (try (first | refine fin_keep ?_ | refine finm_keep ?_; repeat clear hK))
    exact fin_pairb (d := tPair) rfl rfl rfl rfl rfl rfl rfl
theorem specBss_ok : Fits Try.prog 38 tBss := by
  refine ⟨callable_of Try.func38 (by kernel_rfl) rfl, ?_⟩
  intro args p out Ho h hp
  unfold tBss at h
  split at h <;> cases h
  rename_i n l
  refine ⟨acall_by (env_ok (env := [(46, tIsMat), (62, tSize2)]) (by simp only [List.forall_mem_cons, List.not_mem_nil, false_implies, implies_true, and_true]; exact ⟨specIsMat_ok, size2_ok⟩)) Try.func38 rfl rfl rfl rfl rfl ?_, rfl, rfl⟩
  intro hlen c hc hX
  simp only [lensOk, AV.lenOk, true_and, and_true] at hlen
  simp only [Try.ntmps38, Try.results38, List.length_cons, List.length_nil, List.replicate, List.cons_append, List.nil_append, Nat.reduceAdd, Nat.reduceSub]
  cases hg : matV n l with
  | false =>
    repeat' first
      | ((with_reducible show aol _ _ _ _ _); first
          | (refine aol_guard_f (by rfl) ?_ ?_; (focus (simp only [go_sem]; done)))
          | (refine aol_guard_un (by rfl) ?_ ?_; (focus (simp only [go_sem]; done)))
          | (refine aol_guard_t (by rfl) ?_ ?_; (focus (simp only [go_sem]; done)); simp (config := { maxSteps := 2000000 }) (disch := omega) only [go_sem, ↓reduceIte, Nat.reduceEqDiff, Nat.reduceAdd, Nat.reduceLT, Nat.reduceLeDiff, Nat.reduceSub, tIsMat, hg])
          | (refine aol_guard_b (by rfl) (by rfl) (fun h => ?_) (fun h => ?_) <;> (try simp only [Bool.and_eq_true, Bool.and_eq_false_iff, Bool.or_eq_true, Bool.or_eq_false_iff, List.all_cons, List.all_nil, Bool.and_true, beq_self_eq_true, beq_iff_eq, beq_eq_false_iff_ne, ne_eq, decide_true, decide_false, not_true_eq_false, not_false_eq_true, decide_eq_true_eq, decide_eq_false_iff_not, Bool.not_true, Bool.not_false, Bool.not_eq_true', Bool.not_eq_false', Int.not_le, Int.not_lt, reduceCtorEq, inR_iff, inR_not, isSet_iff, isSet_not] at h) <;> simp (config := { maxSteps := 2000000 }) (disch := omega) only [go_sem, ↓reduceIte, Nat.reduceEqDiff, Nat.reduceAdd, Nat.reduceLT, Nat.reduceLeDiff, Nat.reduceSub, tIsMat, hg])
          | simp (config := { maxSteps := 2000000 }) (disch := omega) only [go_sem, ↓reduceIte, Nat.reduceEqDiff, Nat.reduceAdd, Nat.reduceLT, Nat.reduceLeDiff, Nat.reduceSub, tIsMat, hg])
      | ((with_reducible refine hK _ ?_); clear hK K; try simp only [thn_n, blk_n, fin_n, finm_n])
      | (with_reducible refine awp_seq fun K hK => ?_)
      | ((with_reducible show Awp _ _ (Code.region _ _ _) _ _); first
          | (refine awp_regK (by repeat constructor) (fun K hK => ?_); simp (config := { maxSteps := 2000000 }) (disch := omega) only [go_sem, ↓reduceIte, Nat.reduceEqDiff, Nat.reduceAdd, Nat.reduceLT, Nat.reduceLeDiff, Nat.reduceSub, tIsMat, hg])
          | (refine awp_drwK (by kernel_rfl) (by repeat constructor) (fun K hK => ?_); simp (config := { maxSteps := 2000000 }) (disch := omega) only [go_sem, ↓reduceIte, Nat.reduceEqDiff, Nat.reduceAdd, Nat.reduceLT, Nat.reduceLeDiff, Nat.reduceSub, tIsMat, hg]))
      | ((with_reducible show Awp _ _ (Code.cond _ _ _) _ _); refine awp_cond rfl (fun h => ?_) (fun h => ?_) <;> (try simp only [Bool.and_eq_true, Bool.and_eq_false_iff, Bool.or_eq_true, Bool.or_eq_false_iff, List.all_cons, List.all_nil, Bool.and_true, beq_self_eq_true, beq_iff_eq, beq_eq_false_iff_ne, ne_eq, decide_true, decide_false, not_true_eq_false, not_false_eq_true, decide_eq_true_eq, decide_eq_false_iff_not, Bool.not_true, Bool.not_false, Bool.not_eq_true', Bool.not_eq_false', Int.not_le, Int.not_lt, reduceCtorEq, inR_iff, inR_not, isSet_iff, isSet_not] at h))
      | ((with_reducible refine awp_skip ?_); simp only [thn_n, blk_n, fin_n, finm_n])
      | ((with_reducible refine awp_ret ?_); simp only [thn_r, blk_r, fin_r, finm_r])
      | (with_reducible refine awp_block ?_)
      | ((with_reducible refine awp_exit ?_); simp only [thn_e, blk_e, blk_x, blk_n, thn_n, ne_eq, not_false_eq_true, Nat.reduceEqDiff, reduceCtorEq]; first | (refine hK _ ?_; clear hK K) | (clear hK K; refine hK _ ?_; clear hK K) | (clear hK K; clear hK K; refine hK _ ?_; clear hK K) | (clear hK K; clear hK K; clear hK K; refine hK _ ?_; clear hK K) | skip)
      | (with_reducible apply And.intro)
      | (with_reducible exact True.intro)
      | ((with_reducible show List.all _ _ = true); rfl)
      | ((with_reducible show lendOk _ _ = true); rfl)
      | omega
      | ((first | (with_reducible show ¬ _) | (with_reducible show _ → _)); intro h; first | contradiction | cases h; done | skip)
    all_goals (try (first | refine fin_keep ?_ | refine finm_keep ?_; repeat clear hK))
    exact fin_pairb_nl (d := tPair) rfl rfl rfl rfl rfl rfl
  | true =>
    have hfn := mat_fn hg
    have hf := fnV_iff.1 hfn
    have hlen1 := fnV_len hfn
    have hcl := cbF_lt n
    have hF : (l.length : Int) - 1 = (cbF n : Int) := by omega
    have hp6 : 2 ^ n.toNat ≤ 32 := Nat.le_trans (Nat.pow_le_pow_right (by omega) (show n.toNat ≤ 5 by omega)) (by decide)
    repeat' first
      | ((with_reducible show aol _ _ _ _ _); first
          | (refine aol_guard_f (by rfl) ?_ ?_; (focus (simp only [go_sem]; done)))
          | (refine aol_guard_un (by rfl) ?_ ?_; (focus (simp only [go_sem]; done)))
          | (refine aol_guard_t (by rfl) ?_ ?_; (focus (simp only [go_sem]; done)); simp (config := { maxSteps := 2000000 }) (disch := omega) only [go_sem, ↓reduceIte, Nat.reduceEqDiff, Nat.reduceAdd, Nat.reduceLT, Nat.reduceLeDiff, Nat.reduceSub, tIsMat, hg, hF])
          | (refine aol_guard_b (by rfl) (by rfl) (fun h => ?_) (fun h => ?_) <;> (try simp only [Bool.and_eq_true, Bool.and_eq_false_iff, Bool.or_eq_true, Bool.or_eq_false_iff, List.all_cons, List.all_nil, Bool.and_true, beq_self_eq_true, beq_iff_eq, beq_eq_false_iff_ne, ne_eq, decide_true, decide_false, not_true_eq_false, not_false_eq_true, decide_eq_true_eq, decide_eq_false_iff_not, Bool.not_true, Bool.not_false, Bool.not_eq_true', Bool.not_eq_false', Int.not_le, Int.not_lt, reduceCtorEq, inR_iff, inR_not, isSet_iff, isSet_not] at h) <;> simp (config := { maxSteps := 2000000 }) (disch := omega) only [go_sem, ↓reduceIte, Nat.reduceEqDiff, Nat.reduceAdd, Nat.reduceLT, Nat.reduceLeDiff, Nat.reduceSub, tIsMat, hg, hF])
          | simp (config := { maxSteps := 2000000 }) (disch := omega) only [go_sem, ↓reduceIte, Nat.reduceEqDiff, Nat.reduceAdd, Nat.reduceLT, Nat.reduceLeDiff, Nat.reduceSub, tIsMat, hg, hF])
      | ((with_reducible refine hK _ ?_); clear hK K; try simp only [thn_n, blk_n, fin_n, finm_n])
      | (with_reducible refine awp_seq fun K hK => ?_)
      | ((with_reducible show Awp _ _ (Code.region _ _ _) _ _); first
          | (refine awp_regK (by repeat constructor) (fun K hK => ?_); simp (config := { maxSteps := 2000000 }) (disch := omega) only [go_sem, ↓reduceIte, Nat.reduceEqDiff, Nat.reduceAdd, Nat.reduceLT, Nat.reduceLeDiff, Nat.reduceSub, tIsMat, hg, hF])
          | (refine awp_drwK (by kernel_rfl) (by repeat constructor) (fun K hK => ?_); simp (config := { maxSteps := 2000000 }) (disch := omega) only [go_sem, ↓reduceIte, Nat.reduceEqDiff, Nat.reduceAdd, Nat.reduceLT, Nat.reduceLeDiff, Nat.reduceSub, tIsMat, hg, hF]))
      | ((with_reducible show Awp _ _ (Code.cond _ _ _) _ _); refine awp_cond rfl (fun h => ?_) (fun h => ?_) <;> (try simp only [Bool.and_eq_true, Bool.and_eq_false_iff, Bool.or_eq_true, Bool.or_eq_false_iff, List.all_cons, List.all_nil, Bool.and_true, beq_self_eq_true, beq_iff_eq, beq_eq_false_iff_ne, ne_eq, decide_true, decide_false, not_true_eq_false, not_false_eq_true, decide_eq_true_eq, decide_eq_false_iff_not, Bool.not_true, Bool.not_false, Bool.not_eq_true', Bool.not_eq_false', Int.not_le, Int.not_lt, reduceCtorEq, inR_iff, inR_not, isSet_iff, isSet_not] at h))
      | ((with_reducible refine awp_skip ?_); simp only [thn_n, blk_n, fin_n, finm_n])
      | ((with_reducible refine awp_ret ?_); simp only [thn_r, blk_r, fin_r, finm_r])
      | (with_reducible refine awp_block ?_)
      | ((with_reducible refine awp_exit ?_); simp only [thn_e, blk_e, blk_x, blk_n, thn_n, ne_eq, not_false_eq_true, Nat.reduceEqDiff, reduceCtorEq]; first | (refine hK _ ?_; clear hK K) | (clear hK K; refine hK _ ?_; clear hK K) | (clear hK K; clear hK K; refine hK _ ?_; clear hK K) | (clear hK K; clear hK K; clear hK K; refine hK _ ?_; clear hK K) | skip)
      | (with_reducible apply And.intro)
      | (with_reducible exact True.intro)
      | ((with_reducible show List.all _ _ = true); rfl)
      | ((with_reducible show lendOk _ _ = true); rfl)
      | omega
      | ((first | (with_reducible show ¬ _) | (with_reducible show _ → _)); intro h; first | contradiction | cases h; done | skip)
    all_goals (try (first | refine fin_keep ?_ | refine finm_keep ?_; repeat clear hK))
    refine awp_forR 0 hX (fun st (k : Nat) => st.at [1, 2, 4] [(5, .own 2), (6, .i k)] [.box 30 [.i n, .sl .i64 l], .box 27 [.i 0, .nl], .row .i64 3 (rangeL (bsP n l) k)]) (fun k => k ≤ l.length) (fun k => l.length - k) 0 (Nat.zero_le _) ?_ ?_
    · exact ⟨[0, 1, 2], rfl, rfl, by simp [-List.getD_eq_getElem?_getD, -List.length_take, List.getD_cons_zero, List.getD_cons_succ, leFr, ASt.at, keepFr, updAll, upd_zero, upd_succ, AV.rnb, AV.rnb0, rangeL], by simp [-List.getD_eq_getElem?_getD, List.getD_cons_zero, List.getD_cons_succ, ASt.at, AO.rnb, AV.rnb0, upd_k0, upd_k1, upd_k2, upd_k3, rangeL], rfl, rfl⟩
    rintro k hk
    simp only [ASt.at, keepFr, updAll, upd_zero, upd_succ, List.mem_cons, List.not_mem_nil, Nat.reduceEqDiff, Nat.reduceAdd, or_false, or_true, false_or, true_or, ↓reduceIte, eq_self]
    have hrl := rangeL_len (bsP n l) k
    have hq : bsP n l (k : Int) = (decide (l.getD k 0 = (popN k : Int)) && decide (l.getD k 0 = l.getD (cbF n) 0)) := by rw [bsP, freeV, Int.toNat_natCast]
    repeat' first
      | ((with_reducible show aol _ _ _ _ _); first
          | (refine aol_guard_f (by rfl) ?_ ?_; (focus (simp only [go_sem]; done)))
          | (refine aol_guard_un (by rfl) ?_ ?_; (focus (simp only [go_sem]; done)))
          | (refine aol_guard_t (by rfl) ?_ ?_; (focus (simp only [go_sem]; done)); simp (config := { maxSteps := 2000000 }) (disch := omega) only [go_sem, ↓reduceIte, Nat.reduceEqDiff, Nat.reduceAdd, Nat.reduceLT, Nat.reduceLeDiff, Nat.reduceSub, tSize2])
          | (refine aol_guard_b (by rfl) (by rfl) (fun h => ?_) (fun h => ?_) <;> (try simp only [Bool.and_eq_true, Bool.and_eq_false_iff, Bool.or_eq_true, Bool.or_eq_false_iff, List.all_cons, List.all_nil, Bool.and_true, beq_self_eq_true, beq_iff_eq, beq_eq_false_iff_ne, ne_eq, decide_true, decide_false, not_true_eq_false, not_false_eq_true, decide_eq_true_eq, decide_eq_false_iff_not, Bool.not_true, Bool.not_false, Bool.not_eq_true', Bool.not_eq_false', Int.not_le, Int.not_lt, reduceCtorEq, inR_iff, inR_not, isSet_iff, isSet_not] at h) <;> simp (config := { maxSteps := 2000000 }) (disch := omega) only [go_sem, ↓reduceIte, Nat.reduceEqDiff, Nat.reduceAdd, Nat.reduceLT, Nat.reduceLeDiff, Nat.reduceSub, tSize2])
          | simp (config := { maxSteps := 2000000 }) (disch := omega) only [go_sem, ↓reduceIte, Nat.reduceEqDiff, Nat.reduceAdd, Nat.reduceLT, Nat.reduceLeDiff, Nat.reduceSub, tSize2])
      | ((with_reducible refine hK _ ?_); clear hK K; try simp only [thn_n, blk_n, fin_n, finm_n])
      | (with_reducible refine awp_seq fun K hK => ?_)
      | ((with_reducible show Awp _ _ (Code.region _ _ _) _ _); first
          | (refine awp_regK (by repeat constructor) (fun K hK => ?_); simp (config := { maxSteps := 2000000 }) (disch := omega) only [go_sem, ↓reduceIte, Nat.reduceEqDiff, Nat.reduceAdd, Nat.reduceLT, Nat.reduceLeDiff, Nat.reduceSub, tSize2])
          | (refine awp_drwK (by kernel_rfl) (by repeat constructor) (fun K hK => ?_); simp (config := { maxSteps := 2000000 }) (disch := omega) only [go_sem, ↓reduceIte, Nat.reduceEqDiff, Nat.reduceAdd, Nat.reduceLT, Nat.reduceLeDiff, Nat.reduceSub, tSize2]))
      | ((with_reducible show Awp _ _ (Code.cond _ _ _) _ _); refine awp_cond rfl (fun h => ?_) (fun h => ?_) <;> (try simp only [Bool.and_eq_true, Bool.and_eq_false_iff, Bool.or_eq_true, Bool.or_eq_false_iff, List.all_cons, List.all_nil, Bool.and_true, beq_self_eq_true, beq_iff_eq, beq_eq_false_iff_ne, ne_eq, decide_true, decide_false, not_true_eq_false, not_false_eq_true, decide_eq_true_eq, decide_eq_false_iff_not, Bool.not_true, Bool.not_false, Bool.not_eq_true', Bool.not_eq_false', Int.not_le, Int.not_lt, reduceCtorEq, inR_iff, inR_not, isSet_iff, isSet_not] at h))
      | ((with_reducible refine awp_skip ?_); simp only [thn_n, blk_n, fin_n, finm_n])
      | ((with_reducible refine awp_ret ?_); simp only [thn_r, blk_r, fin_r, finm_r])
      | (with_reducible refine awp_block ?_)
      | ((with_reducible refine awp_exit ?_); simp only [thn_e, blk_e, blk_x, blk_n, thn_n, ne_eq, not_false_eq_true, Nat.reduceEqDiff, reduceCtorEq]; first | (refine hK _ ?_; clear hK K) | (clear hK K; refine hK _ ?_; clear hK K) | (clear hK K; clear hK K; refine hK _ ?_; clear hK K) | (clear hK K; clear hK K; clear hK K; refine hK _ ?_; clear hK K) | skip)
      | (with_reducible apply And.intro)
      | (with_reducible exact True.intro)
      | ((with_reducible show List.all _ _ = true); rfl)
      | ((with_reducible show lendOk _ _ = true); rfl)
      | omega
      | ((first | (with_reducible show ¬ _) | (with_reducible show _ → _)); intro h; first | contradiction | cases h; done | skip)
    all_goals (try (first | refine fin_keep ?_ | refine finm_keep ?_; repeat clear hK))
    · refine ⟨k + 1, by omega, by omega, ?_⟩
      rw [rangeL_yes (by rw [hq, decide_eq_true (by omega), decide_eq_true (by omega)]; rfl)]
      exact ⟨[0, 1, 4], rfl, rfl, by simp [-List.getD_eq_getElem?_getD, -List.length_take, List.getD_cons_zero, List.getD_cons_succ, leFr, ASt.at, keepFr, updAll, upd_zero, upd_succ, AV.rnb, AV.rnb0], by simp [-List.getD_eq_getElem?_getD, List.getD_cons_zero, List.getD_cons_succ, ASt.at, AO.rnb, AV.rnb0, upd_k0, upd_k1, upd_k2, upd_k3], rfl, rfl⟩
    · refine ⟨k + 1, by omega, by omega, ?_⟩
      rw [rangeL_no (by rw [hq, decide_eq_false (by omega), Bool.false_and])]
      exact ⟨[0, 1, 2], rfl, rfl, by simp [-List.getD_eq_getElem?_getD, -List.length_take, List.getD_cons_zero, List.getD_cons_succ, leFr, ASt.at, keepFr, updAll, upd_zero, upd_succ, AV.rnb, AV.rnb0], by simp [-List.getD_eq_getElem?_getD, List.getD_cons_zero, List.getD_cons_succ, ASt.at, AO.rnb, AV.rnb0, upd_k0, upd_k1, upd_k2, upd_k3], rfl, rfl⟩
    · refine ⟨k + 1, by omega, by omega, ?_⟩
      rw [rangeL_no (by rw [hq, decide_eq_false (p := l.getD k 0 = l.getD (cbF n) 0) (by omega), Bool.and_false])]
      exact ⟨[0, 1, 2], rfl, rfl, by simp [-List.getD_eq_getElem?_getD, -List.length_take, List.getD_cons_zero, List.getD_cons_succ, leFr, ASt.at, keepFr, updAll, upd_zero, upd_succ, AV.rnb, AV.rnb0], by simp [-List.getD_eq_getElem?_getD, List.getD_cons_zero, List.getD_cons_succ, ASt.at, AO.rnb, AV.rnb0, upd_k0, upd_k1, upd_k2, upd_k3], rfl, rfl⟩
    · obtain rfl : k = l.length := by omega
      rw [orE_t, bsL, ← hlen1]; exact fin_pairb (d := tPair) rfl rfl rfl rfl rfl rfl rfl
end Go.Proofs.Ytdicihmhkglfhaa
